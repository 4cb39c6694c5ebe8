import Derived.Test.YtmihgdjnjfjjcaaRwRef
import Derived.LoopTactic
set_option linter.unusedVariables false
set_option linter.unusedSimpArgs false
/- May rows be: the program (rows.Check) and the document (weirref09.Check). (printed by gen_rwcheck.py) -/
namespace Go.Proofs.Ytmihgdjnjfjjcaa
open Go.ChangeShapes Go.WideShapes Go.ChangeAt Go.RowKit
set_option maxRecDepth 100000

def chkR (b t : Int) (es : List WEnt) : Int := if okR b t es = true then 0 else 90
theorem chk_ok {b t : Int} {es : List WEnt} (h : okR b t es = true) : chkR b t es = 0 := if_pos h
theorem chk_not {b t : Int} {es : List WEnt} (h : okR b t es = false) : chkR b t es = 90 := if_neg (by rw [h]; exact Bool.false_ne_true)
def RetI (w : World) (r : Int) (e : Ending) (w' : World) : Prop := e = .returned (.int .i64 r) ∧ Below w.heap.size w w'
theorem ret_i {w w' : World} {r k : Int} (h : r = k) (hb : Below w.heap.size w w') : RetI w r (.returned (.int .i64 k)) w' := ⟨by rw [h], hb⟩
theorem cell_next {w w' : World} {p : Addr} {v : Value} (hb : Below w.heap.size w w') (h : w.cell? p = some v) : w'.cell? p = some v := (hb.cell (World.block_lt_of_cell? w _ h)).trans h
theorem Row.mono_below {w w' : World} {a : Option Addr} {xs : List Value} (h : Row w a xs) (hb : Below w.heap.size w w') : Row w' a xs := Row.below h hb
set_option maxHeartbeats 4000000 in
theorem check_any (es : List RwE) (b t : Int) (a : Option Addr) (n c : Nat) (w : World) (hn : es.length = n) (hl : n ≤ 1000000) (hr : Row w a (es.flatMap cellsRw)) :
    Calls Try.prog 28 #[.agg #[.int .i64 b, .int .i64 t, .slice a n c]] w (RetI w (chkR b t (ents es))) := by
  have hlen : (ents es).length = n := by rw [← hn]; exact List.length_map _
  have HHF := Lib.hid (fun (h : ¬ (0 ≤ b ∧ n ≤ 4096 ∧ b ≤ 1099511627776 - (n : Int) ∧ 0 ≤ t ∧ (b = 0 ↔ t = 0))) => chk_not (es := ents es) (okR_head (by rw [hlen]; exact headR_not.2 h)))
  have HHT := Lib.hid (fun (h : 0 ≤ b ∧ n ≤ 4096 ∧ b ≤ 1099511627776 - (n : Int) ∧ 0 ≤ t ∧ (b = 0 ↔ t = 0)) (v : Bool) (hv : goodEs t (ents es) = v) => show chkR b t (ents es) = (if v = true then 0 else 90) by unfold chkR okR; rw [hlen, headR_iff.2 h, hv, Bool.true_and])
  have HLN := Lib.hid hlen
  have HR := Lib.hid hr
  have HN := Lib.hid hn
  clear hlen hr hn
  generalize hcv : chkR b t (ents es) = cv at HHF HHT ⊢
  clear hcv
  rcases fb : decide (b < 0) with _ | _
  rotate_left
  · (go_enter Try.func28, Try.ntmps28; go_wp2_with fail)
    go_ret
    exact ret_i (HHF.out (by simp only [beq_eq_false_iff_ne, beq_iff_eq, bne_iff_ne, bne_eq_false_iff_eq, decide_eq_true_eq, decide_eq_false_iff_not, ne_eq] at fb; omega)) (mid_alloc' (Below.refl _ _))
  rcases fn : decide ((4096 : Int) < (n : Int)) with _ | _
  rotate_left
  · (go_enter Try.func28, Try.ntmps28; go_wp2_with fail)
    go_ret
    exact ret_i (HHF.out (by simp only [beq_eq_false_iff_ne, beq_iff_eq, bne_iff_ne, bne_eq_false_iff_eq, decide_eq_true_eq, decide_eq_false_iff_not, ne_eq] at fn; omega)) (mid_alloc' (Below.refl _ _))
  rcases fs : decide (1099511627776 - (n : Int) < b) with _ | _
  rotate_left
  · (go_enter Try.func28, Try.ntmps28; go_wp2_with fail)
    go_ret
    exact ret_i (HHF.out (by simp only [beq_eq_false_iff_ne, beq_iff_eq, bne_iff_ne, bne_eq_false_iff_eq, decide_eq_true_eq, decide_eq_false_iff_not, ne_eq] at fs; omega)) (mid_alloc' (Below.refl _ _))
  rcases ft : decide (t < 0) with _ | _
  rotate_left
  · (go_enter Try.func28, Try.ntmps28; go_wp2_with fail)
    go_ret
    exact ret_i (HHF.out (by simp only [beq_eq_false_iff_ne, beq_iff_eq, bne_iff_ne, bne_eq_false_iff_eq, decide_eq_true_eq, decide_eq_false_iff_not, ne_eq] at ft; omega)) (mid_alloc' (Below.refl _ _))
  rcases e1 : (b == 0) with _ | _ <;> rcases e2 : (t == 0) with _ | _
  rotate_left
  · (go_enter Try.func28, Try.ntmps28; go_wp2_with fail)
    go_ret
    exact ret_i (HHF.out (by simp only [beq_eq_false_iff_ne, beq_iff_eq, bne_iff_ne, bne_eq_false_iff_eq, decide_eq_true_eq, decide_eq_false_iff_not, ne_eq] at fb fn fs ft e1 e2; omega)) (mid_alloc' (Below.refl _ _))
  · (go_enter Try.func28, Try.ntmps28; go_wp2_with fail)
    go_ret
    exact ret_i (HHF.out (by simp only [beq_eq_false_iff_ne, beq_iff_eq, bne_iff_ne, bne_eq_false_iff_eq, decide_eq_true_eq, decide_eq_false_iff_not, ne_eq] at fb fn fs ft e1 e2; omega)) (mid_alloc' (Below.refl _ _))
  all_goals
    have hH := HHT.out (by simp only [beq_eq_false_iff_ne, beq_iff_eq, bne_iff_ne, bne_eq_false_iff_eq, decide_eq_true_eq, decide_eq_false_iff_not, ne_eq] at fb fn fs ft e1 e2; omega)
    clear HHT HHF
    have HH := Lib.hid hH
    clear hH
    have hHB : Box (w.alloc (.cells #[.int .i64 b, .int .i64 t, .slice a n c] 24)) w.heap.size [.int .i64 b, .int .i64 t, .slice a n c] := Box.of_alloc (w := w) (cs := [.int .i64 b, .int .i64 t, .slice a n c]) (t := 24) (Below.refl _ _)
    have HB0 := Lib.hid hHB
    have HBL0 : Hid (Below w.heap.size w (w.alloc (.cells #[.int .i64 b, .int .i64 t, .slice a n c] 24))) := mid_alloc' (Below.refl _ _)
    clear hHB
    go_enter Try.func28, Try.ntmps28
    go_wp2_with fail
    go_loopw [3, 42] (fun tm i wr => ∃ k : Nat, k ≤ n ∧ i = .int .i64 k ∧ tm = .int .i64 (lastT t ((ents es).take k)) ∧ Hid (goodEs t ((ents es).take k) = true) ∧ Hid (Below w.heap.size w wr) ∧ Hid (Box wr w.heap.size [.int .i64 b, .int .i64 t, .slice a n c])) (fun _ i _ => n - (intOf i).toNat)
    case atStart => exact ⟨0, Nat.zero_le _, rfl, rfl, rfl, HBL0.out, HB0.out⟩
    case round =>
      clear HB0 HBL0
      obtain ⟨k, hk, rfl, rfl, HG, HBL, HBX⟩ := hrel
      have k0 := HBX.out.cell (j := 0) rfl
      have k1 := HBX.out.cell (j := 1) rfl
      have k2 := HBX.out.cell (j := 2) rfl
      by_cases hlt : k < n
      · have hke : k < es.length := by rw [HN.out]; exact hlt
        have hkl : k < (ents es).length := by rw [HLN.out]; exact hlt
        obtain ⟨bb, oo, ha, hE⟩ := entAt (HR.out.mono_below HBL.out) hke
        have HE := Lib.hid hE
        have HT2 := Lib.hid (lastT_take (t := t) hkl)
        have HG2 := Lib.hid (goodEs_take (t := t) hkl)
        have HG3 := Lib.hid (fun h => goodEs_not (t := t) hkl h)
        have hxe : (ents es)[k] = es[k].1 := List.getElem_map _
        rw [hxe] at HT2 HG2 HG3
        have HM := Lib.hid (may_any bb (oo + k * 5) es[k].1 es[k].2 (lastT t ((ents es).take k)) wr HE.out)
        generalize es[k] = x at HE HT2 HG2 HG3 HM
        obtain ⟨x, p⟩ := x
        have j0 := HE.out.c0
        have j1 := HE.out.c1
        have j2 := HE.out.c2
        have j3 := HE.out.c3
        have j4 := HE.out.c4
        simp only at j0 j1 j2 j3 j4 HM
        clear HE hE hke hkl hxe
        subst ha
        generalize hMV : lastT t ((ents es).take k) = tk at HG2 HG3 HM ⊢
        clear hMV
        rcases hmv : mayE tk x with _ | _
        all_goals
          rw [hmv] at HM HG2 HG3
          have HMV := Lib.hid hmv
          clear hmv
        · go_wp2_with (go_at_call 41; ((with_reducible refine HM.out.mono ?_); rintro e w2 ⟨rfl, nd, rfl⟩; have HB2 := Lib.hid (below_drewN (Below.refl wr.heap.size wr) nd)))
          go_ret
          exact ret_i ((HH.out false (HG3.out (by first | trivial | rfl))).trans rfl) (HBL.out.trans (HB2.out.mono HBL.out.size))
        · go_wp2_with (go_at_call 41; ((with_reducible refine HM.out.mono ?_); rintro e w2 ⟨rfl, nd, rfl⟩; have HB2 := Lib.hid (below_drewN (Below.refl wr.heap.size wr) nd)))
          go_roundw
          case rel => exact ⟨k + 1, by omega, by go_num, by rw [HT2.out], by (show goodEs t ((ents es).take (k + 1)) = true); rw [HG2.out, HG.out]; rfl, HBL.out.trans (HB2.out.mono HBL.out.size), HBX.out.next (by simp) HB2.out⟩
          case measure => simp [intOf]; omega
      · have hke : ¬ k < n := hlt
        obtain rfl : k = n := by omega
        have hgg : goodEs t (ents es) = true := by have h1 := HG.out; rw [List.take_of_length_le (Nat.le_of_eq HLN.out)] at h1; exact h1
        have HGG := Lib.hid hgg
        clear hgg
        go_wp2_with fail
        go_ret
        exact ret_i ((HH.out true HGG.out).trans rfl) HBL.out
set_option maxHeartbeats 4000000 in
theorem refcheck_any (es : List RwE) (b t : Int) (a : Option Addr) (n c : Nat) (w : World) (hn : es.length = n) (hl : n ≤ 1000000) (hr : Row w a (es.flatMap cellsRw)) :
    Calls Try.prog 12 #[.agg #[.int .i64 b, .int .i64 t, .slice a n c]] w (RetI w (chkR b t (ents es))) := by
  have hlen : (ents es).length = n := by rw [← hn]; exact List.length_map _
  have HHF := Lib.hid (fun (h : ¬ (0 ≤ b ∧ n ≤ 4096 ∧ b ≤ 1099511627776 - (n : Int) ∧ 0 ≤ t ∧ (b = 0 ↔ t = 0))) => chk_not (es := ents es) (okR_head (by rw [hlen]; exact headR_not.2 h)))
  have HHT := Lib.hid (fun (h : 0 ≤ b ∧ n ≤ 4096 ∧ b ≤ 1099511627776 - (n : Int) ∧ 0 ≤ t ∧ (b = 0 ↔ t = 0)) (v : Bool) (hv : goodEs t (ents es) = v) => show chkR b t (ents es) = (if v = true then 0 else 90) by unfold chkR okR; rw [hlen, headR_iff.2 h, hv, Bool.true_and])
  have HLN := Lib.hid hlen
  have HR := Lib.hid hr
  have HN := Lib.hid hn
  clear hlen hr hn
  generalize hcv : chkR b t (ents es) = cv at HHF HHT ⊢
  clear hcv
  rcases fn : decide ((4096 : Int) < (n : Int)) with _ | _
  rotate_left
  · (go_enter Try.func12, Try.ntmps12; go_wp2_with fail)
    go_ret
    exact ret_i (HHF.out (by simp only [beq_eq_false_iff_ne, beq_iff_eq, bne_iff_ne, bne_eq_false_iff_eq, decide_eq_true_eq, decide_eq_false_iff_not, ne_eq] at fn; omega)) (mid_alloc' (Below.refl _ _))
  rcases fb : decide (b < 0) with _ | _
  rotate_left
  · (go_enter Try.func12, Try.ntmps12; go_wp2_with fail)
    go_ret
    exact ret_i (HHF.out (by simp only [beq_eq_false_iff_ne, beq_iff_eq, bne_iff_ne, bne_eq_false_iff_eq, decide_eq_true_eq, decide_eq_false_iff_not, ne_eq] at fb; omega)) (mid_alloc' (Below.refl _ _))
  rcases fs : decide (1099511627776 - (n : Int) < b) with _ | _
  rotate_left
  · (go_enter Try.func12, Try.ntmps12; go_wp2_with fail)
    go_ret
    exact ret_i (HHF.out (by simp only [beq_eq_false_iff_ne, beq_iff_eq, bne_iff_ne, bne_eq_false_iff_eq, decide_eq_true_eq, decide_eq_false_iff_not, ne_eq] at fs; omega)) (mid_alloc' (Below.refl _ _))
  rcases ft : decide (t < 0) with _ | _
  rotate_left
  · (go_enter Try.func12, Try.ntmps12; go_wp2_with fail)
    go_ret
    exact ret_i (HHF.out (by simp only [beq_eq_false_iff_ne, beq_iff_eq, bne_iff_ne, bne_eq_false_iff_eq, decide_eq_true_eq, decide_eq_false_iff_not, ne_eq] at ft; omega)) (mid_alloc' (Below.refl _ _))
  rcases e1 : (b == 0) with _ | _ <;> rcases e2 : (t == 0) with _ | _
  rotate_left
  · (go_enter Try.func12, Try.ntmps12; go_wp2_with fail)
    go_ret
    exact ret_i (HHF.out (by simp only [beq_eq_false_iff_ne, beq_iff_eq, bne_iff_ne, bne_eq_false_iff_eq, decide_eq_true_eq, decide_eq_false_iff_not, ne_eq] at fn fb fs ft e1 e2; omega)) (mid_alloc' (Below.refl _ _))
  · (go_enter Try.func12, Try.ntmps12; go_wp2_with fail)
    go_ret
    exact ret_i (HHF.out (by simp only [beq_eq_false_iff_ne, beq_iff_eq, bne_iff_ne, bne_eq_false_iff_eq, decide_eq_true_eq, decide_eq_false_iff_not, ne_eq] at fn fb fs ft e1 e2; omega)) (mid_alloc' (Below.refl _ _))
  all_goals
    have hH := HHT.out (by simp only [beq_eq_false_iff_ne, beq_iff_eq, bne_iff_ne, bne_eq_false_iff_eq, decide_eq_true_eq, decide_eq_false_iff_not, ne_eq] at fn fb fs ft e1 e2; omega)
    clear HHT HHF
    have HH := Lib.hid hH
    clear hH
    have hHB : Box (w.alloc (.cells #[.int .i64 b, .int .i64 t, .slice a n c] 24)) w.heap.size [.int .i64 b, .int .i64 t, .slice a n c] := Box.of_alloc (w := w) (cs := [.int .i64 b, .int .i64 t, .slice a n c]) (t := 24) (Below.refl _ _)
    have HB0 := Lib.hid hHB
    have HBL0 : Hid (Below w.heap.size w (w.alloc (.cells #[.int .i64 b, .int .i64 t, .slice a n c] 24))) := mid_alloc' (Below.refl _ _)
    clear hHB
    go_enter Try.func12, Try.ntmps12
    go_wp2_with fail
    go_loopw [3, 4] (fun tm i wr => ∃ k : Nat, k ≤ n ∧ i = .int .i64 k ∧ tm = .int .i64 (lastT t ((ents es).take k)) ∧ Hid (goodEs t ((ents es).take k) = true) ∧ Hid (Below w.heap.size w wr) ∧ Hid (Box wr w.heap.size [.int .i64 b, .int .i64 t, .slice a n c])) (fun _ i _ => n - (intOf i).toNat)
    case atStart => exact ⟨0, Nat.zero_le _, rfl, rfl, rfl, HBL0.out, HB0.out⟩
    case round =>
      clear HB0 HBL0
      obtain ⟨k, hk, rfl, rfl, HG, HBL, HBX⟩ := hrel
      have k0 := HBX.out.cell (j := 0) rfl
      have k1 := HBX.out.cell (j := 1) rfl
      have k2 := HBX.out.cell (j := 2) rfl
      by_cases hlt : k < n
      · have hke : k < es.length := by rw [HN.out]; exact hlt
        have hkl : k < (ents es).length := by rw [HLN.out]; exact hlt
        obtain ⟨bb, oo, ha, hE⟩ := entAt (HR.out.mono_below HBL.out) hke
        have HE := Lib.hid hE
        have HT2 := Lib.hid (lastT_take (t := t) hkl)
        have HG2 := Lib.hid (goodEs_take (t := t) hkl)
        have HG3 := Lib.hid (fun h => goodEs_not (t := t) hkl h)
        have hxe : (ents es)[k] = es[k].1 := List.getElem_map _
        rw [hxe] at HT2 HG2 HG3
        have HM := Lib.hid (refentry_any es[k].1 es[k].2 (lastT t ((ents es).take k)) wr)
        generalize es[k] = x at HE HT2 HG2 HG3 HM
        obtain ⟨x, p⟩ := x
        have j0 := HE.out.c0
        have j1 := HE.out.c1
        have j2 := HE.out.c2
        have j3 := HE.out.c3
        have j4 := HE.out.c4
        simp only at j0 j1 j2 j3 j4 HM
        clear HE hE hke hkl hxe
        subst ha
        generalize hMV : lastT t ((ents es).take k) = tk at HG2 HG3 HM ⊢
        clear hMV
        rcases hmv : mayE tk x with _ | _
        all_goals
          rw [hmv] at HM HG2 HG3
          have HMV := Lib.hid hmv
          clear hmv
        · go_wp2_with (go_at_call 34; ((with_reducible refine HM.out.mono ?_); rintro e w2 ⟨rfl, hb⟩; have HB2 := Lib.hid hb; have k0 := (HBX.out.next (by simp) hb).cell (j := 0) rfl; have k1 := (HBX.out.next (by simp) hb).cell (j := 1) rfl; have k2 := (HBX.out.next (by simp) hb).cell (j := 2) rfl; replace j0 := cell_next hb j0; clear hb))
          go_ret
          exact ret_i ((HH.out false (HG3.out (by first | trivial | rfl))).trans rfl) (HBL.out.trans (HB2.out.mono HBL.out.size))
        · go_wp2_with (go_at_call 34; ((with_reducible refine HM.out.mono ?_); rintro e w2 ⟨rfl, hb⟩; have HB2 := Lib.hid hb; have k0 := (HBX.out.next (by simp) hb).cell (j := 0) rfl; have k1 := (HBX.out.next (by simp) hb).cell (j := 1) rfl; have k2 := (HBX.out.next (by simp) hb).cell (j := 2) rfl; replace j0 := cell_next hb j0; clear hb))
          go_roundw
          case rel => exact ⟨k + 1, by omega, by go_num, by rw [HT2.out], by (show goodEs t ((ents es).take (k + 1)) = true); rw [HG2.out, HG.out]; rfl, HBL.out.trans (HB2.out.mono HBL.out.size), HBX.out.next (by simp) HB2.out⟩
          case measure => simp [intOf]; omega
      · have hke : ¬ k < n := hlt
        obtain rfl : k = n := by omega
        have hgg : goodEs t (ents es) = true := by have h1 := HG.out; rw [List.take_of_length_le (Nat.le_of_eq HLN.out)] at h1; exact h1
        have HGG := Lib.hid hgg
        clear hgg
        go_wp2_with fail
        go_ret
        exact ret_i ((HH.out true HGG.out).trans rfl) HBL.out
end Go.Proofs.Ytmihgdjnjfjjcaa
