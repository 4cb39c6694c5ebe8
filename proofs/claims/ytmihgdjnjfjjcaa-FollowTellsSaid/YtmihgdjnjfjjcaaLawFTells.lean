import Derived.Test.YtmihgdjnjfjjcaaPackFollowCommits1
import Derived.Test.YtmihgdjnjfjjcaaFolRefPut
import Derived.Test.YtmihgdjnjfjjcaaPackFollowComes3
import Derived.Test.YtmihgdjnjfjjcaaPackFollowTells1
set_option linter.unusedVariables false
set_option linter.unusedSimpArgs false
/- What a leader begins with, what it makes of an answer, what it looks up: the walk. (printed by gen_foltells.py) -/
namespace Go.Proofs.Ytmihgdjnjfjjcaa
open Go.ChangeShapes Go.WideShapes Go.ChangeAt Go.RowKit
set_option maxRecDepth 100000

theorem putF_len (l : List Prg) (p : Prg) : (putF l p).length ≤ l.length + 1 := by
  induction l with
  | nil => exact Nat.le_refl _
  | cons x l ih =>
    show (if x.node = p.node then _ else _ : List Prg).length ≤ _
    split
    · simp
    · simp only [List.length_cons]; omega
theorem begin_len (b t : Int) (es : List WEnt) (set : Nat) (self : Int) : (beginF b t es set self).length ≤ 7 := by
  unfold beginF; split
  · exact beg_len _ _ _ 7
  · simp
theorem eql_same (a b c : Int) (w : World) : (binOp .eql 39 (.agg #[.int .i64 a, .int .i64 b, .int .i64 c]) (.agg #[.int .i64 a, .int .i64 b, .int .i64 c])).run Try.prog w = .ok (.bool true) w := by
  have h := eqlPrg_run ⟨a, b, c⟩ ⟨a, b, c⟩ w
  rw [decide_eq_true rfl] at h
  exact h
set_option maxHeartbeats 32000000 in
theorem law_tells (es : List RwE) (b t : Int) (a : Option Addr) (n c : Nat) (s : UInt8) (self : Int) (p : Prg) (ok : Bool) (index : Int) (l : List Prg) (a2 : Option Addr) (n2 c2 : Nat) (w : World) (hn : es.length = n) (hl : n ≤ 1000000000000000) (hle : ∀ y ∈ es, y.1.data.length ≤ 1000000000000000) (hr : Row w a (es.flatMap cellsRw)) (hn2 : l.length = n2) (hl2 : n2 ≤ maxLen) (hc2 : a2 = none → c2 = 0) (hnc2 : n2 ≤ c2) (hr2 : LRow layPrg w a2 l) :
    Calls Try.prog 6 #[.agg #[.int .i64 b, .int .i64 t, .slice a n c], B s, .int .i64 self, p.agg, .bool ok, .int .i64 index, .slice a2 n2 c2] w (RetTrue w) := by
  obtain ⟨p0, p1, p2⟩ := p
  have HB0 : Hid (Below w.heap.size w ((w.alloc (.cells #[.int .i64 b, .int .i64 t, .slice a n c] 24)).alloc (.cells #[.int .i64 p0, .int .i64 p1, .int .i64 p2] 39))) := mid_alloc' (mid_alloc' (Below.refl _ _))
  have HR0 : Hid (Box ((w.alloc (.cells #[.int .i64 b, .int .i64 t, .slice a n c] 24)).alloc (.cells #[.int .i64 p0, .int .i64 p1, .int .i64 p2] 39)) w.heap.size [.int .i64 b, .int .i64 t, .slice a n c]) := Box.of_alloc (w := w) (cs := [.int .i64 b, .int .i64 t, .slice a n c]) (t := 24) (mid_alloc' (Below.refl _ _))
  have HP0 : Hid (Box ((w.alloc (.cells #[.int .i64 b, .int .i64 t, .slice a n c] 24)).alloc (.cells #[.int .i64 p0, .int .i64 p1, .int .i64 p2] 39)) (w.heap.size + 1) [.int .i64 p0, .int .i64 p1, .int .i64 p2]) := Box.of_alloc1 (w := w) (cs := [.int .i64 p0, .int .i64 p1, .int .i64 p2]) (t := 39) (Below.refl _ _)
  have HGR := Lib.hid (fun w' (hb : Below w.heap.size w w') => great_any es b t a n c w' hn hl hle (hr.mono_below hb))
  have WK := Lib.hid (fun w' => wakes_any w')
  have hlm := lt_maxLen hl2
  rcases d : decide ((100 : Int) < (n2 : Int)) with _ | _
  rotate_left
  · clear hn hle hr hn2 hr2 hc2 hnc2
    go_enter Try.func6, Try.ntmps6
    go_wp2_with (first
      | (go_at_call 9; ((with_reducible refine (WK.out _).mono ?_); rintro e w2 ⟨rfl, hb⟩; have HB2 := Lib.hid (HB1.out.trans (hb.mono HB1.out.size)); clear hb))
      | (go_at_call 8; ((with_reducible refine (HGR.out _ HB0.out).mono ?_); rintro e w1 ⟨v, rfl, hb, hf⟩; have HB1 := Lib.hid (HB0.out.trans (hb.mono HB0.out.size)); clear hb hf; cases v)))
    all_goals (go_ret; exact ⟨rfl, HB2.out⟩)
  have h100 : n2 ≤ 100 := by have := of_decide_eq_false d; omega
  have HFD := Lib.hid (fun w' (hb : Below w.heap.size w w') => find_any l a2 n2 c2 p0 w' hn2 (by omega) (LRow.below hr2 hb))
  have HFE := Lib.hid (fun w' (hb : Below w.heap.size w w') => reffind_any l a2 n2 c2 p0 w' hn2 (by omega) (LRow.below hr2 hb))
  have HBG := Lib.hid (fun (h1 : n ≤ 150) w' (hb : Below w.heap.size w w') => begin_any es b t a n c s self w' hn (by omega) (hr.mono_below hb))
  have HBH := Lib.hid (fun (h1 : n ≤ 150) w' (hb : Below w.heap.size w w') => refbegin_any es b t a n c s self w' hn (by omega) (hr.mono_below hb))
  have HTD := Lib.hid (fun w' => told_any ⟨p0, p1, p2⟩ ok index w')
  have HTE := Lib.hid (fun w' => reftold_any ⟨p0, p1, p2⟩ ok index w')
  have HPT := Lib.hid (fun w' (hb : Below w.heap.size w w') => put_any l ⟨p0, p1, p2⟩ a2 n2 c2 w' hn2 (by omega) hc2 hnc2 (LRow.below hr2 hb))
  have HPU := Lib.hid (fun w' (hb : Below w.heap.size w w') => refput_any l ⟨p0, p1, p2⟩ a2 n2 c2 w' hn2 (by omega) (LRow.below hr2 hb))
  have HXL := Lib.hid (begin_len b t (ents es) s.toNat self)
  have HYL : Hid ((putF l ⟨p0, p1, p2⟩).length ≤ 1000) := by show _ ≤ _; have := putF_len l ⟨p0, p1, p2⟩; omega
  generalize beginF b t (ents es) s.toNat self = XS at HBG HBH HXL
  generalize putF l ⟨p0, p1, p2⟩ = YS at HPT HPU HYL
  generalize toldF ⟨p0, p1, p2⟩ ok index = tv at HTD HTE
  obtain ⟨t0, t1, t2⟩ := tv
  generalize prgOf l p0 = fv at HFD HFE
  obtain ⟨f0, f1, f2⟩ := fv
  generalize hasP l p0 = fb at HFD HFE
  clear hn hle hr hn2 hr2 hc2 hnc2
  go_enter Try.func6, Try.ntmps6
  go_upto_region 5 with (first
    | (have hgq := HB2; clear hgq; go_at_call 15; ((with_reducible refine (HFE.out _ HB2.out).mono ?_); rintro e w3 ⟨rfl, hb⟩; have hba : Below w3.heap.size w3 (w3.alloc (.cells #[.int .i64 f0, .int .i64 f1, .int .i64 f2] 39)) := mid_alloc' (Below.refl _ _); have HR3 := Lib.hid ((HR2.out.next (by simp) hb).next (by simp) hba); have HP3 := Lib.hid ((HP2.out.next (by simp) hb).next (by simp) hba); have HU3 := Lib.hid ((HU2.out.next (by simp) hb).next (by simp) hba); have HV3 := Lib.hid (Box.of_alloc (w := w3) (cs := [.int .i64 f0, .int .i64 f1, .int .i64 f2]) (t := 39) (Below.refl _ _)); have hbk := HB2.out.trans (hb.mono HB2.out.size); have HB3 := Lib.hid (hbk.trans (hba.mono hbk.size)); clear hb hba hbk k0 k1 k2; have k0 := HP3.out.cell (j := 0) rfl; have k1 := HP3.out.cell (j := 1) rfl; have k2 := HP3.out.cell (j := 2) rfl))
    | (have hgq := HB1; clear hgq; go_at_call 17; ((with_reducible refine (HFD.out _ HB1.out).mono ?_); rintro e w2 ⟨rfl, hb⟩; have hba : Below w2.heap.size w2 (w2.alloc (.cells #[.int .i64 f0, .int .i64 f1, .int .i64 f2] 39)) := mid_alloc' (Below.refl _ _); have HR2 := Lib.hid ((HR1.out.next (by simp) hb).next (by simp) hba); have HP2 := Lib.hid ((HP1.out.next (by simp) hb).next (by simp) hba); have HU2 := Lib.hid (Box.of_alloc (w := w2) (cs := [.int .i64 f0, .int .i64 f1, .int .i64 f2]) (t := 39) (Below.refl _ _)); have hbk := HB1.out.trans (hb.mono HB1.out.size); have HB2 := Lib.hid (hbk.trans (hba.mono hbk.size)); clear hb hba hbk k0 k1 k2; have k0 := HP2.out.cell (j := 0) rfl; have k1 := HP2.out.cell (j := 1) rfl; have k2 := HP2.out.cell (j := 2) rfl))
    | (go_at_call 9; ((with_reducible refine (WK.out _).mono ?_); rintro e w2 ⟨rfl, hb⟩; have HB9 := Lib.hid (HB1.out.trans (hb.mono HB1.out.size)); clear hb))
    | (go_at_call 8; ((with_reducible refine (HGR.out _ HB0.out).mono ?_); rintro e w1 ⟨v, rfl, hb, hf⟩; have HB1 := Lib.hid (HB0.out.trans (hb.mono HB0.out.size)); have HR1 := Lib.hid (HR0.out.next (by simp) hb); have HP1 := Lib.hid (HP0.out.next (by simp) hb); have HFF := Lib.hid hf; have k0 := HP1.out.cell (j := 0) rfl; have k1 := HP1.out.cell (j := 1) rfl; have k2 := HP1.out.cell (j := 2) rfl; clear hb hf; cases v)))
  rotate_left
  · go_ret; exact ⟨rfl, HB9.out⟩
  clear k0 k1 k2
  generalize w3.alloc (.cells #[.int .i64 f0, .int .i64 f1, .int .i64 f2] 39) = w4 at HR3 HP3 HU3 HV3 HB3 ⊢
  have hq := eql_same
  have HK : Hid (∀ w', Box w' w.heap.size [.int .i64 b, .int .i64 t, .slice a n c] → Box w' (w.heap.size + 1) [.int .i64 p0, .int .i64 p1, .int .i64 p2] → Box w' w2.heap.size [.int .i64 f0, .int .i64 f1, .int .i64 f2] → Box w' w3.heap.size [.int .i64 f0, .int .i64 f1, .int .i64 f2] → w'.cell? ⟨w.heap.size, 0, none⟩ = some (.int .i64 b) ∧ w'.cell? ⟨w.heap.size, 1, none⟩ = some (.int .i64 t) ∧ w'.cell? ⟨w.heap.size, 2, none⟩ = some (.slice a n c) ∧ w'.cell? ⟨(w.heap.size + 1), 0, none⟩ = some (.int .i64 p0) ∧ w'.cell? ⟨(w.heap.size + 1), 1, none⟩ = some (.int .i64 p1) ∧ w'.cell? ⟨(w.heap.size + 1), 2, none⟩ = some (.int .i64 p2) ∧ w'.cell? ⟨w2.heap.size, 0, none⟩ = some (.int .i64 f0) ∧ w'.cell? ⟨w2.heap.size, 1, none⟩ = some (.int .i64 f1) ∧ w'.cell? ⟨w2.heap.size, 2, none⟩ = some (.int .i64 f2) ∧ w'.cell? ⟨w3.heap.size, 0, none⟩ = some (.int .i64 f0) ∧ w'.cell? ⟨w3.heap.size, 1, none⟩ = some (.int .i64 f1) ∧ w'.cell? ⟨w3.heap.size, 2, none⟩ = some (.int .i64 f2)) := fun w' x y z u => ⟨x.cell (j := 0) rfl, x.cell (j := 1) rfl, x.cell (j := 2) rfl, y.cell (j := 0) rfl, y.cell (j := 1) rfl, y.cell (j := 2) rfl, z.cell (j := 0) rfl, z.cell (j := 1) rfl, z.cell (j := 2) rfl, u.cell (j := 0) rfl, u.cell (j := 1) rfl, u.cell (j := 2) rfl⟩
  have hb4 : Below w4.heap.size w4 w4.drew := (Below.refl _ _).drew
  have HR4 := Lib.hid (HR3.out.next (by simp) hb4); have HP4 := Lib.hid (HP3.out.next (by simp) hb4); have HU4 := Lib.hid (HU3.out.next (by simp) hb4); have HV4 := Lib.hid (HV3.out.next (by simp) hb4); have HB4 := Lib.hid (HB3.out.trans (hb4.mono HB3.out.size)); clear hb4
  refine wp_region_held_drew (S := (fun w' => w'.cell? ⟨w.heap.size, 0, none⟩ = some (.int .i64 b) ∧ w'.cell? ⟨w.heap.size, 1, none⟩ = some (.int .i64 t) ∧ w'.cell? ⟨w.heap.size, 2, none⟩ = some (.slice a n c) ∧ w'.cell? ⟨(w.heap.size + 1), 0, none⟩ = some (.int .i64 p0) ∧ w'.cell? ⟨(w.heap.size + 1), 1, none⟩ = some (.int .i64 p1) ∧ w'.cell? ⟨(w.heap.size + 1), 2, none⟩ = some (.int .i64 p2) ∧ w'.cell? ⟨w2.heap.size, 0, none⟩ = some (.int .i64 f0) ∧ w'.cell? ⟨w2.heap.size, 1, none⟩ = some (.int .i64 f1) ∧ w'.cell? ⟨w2.heap.size, 2, none⟩ = some (.int .i64 f2) ∧ w'.cell? ⟨w3.heap.size, 0, none⟩ = some (.int .i64 f0) ∧ w'.cell? ⟨w3.heap.size, 1, none⟩ = some (.int .i64 f1) ∧ w'.cell? ⟨w3.heap.size, 2, none⟩ = some (.int .i64 f2))) (by kernel_rfl) (HK.out _ HR4.out HP4.out HU4.out HV4.out) (fun hHeld => ?_)
  refine wpAnyH_take (i := 0) (oi := _) (v := ?v0_1) rfl (by kernel_rfl) (by kernel_rfl) (by kernel_rfl) (fun _ _ _ h => h) (Or.inl ⟨by rfl, ?hy0_1⟩) (by assumption) ?rest0_1
  case hy0_1 =>
    intro w hSw
    (try dsimp only at hSw)
    go_simp
    rfl
  case' rest0_1 => try simp only [Act.put, List.setIfInBounds_toArray, List.set_cons_zero, List.set_cons_succ, List.getElem_toArray, List.getElem_cons_zero, List.getElem_cons_succ]
  refine wpAnyH_take (i := 1) (oi := _) (v := ?v1_2) rfl (by kernel_rfl) (by kernel_rfl) (by kernel_rfl) (fun _ _ _ h => h) (Or.inl ⟨by rfl, ?hy1_2⟩) (by assumption) ?rest1_2
  case hy1_2 =>
    intro w hSw
    (try dsimp only at hSw)
    go_simp
    rfl
  case' rest1_2 => try simp only [Act.put, List.setIfInBounds_toArray, List.set_cons_zero, List.set_cons_succ, List.getElem_toArray, List.getElem_cons_zero, List.getElem_cons_succ]
  refine wpAnyH_take (i := 2) (oi := _) (v := ?v2_3) rfl (by kernel_rfl) (by kernel_rfl) (by kernel_rfl) (fun _ _ _ h => h) (Or.inl ⟨by rfl, ?hy2_3⟩) (by assumption) ?rest2_3
  case hy2_3 =>
    intro w hSw
    (try dsimp only at hSw)
    go_simp
    rfl
  case' rest2_3 => try simp only [Act.put, List.setIfInBounds_toArray, List.set_cons_zero, List.set_cons_succ, List.getElem_toArray, List.getElem_cons_zero, List.getElem_cons_succ]
  refine wpAnyH_take (i := 4) (oi := _) (v := ?v4_4) rfl (by kernel_rfl) (by kernel_rfl) (by kernel_rfl) (fun _ _ _ h => h) (Or.inl ⟨by rfl, ?hy4_4⟩) (by assumption) ?rest4_4
  case hy4_4 =>
    intro w hSw
    (try dsimp only at hSw)
    go_simp
    rfl
  case' rest4_4 => try simp only [Act.put, List.setIfInBounds_toArray, List.set_cons_zero, List.set_cons_succ, List.getElem_toArray, List.getElem_cons_zero, List.getElem_cons_succ]
  refine wpAnyH_take (i := 5) (oi := _) (v := ?v5_5) rfl (by kernel_rfl) (by kernel_rfl) (by kernel_rfl) (fun _ _ _ h => h) (Or.inl ⟨by rfl, ?hy5_5⟩) (by assumption) ?rest5_5
  case hy5_5 =>
    intro w hSw
    (try dsimp only at hSw)
    go_simp
    rfl
  case' rest5_5 => try simp only [Act.put, List.setIfInBounds_toArray, List.set_cons_zero, List.set_cons_succ, List.getElem_toArray, List.getElem_cons_zero, List.getElem_cons_succ]
  refine wpAnyH_take (i := 6) (oi := _) (v := ?v6_6) rfl (by kernel_rfl) (by kernel_rfl) (by kernel_rfl) (fun _ _ _ h => h) (Or.inl ⟨by rfl, ?hy6_6⟩) (by assumption) ?rest6_6
  case hy6_6 =>
    intro w hSw
    (try dsimp only at hSw)
    go_simp
    rfl
  case' rest6_6 => try simp only [Act.put, List.setIfInBounds_toArray, List.set_cons_zero, List.set_cons_succ, List.getElem_toArray, List.getElem_cons_zero, List.getElem_cons_succ]
  refine wpAnyH_ready (rs := [3]) (by kernel_rfl) (by simp) ?_
  refine AllReadyH.cons (o := _) rfl (fun K hK => ?_) AllReadyH.nil
  go_simp
  go_at_call 19
  with_reducible refine (HBG.out (HFF.out (by first | trivial | rfl)) _ HB4.out).mono ?_
  rintro e w5 ⟨a5, c5, rfl, hr5, hb5, -⟩
  have HR5 := Lib.hid (HR4.out.next (by simp) hb5); have HP5 := Lib.hid (HP4.out.next (by simp) hb5); have HU5 := Lib.hid (HU4.out.next (by simp) hb5); have HV5 := Lib.hid (HV4.out.next (by simp) hb5); have HB5 := Lib.hid (HB4.out.trans (hb5.mono HB4.out.size)); clear hb5
  have HQ5 := Lib.hid hr5
  clear hr5
  clear hHeld
  refine hK.out _ _ (HK.out _ HR5.out HP5.out HU5.out HV5.out) (fun hHeld => ?_)
  clear hK K
  try simp only [Act.put, List.setIfInBounds_toArray, List.set_cons_zero, List.set_cons_succ, List.getElem_toArray, List.getElem_cons_zero, List.getElem_cons_succ]
  refine wpAnyH_ready (rs := [7]) (by kernel_rfl) (by simp) ?_
  refine AllReadyH.cons (o := _) rfl (fun K hK => ?_) AllReadyH.nil
  go_simp
  go_at_call 20
  with_reducible refine (HBH.out (HFF.out (by first | trivial | rfl)) _ HB5.out).mono ?_
  rintro e w6 ⟨a6, c6, rfl, hr6, hb6, -⟩
  have HR6 := Lib.hid (HR5.out.next (by simp) hb6); have HP6 := Lib.hid (HP5.out.next (by simp) hb6); have HU6 := Lib.hid (HU5.out.next (by simp) hb6); have HV6 := Lib.hid (HV5.out.next (by simp) hb6); have HB6 := Lib.hid (HB5.out.trans (hb6.mono HB5.out.size)); have HQ6 := Lib.hid (LRow.below HQ5.out hb6); clear hb6
  have HS6 := Lib.hid hr6
  clear hr6
  clear hHeld
  refine hK.out _ _ (HK.out _ HR6.out HP6.out HU6.out HV6.out) (fun hHeld => ?_)
  clear hK K
  try simp only [Act.put, List.setIfInBounds_toArray, List.set_cons_zero, List.set_cons_succ, List.getElem_toArray, List.getElem_cons_zero, List.getElem_cons_succ]
  refine wpAnyH_ready (rs := [8]) (by kernel_rfl) (by simp) ?_
  refine AllReadyH.cons (o := _) rfl (fun K hK => ?_) AllReadyH.nil
  go_simp
  go_at_call 18
  with_reducible refine (same_any XS a5 a6 XS.length c5 c6 w6 rfl (by have := HXL.out; omega) HQ6.out HS6.out).mono ?_
  rintro e w7 ⟨rfl, hb7⟩
  have HR7 := Lib.hid (HR6.out.next (by simp) hb7); have HP7 := Lib.hid (HP6.out.next (by simp) hb7); have HU7 := Lib.hid (HU6.out.next (by simp) hb7); have HV7 := Lib.hid (HV6.out.next (by simp) hb7); have HB7 := Lib.hid (HB6.out.trans (hb7.mono HB6.out.size)); clear hb7
  clear hHeld
  refine hK.out _ _ (HK.out _ HR7.out HP7.out HU7.out HV7.out) (fun hHeld => ?_)
  clear hK K
  try simp only [Act.put, List.setIfInBounds_toArray, List.set_cons_zero, List.set_cons_succ, List.getElem_toArray, List.getElem_cons_zero, List.getElem_cons_succ]
  refine wpAnyH_take (i := 9) (oi := _) (v := ?v9_7) rfl (by kernel_rfl) (by kernel_rfl) (by kernel_rfl) (fun _ _ _ h => h) (Or.inl ⟨by rfl, ?hy9_7⟩) (by assumption) ?rest9_7
  case hy9_7 =>
    intro w hSw
    (try dsimp only at hSw)
    go_simp
    rfl
  case' rest9_7 => try simp only [Act.put, List.setIfInBounds_toArray, List.set_cons_zero, List.set_cons_succ, List.getElem_toArray, List.getElem_cons_zero, List.getElem_cons_succ]
  refine wpAnyH_take (i := 10) (oi := _) (v := ?v10_8) rfl (by kernel_rfl) (by kernel_rfl) (by kernel_rfl) (fun _ _ _ h => h) (Or.inl ⟨by rfl, ?hy10_8⟩) (by assumption) ?rest10_8
  case hy10_8 =>
    intro w hSw
    (try dsimp only at hSw)
    go_simp
    rfl
  case' rest10_8 => try simp only [Act.put, List.setIfInBounds_toArray, List.set_cons_zero, List.set_cons_succ, List.getElem_toArray, List.getElem_cons_zero, List.getElem_cons_succ]
  refine wpAnyH_take (i := 11) (oi := _) (v := ?v11_9) rfl (by kernel_rfl) (by kernel_rfl) (by kernel_rfl) (fun _ _ _ h => h) (Or.inl ⟨by rfl, ?hy11_9⟩) (by assumption) ?rest11_9
  case hy11_9 =>
    intro w hSw
    (try dsimp only at hSw)
    go_simp
    rfl
  case' rest11_9 => try simp only [Act.put, List.setIfInBounds_toArray, List.set_cons_zero, List.set_cons_succ, List.getElem_toArray, List.getElem_cons_zero, List.getElem_cons_succ]
  refine wpAnyH_take (i := 12) (oi := _) (v := ?v12_10) rfl (by kernel_rfl) (by kernel_rfl) (by kernel_rfl) (fun _ _ _ h => h) (Or.inl ⟨by rfl, ?hy12_10⟩) (by assumption) ?rest12_10
  case hy12_10 =>
    intro w hSw
    (try dsimp only at hSw)
    go_simp
    rfl
  case' rest12_10 => try simp only [Act.put, List.setIfInBounds_toArray, List.set_cons_zero, List.set_cons_succ, List.getElem_toArray, List.getElem_cons_zero, List.getElem_cons_succ]
  refine wpAnyH_take (i := 14) (oi := _) (v := ?v14_11) rfl (by kernel_rfl) (by kernel_rfl) (by kernel_rfl) (fun _ _ _ h => h) (Or.inl ⟨by rfl, ?hy14_11⟩) (by assumption) ?rest14_11
  case hy14_11 =>
    intro w hSw
    (try dsimp only at hSw)
    go_simp
    rfl
  case' rest14_11 => try simp only [Act.put, List.setIfInBounds_toArray, List.set_cons_zero, List.set_cons_succ, List.getElem_toArray, List.getElem_cons_zero, List.getElem_cons_succ]
  refine wpAnyH_take (i := 15) (oi := _) (v := ?v15_12) rfl (by kernel_rfl) (by kernel_rfl) (by kernel_rfl) (fun _ _ _ h => h) (Or.inl ⟨by rfl, ?hy15_12⟩) (by assumption) ?rest15_12
  case hy15_12 =>
    intro w hSw
    (try dsimp only at hSw)
    go_simp
    rfl
  case' rest15_12 => try simp only [Act.put, List.setIfInBounds_toArray, List.set_cons_zero, List.set_cons_succ, List.getElem_toArray, List.getElem_cons_zero, List.getElem_cons_succ]
  refine wpAnyH_take (i := 16) (oi := _) (v := ?v16_13) rfl (by kernel_rfl) (by kernel_rfl) (by kernel_rfl) (fun _ _ _ h => h) (Or.inl ⟨by rfl, ?hy16_13⟩) (by assumption) ?rest16_13
  case hy16_13 =>
    intro w hSw
    (try dsimp only at hSw)
    go_simp
    rfl
  case' rest16_13 => try simp only [Act.put, List.setIfInBounds_toArray, List.set_cons_zero, List.set_cons_succ, List.getElem_toArray, List.getElem_cons_zero, List.getElem_cons_succ]
  refine wpAnyH_ready (rs := [13]) (by kernel_rfl) (by simp) ?_
  refine AllReadyH.cons (o := _) rfl (fun K hK => ?_) AllReadyH.nil
  go_simp
  go_at_call 16
  with_reducible refine (HTD.out _).mono ?_
  rintro e w8 ⟨rfl, hb8⟩
  have HR8 := Lib.hid (HR7.out.next (by simp) hb8); have HP8 := Lib.hid (HP7.out.next (by simp) hb8); have HU8 := Lib.hid (HU7.out.next (by simp) hb8); have HV8 := Lib.hid (HV7.out.next (by simp) hb8); have HB8 := Lib.hid (HB7.out.trans (hb8.mono HB7.out.size)); clear hb8
  clear hHeld
  refine hK.out _ _ (HK.out _ HR8.out HP8.out HU8.out HV8.out) (fun hHeld => ?_)
  clear hK K
  try simp only [Act.put, List.setIfInBounds_toArray, List.set_cons_zero, List.set_cons_succ, List.getElem_toArray, List.getElem_cons_zero, List.getElem_cons_succ]
  refine wpAnyH_ready (rs := [17]) (by kernel_rfl) (by simp) ?_
  refine AllReadyH.cons (o := _) rfl (fun K hK => ?_) AllReadyH.nil
  go_simp
  go_at_call 21
  with_reducible refine (HTE.out _).mono ?_
  rintro e w9 ⟨rfl, hb9⟩
  have HR9 := Lib.hid (HR8.out.next (by simp) hb9); have HP9 := Lib.hid (HP8.out.next (by simp) hb9); have HU9 := Lib.hid (HU8.out.next (by simp) hb9); have HV9 := Lib.hid (HV8.out.next (by simp) hb9); have HB9 := Lib.hid (HB8.out.trans (hb9.mono HB8.out.size)); clear hb9
  clear hHeld
  refine hK.out _ _ (HK.out _ HR9.out HP9.out HU9.out HV9.out) (fun hHeld => ?_)
  clear hK K
  try simp only [Act.put, List.setIfInBounds_toArray, List.set_cons_zero, List.set_cons_succ, List.getElem_toArray, List.getElem_cons_zero, List.getElem_cons_succ]
  refine wpAnyH_take (i := 18) (oi := _) (v := ?v18_14) rfl (by kernel_rfl) (by kernel_rfl) (by kernel_rfl) (fun _ _ _ h => h) (Or.inl ⟨by rfl, ?hy18_14⟩) (by assumption) ?rest18_14
  case hy18_14 =>
    intro w hSw
    (try dsimp only at hSw)
    go_simp
    rfl
  case' rest18_14 => try simp only [Act.put, List.setIfInBounds_toArray, List.set_cons_zero, List.set_cons_succ, List.getElem_toArray, List.getElem_cons_zero, List.getElem_cons_succ]
  refine wpAnyH_take (i := 19) (oi := _) (v := ?v19_15) rfl (by kernel_rfl) (by kernel_rfl) (by kernel_rfl) (fun _ _ _ h => h) (Or.inl ⟨by rfl, ?hy19_15⟩) (by assumption) ?rest19_15
  case hy19_15 =>
    intro w hSw
    (try dsimp only at hSw)
    go_simp
    rfl
  case' rest19_15 => try simp only [Act.put, List.setIfInBounds_toArray, List.set_cons_zero, List.set_cons_succ, List.getElem_toArray, List.getElem_cons_zero, List.getElem_cons_succ]
  refine wpAnyH_take (i := 20) (oi := _) (v := ?v20_16) rfl (by kernel_rfl) (by kernel_rfl) (by kernel_rfl) (fun _ _ _ h => h) (Or.inl ⟨by rfl, ?hy20_16⟩) (by assumption) ?rest20_16
  case hy20_16 =>
    intro w hSw
    (try dsimp only at hSw)
    go_simp
    rfl
  case' rest20_16 => try simp only [Act.put, List.setIfInBounds_toArray, List.set_cons_zero, List.set_cons_succ, List.getElem_toArray, List.getElem_cons_zero, List.getElem_cons_succ]
  refine wpAnyH_take (i := 21) (oi := _) (v := ?v21_17) rfl (by kernel_rfl) (by kernel_rfl) (by kernel_rfl) (fun _ _ _ h => h) (Or.inl ⟨by rfl, ?hy21_17⟩) (by assumption) ?rest21_17
  case hy21_17 =>
    intro w hSw
    (try dsimp only at hSw)
    go_simp
    rfl
  case' rest21_17 => try simp only [Act.put, List.setIfInBounds_toArray, List.set_cons_zero, List.set_cons_succ, List.getElem_toArray, List.getElem_cons_zero, List.getElem_cons_succ]
  refine wpAnyH_take (i := 22) (oi := _) (v := ?v22_18) rfl (by kernel_rfl) (by kernel_rfl) (by kernel_rfl) (fun _ _ _ h => h) (Or.inl ⟨by rfl, ?hy22_18⟩) (by assumption) ?rest22_18
  case hy22_18 =>
    intro w hSw
    (try dsimp only at hSw)
    go_simp
    rfl
  case' rest22_18 => try simp only [Act.put, List.setIfInBounds_toArray, List.set_cons_zero, List.set_cons_succ, List.getElem_toArray, List.getElem_cons_zero, List.getElem_cons_succ]
  refine wpAnyH_take (i := 23) (oi := _) (v := ?v23_19) rfl (by kernel_rfl) (by kernel_rfl) (by kernel_rfl) (fun _ _ _ h => h) (Or.inl ⟨by rfl, ?hy23_19⟩) (by assumption) ?rest23_19
  case hy23_19 =>
    intro w hSw
    (try dsimp only at hSw)
    go_simp
    rfl
  case' rest23_19 => try simp only [Act.put, List.setIfInBounds_toArray, List.set_cons_zero, List.set_cons_succ, List.getElem_toArray, List.getElem_cons_zero, List.getElem_cons_succ]
  refine wpAnyH_take (i := 24) (oi := _) (v := ?v24_20) rfl (by kernel_rfl) (by kernel_rfl) (by kernel_rfl) (fun _ _ _ h => h) (Or.inl ⟨by rfl, ?hy24_20⟩) (by assumption) ?rest24_20
  case hy24_20 =>
    intro w hSw
    (try dsimp only at hSw)
    go_simp
    rfl
  case' rest24_20 => try simp only [Act.put, List.setIfInBounds_toArray, List.set_cons_zero, List.set_cons_succ, List.getElem_toArray, List.getElem_cons_zero, List.getElem_cons_succ]
  refine wpAnyH_take (i := 25) (oi := _) (v := ?v25_21) rfl (by kernel_rfl) (by kernel_rfl) (by kernel_rfl) (fun _ _ _ h => h) (Or.inl ⟨by rfl, ?hy25_21⟩) (by assumption) ?rest25_21
  case hy25_21 =>
    intro w hSw
    (try dsimp only at hSw)
    go_simp
    rfl
  case' rest25_21 => try simp only [Act.put, List.setIfInBounds_toArray, List.set_cons_zero, List.set_cons_succ, List.getElem_toArray, List.getElem_cons_zero, List.getElem_cons_succ]
  refine wpAnyH_take (i := 26) (oi := _) (v := ?v26_22) rfl (by kernel_rfl) (by kernel_rfl) (by kernel_rfl) (fun _ _ _ h => h) (Or.inl ⟨by rfl, ?hy26_22⟩) (by assumption) ?rest26_22
  case hy26_22 =>
    intro w hSw
    (try dsimp only at hSw)
    go_simp
    rfl
  case' rest26_22 => try simp only [Act.put, List.setIfInBounds_toArray, List.set_cons_zero, List.set_cons_succ, List.getElem_toArray, List.getElem_cons_zero, List.getElem_cons_succ]
  refine wpAnyH_take (i := 27) (oi := _) (v := ?v27_23) rfl (by kernel_rfl) (by kernel_rfl) (by kernel_rfl) (fun _ _ _ h => h) (Or.inl ⟨by rfl, ?hy27_23⟩) (by assumption) ?rest27_23
  case hy27_23 =>
    intro w hSw
    (try dsimp only at hSw)
    go_simp
    rfl
  case' rest27_23 => try simp only [Act.put, List.setIfInBounds_toArray, List.set_cons_zero, List.set_cons_succ, List.getElem_toArray, List.getElem_cons_zero, List.getElem_cons_succ]
  refine wpAnyH_take (i := 28) (oi := _) (v := ?v28_24) rfl (by kernel_rfl) (by kernel_rfl) (by kernel_rfl) (fun _ _ _ h => h) (Or.inl ⟨by rfl, ?hy28_24⟩) (by assumption) ?rest28_24
  case hy28_24 =>
    intro w hSw
    (try dsimp only at hSw)
    go_simp
    rfl
  case' rest28_24 => try simp only [Act.put, List.setIfInBounds_toArray, List.set_cons_zero, List.set_cons_succ, List.getElem_toArray, List.getElem_cons_zero, List.getElem_cons_succ]
  refine wpAnyH_take (i := 29) (oi := _) (v := ?v29_25) rfl (by kernel_rfl) (by kernel_rfl) (by kernel_rfl) (fun _ _ _ h => h) (Or.inl ⟨by rfl, ?hy29_25⟩) (by assumption) ?rest29_25
  case hy29_25 =>
    intro w hSw
    (try dsimp only at hSw)
    go_simp
    rfl
  case' rest29_25 => try simp only [Act.put, List.setIfInBounds_toArray, List.set_cons_zero, List.set_cons_succ, List.getElem_toArray, List.getElem_cons_zero, List.getElem_cons_succ]
  refine wpAnyH_take (i := 30) (oi := _) (v := ?v30_26) rfl (by kernel_rfl) (by kernel_rfl) (by kernel_rfl) (fun _ _ _ h => h) (Or.inl ⟨by rfl, ?hy30_26⟩) (by assumption) ?rest30_26
  case hy30_26 =>
    intro w hSw
    (try dsimp only at hSw)
    go_simp
    rfl
  case' rest30_26 => try simp only [Act.put, List.setIfInBounds_toArray, List.set_cons_zero, List.set_cons_succ, List.getElem_toArray, List.getElem_cons_zero, List.getElem_cons_succ]
  refine wpAnyH_take (i := 31) (oi := _) (v := ?v31_27) rfl (by kernel_rfl) (by kernel_rfl) (by kernel_rfl) (fun _ _ _ h => h) (Or.inl ⟨by rfl, ?hy31_27⟩) (by assumption) ?rest31_27
  case hy31_27 =>
    intro w hSw
    (try dsimp only at hSw)
    go_simp
    rfl
  case' rest31_27 => try simp only [Act.put, List.setIfInBounds_toArray, List.set_cons_zero, List.set_cons_succ, List.getElem_toArray, List.getElem_cons_zero, List.getElem_cons_succ]
  refine wpAnyH_take (i := 32) (oi := _) (v := ?v32_28) rfl (by kernel_rfl) (by kernel_rfl) (by kernel_rfl) (fun _ _ _ h => h) (Or.inl ⟨by rfl, ?hy32_28⟩) (by assumption) ?rest32_28
  case hy32_28 =>
    intro w hSw
    (try dsimp only at hSw)
    go_simp
    rfl
  case' rest32_28 => try simp only [Act.put, List.setIfInBounds_toArray, List.set_cons_zero, List.set_cons_succ, List.getElem_toArray, List.getElem_cons_zero, List.getElem_cons_succ]
  refine wpAnyH_take (i := 34) (oi := _) (v := ?v34_29) rfl (by kernel_rfl) (by kernel_rfl) (by kernel_rfl) (fun _ _ _ h => h) (Or.inl ⟨by rfl, ?hy34_29⟩) (by assumption) ?rest34_29
  case hy34_29 =>
    intro w hSw
    (try dsimp only at hSw)
    go_simp
    rfl
  case' rest34_29 => try simp only [Act.put, List.setIfInBounds_toArray, List.set_cons_zero, List.set_cons_succ, List.getElem_toArray, List.getElem_cons_zero, List.getElem_cons_succ]
  refine wpAnyH_take (i := 35) (oi := _) (v := ?v35_30) rfl (by kernel_rfl) (by kernel_rfl) (by kernel_rfl) (fun _ _ _ h => h) (Or.inl ⟨by rfl, ?hy35_30⟩) (by assumption) ?rest35_30
  case hy35_30 =>
    intro w hSw
    (try dsimp only at hSw)
    go_simp
    rfl
  case' rest35_30 => try simp only [Act.put, List.setIfInBounds_toArray, List.set_cons_zero, List.set_cons_succ, List.getElem_toArray, List.getElem_cons_zero, List.getElem_cons_succ]
  refine wpAnyH_ready (rs := [33]) (by kernel_rfl) (by simp) ?_
  refine AllReadyH.cons (o := _) rfl (fun K hK => ?_) AllReadyH.nil
  go_simp
  go_at_call 22
  with_reducible refine (HPT.out _ HB9.out).mono ?_
  rintro e w10 ⟨a10, c10, rfl, hr10, hb10, -⟩
  have HR10 := Lib.hid (HR9.out.next (by simp) hb10); have HP10 := Lib.hid (HP9.out.next (by simp) hb10); have HU10 := Lib.hid (HU9.out.next (by simp) hb10); have HV10 := Lib.hid (HV9.out.next (by simp) hb10); have HB10 := Lib.hid (HB9.out.trans (hb10.mono HB9.out.size)); clear hb10
  have HQ10 := Lib.hid hr10
  clear hr10
  clear hHeld
  refine hK.out _ _ (HK.out _ HR10.out HP10.out HU10.out HV10.out) (fun hHeld => ?_)
  clear hK K
  try simp only [Act.put, List.setIfInBounds_toArray, List.set_cons_zero, List.set_cons_succ, List.getElem_toArray, List.getElem_cons_zero, List.getElem_cons_succ]
  refine wpAnyH_ready (rs := [36]) (by kernel_rfl) (by simp) ?_
  refine AllReadyH.cons (o := _) rfl (fun K hK => ?_) AllReadyH.nil
  go_simp
  go_at_call 23
  with_reducible refine (HPU.out _ HB10.out).mono ?_
  rintro e w11 ⟨a11, c11, rfl, hr11, hb11, -⟩
  have HR11 := Lib.hid (HR10.out.next (by simp) hb11); have HP11 := Lib.hid (HP10.out.next (by simp) hb11); have HU11 := Lib.hid (HU10.out.next (by simp) hb11); have HV11 := Lib.hid (HV10.out.next (by simp) hb11); have HB11 := Lib.hid (HB10.out.trans (hb11.mono HB10.out.size)); have HQ11 := Lib.hid (LRow.below HQ10.out hb11); clear hb11
  have HS11 := Lib.hid hr11
  clear hr11
  clear hHeld
  refine hK.out _ _ (HK.out _ HR11.out HP11.out HU11.out HV11.out) (fun hHeld => ?_)
  clear hK K
  try simp only [Act.put, List.setIfInBounds_toArray, List.set_cons_zero, List.set_cons_succ, List.getElem_toArray, List.getElem_cons_zero, List.getElem_cons_succ]
  refine wpAnyH_ready (rs := [37]) (by kernel_rfl) (by simp) ?_
  refine AllReadyH.cons (o := _) rfl (fun K hK => ?_) AllReadyH.nil
  go_simp
  go_at_call 18
  with_reducible refine (same_any YS a10 a11 YS.length c10 c11 w11 rfl (by have := HYL.out; omega) HQ11.out HS11.out).mono ?_
  rintro e w12 ⟨rfl, hb12⟩
  have HR12 := Lib.hid (HR11.out.next (by simp) hb12); have HP12 := Lib.hid (HP11.out.next (by simp) hb12); have HU12 := Lib.hid (HU11.out.next (by simp) hb12); have HV12 := Lib.hid (HV11.out.next (by simp) hb12); have HB12 := Lib.hid (HB11.out.trans (hb12.mono HB11.out.size)); clear hb12
  clear hHeld
  refine hK.out _ _ (HK.out _ HR12.out HP12.out HU12.out HV12.out) (fun hHeld => ?_)
  clear hK K
  try simp only [Act.put, List.setIfInBounds_toArray, List.set_cons_zero, List.set_cons_succ, List.getElem_toArray, List.getElem_cons_zero, List.getElem_cons_succ]
  refine wpAnyH_take (i := 38) (oi := _) (v := ?v38_31) rfl (by kernel_rfl) (by kernel_rfl) (by kernel_rfl) (fun _ _ _ h => h) (Or.inl ⟨by rfl, ?hy38_31⟩) (by assumption) ?rest38_31
  case hy38_31 =>
    intro w hSw
    (try dsimp only at hSw)
    go_simp
    rfl
  case' rest38_31 => try simp only [Act.put, List.setIfInBounds_toArray, List.set_cons_zero, List.set_cons_succ, List.getElem_toArray, List.getElem_cons_zero, List.getElem_cons_succ]
  refine wpAnyH_take (i := 39) (oi := _) (v := ?v39_32) rfl (by kernel_rfl) (by kernel_rfl) (by kernel_rfl) (fun _ _ _ h => h) (Or.inl ⟨by rfl, ?hy39_32⟩) (by assumption) ?rest39_32
  case hy39_32 =>
    intro w hSw
    (try dsimp only at hSw)
    go_simp
    rfl
  case' rest39_32 => try simp only [Act.put, List.setIfInBounds_toArray, List.set_cons_zero, List.set_cons_succ, List.getElem_toArray, List.getElem_cons_zero, List.getElem_cons_succ]
  refine wpAnyH_ready (rs := [40]) (by kernel_rfl) (by simp) ?_
  refine AllReadyH.cons (o := _) rfl (fun K hK => ?_) AllReadyH.nil
  go_simp
  go_at_call 9
  with_reducible refine (wakes_any _).mono ?_
  rintro e w13 ⟨rfl, hb13⟩
  have HR13 := Lib.hid (HR12.out.next (by simp) hb13); have HP13 := Lib.hid (HP12.out.next (by simp) hb13); have HU13 := Lib.hid (HU12.out.next (by simp) hb13); have HV13 := Lib.hid (HV12.out.next (by simp) hb13); have HB13 := Lib.hid (HB12.out.trans (hb13.mono HB12.out.size)); clear hb13
  clear hHeld
  refine hK.out _ _ (HK.out _ HR13.out HP13.out HU13.out HV13.out) (fun hHeld => ?_)
  clear hK K
  try simp only [Act.put, List.setIfInBounds_toArray, List.set_cons_zero, List.set_cons_succ, List.getElem_toArray, List.getElem_cons_zero, List.getElem_cons_succ]
  refine wpAnyH_take (i := 41) (oi := _) (v := ?v41_33) rfl (by kernel_rfl) (by kernel_rfl) (by kernel_rfl) (fun _ _ _ h => h) (Or.inl ⟨by rfl, ?hy41_33⟩) (by assumption) ?rest41_33
  case hy41_33 =>
    intro w hSw
    (try dsimp only at hSw)
    go_simp
    rfl
  case' rest41_33 => try simp only [Act.put, List.setIfInBounds_toArray, List.set_cons_zero, List.set_cons_succ, List.getElem_toArray, List.getElem_cons_zero, List.getElem_cons_succ]
  refine wpAnyH_take (i := 42) (oi := _) (v := ?v42_34) rfl (by kernel_rfl) (by kernel_rfl) (by kernel_rfl) (fun _ _ _ h => h) (Or.inl ⟨by rfl, ?hy42_34⟩) (by assumption) ?rest42_34
  case hy42_34 =>
    intro w hSw
    (try dsimp only at hSw)
    go_simp
    rfl
  case' rest42_34 => try simp only [Act.put, List.setIfInBounds_toArray, List.set_cons_zero, List.set_cons_succ, List.getElem_toArray, List.getElem_cons_zero, List.getElem_cons_succ]
  refine wpAnyH_done (by kernel_rfl) ?_ _
  clear hHeld
  go_wp2_with fail
  go_ret
  exact ⟨rfl, HB13.out⟩
end Go.Proofs.Ytmihgdjnjfjjcaa
