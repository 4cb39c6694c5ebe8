import Derived.Test.YtlckgnemmffdkaaWirCmd
import Derived.StillTailTactics
set_option linter.unusedVariables false
set_option linter.unusedSimpArgs false
/- State's closures: Lea, out of bytes and behind a writer's bytes. (printed by gen_wirseq.py) -/
namespace Go.Proofs.Ytlckgnemmffdkaa
open Go.ChangeShapes Go.WideShapes Go.ChangeAt Go.RowKit
set_option maxRecDepth 100000

abbrev cellsWLea (v : WLea) : List Value := [.int .i64 v.id, .int .i64 v.tenant, .int .i64 v.shaper, .int .i64 v.epoch, .int .i64 v.number, .int .i64 v.size, .int .i64 v.spent]
theorem wLeaP_eq (l : List UInt8) (p : Nat) : wLeaP l p = bindP (timesP numP 7 l p) fun xs p => .ok (⟨xs.getD 0 0, xs.getD 1 0, xs.getD 2 0, xs.getD 3 0, xs.getD 4 0, xs.getD 5 0, xs.getD 6 0⟩, p) := by
  unfold wLeaP
  simp only [timesP, bindP_assoc, bindP_ok, List.getD_cons_zero, List.getD_cons_succ]
set_option maxHeartbeats 8000000 in
theorem closlea_t (g c p gx gc : Nat) (a : Option Addr) (bs : List UInt8) (w : World) (h : Cr w g a c bs p) (hl : bs.length ≤ 2000000) (hx : Box w gx [.int .i64 0, .int .i64 0, .int .i64 0, .int .i64 0, .int .i64 0, .int .i64 0, .int .i64 0]) (hgx : Off g (rowA a bs) gx) (hgc : Box w gc [.pointer (some ⟨g, 0, none⟩)]) (hgn : gc ≠ g ∧ gc ≠ gx) :
    Calls Try.prog 92 #[.pointer (some ⟨gx, 0, none⟩), .pointer (some ⟨gc, 0, none⟩)] w (RetT w g gx 7 a c bs (wLeaP bs p) (fun v w' => Box w' gx (cellsWLea v))) := by
  have HP := Lib.hid (wLeaP_eq bs p)
  have HGC := Lib.hid hgc
  have hgxl := hx.lt (by simp)
  have HC := Lib.hid h
  have HX := Lib.hid hx
  clear h hx hgc
  go_enter Try.func92, Try.ntmps92
  go_upto_region 0 with (fail)
  go_quiet (fail)
  have hbn := below_drewN (Below.refl w.heap.size w) nq
  have HC3 := Lib.hid (HC.out.below hbn)
  have HX3 := Lib.hid (HX.out.next (by simp) hbn)
  have HG3 := Lib.hid (HGC.out.next (by simp) hbn)
  have HT := Lib.hid (Turn.below (g := g) (gx := gx) hbn)
  clear HC HX HGC hbn
  have HC := HC3
  have HX := HX3
  have HGC := HG3
  clear HC3 HX3 HG3
  generalize w.drewN nq = w2 at HC HX HGC HT ⊢
  go_wp2
  go_loopw [4, 27] (fun _ i wr => ∃ (xs : List Int) (q1 : Nat), xs.length ≤ 7 ∧ i = .int .i64 xs.length ∧ Hid (Cr wr g a c bs q1) ∧ Hid (Turn g gx w wr) ∧ Hid (Box wr gx (putI [.int .i64 0, .int .i64 0, .int .i64 0, .int .i64 0, .int .i64 0, .int .i64 0, .int .i64 0] 0 xs)) ∧ Hid (timesP numP xs.length bs p = .ok (xs, q1)) ∧ Hid (Box wr gc [.pointer (some ⟨g, 0, none⟩)])) (fun _ i _ => 7 - (intOf i).toNat)
  case atStart => exact ⟨[], p, by simp, rfl, HC.out, HT.out, by show Box _ _ _; rw [putI_nil]; exact HX.out, rfl, HGC.out⟩
  case round =>
    obtain ⟨xs, q1, hk, rfl, hcr, htr, hbx, hpr, hgcr⟩ := hrel
    by_cases hlt : xs.length < 7
    · have hnw := number_t g c q1 gx xs.length a bs _ wr hcr.out hl hbx.out hgx (by rw [putI_length (by simp; omega)]; simp; omega)
      have HNW := Lib.hid hnw
      have yg := hgcr.out.cell (j := 0) rfl
      clear hnw
      have hidx : ∀ w, (Instr.index 165 (.agg #[.pointer (some ⟨gx, 0, none⟩), .pointer (some ⟨gx, 1, none⟩), .pointer (some ⟨gx, 2, none⟩), .pointer (some ⟨gx, 3, none⟩), .pointer (some ⟨gx, 4, none⟩), .pointer (some ⟨gx, 5, none⟩), .pointer (some ⟨gx, 6, none⟩)]) (.int .i64 xs.length)).run Try.prog w = .ok (.pointer (some ⟨gx, xs.length, none⟩)) w := fun _ => by
        clear hcr htr hbx hpr hgcr yg HNW
        generalize xs.length = k at hlt
        rcases (show k = 0 ∨ k = 1 ∨ k = 2 ∨ k = 3 ∨ k = 4 ∨ k = 5 ∨ k = 6 by omega) with rfl | rfl | rfl | rfl | rfl | rfl | rfl <;> kernel_rfl
      go_wp2_with (go_at_call 79; ((with_reducible refine HNW.out.mono ?_); rintro en w4 ⟨ht, ⟨v4, q4, hr, rfl, hc, hb⟩ | ⟨f, hr, rfl, hb⟩⟩ <;> have HT4 := Lib.hid (Turn.next htr.out ht) <;> have HR4 := Lib.hid hr <;> have HB4 := Lib.hid hb <;> have HGC4 := Lib.hid (hgcr.out.keep (by simp) ht (by have := hgcr.out.lt (by simp); have := hgn; omega)) <;> clear ht hr hb; all_goals (first | (have HC4 := Lib.hid hc; clear hc) | skip)))
      · have hb := HB4.out
        rw [show xs.length = 0 + xs.length by omega, putI_snoc (by simp; omega)] at hb
        exact ⟨⟨xs ++ [v4], q4, by simp; omega, by simp, HC4.out, HT4.out, hb, by (show _ = _); rw [List.length_append]; exact times_snoc hpr.out HR4.out, HGC4.out⟩, by simp [intOf]; omega⟩
      · refine ⟨rfl, HT4.out, .inr ⟨_, step_bad HP.out (times_fail hpr.out HR4.out hlt), rfl, ?_⟩⟩
        have h1 := HB4.out
        rw [putI_length (by simp; omega)] at h1; exact h1
    · have h4 : xs.length = 7 := by omega
      have HPR := hpr.out
      rw [h4] at HPR
      obtain ⟨y0, y1, y2, y3, y4, y5, y6, rfl⟩ : ∃ y0 y1 y2 y3 y4 y5 y6, xs = [y0, y1, y2, y3, y4, y5, y6] := by
        match xs, h4 with
        | [y0, y1, y2, y3, y4, y5, y6], _ => exact ⟨y0, y1, y2, y3, y4, y5, y6, rfl⟩
      replace HP := Lib.hid (step_ok HP.out HPR)
      clear HPR HC HT HX
      have HC := hcr
      have HT := htr
      have HX : Hid (Box wr gx [.int .i64 y0, .int .i64 y1, .int .i64 y2, .int .i64 y3, .int .i64 y4, .int .i64 y5, .int .i64 y6]) := hbx
      have yg := hgcr.out.cell (j := 0) rfl
      clear hcr htr hbx hpr hgcr h4 hk hlt HGC
      go_wp2
      (first | go_end0 | refine bodyPost_ret (results_none rfl _ _ _) rfl ?_)
      exact ⟨HT.out, .inl ⟨_, _, HP.out, rfl, HC.out, HX.out⟩⟩
set_option maxHeartbeats 8000000 in
theorem closlea_w (D g gx gc c : Nat) (a : Option Addr) (bs : List UInt8) (x : WLea) (w : World) (h : Cw w D g a c bs) (hD : D ≤ w.heap.size) (hx : Box w gx (cellsWLea x)) (hgx : gx ≠ g) (hxa : ∀ o s, a ≠ some ⟨gx, o, s⟩) (hgc : Box w gc [.pointer (some ⟨g, 0, none⟩)]) (hgcg : gc ≠ g) (hgca : ∀ o s, a ≠ some ⟨gc, o, s⟩) (hn : bs.length ≤ 3000000) :
    Calls Try.prog 92 #[.pointer (some ⟨gx, 0, none⟩), .pointer (some ⟨gc, 0, none⟩)] w (RetCw w D g a (bs ++ encWLea x)) := by
  obtain ⟨id, tenant, shaper, epoch, number, size, spent⟩ := x
  have HG := Lib.hid (Grew.refl g a w)
  have HC := Lib.hid h
  have HX0 := Lib.hid hx
  have HO := Lib.hid (And.intro hgx (And.intro (hx.lt (by simp)) hxa))
  have HGG := Lib.hid (And.intro hgc (And.intro hgcg hgca))
  have HL8 := Lib.hid (flatMap_len8 [id, tenant, shaper, epoch, number, size, spent])
  clear h hx hgx hxa hgc hgcg hgca
  go_enter Try.func92, Try.ntmps92
  go_upto_region 0 with (fail)
  go_quiet (fail)
  have hbn := below_drewN (Below.refl w.heap.size w) nq
  have HC3 := Lib.hid (HC.out.below hbn)
  have HG3 := Lib.hid (HG.out.next hbn)
  clear HC HG hbn
  have HC := HC3
  have HG := HG3
  clear HC3 HG3
  obtain ⟨a1, ha1⟩ : ∃ a1, a1 = a := ⟨_, rfl⟩
  obtain ⟨c1, hc1⟩ : ∃ c1, c1 = c := ⟨_, rfl⟩
  rw [← ha1, ← hc1] at HC
  have HG' : Hid (Grew g a a1 w (w.drewN nq)) := Lib.hid (by rw [ha1]; exact HG.out)
  clear HG
  have HG := HG'
  clear HG' ha1 hc1
  generalize w.drewN nq = w2 at HC HG ⊢
  go_wp2
  have HCL : Hid (∀ k (h : k < ([id, tenant, shaper, epoch, number, size, spent] : List Int).length), ∀ wr, Box wr gx [.int .i64 id, .int .i64 tenant, .int .i64 shaper, .int .i64 epoch, .int .i64 number, .int .i64 size, .int .i64 spent] → wr.cell? ⟨gx, k, none⟩ = some (.int .i64 (([id, tenant, shaper, epoch, number, size, spent] : List Int)[k]))) := fun k h wr hb => by
    rcases (show k = 0 ∨ k = 1 ∨ k = 2 ∨ k = 3 ∨ k = 4 ∨ k = 5 ∨ k = 6 by simp at h; omega) with rfl | rfl | rfl | rfl | rfl | rfl | rfl <;> exact hb.cell rfl
  go_loopw [4, 27] (fun _ i wr => ∃ (k : Nat) (a3 : Option Addr) (c3 : Nat), k ≤ 7 ∧ i = .int .i64 k ∧ Hid (Cw wr D g a3 c3 (bs ++ (([id, tenant, shaper, epoch, number, size, spent] : List Int).take k).flatMap be8)) ∧ Hid (Grew g a a3 w wr)) (fun _ i _ => 7 - (intOf i).toNat)
  case atStart => exact ⟨0, a1, c1, by omega, rfl, by show Cw _ _ _ _ _ _; simpa using HC.out, HG.out⟩
  case round =>
    obtain ⟨k, a3, c3, hk, rfl, hcw, hgr⟩ := hrel
    have hDr : D ≤ wr.heap.size := Nat.le_trans hD hgr.out.size
    have hofa := hgr.out.off HO.out.2.1 HO.out.2.2
    by_cases hlt : k < 7
    · have hkv : k < ([id, tenant, shaper, epoch, number, size, spent] : List Int).length := hlt
      have hbw := HX0.out.grew (by simp) hgr.out HO.out.1 HO.out.2.2
      have hll : (bs ++ (([id, tenant, shaper, epoch, number, size, spent] : List Int).take k).flatMap be8).length ≤ 3000100 := by
        have h1 : ((([id, tenant, shaper, epoch, number, size, spent] : List Int).take k).flatMap be8).length = (([id, tenant, shaper, epoch, number, size, spent] : List Int).take k).length * 8 := flatMap_len8 _
        rw [List.length_append, h1, List.length_take]
        first | omega | (simp only [List.length_append, be8_length, List.length_cons, List.length_nil]; omega)
      have HNW := Lib.hid (number_w D g gx k c3 a3 _ _ wr hcw.out hDr (HCL.out k hkv wr hbw) HO.out.1 hofa (by omega))
      have HTK := Lib.hid (show bs ++ (([id, tenant, shaper, epoch, number, size, spent] : List Int).take (k + 1)).flatMap be8 = (bs ++ (([id, tenant, shaper, epoch, number, size, spent] : List Int).take k).flatMap be8) ++ be8 (([id, tenant, shaper, epoch, number, size, spent] : List Int)[k]'hkv) by rw [List.take_succ_eq_append_getElem hkv, List.flatMap_append, List.flatMap_singleton]; simp only [List.append_assoc])
      generalize ([id, tenant, shaper, epoch, number, size, spent] : List Int)[k]'hkv = vk at HNW HTK
      have hidx : ∀ w, (Instr.index 165 (.agg #[.pointer (some ⟨gx, 0, none⟩), .pointer (some ⟨gx, 1, none⟩), .pointer (some ⟨gx, 2, none⟩), .pointer (some ⟨gx, 3, none⟩), .pointer (some ⟨gx, 4, none⟩), .pointer (some ⟨gx, 5, none⟩), .pointer (some ⟨gx, 6, none⟩)]) (.int .i64 k)).run Try.prog w = .ok (.pointer (some ⟨gx, k, none⟩)) w := fun _ => by
        clear hcw hgr HNW HTK hll hkv hbw hofa hDr
        rcases (show k = 0 ∨ k = 1 ∨ k = 2 ∨ k = 3 ∨ k = 4 ∨ k = 5 ∨ k = 6 by omega) with rfl | rfl | rfl | rfl | rfl | rfl | rfl <;> kernel_rfl
      have yg := (HGG.out.1.grew (by simp) hgr.out HGG.out.2.1 HGG.out.2.2).cell (j := 0) rfl
      clear hll hkv hbw
      go_wp2_with (go_at_call 79; ((with_reducible refine HNW.out.mono ?_); rintro en w4 ⟨a4, c4, rfl, hcw4, hgr4⟩; have HC4 := Lib.hid hcw4; have HG4 := Lib.hid hgr4; clear hcw4 hgr4))
      exact ⟨⟨k + 1, a4, c4, by omega, by go_num, by show Cw _ _ _ _ _ _; rw [HTK.out]; exact HC4.out, hgr.out.trans HG4.out⟩, by simp [intOf]; omega⟩
    · obtain rfl : k = 7 := by omega
      go_wp2
      (first | go_end0 | refine bodyPost_ret (results_none rfl _ _ _) rfl ?_)
      refine ⟨a3, c3, rfl, ?_, hgr.out⟩
      have hc := hcw.out
      simp only [List.take_of_length_le (show ([id, tenant, shaper, epoch, number, size, spent] : List Int).length ≤ 7 from Nat.le_refl _), List.append_assoc, List.flatMap_cons, List.flatMap_nil, List.append_nil] at hc
      unfold encWLea
      simp only [List.append_assoc]
      exact hc
end Go.Proofs.Ytlckgnemmffdkaa
