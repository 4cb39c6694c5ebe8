import Derived.Test.YtoofmofaimdhpaaPackA3
import Derived.Test.YtoofmofaimdhpaaPackLedgerCredits1
import Derived.Test.YtoofmofaimdhpaaRefCheckSt
import Derived.Test.YtoofmofaimdhpaaPackA5
set_option linter.unusedVariables false
set_option linter.unusedSimpArgs false
namespace Go.Proofs.Ytoofmofaimdhpaa
open Go.ChangeShapes Go.WideShapes Go.ChangeAt Go.RowKit
set_option maxRecDepth 100000

theorem StAt.sweptLen {s : St} (h : s.tens.length ≤ 900) : (sweptS s).tens.length ≤ 900 := Nat.le_trans (sweepS_length _ _) h
def RetRef (w : World) (s : St) (e : Int) (x : Ending) (w' : World) : Prop := ∃ q, x = .returned (.tuple #[Raw.agg q, (Ans.err e).agg]) ∧ StAt w' w.heap.size q s ∧ Below w.heap.size w w'
set_option maxHeartbeats 4000000 in
theorem refused_bad (s : St) (r : Raw) (B : Nat) (e : Int) (w : World) (h : StAt w B r s) (hl1 : s.tens.length ≤ 900) (hl2 : s.leas.length ≤ 900) (hl3 : s.sess.length ≤ 900) (hl4 : s.dsks.length ≤ 900) (hok : stOk s = false) :
    Calls Try.prog 35 #[r.agg, .int .i64 e] w fun x w' => x = .returned (.tuple #[r.agg, (Ans.err e).agg]) ∧ Below w.heap.size w w' := by
  have HS := Lib.hid h
  have HCK := Lib.hid (fun w' (hb : Below w.heap.size w w') => refcheck_st s r B w' (h.below hb) hl1 hl2)
  have HCP := Lib.hid (fun w' (hb : Below w.heap.size w w') => refcopy_st s r B w' (h.below hb) hl1 hl2 hl3 hl4)
  have HSW := Lib.hid (fun (hok : stOk s = true) q B' w' (h' : StAt w' B' q s) (hB' : B' ≤ w'.heap.size) => refswept_st s q B' w' h' (by
    have h0 := hok
    unfold stOk at h0
    simp only [Bool.and_eq_true] at h0
    exact leasOk_fits h0.1.1 h0.1.2.1) hl1 hl2 hB')
  obtain ⟨term, stamp, next, ⟨a1, n1, c1⟩, ⟨a2, n2, c2⟩, ⟨a3, n3, c3⟩, ⟨a4, n4, c4⟩⟩ := r
  have HBX : Hid (∀ w', Below (((w.alloc (.cells #[.int .i64 term, .int .i64 stamp, .int .i64 next, .slice a1 n1 c1, .slice a2 n2 c2, .slice a3 n3 c3, .slice a4 n4 c4] 27)).alloc (.cells #[.int .i64 0, .int .i64 0, .int .i64 0, .slice none 0 0, .slice none 0 0, .slice none 0 0, .slice none 0 0] 27)).alloc (.cells #[.int .i64 0, .int .i64 0, .int .i64 0, .int .i64 0, .int .i64 0] 32)).heap.size (((w.alloc (.cells #[.int .i64 term, .int .i64 stamp, .int .i64 next, .slice a1 n1 c1, .slice a2 n2 c2, .slice a3 n3 c3, .slice a4 n4 c4] 27)).alloc (.cells #[.int .i64 0, .int .i64 0, .int .i64 0, .slice none 0 0, .slice none 0 0, .slice none 0 0, .slice none 0 0] 27)).alloc (.cells #[.int .i64 0, .int .i64 0, .int .i64 0, .int .i64 0, .int .i64 0] 32)) w' →
      Box w' w.heap.size (Raw.cells ⟨term, stamp, next, ⟨a1, n1, c1⟩, ⟨a2, n2, c2⟩, ⟨a3, n3, c3⟩, ⟨a4, n4, c4⟩⟩) ∧ Box w' (w.heap.size + 1) (Raw.cells ⟨0, 0, 0, ⟨none, 0, 0⟩, ⟨none, 0, 0⟩, ⟨none, 0, 0⟩, ⟨none, 0, 0⟩⟩) ∧ Box w' (w.heap.size + 1 + 1) (Ans.cells ⟨0, 0, 0, 0, 0⟩) ∧ w.heap.size + 3 ≤ w'.heap.size) :=
    fun w' hb => ⟨Box.of_alloc (mid_alloc' (mid_alloc' hb)), Box.of_alloc1 (mid_alloc' hb), Box.of_alloc2 hb, by have := hb.size; simp at this; omega⟩
  clear h hl1 hl2 hl3 hl4
  have HOK := Lib.hid hok
  clear hok HSW HCP
  go_enter Try.func35, Try.ntmps35
  go_wp2_with (first
    | (refine wpList_load_as laySt rfl (.tmp 2) rfl w.heap.size 0 rfl ⟨term, stamp, next, ⟨a1, n1, c1⟩, ⟨a2, n2, c2⟩, ⟨a3, n3, c3⟩, ⟨a4, n4, c4⟩⟩ (.agg #[.int .i64 term, .int .i64 stamp, .int .i64 next, .slice a1 n1 c1, .slice a2 n2 c2, .slice a3 n3 c3, .slice a4 n4 c4]) rfl (HBX.out _ (by repeat' (first | (with_reducible exact Below.refl _ _) | (with_reducible assumption) | (with_reducible refine Below.drew ?_) | (with_reducible refine Below.more ?_ _) | (with_reducible refine Below.put ?_ ?_ _) | (with_reducible refine Below.next ?_ (by with_reducible assumption)) | (with_reducible exact Nat.le_refl _) | (with_reducible refine Below.size' ?_) | omega))).1.range ?_)
    | (go_at_call 16; ((with_reducible refine (HCK.out _ (by repeat' (first | (with_reducible exact Below.refl _ _) | (with_reducible assumption) | (with_reducible refine Below.drew ?_) | (with_reducible refine Below.more ?_ _) | (with_reducible refine Below.put ?_ ?_ _) | (with_reducible refine Below.next ?_ (by with_reducible assumption)) | (with_reducible exact Nat.le_refl _) | (with_reducible refine Below.size' ?_) | omega))).mono ?_); rw [HOK.out]; rintro e w3 ⟨rfl, hb3⟩; have HX3 := Lib.hid (HBX.out w3 (by repeat' (first | (with_reducible exact Below.refl _ _) | (with_reducible assumption) | (with_reducible refine Below.drew ?_) | (with_reducible refine Below.more ?_ _) | (with_reducible refine Below.put ?_ ?_ _) | (with_reducible refine Below.next ?_ (by with_reducible assumption)) | (with_reducible exact Nat.le_refl _) | (with_reducible refine Below.size' ?_) | omega)))))
    | (refine wpList_store_whole laySt rfl (.tmp 4) (.tmp 9) rfl (w.heap.size + 1) ⟨term, stamp, next, ⟨a1, n1, c1⟩, ⟨a2, n2, c2⟩, ⟨a3, n3, c3⟩, ⟨a4, n4, c4⟩⟩ _ rfl rfl HX3.out.2.1 rfl ?_; intro w8 hbx8 hw8; have HX8 := Lib.hid hbx8; have HW8 := Lib.hid hw8; have HA8 := Lib.hid (HX3.out.2.2.1.wrote hw8 (by omega)); clear hbx8 hw8)
    | (refine wpList_store_whole layAns rfl (.tmp 5) (.tmp 11) rfl (w.heap.size + 1 + 1) ⟨e, 0, 0, 0, 0⟩ _ rfl rfl HA8.out rfl ?_; intro w9 hbx9 hw9; have HA9 := Lib.hid hbx9; have HW9 := Lib.hid hw9; have HX9 := Lib.hid (HX8.out.wrote hw9 (by omega)); clear hbx9 hw9))
  have b3 : Below w.heap.size w w3 := (by repeat' (first | (with_reducible exact Below.refl _ _) | (with_reducible assumption) | (with_reducible refine Below.drew ?_) | (with_reducible refine Below.more ?_ _) | (with_reducible refine Below.put ?_ ?_ _) | (with_reducible refine Below.next ?_ (by with_reducible assumption)) | (with_reducible exact Nat.le_refl _) | (with_reducible refine Below.size' ?_) | omega))
  have b9 : Below w.heap.size w w9 := (b3.trans (HW8.out.below _ (by omega))).trans (HW9.out.below _ (by omega))
  obtain ⟨k0, k1, k2, k3, k4, k5, k6⟩ := cellsSt0 HX9.out.range
  obtain ⟨j0, j1, j2, j3, j4⟩ := cellsAns0 HA9.out.range
  refine bodyPost_ret (v := .tuple #[.agg #[.int .i64 term, .int .i64 stamp, .int .i64 next, .slice a1 n1 c1, .slice a2 n2 c2, .slice a3 n3 c3, .slice a4 n4 c4], .agg #[.int .i64 e, .int .i64 0, .int .i64 0, .int .i64 0, .int .i64 0]]) (by simp [results, Try.results35, go_sem, k0, k1, k2, k3, k4, k5, k6, j0, j1, j2, j3, j4]) rfl ?_
  exact ⟨rfl, b9⟩

set_option maxHeartbeats 4000000 in
theorem refused_ok (s : St) (r : Raw) (B : Nat) (e : Int) (w : World) (h : StAt w B r s) (hl1 : s.tens.length ≤ 900) (hl2 : s.leas.length ≤ 900) (hl3 : s.sess.length ≤ 900) (hl4 : s.dsks.length ≤ 900) (hok : stOk s = true) :
    Calls Try.prog 35 #[r.agg, .int .i64 e] w (RetRef w (sweptS s) e) := by
  have HS := Lib.hid h
  have HCK := Lib.hid (fun w' (hb : Below w.heap.size w w') => refcheck_st s r B w' (h.below hb) hl1 hl2)
  have HCP := Lib.hid (fun w' (hb : Below w.heap.size w w') => refcopy_st s r B w' (h.below hb) hl1 hl2 hl3 hl4)
  have HSW := Lib.hid (fun (hok : stOk s = true) q B' w' (h' : StAt w' B' q s) (hB' : B' ≤ w'.heap.size) => refswept_st s q B' w' h' (by
    have h0 := hok
    unfold stOk at h0
    simp only [Bool.and_eq_true] at h0
    exact leasOk_fits h0.1.1 h0.1.2.1) hl1 hl2 hB')
  obtain ⟨term, stamp, next, ⟨a1, n1, c1⟩, ⟨a2, n2, c2⟩, ⟨a3, n3, c3⟩, ⟨a4, n4, c4⟩⟩ := r
  have HBX : Hid (∀ w', Below (((w.alloc (.cells #[.int .i64 term, .int .i64 stamp, .int .i64 next, .slice a1 n1 c1, .slice a2 n2 c2, .slice a3 n3 c3, .slice a4 n4 c4] 27)).alloc (.cells #[.int .i64 0, .int .i64 0, .int .i64 0, .slice none 0 0, .slice none 0 0, .slice none 0 0, .slice none 0 0] 27)).alloc (.cells #[.int .i64 0, .int .i64 0, .int .i64 0, .int .i64 0, .int .i64 0] 32)).heap.size (((w.alloc (.cells #[.int .i64 term, .int .i64 stamp, .int .i64 next, .slice a1 n1 c1, .slice a2 n2 c2, .slice a3 n3 c3, .slice a4 n4 c4] 27)).alloc (.cells #[.int .i64 0, .int .i64 0, .int .i64 0, .slice none 0 0, .slice none 0 0, .slice none 0 0, .slice none 0 0] 27)).alloc (.cells #[.int .i64 0, .int .i64 0, .int .i64 0, .int .i64 0, .int .i64 0] 32)) w' →
      Box w' w.heap.size (Raw.cells ⟨term, stamp, next, ⟨a1, n1, c1⟩, ⟨a2, n2, c2⟩, ⟨a3, n3, c3⟩, ⟨a4, n4, c4⟩⟩) ∧ Box w' (w.heap.size + 1) (Raw.cells ⟨0, 0, 0, ⟨none, 0, 0⟩, ⟨none, 0, 0⟩, ⟨none, 0, 0⟩, ⟨none, 0, 0⟩⟩) ∧ Box w' (w.heap.size + 1 + 1) (Ans.cells ⟨0, 0, 0, 0, 0⟩) ∧ w.heap.size + 3 ≤ w'.heap.size) :=
    fun w' hb => ⟨Box.of_alloc (mid_alloc' (mid_alloc' hb)), Box.of_alloc1 (mid_alloc' hb), Box.of_alloc2 hb, by have := hb.size; simp at this; omega⟩
  clear h hl1 hl2 hl3 hl4
  have HOK := Lib.hid hok
  clear hok
  go_enter Try.func35, Try.ntmps35
  go_wp2_with (first
    | (refine wpList_load_as laySt rfl (.tmp 2) rfl w.heap.size 0 rfl ⟨term, stamp, next, ⟨a1, n1, c1⟩, ⟨a2, n2, c2⟩, ⟨a3, n3, c3⟩, ⟨a4, n4, c4⟩⟩ (.agg #[.int .i64 term, .int .i64 stamp, .int .i64 next, .slice a1 n1 c1, .slice a2 n2 c2, .slice a3 n3 c3, .slice a4 n4 c4]) rfl (by first | exact HX3.out.1.range | exact (HBX.out _ (by repeat' (first | (with_reducible exact Below.refl _ _) | (with_reducible assumption) | (with_reducible refine Below.drew ?_) | (with_reducible refine Below.more ?_ _) | (with_reducible refine Below.put ?_ ?_ _) | (with_reducible refine Below.next ?_ (by with_reducible assumption)) | (with_reducible exact Nat.le_refl _) | (with_reducible refine Below.size' ?_) | omega))).1.range) ?_)
    | (go_at_call 16; ((with_reducible refine (HCK.out _ (by repeat' (first | (with_reducible exact Below.refl _ _) | (with_reducible assumption) | (with_reducible refine Below.drew ?_) | (with_reducible refine Below.more ?_ _) | (with_reducible refine Below.put ?_ ?_ _) | (with_reducible refine Below.next ?_ (by with_reducible assumption)) | (with_reducible exact Nat.le_refl _) | (with_reducible refine Below.size' ?_) | omega))).mono ?_); rw [HOK.out]; rintro e w3 ⟨rfl, hb3⟩; have HX3 := Lib.hid (HBX.out w3 (by repeat' (first | (with_reducible exact Below.refl _ _) | (with_reducible assumption) | (with_reducible refine Below.drew ?_) | (with_reducible refine Below.more ?_ _) | (with_reducible refine Below.put ?_ ?_ _) | (with_reducible refine Below.next ?_ (by with_reducible assumption)) | (with_reducible exact Nat.le_refl _) | (with_reducible refine Below.size' ?_) | omega)))))
    | (go_at_call 37; ((with_reducible refine (HCP.out _ (by repeat' (first | (with_reducible exact Below.refl _ _) | (with_reducible assumption) | (with_reducible refine Below.drew ?_) | (with_reducible refine Below.more ?_ _) | (with_reducible refine Below.put ?_ ?_ _) | (with_reducible refine Below.next ?_ (by with_reducible assumption)) | (with_reducible exact Nat.le_refl _) | (with_reducible refine Below.size' ?_) | omega))).mono ?_); rintro e w4 ⟨⟨t4, s4, n4', ⟨x1, m1, y1⟩, ⟨x2, m2, y2⟩, ⟨x3, m3, y3⟩, ⟨x4, m4, y4⟩⟩, rfl, hst4, hb4⟩; have HST4 := Lib.hid hst4; clear hst4))
    | (go_at_call 39; have hsw := HSW.out HOK.out _ _ w4 HST4.out.is hb4.size; ((with_reducible refine hsw.mono ?_); clear hsw; rintro e w5 ⟨⟨t5, s5, n5', ⟨z1, o1, v1⟩, ⟨z2, o2, v2⟩, ⟨z3, o3, v3⟩, ⟨z4, o4, v4⟩⟩, rfl, hst5, hb5⟩; have HST5 := Lib.hid hst5; have HX5 := Lib.hid (HBX.out w5 (by repeat' (first | (with_reducible exact Below.refl _ _) | (with_reducible assumption) | (with_reducible refine Below.drew ?_) | (with_reducible refine Below.more ?_ _) | (with_reducible refine Below.put ?_ ?_ _) | (with_reducible refine Below.next ?_ (by with_reducible assumption)) | (with_reducible exact Nat.le_refl _) | (with_reducible refine Below.size' ?_) | omega))); clear hst5))
    | (refine wpList_store_whole laySt rfl (.tmp 4) (.tmp 14) rfl (w.heap.size + 1) ⟨t5, s5, n5', ⟨z1, o1, v1⟩, ⟨z2, o2, v2⟩, ⟨z3, o3, v3⟩, ⟨z4, o4, v4⟩⟩ _ rfl rfl HX5.out.2.1 rfl ?_; intro w8 hbx8 hw8; have HX8 := Lib.hid hbx8; have HW8 := Lib.hid hw8; have HA8 := Lib.hid (HX5.out.2.2.1.wrote hw8 (by omega)); clear hbx8 hw8)
    | (refine wpList_store_whole layAns rfl (.tmp 5) (.tmp 16) rfl (w.heap.size + 1 + 1) ⟨e, 0, 0, 0, 0⟩ _ rfl rfl HA8.out rfl ?_; intro w9 hbx9 hw9; have HA9 := Lib.hid hbx9; have HW9 := Lib.hid hw9; have HX9 := Lib.hid (HX8.out.wrote hw9 (by omega)); clear hbx9 hw9))
  have b3 : Below w.heap.size w w3 := (by repeat' (first | (with_reducible exact Below.refl _ _) | (with_reducible assumption) | (with_reducible refine Below.drew ?_) | (with_reducible refine Below.more ?_ _) | (with_reducible refine Below.put ?_ ?_ _) | (with_reducible refine Below.next ?_ (by with_reducible assumption)) | (with_reducible exact Nat.le_refl _) | (with_reducible refine Below.size' ?_) | omega))
  have q3 := HX3.out.2.2.2
  have q4 := hb4.size
  have q5 := hb5.size
  have b9 : Below w.heap.size w w9 := (((b3.trans (hb4.mono (by omega))).trans (hb5.mono (by omega))).trans (HW8.out.below _ (by omega))).trans (HW9.out.below _ (by omega))
  have m59 : Mid w3.heap.size w5.heap.size w5 w9 := ((Mid.refl w3.heap.size w5.heap.size w5).wrote HW8.out (.inl (by omega))).wrote HW9.out (.inl (by omega))
  obtain ⟨k0, k1, k2, k3, k4, k5, k6⟩ := cellsSt0 HX9.out.range
  obtain ⟨j0, j1, j2, j3, j4⟩ := cellsAns0 HA9.out.range
  refine bodyPost_ret (v := .tuple #[.agg #[.int .i64 t5, .int .i64 s5, .int .i64 n5', .slice z1 o1 v1, .slice z2 o2 v2, .slice z3 o3 v3, .slice z4 o4 v4], .agg #[.int .i64 e, .int .i64 0, .int .i64 0, .int .i64 0, .int .i64 0]]) (by simp [results, Try.results35, go_sem, k0, k1, k2, k3, k4, k5, k6, j0, j1, j2, j3, j4]) rfl ?_
  exact ⟨⟨t5, s5, n5', ⟨z1, o1, v1⟩, ⟨z2, o2, v2⟩, ⟨z3, o3, v3⟩, ⟨z4, o4, v4⟩⟩, rfl, (HST5.out.mid m59 (Nat.le_refl _) (Nat.le_refl _)).mono (by omega), b9⟩
end Go.Proofs.Ytoofmofaimdhpaa
