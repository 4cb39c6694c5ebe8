import Derived.Test.YtoofmofaimdhpaaLedWakes
import Derived.Test.YtoofmofaimdhpaaPackLedgerCap1
import Derived.Test.YtoofmofaimdhpaaPackA6
import Derived.Test.YtoofmofaimdhpaaRefGrantSt
import Derived.Deep.Cut
import Derived.Deep.RegionHeld3
import Derived.StillTailTactics
set_option linter.unusedVariables false
set_option linter.unusedSimpArgs false
/- LedgerGrants: the walk. -/
namespace Go.Proofs.Ytoofmofaimdhpaa
open Go.ChangeShapes Go.WideShapes Go.ChangeAt Go.RowKit
set_option maxRecDepth 100000

theorem grant_same (s : St) (sh ep nu te sz : Int) : (grantS s sh ep nu te sz).1.sess = s.sess ∧ (grantS s sh ep nu te sz).1.dsks = s.dsks := by
  unfold grantS
  repeat' (first | exact ⟨rfl, rfl⟩ | split)
set_option maxHeartbeats 16000000 in
theorem lgrants_great (s : St) (r : Raw) (sh ep nu te sz : Int) (w : World) (h : StAt w 0 r s) (hg : greatB s = true) :
    Calls Try.prog 3 #[r.agg, .int .i64 sh, .int .i64 ep, .int .i64 nu, .int .i64 te, .int .i64 sz] w fun e w' => e = .returned (.bool true) ∧ Below w.heap.size w w' := by
  have HG := Lib.hid (fun w' (hb : Below w.heap.size w w') => great_st s r 0 w' (h.below hb))
  have HGG := Lib.hid hg
  obtain ⟨term, stamp, next, ⟨a1, n1, c1⟩, ⟨a2, n2, c2⟩, ⟨a3, n3, c3⟩, ⟨a4, n4, c4⟩⟩ := r
  have HBX : Hid (∀ w', Below (w.alloc (.cells #[.int .i64 term, .int .i64 stamp, .int .i64 next, .slice a1 n1 c1, .slice a2 n2 c2, .slice a3 n3 c3, .slice a4 n4 c4] 27)).heap.size (w.alloc (.cells #[.int .i64 term, .int .i64 stamp, .int .i64 next, .slice a1 n1 c1, .slice a2 n2 c2, .slice a3 n3 c3, .slice a4 n4 c4] 27)) w' → Box w' w.heap.size (Raw.cells ⟨term, stamp, next, ⟨a1, n1, c1⟩, ⟨a2, n2, c2⟩, ⟨a3, n3, c3⟩, ⟨a4, n4, c4⟩⟩)) := fun w' hb => Box.of_alloc hb
  clear h hg
  go_enter Try.func3, Try.ntmps3
  go_wp2_with (first
      | (have hgq := HB2; clear hgq; go_at_call 10; ((with_reducible refine (wakes_true _).mono ?_); rintro e w9 ⟨rfl, hb9⟩; have HB9 := Lib.hid (below_on HB2.out hb9)))
      | (go_at_call 9; ((with_reducible refine (HG.out _ (by repeat' (first | (with_reducible exact Below.refl _ _) | (with_reducible assumption) | (with_reducible refine Below.drew ?_) | (with_reducible refine Below.more ?_ _) | (with_reducible refine Below.put ?_ ?_ _) | (with_reducible refine Below.next ?_ (by with_reducible assumption)) | (with_reducible exact Nat.le_refl _) | (with_reducible refine Below.size' ?_) | omega))).mono ?_); rw [HGG.out]; rintro e w2 ⟨rfl, hb2⟩; have hb2' : Below w.heap.size w w2 := (by repeat' (first | (with_reducible exact Below.refl _ _) | (with_reducible assumption) | (with_reducible refine Below.drew ?_) | (with_reducible refine Below.more ?_ _) | (with_reducible refine Below.put ?_ ?_ _) | (with_reducible refine Below.next ?_ (by with_reducible assumption)) | (with_reducible exact Nat.le_refl _) | (with_reducible refine Below.size' ?_) | omega)); have HB2 := Lib.hid hb2'; have HX2 := Lib.hid (HBX.out w2 (by repeat' (first | (with_reducible exact Below.refl _ _) | (with_reducible assumption) | (with_reducible refine Below.drew ?_) | (with_reducible refine Below.more ?_ _) | (with_reducible refine Below.put ?_ ?_ _) | (with_reducible refine Below.next ?_ (by with_reducible assumption)) | (with_reducible exact Nat.le_refl _) | (with_reducible refine Below.size' ?_) | omega))); clear hb2'))
      | (refine wpList_load_as laySt rfl (.tmp 6) rfl w.heap.size 0 rfl ⟨term, stamp, next, ⟨a1, n1, c1⟩, ⟨a2, n2, c2⟩, ⟨a3, n3, c3⟩, ⟨a4, n4, c4⟩⟩ (.agg #[.int .i64 term, .int .i64 stamp, .int .i64 next, .slice a1 n1 c1, .slice a2 n2 c2, .slice a3 n3 c3, .slice a4 n4 c4]) rfl (HBX.out _ (by repeat' (first | (with_reducible exact Below.refl _ _) | (with_reducible assumption) | (with_reducible refine Below.drew ?_) | (with_reducible refine Below.more ?_ _) | (with_reducible refine Below.put ?_ ?_ _) | (with_reducible refine Below.next ?_ (by with_reducible assumption)) | (with_reducible exact Nat.le_refl _) | (with_reducible refine Below.size' ?_) | omega))).range ?_))
  go_returns
  exact ⟨rfl, HB9.out⟩
set_option maxHeartbeats 16000000 in
theorem lgrants_small (s : St) (r : Raw) (sh ep nu te sz : Int) (w : World) (h : StAt w 0 r s) (hg : greatB s = false) :
    Calls Try.prog 3 #[r.agg, .int .i64 sh, .int .i64 ep, .int .i64 nu, .int .i64 te, .int .i64 sz] w fun e w' => e = .returned (.bool true) ∧ Below w.heap.size w w' := by
  have hsz : s.tens.length ≤ 60 ∧ s.leas.length ≤ 100 ∧ s.sess.length ≤ 60 ∧ s.dsks.length ≤ 60 := by
    have := of_decide_eq_false hg
    omega
  obtain ⟨z1, z2, z3, z4⟩ := hsz
  have HG := Lib.hid (fun w' (hb : Below w.heap.size w w') => great_st s r 0 w' (h.below hb))
  have HGG := Lib.hid hg
  have c1' := (fun w' (hb : Below w.heap.size w w') => grant_st s r 0 sh ep nu te sz w' (h.below hb) (by omega) (by omega) (by omega) (by omega))
  have c2' := (fun w' (hb : Below w.heap.size w w') => refgrant_st s r 0 sh ep nu te sz w' (h.below hb) (by omega) (by omega) (by omega) (by omega))
  have l1 := grant_lens s sh ep nu te sz
  have l2 := grant_same s sh ep nu te sz
  generalize grantS s sh ep nu te sz = ga at c1' c2' l1 l2
  obtain ⟨a, ⟨ae, ar, ab, al, az⟩⟩ := ga
  simp only at l1 l2
  have HL : Hid (a.tens.length ≤ 900 ∧ a.leas.length ≤ 900 ∧ a.sess.length ≤ 900 ∧ a.dsks.length ≤ 900) := ⟨by omega, by omega, by rw [l2.1]; omega, by rw [l2.2]; omega⟩
  have HC1 := Lib.hid c1'
  have HC2 := Lib.hid c2'
  have HE := aeql_same ae ar ab al az
  obtain ⟨term, stamp, next, ⟨a1, n1, c1⟩, ⟨a2, n2, c2⟩, ⟨a3, n3, c3⟩, ⟨a4, n4, c4⟩⟩ := r
  have HBX : Hid (∀ w', Below (w.alloc (.cells #[.int .i64 term, .int .i64 stamp, .int .i64 next, .slice a1 n1 c1, .slice a2 n2 c2, .slice a3 n3 c3, .slice a4 n4 c4] 27)).heap.size (w.alloc (.cells #[.int .i64 term, .int .i64 stamp, .int .i64 next, .slice a1 n1 c1, .slice a2 n2 c2, .slice a3 n3 c3, .slice a4 n4 c4] 27)) w' → Box w' w.heap.size (Raw.cells ⟨term, stamp, next, ⟨a1, n1, c1⟩, ⟨a2, n2, c2⟩, ⟨a3, n3, c3⟩, ⟨a4, n4, c4⟩⟩)) := fun w' hb => Box.of_alloc hb
  clear h hg z1 z2 z3 z4 c1' c2' l1 l2
  go_enter Try.func3, Try.ntmps3
  go_wp2_with (first
      | (have hgq := HB9; clear hgq; go_at_call 10; ((with_reducible refine (wakes_true _).mono ?_); rintro e w10 ⟨rfl, hb10⟩; have HB10 := Lib.hid (below_on HB9.out hb10)))
      | (have hgq := HB9; clear hgq; refine wpList_strip (by rfl) ?_; refine wpList_load_as layAns rfl (.tmp 16) rfl (w6.heap.size + 1) 0 rfl ⟨ae, ar, ab, al, az⟩ (.agg #[.int .i64 ae, .int .i64 ar, .int .i64 ab, .int .i64 al, .int .i64 az]) rfl PM9.out.range ?_)
      | (have hgq := HB9; clear hgq; refine wpList_strip (by rfl) ?_; refine wpList_load_as layAns rfl (.tmp 14) rfl (w3.heap.size + 1) 0 rfl ⟨ae, ar, ab, al, az⟩ (.agg #[.int .i64 ae, .int .i64 ar, .int .i64 ab, .int .i64 al, .int .i64 az]) rfl PN9.out.range ?_)
      | (have hgq := HB8; clear hgq; go_at_call 13; ((with_reducible refine (same_st a ⟨ta, sa, na, ⟨x1a, m1a, y1a⟩, ⟨x2a, m2a, y2a⟩, ⟨x3a, m3a, y3a⟩, ⟨x4a, m4a, y4a⟩⟩ ⟨tb, sb, nb, ⟨x1b, m1b, y1b⟩, ⟨x2b, m2b, y2b⟩, ⟨x3b, m3b, y3b⟩, ⟨x4b, m4b, y4b⟩⟩ 0 0 w8 TA8.out TB8.out HL.out.1 HL.out.2.1 HL.out.2.2.1 HL.out.2.2.2).mono ?_); rintro e w9 ⟨rfl, hb9⟩; have HB9 := Lib.hid (below_on HB8.out hb9); have PN9 := Lib.hid (PN8.out.next (show 0 < 5 by decide) hb9); have PM9 := Lib.hid (PM8.out.next (show 0 < 5 by decide) hb9)))
      | (have hgq := HB8; clear hgq; refine wpList_load_as laySt rfl (.tmp 15) rfl w6.heap.size 0 rfl ⟨tb, sb, nb, ⟨x1b, m1b, y1b⟩, ⟨x2b, m2b, y2b⟩, ⟨x3b, m3b, y3b⟩, ⟨x4b, m4b, y4b⟩⟩ (.agg #[.int .i64 tb, .int .i64 sb, .int .i64 nb, .slice x1b m1b y1b, .slice x2b m2b y2b, .slice x3b m3b y3b, .slice x4b m4b y4b]) rfl PB8.out.range ?_)
      | (have hgq := HB8; clear hgq; refine wpList_load_as laySt rfl (.tmp 13) rfl w3.heap.size 0 rfl ⟨ta, sa, na, ⟨x1a, m1a, y1a⟩, ⟨x2a, m2a, y2a⟩, ⟨x3a, m3a, y3a⟩, ⟨x4a, m4a, y4a⟩⟩ (.agg #[.int .i64 ta, .int .i64 sa, .int .i64 na, .slice x1a m1a y1a, .slice x2a m2a y2a, .slice x3a m3a y3a, .slice x4a m4a y4a]) rfl PA8.out.range ?_)
      | (have hgq := PM7; clear hgq; refine wpList_store_whole layAns rfl (.tmp 16) (.tmp 39) rfl (w6.heap.size + 1) ⟨ae, ar, ab, al, az⟩ _ rfl rfl PM7.out rfl ?_; intro w8 hbx8 hw8; have PM8 := Lib.hid hbx8; have PB8 := Lib.hid (PB7.out.wrote hw8 (by omega)); have hb8 : Below w6.heap.size w6 w8 := HBM7.out.trans (hw8.below _ (by omega)); have HB8 := Lib.hid (below_on HB6.out hb8); have HX8 := Lib.hid (HX6.out.next (show 0 < 7 by decide) hb8); have PA8 := Lib.hid (PA6.out.next (show 0 < 7 by decide) hb8); have PN8 := Lib.hid (PN6.out.next (show 0 < 5 by decide) hb8); have TA8 := Lib.hid (TA6.out.below hb8); have TB8 := Lib.hid (TB6.out.below hb8); clear hbx8 hw8 hb8)
      | (have hgq := HB6; clear hgq; refine wpList_store_whole laySt rfl (.tmp 15) (.tmp 38) rfl w6.heap.size ⟨tb, sb, nb, ⟨x1b, m1b, y1b⟩, ⟨x2b, m2b, y2b⟩, ⟨x3b, m3b, y3b⟩, ⟨x4b, m4b, y4b⟩⟩ _ rfl rfl (Box.of_alloc (mid_alloc' (Below.refl _ _))) rfl ?_; intro w7 hbx7 hw7; have PB7 := Lib.hid hbx7; have PM7 := Lib.hid ((Box.of_alloc1 (w := w6) (cs := [.int .i64 0, .int .i64 0, .int .i64 0, .int .i64 0, .int .i64 0]) (Below.refl _ _)).wrote hw7 (by omega)); have hb6_7 : Below w6.heap.size w6 w7 := (mid_alloc' (mid_alloc' (Below.refl _ _))).trans (hw7.below _ (Nat.le_refl _)); have HBM7 := Lib.hid hb6_7; clear hbx7 hw7 hb6_7)
      | (have hgq := HB5; clear hgq; go_at_call 12; ((with_reducible refine (HC2.out w5 HB5.out).mono ?_); rintro e w6 ⟨⟨tb, sb, nb, ⟨x1b, m1b, y1b⟩, ⟨x2b, m2b, y2b⟩, ⟨x3b, m3b, y3b⟩, ⟨x4b, m4b, y4b⟩⟩, rfl, hs6, hb6⟩; have TB6 := Lib.hid hs6; have HB6 := Lib.hid (below_on HB5.out hb6); have HX6 := Lib.hid (HX5.out.next (show 0 < 7 by decide) hb6); have PA6 := Lib.hid (PA5.out.next (show 0 < 7 by decide) hb6); have PN6 := Lib.hid (PN5.out.next (show 0 < 5 by decide) hb6); have TA6 := Lib.hid (TA5.out.below hb6); clear hs6))
      | (have hgq := HB5; clear hgq; refine wpList_load_as laySt rfl (.tmp 6) rfl w.heap.size 0 rfl ⟨term, stamp, next, ⟨a1, n1, c1⟩, ⟨a2, n2, c2⟩, ⟨a3, n3, c3⟩, ⟨a4, n4, c4⟩⟩ (.agg #[.int .i64 term, .int .i64 stamp, .int .i64 next, .slice a1 n1 c1, .slice a2 n2 c2, .slice a3 n3 c3, .slice a4 n4 c4]) rfl HX5.out.range ?_)
      | (have hgq := PN4; clear hgq; refine wpList_store_whole layAns rfl (.tmp 14) (.tmp 29) rfl (w3.heap.size + 1) ⟨ae, ar, ab, al, az⟩ _ rfl rfl PN4.out rfl ?_; intro w5 hbx5 hw5; have PN5 := Lib.hid hbx5; have PA5 := Lib.hid (PA4.out.wrote hw5 (by omega)); have hb5 : Below w3.heap.size w3 w5 := HBM4.out.trans (hw5.below _ (by omega)); have HB5 := Lib.hid (below_on HB3.out hb5); have HX5 := Lib.hid (HX3.out.next (show 0 < 7 by decide) hb5); have TA5 := Lib.hid (TA3.out.below hb5); clear hbx5 hw5 hb5)
      | (have hgq := HB3; clear hgq; refine wpList_store_whole laySt rfl (.tmp 13) (.tmp 28) rfl w3.heap.size ⟨ta, sa, na, ⟨x1a, m1a, y1a⟩, ⟨x2a, m2a, y2a⟩, ⟨x3a, m3a, y3a⟩, ⟨x4a, m4a, y4a⟩⟩ _ rfl rfl (Box.of_alloc (mid_alloc' (Below.refl _ _))) rfl ?_; intro w4 hbx4 hw4; have PA4 := Lib.hid hbx4; have PN4 := Lib.hid ((Box.of_alloc1 (w := w3) (cs := [.int .i64 0, .int .i64 0, .int .i64 0, .int .i64 0, .int .i64 0]) (Below.refl _ _)).wrote hw4 (by omega)); have hb3_4 : Below w3.heap.size w3 w4 := (mid_alloc' (mid_alloc' (Below.refl _ _))).trans (hw4.below _ (Nat.le_refl _)); have HBM4 := Lib.hid hb3_4; clear hbx4 hw4 hb3_4)
      | (have hgq := HB2; clear hgq; go_at_call 11; ((with_reducible refine (HC1.out w2 HB2.out).mono ?_); rintro e w3 ⟨⟨ta, sa, na, ⟨x1a, m1a, y1a⟩, ⟨x2a, m2a, y2a⟩, ⟨x3a, m3a, y3a⟩, ⟨x4a, m4a, y4a⟩⟩, rfl, hs3, hb3⟩; have TA3 := Lib.hid hs3; have HB3 := Lib.hid (below_on HB2.out hb3); have HX3 := Lib.hid (HX2.out.next (show 0 < 7 by decide) hb3); clear hs3))
      | (have hgq := HB2; clear hgq; refine wpList_load_as laySt rfl (.tmp 6) rfl w.heap.size 0 rfl ⟨term, stamp, next, ⟨a1, n1, c1⟩, ⟨a2, n2, c2⟩, ⟨a3, n3, c3⟩, ⟨a4, n4, c4⟩⟩ (.agg #[.int .i64 term, .int .i64 stamp, .int .i64 next, .slice a1 n1 c1, .slice a2 n2 c2, .slice a3 n3 c3, .slice a4 n4 c4]) rfl HX2.out.range ?_)
      | (go_at_call 9; ((with_reducible refine (HG.out _ (by repeat' (first | (with_reducible exact Below.refl _ _) | (with_reducible assumption) | (with_reducible refine Below.drew ?_) | (with_reducible refine Below.more ?_ _) | (with_reducible refine Below.put ?_ ?_ _) | (with_reducible refine Below.next ?_ (by with_reducible assumption)) | (with_reducible exact Nat.le_refl _) | (with_reducible refine Below.size' ?_) | omega))).mono ?_); rw [HGG.out]; rintro e w2 ⟨rfl, hb2⟩; have hb2' : Below w.heap.size w w2 := (by repeat' (first | (with_reducible exact Below.refl _ _) | (with_reducible assumption) | (with_reducible refine Below.drew ?_) | (with_reducible refine Below.more ?_ _) | (with_reducible refine Below.put ?_ ?_ _) | (with_reducible refine Below.next ?_ (by with_reducible assumption)) | (with_reducible exact Nat.le_refl _) | (with_reducible refine Below.size' ?_) | omega)); have HB2 := Lib.hid hb2'; have HX2 := Lib.hid (HBX.out w2 (by repeat' (first | (with_reducible exact Below.refl _ _) | (with_reducible assumption) | (with_reducible refine Below.drew ?_) | (with_reducible refine Below.more ?_ _) | (with_reducible refine Below.put ?_ ?_ _) | (with_reducible refine Below.next ?_ (by with_reducible assumption)) | (with_reducible exact Nat.le_refl _) | (with_reducible refine Below.size' ?_) | omega))); clear hb2'))
      | (refine wpList_load_as laySt rfl (.tmp 6) rfl w.heap.size 0 rfl ⟨term, stamp, next, ⟨a1, n1, c1⟩, ⟨a2, n2, c2⟩, ⟨a3, n3, c3⟩, ⟨a4, n4, c4⟩⟩ (.agg #[.int .i64 term, .int .i64 stamp, .int .i64 next, .slice a1 n1 c1, .slice a2 n2 c2, .slice a3 n3 c3, .slice a4 n4 c4]) rfl (HBX.out _ (by repeat' (first | (with_reducible exact Below.refl _ _) | (with_reducible assumption) | (with_reducible refine Below.drew ?_) | (with_reducible refine Below.more ?_ _) | (with_reducible refine Below.put ?_ ?_ _) | (with_reducible refine Below.next ?_ (by with_reducible assumption)) | (with_reducible exact Nat.le_refl _) | (with_reducible refine Below.size' ?_) | omega))).range ?_))
  go_returns
  exact ⟨rfl, HB10.out⟩
theorem law_lgrants (s : St) (r : Raw) (sh ep nu te sz : Int) (w : World) (h : StAt w 0 r s) :
    Calls Try.prog 3 #[r.agg, .int .i64 sh, .int .i64 ep, .int .i64 nu, .int .i64 te, .int .i64 sz] w fun e w' => e = .returned (.bool true) ∧ Below w.heap.size w w' := by
  cases hg : greatB s with
  | true => exact lgrants_great s r sh ep nu te sz w h hg
  | false => exact lgrants_small s r sh ep nu te sz w h hg
end Go.Proofs.Ytoofmofaimdhpaa
