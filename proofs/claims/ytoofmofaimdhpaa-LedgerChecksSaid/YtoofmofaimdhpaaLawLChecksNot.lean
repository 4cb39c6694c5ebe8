import Derived.Test.YtoofmofaimdhpaaLedWakes
import Derived.Test.YtoofmofaimdhpaaPackLedgerCredits1
import Derived.Test.YtoofmofaimdhpaaPackA4
import Derived.Test.YtoofmofaimdhpaaLedCheck2
import Derived.Test.YtoofmofaimdhpaaRefFindSt
import Derived.Test.YtoofmofaimdhpaaRefCheckSt
import Derived.Deep.Cut
import Derived.Deep.RegionHeld3
import Derived.StillTailTactics
set_option linter.unusedVariables false
set_option linter.unusedSimpArgs false
/- LedgerChecks of a state that may not be: the walk. -/
namespace Go.Proofs.Ytoofmofaimdhpaa
open Go.ChangeShapes Go.WideShapes Go.ChangeAt Go.RowKit
set_option maxRecDepth 100000

theorem leql_same (i0 i1 i2 i3 i4 i5 i6 : Int) (w : World) : (binOp .eql 38 (.agg #[.int .i64 i0, .int .i64 i1, .int .i64 i2, .int .i64 i3, .int .i64 i4, .int .i64 i5, .int .i64 i6]) (.agg #[.int .i64 i0, .int .i64 i1, .int .i64 i2, .int .i64 i3, .int .i64 i4, .int .i64 i5, .int .i64 i6])).run Try.prog w = .ok (.bool true) w := by
  have h := eqlLea_run ⟨i0, i1, i2, i3, i4, i5, i6⟩ ⟨i0, i1, i2, i3, i4, i5, i6⟩ w
  simpa using h
set_option maxHeartbeats 16000000 in
theorem lchecks_not (s : St) (r : Raw) (te le : Int) (w : World) (h : StAt w 0 r s) (hte : (Lit.int .i64 te).wf = true) (hg : greatB s = false) (hok : stOk s = false) :
    Calls Try.prog 4 #[r.agg, .int .i64 te, .int .i64 le] w fun e w' => e = .returned (.bool true) ∧ Below w.heap.size w w' := by
  have hsz : s.tens.length ≤ 60 ∧ s.leas.length ≤ 100 ∧ s.sess.length ≤ 60 ∧ s.dsks.length ≤ 60 := by
    have := of_decide_eq_false hg
    omega
  obtain ⟨z1, z2, z3, z4⟩ := hsz
  have HG := Lib.hid (fun w' (hb : Below w.heap.size w w') => great_st s r 0 w' (h.below hb))
  have HGG := Lib.hid hg
  have HFI := Lib.hid (fun w' (hb : Below w.heap.size w w') => find_st s r 0 le w' (h.below hb) (by omega) (by omega))
  have HRF := Lib.hid (fun w' (hb : Below w.heap.size w w') => reffind_st s r 0 le w' (h.below hb) (by omega) (by omega))
  have HCK := Lib.hid (fun w' (hb : Below w.heap.size w w') => check_st s r 0 w' (h.below hb) (by omega) (by omega))
  have HRC := Lib.hid (fun w' (hb : Below w.heap.size w w') => refcheck_st s r 0 w' (h.below hb) (by omega) (by omega))
  have HOU := Lib.hid (fun (hf : Fits s.leas) w' (hb : Below w.heap.size w w') => out_any s r 0 te w' (h.below hb) hf (by omega) hte)
  have HRO := Lib.hid (fun (hf : Fits s.leas) w' (hb : Below w.heap.size w w') => refout_any s.leas r te w' h.lea.len (by omega) hf (h.lea.row.below hb))
  rcases hfs : findSt s le with ⟨⟨i0, i1, i2, i3, i4, i5, i6⟩, ok⟩
  have HFS := Lib.hid hfs
  have HE := leql_same i0 i1 i2 i3 i4 i5 i6
  obtain ⟨term, stamp, next, ⟨a1, n1, c1⟩, ⟨a2, n2, c2⟩, ⟨a3, n3, c3⟩, ⟨a4, n4, c4⟩⟩ := r
  have HBX : Hid (∀ w', Below (w.alloc (.cells #[.int .i64 term, .int .i64 stamp, .int .i64 next, .slice a1 n1 c1, .slice a2 n2 c2, .slice a3 n3 c3, .slice a4 n4 c4] 27)).heap.size (w.alloc (.cells #[.int .i64 term, .int .i64 stamp, .int .i64 next, .slice a1 n1 c1, .slice a2 n2 c2, .slice a3 n3 c3, .slice a4 n4 c4] 27)) w' → Box w' w.heap.size (Raw.cells ⟨term, stamp, next, ⟨a1, n1, c1⟩, ⟨a2, n2, c2⟩, ⟨a3, n3, c3⟩, ⟨a4, n4, c4⟩⟩)) := fun w' hb => Box.of_alloc hb
  have HOK := Lib.hid hok
  clear hfs hg z1 z2 z3 z4 hok
  go_enter Try.func4, Try.ntmps4
  go_upto_region 5 with (first
      | (have hgq := HB5; clear hgq; refine wpList_store_box layLea rfl (.tmp 9) (.tmp 24) rfl ⟨i0, i1, i2, i3, i4, i5, i6⟩ rfl rfl rfl ?_; intro w6 hw6 ht6 hb6 hs6; have HM6 : Hid (Box w6 w5.heap.size (Lease.cells ⟨i0, i1, i2, i3, i4, i5, i6⟩)) := ⟨hw6, ht6⟩; have HX6 := Lib.hid (HX5.out.next (show 0 < 7 by decide) hb6); have HL6 := Lib.hid (HL5.out.next (show 0 < 7 by decide) hb6); have HB6 := Lib.hid (below_on HB5.out hb6); clear hw6 ht6 hs6)
      | (go_at_call 15; ((with_reducible refine (HRF.out w4 HB4.out).mono ?_); rw [HFS.out]; rintro e w5 ⟨rfl, hb5⟩; have HX5 := Lib.hid (HX4.out.next (show 0 < 7 by decide) hb5); have HL5 := Lib.hid (HL4.out.next (show 0 < 7 by decide) hb5); have HB5 := Lib.hid (below_on HB4.out hb5)))
      | (refine wpList_load_as laySt rfl (.tmp 3) rfl w.heap.size 0 rfl ⟨term, stamp, next, ⟨a1, n1, c1⟩, ⟨a2, n2, c2⟩, ⟨a3, n3, c3⟩, ⟨a4, n4, c4⟩⟩ (.agg #[.int .i64 term, .int .i64 stamp, .int .i64 next, .slice a1 n1 c1, .slice a2 n2 c2, .slice a3 n3 c3, .slice a4 n4 c4]) rfl HX4.out.range ?_)
      | (have hgq := HB3; clear hgq; refine wpList_store_box layLea rfl (.tmp 7) (.tmp 18) rfl ⟨i0, i1, i2, i3, i4, i5, i6⟩ rfl rfl rfl ?_; intro w4 hw4 ht4 hb4 hs4; have HL4 : Hid (Box w4 w3.heap.size (Lease.cells ⟨i0, i1, i2, i3, i4, i5, i6⟩)) := ⟨hw4, ht4⟩; have HX4 := Lib.hid (HX3.out.next (show 0 < 7 by decide) hb4); have HB4 := Lib.hid (below_on HB3.out hb4); clear hw4 ht4 hs4)
      | (go_at_call 14; ((with_reducible refine (HFI.out w2 HB2.out).mono ?_); rw [HFS.out]; rintro e w3 ⟨rfl, hb3⟩; have HX3 := Lib.hid (HX2.out.next (show 0 < 7 by decide) hb3); have HB3 := Lib.hid (below_on HB2.out hb3)))
      | (refine wpList_load_as laySt rfl (.tmp 3) rfl w.heap.size 0 rfl ⟨term, stamp, next, ⟨a1, n1, c1⟩, ⟨a2, n2, c2⟩, ⟨a3, n3, c3⟩, ⟨a4, n4, c4⟩⟩ (.agg #[.int .i64 term, .int .i64 stamp, .int .i64 next, .slice a1 n1 c1, .slice a2 n2 c2, .slice a3 n3 c3, .slice a4 n4 c4]) rfl HX2.out.range ?_)
      | (go_at_call 9; ((with_reducible refine (HG.out _ (by repeat' (first | (with_reducible exact Below.refl _ _) | (with_reducible assumption) | (with_reducible refine Below.drew ?_) | (with_reducible refine Below.more ?_ _) | (with_reducible refine Below.put ?_ ?_ _) | (with_reducible refine Below.next ?_ (by with_reducible assumption)) | (with_reducible exact Nat.le_refl _) | (with_reducible refine Below.size' ?_) | omega))).mono ?_); rw [HGG.out]; rintro e w2 ⟨rfl, hb2⟩; have HX2 := Lib.hid (HBX.out w2 (by repeat' (first | (with_reducible exact Below.refl _ _) | (with_reducible assumption) | (with_reducible refine Below.drew ?_) | (with_reducible refine Below.more ?_ _) | (with_reducible refine Below.put ?_ ?_ _) | (with_reducible refine Below.next ?_ (by with_reducible assumption)) | (with_reducible exact Nat.le_refl _) | (with_reducible refine Below.size' ?_) | omega))); have hb2' : Below w.heap.size w w2 := (by repeat' (first | (with_reducible exact Below.refl _ _) | (with_reducible assumption) | (with_reducible refine Below.drew ?_) | (with_reducible refine Below.more ?_ _) | (with_reducible refine Below.put ?_ ?_ _) | (with_reducible refine Below.next ?_ (by with_reducible assumption)) | (with_reducible exact Nat.le_refl _) | (with_reducible refine Below.size' ?_) | omega)); have HB2 := Lib.hid hb2'; clear hb2'))
      | (refine wpList_load_as laySt rfl (.tmp 3) rfl w.heap.size 0 rfl ⟨term, stamp, next, ⟨a1, n1, c1⟩, ⟨a2, n2, c2⟩, ⟨a3, n3, c3⟩, ⟨a4, n4, c4⟩⟩ (.agg #[.int .i64 term, .int .i64 stamp, .int .i64 next, .slice a1 n1 c1, .slice a2 n2 c2, .slice a3 n3 c3, .slice a4 n4 c4]) rfl (HBX.out _ (by repeat' (first | (with_reducible exact Below.refl _ _) | (with_reducible assumption) | (with_reducible refine Below.drew ?_) | (with_reducible refine Below.more ?_ _) | (with_reducible refine Below.put ?_ ?_ _) | (with_reducible refine Below.next ?_ (by with_reducible assumption)) | (with_reducible exact Nat.le_refl _) | (with_reducible refine Below.size' ?_) | omega))).range ?_))
  have HK5 : Hid (∀ w', Box w' w.heap.size (Raw.cells ⟨term, stamp, next, ⟨a1, n1, c1⟩, ⟨a2, n2, c2⟩, ⟨a3, n3, c3⟩, ⟨a4, n4, c4⟩⟩) → (w'.cell? ⟨w.heap.size, 0, none⟩ = some (.int .i64 term) ∧ w'.cell? ⟨w.heap.size, 1, none⟩ = some (.int .i64 stamp) ∧ w'.cell? ⟨w.heap.size, 2, none⟩ = some (.int .i64 next) ∧ w'.cell? ⟨w.heap.size, 3, none⟩ = some (.slice a1 n1 c1) ∧ w'.cell? ⟨w.heap.size, 4, none⟩ = some (.slice a2 n2 c2) ∧ w'.cell? ⟨w.heap.size, 5, none⟩ = some (.slice a3 n3 c3) ∧ w'.cell? ⟨w.heap.size, 6, none⟩ = some (.slice a4 n4 c4))) := fun w' b => ⟨b.cell (j := 0) rfl, b.cell (j := 1) rfl, b.cell (j := 2) rfl, b.cell (j := 3) rfl, b.cell (j := 4) rfl, b.cell (j := 5) rfl, b.cell (j := 6) rfl⟩
  have HK7 : Hid (∀ w', Box w' w.heap.size (Raw.cells ⟨term, stamp, next, ⟨a1, n1, c1⟩, ⟨a2, n2, c2⟩, ⟨a3, n3, c3⟩, ⟨a4, n4, c4⟩⟩) → Box w' w3.heap.size (Lease.cells ⟨i0, i1, i2, i3, i4, i5, i6⟩) → Box w' w5.heap.size (Lease.cells ⟨i0, i1, i2, i3, i4, i5, i6⟩) → (w'.cell? ⟨w.heap.size, 0, none⟩ = some (.int .i64 term) ∧ w'.cell? ⟨w.heap.size, 1, none⟩ = some (.int .i64 stamp) ∧ w'.cell? ⟨w.heap.size, 2, none⟩ = some (.int .i64 next) ∧ w'.cell? ⟨w.heap.size, 3, none⟩ = some (.slice a1 n1 c1) ∧ w'.cell? ⟨w.heap.size, 4, none⟩ = some (.slice a2 n2 c2) ∧ w'.cell? ⟨w.heap.size, 5, none⟩ = some (.slice a3 n3 c3) ∧ w'.cell? ⟨w.heap.size, 6, none⟩ = some (.slice a4 n4 c4) ∧ w'.cell? ⟨w3.heap.size, 0, none⟩ = some (.int .i64 i0) ∧ w'.cell? ⟨w3.heap.size, 1, none⟩ = some (.int .i64 i1) ∧ w'.cell? ⟨w3.heap.size, 2, none⟩ = some (.int .i64 i2) ∧ w'.cell? ⟨w3.heap.size, 3, none⟩ = some (.int .i64 i3) ∧ w'.cell? ⟨w3.heap.size, 4, none⟩ = some (.int .i64 i4) ∧ w'.cell? ⟨w3.heap.size, 5, none⟩ = some (.int .i64 i5) ∧ w'.cell? ⟨w3.heap.size, 6, none⟩ = some (.int .i64 i6) ∧ w'.cell? ⟨w5.heap.size, 0, none⟩ = some (.int .i64 i0) ∧ w'.cell? ⟨w5.heap.size, 1, none⟩ = some (.int .i64 i1) ∧ w'.cell? ⟨w5.heap.size, 2, none⟩ = some (.int .i64 i2) ∧ w'.cell? ⟨w5.heap.size, 3, none⟩ = some (.int .i64 i3) ∧ w'.cell? ⟨w5.heap.size, 4, none⟩ = some (.int .i64 i4) ∧ w'.cell? ⟨w5.heap.size, 5, none⟩ = some (.int .i64 i5) ∧ w'.cell? ⟨w5.heap.size, 6, none⟩ = some (.int .i64 i6))) := fun w' b l m => ⟨b.cell (j := 0) rfl, b.cell (j := 1) rfl, b.cell (j := 2) rfl, b.cell (j := 3) rfl, b.cell (j := 4) rfl, b.cell (j := 5) rfl, b.cell (j := 6) rfl, l.cell (j := 0) rfl, l.cell (j := 1) rfl, l.cell (j := 2) rfl, l.cell (j := 3) rfl, l.cell (j := 4) rfl, l.cell (j := 5) rfl, l.cell (j := 6) rfl, m.cell (j := 0) rfl, m.cell (j := 1) rfl, m.cell (j := 2) rfl, m.cell (j := 3) rfl, m.cell (j := 4) rfl, m.cell (j := 5) rfl, m.cell (j := 6) rfl⟩
  refine wp_region_held_drew (S := (fun w' => (w'.cell? ⟨w.heap.size, 0, none⟩ = some (.int .i64 term) ∧ w'.cell? ⟨w.heap.size, 1, none⟩ = some (.int .i64 stamp) ∧ w'.cell? ⟨w.heap.size, 2, none⟩ = some (.int .i64 next) ∧ w'.cell? ⟨w.heap.size, 3, none⟩ = some (.slice a1 n1 c1) ∧ w'.cell? ⟨w.heap.size, 4, none⟩ = some (.slice a2 n2 c2) ∧ w'.cell? ⟨w.heap.size, 5, none⟩ = some (.slice a3 n3 c3) ∧ w'.cell? ⟨w.heap.size, 6, none⟩ = some (.slice a4 n4 c4)))) (by kernel_rfl) (HK5.out _ HX6.out.drew) (fun hHeld => ?_)
  refine wpAnyH_take (i := 0) (oi := _) (v := ?v0_25) rfl (by kernel_rfl) (by kernel_rfl) (by kernel_rfl) (fun _ _ _ h => h) (Or.inl ⟨by rfl, ?hy0_25⟩) (by assumption) ?rest0_25
  case hy0_25 =>
    intro w hSw
    (try dsimp only at hSw)
    go_simp
    rfl
  case' rest0_25 => try simp only [Act.put, List.setIfInBounds_toArray, List.set_cons_zero, List.set_cons_succ, List.getElem_toArray, List.getElem_cons_zero, List.getElem_cons_succ]
  refine wpAnyH_ready (rs := [1]) (by kernel_rfl) (by simp) ?_
  refine AllReadyH.cons (o := _) rfl (fun K hK => ?_) AllReadyH.nil
  go_simp
  go_at_call 16
  with_reducible refine (HRC.out w6.drew HB6.out.drew).mono ?_
  rw [HOK.out]
  rintro e w7 ⟨rfl, hb7a⟩
  have hb7 : Below w6.heap.size w6 w7 := ⟨hb7a.os, hb7a.tape, hb7a.output, hb7a.size, hb7a.block⟩
  clear hb7a
  have HB7 := Lib.hid (below_on HB6.out hb7)
  have HX7 := Lib.hid (HX6.out.next (show 0 < 7 by decide) hb7)
  have HL7 := Lib.hid (HL6.out.next (show 0 < 7 by decide) hb7)
  have HM7 := Lib.hid (HM6.out.next (show 0 < 7 by decide) hb7)
  clear hHeld
  refine hK.out _ _ (HK5.out _ HX7.out) (fun hHeld => ?_)
  clear hK K
  try simp only [Act.put, List.setIfInBounds_toArray, List.set_cons_zero, List.set_cons_succ, List.getElem_toArray, List.getElem_cons_zero, List.getElem_cons_succ]
  refine wpAnyH_take (i := 2) (oi := _) (v := ?v2_26) rfl (by kernel_rfl) (by kernel_rfl) (by kernel_rfl) (fun _ _ _ h => h) (Or.inl ⟨by rfl, ?hy2_26⟩) (by assumption) ?rest2_26
  case hy2_26 =>
    intro w hSw
    (try dsimp only at hSw)
    go_simp
    rfl
  case' rest2_26 => try simp only [Act.put, List.setIfInBounds_toArray, List.set_cons_zero, List.set_cons_succ, List.getElem_toArray, List.getElem_cons_zero, List.getElem_cons_succ]
  refine wpAnyH_skip 3 (some 29) (by kernel_rfl) (by kernel_rfl) (by kernel_rfl) (by kernel_rfl) (fun _ _ _ h => h) (by rfl) (by assumption) ?r3_27
  try simp only [Act.put, List.setIfInBounds_toArray, List.set_cons_zero, List.set_cons_succ, List.getElem_toArray, List.getElem_cons_zero, List.getElem_cons_succ]
  refine wpAnyH_skip 4 (some 30) (by kernel_rfl) (by kernel_rfl) (by kernel_rfl) (by kernel_rfl) (fun _ _ _ h => h) (by rfl) (by assumption) ?r4_28
  try simp only [Act.put, List.setIfInBounds_toArray, List.set_cons_zero, List.set_cons_succ, List.getElem_toArray, List.getElem_cons_zero, List.getElem_cons_succ]
  refine wpAnyH_skip 5 (some 31) (by kernel_rfl) (by kernel_rfl) (by kernel_rfl) (by kernel_rfl) (fun _ _ _ h => h) (by rfl) (by assumption) ?r5_29
  try simp only [Act.put, List.setIfInBounds_toArray, List.set_cons_zero, List.set_cons_succ, List.getElem_toArray, List.getElem_cons_zero, List.getElem_cons_succ]
  refine wpAnyH_skip 6 (some 32) (by kernel_rfl) (by kernel_rfl) (by kernel_rfl) (by kernel_rfl) (fun _ _ _ h => h) (by rfl) (by assumption) ?r6_30
  try simp only [Act.put, List.setIfInBounds_toArray, List.set_cons_zero, List.set_cons_succ, List.getElem_toArray, List.getElem_cons_zero, List.getElem_cons_succ]
  refine wpAnyH_skip 7 (some 33) (by kernel_rfl) (by kernel_rfl) (by kernel_rfl) (by kernel_rfl) (fun _ _ _ h => h) (by rfl) (by assumption) ?r7_31
  try simp only [Act.put, List.setIfInBounds_toArray, List.set_cons_zero, List.set_cons_succ, List.getElem_toArray, List.getElem_cons_zero, List.getElem_cons_succ]
  refine wpAnyH_skip 8 (some 34) (by kernel_rfl) (by kernel_rfl) (by kernel_rfl) (by kernel_rfl) (fun _ _ _ h => h) (by rfl) (by assumption) ?r8_32
  try simp only [Act.put, List.setIfInBounds_toArray, List.set_cons_zero, List.set_cons_succ, List.getElem_toArray, List.getElem_cons_zero, List.getElem_cons_succ]
  refine wpAnyH_skip 9 (some 35) (by kernel_rfl) (by kernel_rfl) (by kernel_rfl) (by kernel_rfl) (fun _ _ _ h => h) (by rfl) (by assumption) ?r9_33
  try simp only [Act.put, List.setIfInBounds_toArray, List.set_cons_zero, List.set_cons_succ, List.getElem_toArray, List.getElem_cons_zero, List.getElem_cons_succ]
  refine wpAnyH_take (i := 10) (oi := _) (v := ?v10_34) rfl (by kernel_rfl) (by kernel_rfl) (by kernel_rfl) (fun _ _ _ h => h) (Or.inl ⟨by rfl, ?hy10_34⟩) (by assumption) ?rest10_34
  case hy10_34 =>
    intro w hSw
    (try dsimp only at hSw)
    go_simp
    rfl
  case' rest10_34 => try simp only [Act.put, List.setIfInBounds_toArray, List.set_cons_zero, List.set_cons_succ, List.getElem_toArray, List.getElem_cons_zero, List.getElem_cons_succ]
  refine wpAnyH_done (by kernel_rfl) ?_ _
  clear hHeld
  go_upto_region 7 with (fail)
  refine wp_region_held_drew (S := (fun w' => (w'.cell? ⟨w.heap.size, 0, none⟩ = some (.int .i64 term) ∧ w'.cell? ⟨w.heap.size, 1, none⟩ = some (.int .i64 stamp) ∧ w'.cell? ⟨w.heap.size, 2, none⟩ = some (.int .i64 next) ∧ w'.cell? ⟨w.heap.size, 3, none⟩ = some (.slice a1 n1 c1) ∧ w'.cell? ⟨w.heap.size, 4, none⟩ = some (.slice a2 n2 c2) ∧ w'.cell? ⟨w.heap.size, 5, none⟩ = some (.slice a3 n3 c3) ∧ w'.cell? ⟨w.heap.size, 6, none⟩ = some (.slice a4 n4 c4) ∧ w'.cell? ⟨w3.heap.size, 0, none⟩ = some (.int .i64 i0) ∧ w'.cell? ⟨w3.heap.size, 1, none⟩ = some (.int .i64 i1) ∧ w'.cell? ⟨w3.heap.size, 2, none⟩ = some (.int .i64 i2) ∧ w'.cell? ⟨w3.heap.size, 3, none⟩ = some (.int .i64 i3) ∧ w'.cell? ⟨w3.heap.size, 4, none⟩ = some (.int .i64 i4) ∧ w'.cell? ⟨w3.heap.size, 5, none⟩ = some (.int .i64 i5) ∧ w'.cell? ⟨w3.heap.size, 6, none⟩ = some (.int .i64 i6) ∧ w'.cell? ⟨w5.heap.size, 0, none⟩ = some (.int .i64 i0) ∧ w'.cell? ⟨w5.heap.size, 1, none⟩ = some (.int .i64 i1) ∧ w'.cell? ⟨w5.heap.size, 2, none⟩ = some (.int .i64 i2) ∧ w'.cell? ⟨w5.heap.size, 3, none⟩ = some (.int .i64 i3) ∧ w'.cell? ⟨w5.heap.size, 4, none⟩ = some (.int .i64 i4) ∧ w'.cell? ⟨w5.heap.size, 5, none⟩ = some (.int .i64 i5) ∧ w'.cell? ⟨w5.heap.size, 6, none⟩ = some (.int .i64 i6)))) (by kernel_rfl) (HK7.out _ HX7.out.drew HL7.out.drew HM7.out.drew) (fun hHeld => ?_)
  refine wpAnyH_take (i := 0) (oi := _) (v := ?v0_35) rfl (by kernel_rfl) (by kernel_rfl) (by kernel_rfl) (fun _ _ _ h => h) (Or.inl ⟨by rfl, ?hy0_35⟩) (by assumption) ?rest0_35
  case hy0_35 =>
    intro w hSw
    (try dsimp only at hSw)
    go_simp
    rfl
  case' rest0_35 => try simp only [Act.put, List.setIfInBounds_toArray, List.set_cons_zero, List.set_cons_succ, List.getElem_toArray, List.getElem_cons_zero, List.getElem_cons_succ]
  refine wpAnyH_take (i := 2) (oi := _) (v := ?v2_36) rfl (by kernel_rfl) (by kernel_rfl) (by kernel_rfl) (fun _ _ _ h => h) (Or.inl ⟨by rfl, ?hy2_36⟩) (by assumption) ?rest2_36
  case hy2_36 =>
    intro w hSw
    (try dsimp only at hSw)
    go_simp
    rfl
  case' rest2_36 => try simp only [Act.put, List.setIfInBounds_toArray, List.set_cons_zero, List.set_cons_succ, List.getElem_toArray, List.getElem_cons_zero, List.getElem_cons_succ]
  refine wpAnyH_ready (rs := [1]) (by kernel_rfl) (by simp) ?_
  refine AllReadyH.cons (o := _) rfl (fun K hK => ?_) AllReadyH.nil
  go_simp
  go_at_call 19
  with_reducible refine (HCK.out w7.drew HB7.out.drew).mono ?_
  rw [HOK.out]
  rintro e w8 ⟨rfl, hb8a⟩
  have hb8 : Below w7.heap.size w7 w8 := ⟨hb8a.os, hb8a.tape, hb8a.output, hb8a.size, hb8a.block⟩
  clear hb8a
  have HB8 := Lib.hid (below_on HB7.out hb8)
  have HX8 := Lib.hid (HX7.out.next (show 0 < 7 by decide) hb8)
  have HL8 := Lib.hid (HL7.out.next (show 0 < 7 by decide) hb8)
  have HM8 := Lib.hid (HM7.out.next (show 0 < 7 by decide) hb8)
  clear hHeld
  refine hK.out _ _ (HK7.out _ HX8.out HL8.out HM8.out) (fun hHeld => ?_)
  clear hK K
  try simp only [Act.put, List.setIfInBounds_toArray, List.set_cons_zero, List.set_cons_succ, List.getElem_toArray, List.getElem_cons_zero, List.getElem_cons_succ]
  refine wpAnyH_ready (rs := [3]) (by kernel_rfl) (by simp) ?_
  refine AllReadyH.cons (o := _) rfl (fun K hK => ?_) AllReadyH.nil
  go_simp
  go_at_call 16
  with_reducible refine (HRC.out w8 HB8.out).mono ?_
  rw [HOK.out]
  rintro e w9 ⟨rfl, hb9a⟩
  have hb9 : Below w8.heap.size w8 w9 := ⟨hb9a.os, hb9a.tape, hb9a.output, hb9a.size, hb9a.block⟩
  clear hb9a
  have HB9 := Lib.hid (below_on HB8.out hb9)
  have HX9 := Lib.hid (HX8.out.next (show 0 < 7 by decide) hb9)
  have HL9 := Lib.hid (HL8.out.next (show 0 < 7 by decide) hb9)
  have HM9 := Lib.hid (HM8.out.next (show 0 < 7 by decide) hb9)
  clear hHeld
  refine hK.out _ _ (HK7.out _ HX9.out HL9.out HM9.out) (fun hHeld => ?_)
  clear hK K
  try simp only [Act.put, List.setIfInBounds_toArray, List.set_cons_zero, List.set_cons_succ, List.getElem_toArray, List.getElem_cons_zero, List.getElem_cons_succ]
  refine wpAnyH_take (i := 4) (oi := _) (v := ?v4_37) rfl (by kernel_rfl) (by kernel_rfl) (by kernel_rfl) (fun _ _ _ h => h) (Or.inl ⟨by rfl, ?hy4_37⟩) (by assumption) ?rest4_37
  case hy4_37 =>
    intro w hSw
    (try dsimp only at hSw)
    go_simp
    rfl
  case' rest4_37 => try simp only [Act.put, List.setIfInBounds_toArray, List.set_cons_zero, List.set_cons_succ, List.getElem_toArray, List.getElem_cons_zero, List.getElem_cons_succ]
  refine wpAnyH_take (i := 5) (oi := _) (v := ?v5_38) rfl (by kernel_rfl) (by kernel_rfl) (by kernel_rfl) (fun _ _ _ h => h) (Or.inl ⟨by rfl, ?hy5_38⟩) (by assumption) ?rest5_38
  case hy5_38 =>
    intro w hSw
    (try dsimp only at hSw)
    go_simp
    rfl
  case' rest5_38 => try simp only [Act.put, List.setIfInBounds_toArray, List.set_cons_zero, List.set_cons_succ, List.getElem_toArray, List.getElem_cons_zero, List.getElem_cons_succ]
  refine wpAnyH_take (i := 6) (oi := _) (v := ?v6_39) rfl (by kernel_rfl) (by kernel_rfl) (by kernel_rfl) (fun _ _ _ h => h) (Or.inl ⟨by rfl, ?hy6_39⟩) (by assumption) ?rest6_39
  case hy6_39 =>
    intro w hSw
    (try dsimp only at hSw)
    go_simp
    rfl
  case' rest6_39 => try simp only [Act.put, List.setIfInBounds_toArray, List.set_cons_zero, List.set_cons_succ, List.getElem_toArray, List.getElem_cons_zero, List.getElem_cons_succ]
  refine wpAnyH_take (i := 7) (oi := _) (v := ?v7_40) rfl (by kernel_rfl) (by kernel_rfl) (by kernel_rfl) (fun _ _ _ h => h) (Or.inl ⟨by rfl, ?hy7_40⟩) (by assumption) ?rest7_40
  case hy7_40 =>
    intro w hSw
    (try dsimp only at hSw)
    go_simp
    rfl
  case' rest7_40 => try simp only [Act.put, List.setIfInBounds_toArray, List.set_cons_zero, List.set_cons_succ, List.getElem_toArray, List.getElem_cons_zero, List.getElem_cons_succ]
  refine wpAnyH_take (i := 8) (oi := _) (v := ?v8_41) rfl (by kernel_rfl) (by kernel_rfl) (by kernel_rfl) (fun _ _ _ h => h) (Or.inl ⟨by rfl, ?hy8_41⟩) (by assumption) ?rest8_41
  case hy8_41 =>
    intro w hSw
    (try dsimp only at hSw)
    go_simp
    rfl
  case' rest8_41 => try simp only [Act.put, List.setIfInBounds_toArray, List.set_cons_zero, List.set_cons_succ, List.getElem_toArray, List.getElem_cons_zero, List.getElem_cons_succ]
  refine wpAnyH_take (i := 9) (oi := _) (v := ?v9_42) rfl (by kernel_rfl) (by kernel_rfl) (by kernel_rfl) (fun _ _ _ h => h) (Or.inl ⟨by rfl, ?hy9_42⟩) (by assumption) ?rest9_42
  case hy9_42 =>
    intro w hSw
    (try dsimp only at hSw)
    go_simp
    rfl
  case' rest9_42 => try simp only [Act.put, List.setIfInBounds_toArray, List.set_cons_zero, List.set_cons_succ, List.getElem_toArray, List.getElem_cons_zero, List.getElem_cons_succ]
  refine wpAnyH_take (i := 10) (oi := _) (v := ?v10_43) rfl (by kernel_rfl) (by kernel_rfl) (by kernel_rfl) (fun _ _ _ h => h) (Or.inl ⟨by rfl, ?hy10_43⟩) (by assumption) ?rest10_43
  case hy10_43 =>
    intro w hSw
    (try dsimp only at hSw)
    go_simp
    rfl
  case' rest10_43 => try simp only [Act.put, List.setIfInBounds_toArray, List.set_cons_zero, List.set_cons_succ, List.getElem_toArray, List.getElem_cons_zero, List.getElem_cons_succ]
  refine wpAnyH_take (i := 11) (oi := _) (v := ?v11_44) rfl (by kernel_rfl) (by kernel_rfl) (by kernel_rfl) (fun _ _ _ h => h) (Or.inl ⟨by rfl, ?hy11_44⟩) (by assumption) ?rest11_44
  case hy11_44 =>
    intro w hSw
    (try dsimp only at hSw)
    go_simp
    rfl
  case' rest11_44 => try simp only [Act.put, List.setIfInBounds_toArray, List.set_cons_zero, List.set_cons_succ, List.getElem_toArray, List.getElem_cons_zero, List.getElem_cons_succ]
  refine wpAnyH_take (i := 12) (oi := _) (v := ?v12_45) rfl (by kernel_rfl) (by kernel_rfl) (by kernel_rfl) (fun _ _ _ h => h) (Or.inl ⟨by rfl, ?hy12_45⟩) (by assumption) ?rest12_45
  case hy12_45 =>
    intro w hSw
    (try dsimp only at hSw)
    go_simp
    rfl
  case' rest12_45 => try simp only [Act.put, List.setIfInBounds_toArray, List.set_cons_zero, List.set_cons_succ, List.getElem_toArray, List.getElem_cons_zero, List.getElem_cons_succ]
  refine wpAnyH_take (i := 13) (oi := _) (v := ?v13_46) rfl (by kernel_rfl) (by kernel_rfl) (by kernel_rfl) (fun _ _ _ h => h) (Or.inl ⟨by rfl, ?hy13_46⟩) (by assumption) ?rest13_46
  case hy13_46 =>
    intro w hSw
    (try dsimp only at hSw)
    go_simp
    rfl
  case' rest13_46 => try simp only [Act.put, List.setIfInBounds_toArray, List.set_cons_zero, List.set_cons_succ, List.getElem_toArray, List.getElem_cons_zero, List.getElem_cons_succ]
  refine wpAnyH_take (i := 14) (oi := _) (v := ?v14_47) rfl (by kernel_rfl) (by kernel_rfl) (by kernel_rfl) (fun _ _ _ h => h) (Or.inl ⟨by rfl, ?hy14_47⟩) (by assumption) ?rest14_47
  case hy14_47 =>
    intro w hSw
    (try dsimp only at hSw)
    go_simp
    rfl
  case' rest14_47 => try simp only [Act.put, List.setIfInBounds_toArray, List.set_cons_zero, List.set_cons_succ, List.getElem_toArray, List.getElem_cons_zero, List.getElem_cons_succ]
  refine wpAnyH_take (i := 15) (oi := _) (v := ?v15_48) rfl (by kernel_rfl) (by kernel_rfl) (by kernel_rfl) (fun _ _ _ h => h) (Or.inl ⟨by rfl, ?hy15_48⟩) (by assumption) ?rest15_48
  case hy15_48 =>
    intro w hSw
    (try dsimp only at hSw)
    go_simp
    rfl
  case' rest15_48 => try simp only [Act.put, List.setIfInBounds_toArray, List.set_cons_zero, List.set_cons_succ, List.getElem_toArray, List.getElem_cons_zero, List.getElem_cons_succ]
  refine wpAnyH_ready (rs := [16]) (by kernel_rfl) (by simp) ?_
  refine AllReadyH.cons (o := _) rfl (fun K hK => ?_) AllReadyH.nil
  go_simp
  go_at_call 10
  with_reducible refine (wakes_true _).mono ?_
  rintro e w10 ⟨rfl, hb10a⟩
  have hb10 : Below w9.heap.size w9 w10 := ⟨hb10a.os, hb10a.tape, hb10a.output, hb10a.size, hb10a.block⟩
  clear hb10a
  have HB10 := Lib.hid (below_on HB9.out hb10)
  have HX10 := Lib.hid (HX9.out.next (show 0 < 7 by decide) hb10)
  have HL10 := Lib.hid (HL9.out.next (show 0 < 7 by decide) hb10)
  have HM10 := Lib.hid (HM9.out.next (show 0 < 7 by decide) hb10)
  clear hHeld
  refine hK.out _ _ (HK7.out _ HX10.out HL10.out HM10.out) (fun hHeld => ?_)
  clear hK K
  try simp only [Act.put, List.setIfInBounds_toArray, List.set_cons_zero, List.set_cons_succ, List.getElem_toArray, List.getElem_cons_zero, List.getElem_cons_succ]
  refine wpAnyH_take (i := 17) (oi := _) (v := ?v17_49) rfl (by kernel_rfl) (by kernel_rfl) (by kernel_rfl) (fun _ _ _ h => h) (Or.inl ⟨by rfl, ?hy17_49⟩) (by assumption) ?rest17_49
  case hy17_49 =>
    intro w hSw
    (try dsimp only at hSw)
    go_simp
    rfl
  case' rest17_49 => try simp only [Act.put, List.setIfInBounds_toArray, List.set_cons_zero, List.set_cons_succ, List.getElem_toArray, List.getElem_cons_zero, List.getElem_cons_succ]
  refine wpAnyH_take (i := 18) (oi := _) (v := ?v18_50) rfl (by kernel_rfl) (by kernel_rfl) (by kernel_rfl) (fun _ _ _ h => h) (Or.inl ⟨by rfl, ?hy18_50⟩) (by assumption) ?rest18_50
  case hy18_50 =>
    intro w hSw
    (try dsimp only at hSw)
    go_simp
    rfl
  case' rest18_50 => try simp only [Act.put, List.setIfInBounds_toArray, List.set_cons_zero, List.set_cons_succ, List.getElem_toArray, List.getElem_cons_zero, List.getElem_cons_succ]
  refine wpAnyH_done (by kernel_rfl) ?_ _
  clear hHeld
  go_wp2_with fail
  go_returns
  exact ⟨rfl, HB10.out⟩
end Go.Proofs.Ytoofmofaimdhpaa
