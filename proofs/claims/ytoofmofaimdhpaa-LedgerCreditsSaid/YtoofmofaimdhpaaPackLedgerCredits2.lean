import Derived.Test.YtoofmofaimdhpaaLedWakes
import Derived.Test.YtoofmofaimdhpaaPackLedgerCredits1
import Derived.Test.YtoofmofaimdhpaaLedCredit
import Derived.Test.YtoofmofaimdhpaaRefCreditSt
import Derived.Test.YtoofmofaimdhpaaRefCred
import Derived.Deep.Cut
import Derived.Deep.RegionHeld3
import Derived.StillTailTactics
set_option linter.unusedVariables false
set_option linter.unusedSimpArgs false
/- LedgerCredits of a state that is too great: the walk. -/
namespace Go.Proofs.Ytoofmofaimdhpaa
open Go.ChangeShapes Go.WideShapes Go.ChangeAt Go.RowKit
set_option maxRecDepth 100000

set_option maxHeartbeats 16000000 in
theorem lcredits_great (s : St) (r : Raw) (ti : Int) (w : World) (h : StAt w 0 r s) (hg : greatB s = true) :
    Calls Try.prog 5 #[r.agg, .int .i64 ti] w fun e w' => e = .returned (.bool true) ∧ Below w.heap.size w w' := by
  have HG := Lib.hid (fun w' (hb : Below w.heap.size w w') => great_st s r 0 w' (h.below hb))
  have HGG := Lib.hid hg
  obtain ⟨term, stamp, next, ⟨a1, n1, c1⟩, ⟨a2, n2, c2⟩, ⟨a3, n3, c3⟩, ⟨a4, n4, c4⟩⟩ := r
  clear h hg
  go_enter Try.func5, Try.ntmps5
  go_upto_region 1 with (fail)
  obtain ⟨w1, hw1⟩ : ∃ x, x = w.alloc (.cells #[.int .i64 term, .int .i64 stamp, .int .i64 next, .slice a1 n1 c1, .slice a2 n2 c2, .slice a3 n3 c3, .slice a4 n4 c4] 27) := ⟨_, rfl⟩
  rw [← hw1]
  have HX1 : Hid (Box w1 w.heap.size (Raw.cells ⟨term, stamp, next, ⟨a1, n1, c1⟩, ⟨a2, n2, c2⟩, ⟨a3, n3, c3⟩, ⟨a4, n4, c4⟩⟩)) := by show Box _ _ _; rw [hw1]; exact Box.of_alloc (Below.refl _ _)
  have HB1 : Hid (Below w.heap.size w w1) := by show Below _ _ _; rw [hw1]; exact mid_alloc' (Below.refl _ _)
  clear hw1
  have HK : Hid (∀ w', Box w' w.heap.size (Raw.cells ⟨term, stamp, next, ⟨a1, n1, c1⟩, ⟨a2, n2, c2⟩, ⟨a3, n3, c3⟩, ⟨a4, n4, c4⟩⟩) → (w'.cell? ⟨w.heap.size, 0, none⟩ = some (.int .i64 term) ∧ w'.cell? ⟨w.heap.size, 1, none⟩ = some (.int .i64 stamp) ∧ w'.cell? ⟨w.heap.size, 2, none⟩ = some (.int .i64 next) ∧ w'.cell? ⟨w.heap.size, 3, none⟩ = some (.slice a1 n1 c1) ∧ w'.cell? ⟨w.heap.size, 4, none⟩ = some (.slice a2 n2 c2) ∧ w'.cell? ⟨w.heap.size, 5, none⟩ = some (.slice a3 n3 c3) ∧ w'.cell? ⟨w.heap.size, 6, none⟩ = some (.slice a4 n4 c4))) := fun w' b => ⟨b.cell (j := 0) rfl, b.cell (j := 1) rfl, b.cell (j := 2) rfl, b.cell (j := 3) rfl, b.cell (j := 4) rfl, b.cell (j := 5) rfl, b.cell (j := 6) rfl⟩
  refine wp_region_held_drew (S := (fun w' => (w'.cell? ⟨w.heap.size, 0, none⟩ = some (.int .i64 term) ∧ w'.cell? ⟨w.heap.size, 1, none⟩ = some (.int .i64 stamp) ∧ w'.cell? ⟨w.heap.size, 2, none⟩ = some (.int .i64 next) ∧ w'.cell? ⟨w.heap.size, 3, none⟩ = some (.slice a1 n1 c1) ∧ w'.cell? ⟨w.heap.size, 4, none⟩ = some (.slice a2 n2 c2) ∧ w'.cell? ⟨w.heap.size, 5, none⟩ = some (.slice a3 n3 c3) ∧ w'.cell? ⟨w.heap.size, 6, none⟩ = some (.slice a4 n4 c4)))) (by kernel_rfl) (HK.out _ HX1.out.drew) (fun hHeld => ?_)
  refine wpAnyH_take (i := 0) (oi := _) (v := ?v0_51) rfl (by kernel_rfl) (by kernel_rfl) (by kernel_rfl) (fun _ _ _ h => h) (Or.inl ⟨by rfl, ?hy0_51⟩) (by assumption) ?rest0_51
  case hy0_51 =>
    intro w hSw
    (try dsimp only at hSw)
    go_simp
    rfl
  case' rest0_51 => try simp only [Act.put, List.setIfInBounds_toArray, List.set_cons_zero, List.set_cons_succ, List.getElem_toArray, List.getElem_cons_zero, List.getElem_cons_succ]
  refine wpAnyH_ready (rs := [1]) (by kernel_rfl) (by simp) ?_
  refine AllReadyH.cons (o := _) rfl (fun K hK => ?_) AllReadyH.nil
  go_simp
  go_at_call 9
  with_reducible refine (HG.out w1.drew HB1.out.drew).mono ?_
  rw [HGG.out]
  rintro e w2 ⟨rfl, hb2a⟩
  have hb2 : Below w1.heap.size w1 w2 := ⟨hb2a.os, hb2a.tape, hb2a.output, hb2a.size, hb2a.block⟩
  clear hb2a
  have HB2 := Lib.hid (below_on HB1.out hb2)
  have HX2 := Lib.hid (HX1.out.next (show 0 < 7 by decide) hb2)
  clear hHeld
  refine hK.out _ _ (HK.out _ HX2.out) (fun hHeld => ?_)
  clear hK K
  try simp only [Act.put, List.setIfInBounds_toArray, List.set_cons_zero, List.set_cons_succ, List.getElem_toArray, List.getElem_cons_zero, List.getElem_cons_succ]
  refine wpAnyH_take (i := 2) (oi := _) (v := ?v2_52) rfl (by kernel_rfl) (by kernel_rfl) (by kernel_rfl) (fun _ _ _ h => h) (Or.inl ⟨by rfl, ?hy2_52⟩) (by assumption) ?rest2_52
  case hy2_52 =>
    intro w hSw
    (try dsimp only at hSw)
    go_simp
    rfl
  case' rest2_52 => try simp only [Act.put, List.setIfInBounds_toArray, List.set_cons_zero, List.set_cons_succ, List.getElem_toArray, List.getElem_cons_zero, List.getElem_cons_succ]
  refine wpAnyH_ready (rs := [3]) (by kernel_rfl) (by simp) ?_
  refine AllReadyH.cons (o := _) rfl (fun K hK => ?_) AllReadyH.nil
  go_simp
  go_at_call 10
  with_reducible refine (wakes_true _).mono ?_
  rintro e w3 ⟨rfl, hb3a⟩
  have hb3 : Below w2.heap.size w2 w3 := ⟨hb3a.os, hb3a.tape, hb3a.output, hb3a.size, hb3a.block⟩
  clear hb3a
  have HB3 := Lib.hid (below_on HB2.out hb3)
  have HX3 := Lib.hid (HX2.out.next (show 0 < 7 by decide) hb3)
  clear hHeld
  refine hK.out _ _ (HK.out _ HX3.out) (fun hHeld => ?_)
  clear hK K
  try simp only [Act.put, List.setIfInBounds_toArray, List.set_cons_zero, List.set_cons_succ, List.getElem_toArray, List.getElem_cons_zero, List.getElem_cons_succ]
  refine wpAnyH_take (i := 4) (oi := _) (v := ?v4_53) rfl (by kernel_rfl) (by kernel_rfl) (by kernel_rfl) (fun _ _ _ h => h) (Or.inl ⟨by rfl, ?hy4_53⟩) (by assumption) ?rest4_53
  case hy4_53 =>
    intro w hSw
    (try dsimp only at hSw)
    go_simp
    rfl
  case' rest4_53 => try simp only [Act.put, List.setIfInBounds_toArray, List.set_cons_zero, List.set_cons_succ, List.getElem_toArray, List.getElem_cons_zero, List.getElem_cons_succ]
  refine wpAnyH_take (i := 5) (oi := _) (v := ?v5_54) rfl (by kernel_rfl) (by kernel_rfl) (by kernel_rfl) (fun _ _ _ h => h) (Or.inl ⟨by rfl, ?hy5_54⟩) (by assumption) ?rest5_54
  case hy5_54 =>
    intro w hSw
    (try dsimp only at hSw)
    go_simp
    rfl
  case' rest5_54 => try simp only [Act.put, List.setIfInBounds_toArray, List.set_cons_zero, List.set_cons_succ, List.getElem_toArray, List.getElem_cons_zero, List.getElem_cons_succ]
  refine wpAnyH_skip 6 (some 11) (by kernel_rfl) (by kernel_rfl) (by kernel_rfl) (by kernel_rfl) (fun _ _ _ h => h) (by rfl) (by assumption) ?r6_55
  try simp only [Act.put, List.setIfInBounds_toArray, List.set_cons_zero, List.set_cons_succ, List.getElem_toArray, List.getElem_cons_zero, List.getElem_cons_succ]
  refine wpAnyH_skip 7 (some 12) (by kernel_rfl) (by kernel_rfl) (by kernel_rfl) (by kernel_rfl) (fun _ _ _ h => h) (by rfl) (by assumption) ?r7_56
  try simp only [Act.put, List.setIfInBounds_toArray, List.set_cons_zero, List.set_cons_succ, List.getElem_toArray, List.getElem_cons_zero, List.getElem_cons_succ]
  refine wpAnyH_skip 8 (some 13) (by kernel_rfl) (by kernel_rfl) (by kernel_rfl) (by kernel_rfl) (fun _ _ _ h => h) (by rfl) (by assumption) ?r8_57
  try simp only [Act.put, List.setIfInBounds_toArray, List.set_cons_zero, List.set_cons_succ, List.getElem_toArray, List.getElem_cons_zero, List.getElem_cons_succ]
  refine wpAnyH_skip 9 (some 14) (by kernel_rfl) (by kernel_rfl) (by kernel_rfl) (by kernel_rfl) (fun _ _ _ h => h) (by rfl) (by assumption) ?r9_58
  try simp only [Act.put, List.setIfInBounds_toArray, List.set_cons_zero, List.set_cons_succ, List.getElem_toArray, List.getElem_cons_zero, List.getElem_cons_succ]
  refine wpAnyH_skip 10 (some 15) (by kernel_rfl) (by kernel_rfl) (by kernel_rfl) (by kernel_rfl) (fun _ _ _ h => h) (by rfl) (by assumption) ?r10_59
  try simp only [Act.put, List.setIfInBounds_toArray, List.set_cons_zero, List.set_cons_succ, List.getElem_toArray, List.getElem_cons_zero, List.getElem_cons_succ]
  refine wpAnyH_skip 11 (some 16) (by kernel_rfl) (by kernel_rfl) (by kernel_rfl) (by kernel_rfl) (fun _ _ _ h => h) (by rfl) (by assumption) ?r11_60
  try simp only [Act.put, List.setIfInBounds_toArray, List.set_cons_zero, List.set_cons_succ, List.getElem_toArray, List.getElem_cons_zero, List.getElem_cons_succ]
  refine wpAnyH_skip 12 (some 17) (by kernel_rfl) (by kernel_rfl) (by kernel_rfl) (by kernel_rfl) (fun _ _ _ h => h) (by rfl) (by assumption) ?r12_61
  try simp only [Act.put, List.setIfInBounds_toArray, List.set_cons_zero, List.set_cons_succ, List.getElem_toArray, List.getElem_cons_zero, List.getElem_cons_succ]
  refine wpAnyH_skip 13 (some 18) (by kernel_rfl) (by kernel_rfl) (by kernel_rfl) (by kernel_rfl) (fun _ _ _ h => h) (by rfl) (by assumption) ?r13_62
  try simp only [Act.put, List.setIfInBounds_toArray, List.set_cons_zero, List.set_cons_succ, List.getElem_toArray, List.getElem_cons_zero, List.getElem_cons_succ]
  refine wpAnyH_skip 14 (some 19) (by kernel_rfl) (by kernel_rfl) (by kernel_rfl) (by kernel_rfl) (fun _ _ _ h => h) (by rfl) (by assumption) ?r14_63
  try simp only [Act.put, List.setIfInBounds_toArray, List.set_cons_zero, List.set_cons_succ, List.getElem_toArray, List.getElem_cons_zero, List.getElem_cons_succ]
  refine wpAnyH_skip 15 (some 20) (by kernel_rfl) (by kernel_rfl) (by kernel_rfl) (by kernel_rfl) (fun _ _ _ h => h) (by rfl) (by assumption) ?r15_64
  try simp only [Act.put, List.setIfInBounds_toArray, List.set_cons_zero, List.set_cons_succ, List.getElem_toArray, List.getElem_cons_zero, List.getElem_cons_succ]
  refine wpAnyH_skip 16 (some 21) (by kernel_rfl) (by kernel_rfl) (by kernel_rfl) (by kernel_rfl) (fun _ _ _ h => h) (by rfl) (by assumption) ?r16_65
  try simp only [Act.put, List.setIfInBounds_toArray, List.set_cons_zero, List.set_cons_succ, List.getElem_toArray, List.getElem_cons_zero, List.getElem_cons_succ]
  refine wpAnyH_skip 17 (some 22) (by kernel_rfl) (by kernel_rfl) (by kernel_rfl) (by kernel_rfl) (fun _ _ _ h => h) (by rfl) (by assumption) ?r17_66
  try simp only [Act.put, List.setIfInBounds_toArray, List.set_cons_zero, List.set_cons_succ, List.getElem_toArray, List.getElem_cons_zero, List.getElem_cons_succ]
  refine wpAnyH_skip 18 (some 23) (by kernel_rfl) (by kernel_rfl) (by kernel_rfl) (by kernel_rfl) (fun _ _ _ h => h) (by rfl) (by assumption) ?r18_67
  try simp only [Act.put, List.setIfInBounds_toArray, List.set_cons_zero, List.set_cons_succ, List.getElem_toArray, List.getElem_cons_zero, List.getElem_cons_succ]
  refine wpAnyH_skip 19 (some 24) (by kernel_rfl) (by kernel_rfl) (by kernel_rfl) (by kernel_rfl) (fun _ _ _ h => h) (by rfl) (by assumption) ?r19_68
  try simp only [Act.put, List.setIfInBounds_toArray, List.set_cons_zero, List.set_cons_succ, List.getElem_toArray, List.getElem_cons_zero, List.getElem_cons_succ]
  refine wpAnyH_skip 20 (some 25) (by kernel_rfl) (by kernel_rfl) (by kernel_rfl) (by kernel_rfl) (fun _ _ _ h => h) (by rfl) (by assumption) ?r20_69
  try simp only [Act.put, List.setIfInBounds_toArray, List.set_cons_zero, List.set_cons_succ, List.getElem_toArray, List.getElem_cons_zero, List.getElem_cons_succ]
  refine wpAnyH_take (i := 21) (oi := _) (v := ?v21_70) rfl (by kernel_rfl) (by kernel_rfl) (by kernel_rfl) (fun _ _ _ h => h) (Or.inl ⟨by rfl, ?hy21_70⟩) (by assumption) ?rest21_70
  case hy21_70 =>
    intro w hSw
    (try dsimp only at hSw)
    go_simp
    rfl
  case' rest21_70 => try simp only [Act.put, List.setIfInBounds_toArray, List.set_cons_zero, List.set_cons_succ, List.getElem_toArray, List.getElem_cons_zero, List.getElem_cons_succ]
  refine wpAnyH_take (i := 22) (oi := _) (v := ?v22_71) rfl (by kernel_rfl) (by kernel_rfl) (by kernel_rfl) (fun _ _ _ h => h) (Or.inl ⟨by rfl, ?hy22_71⟩) (by assumption) ?rest22_71
  case hy22_71 =>
    intro w hSw
    (try dsimp only at hSw)
    go_simp
    rfl
  case' rest22_71 => try simp only [Act.put, List.setIfInBounds_toArray, List.set_cons_zero, List.set_cons_succ, List.getElem_toArray, List.getElem_cons_zero, List.getElem_cons_succ]
  refine wpAnyH_done (by kernel_rfl) ?_ _
  clear hHeld
  go_wp2_with fail
  go_returns
  exact ⟨rfl, HB3.out⟩
end Go.Proofs.Ytoofmofaimdhpaa

/- LedgerCredits of a state that is not too great: the walk. -/
namespace Go.Proofs.Ytoofmofaimdhpaa
open Go.ChangeShapes Go.WideShapes Go.ChangeAt Go.RowKit
set_option maxRecDepth 100000

theorem creditS_len {s : St} {k : Int} (h1 : s.tens.length ≤ 60) : (creditS s k).tens.length ≤ 900 ∧ (creditS s k).leas = s.leas ∧ (creditS s k).sess = s.sess ∧ (creditS s k).dsks = s.dsks := by
  unfold creditS
  split
  · refine ⟨StAt.sweptLen (s := { s with tens := s.tens.map (credT s.leas k) }) ?_, rfl, rfl, rfl⟩
    show (s.tens.map (credT s.leas k)).length ≤ 900
    rw [List.length_map]; omega
  · exact ⟨by omega, rfl, rfl, rfl⟩
set_option maxHeartbeats 16000000 in
theorem lcredits_small (s : St) (r : Raw) (ti : Int) (w : World) (h : StAt w 0 r s) (hg : greatB s = false) :
    Calls Try.prog 5 #[r.agg, .int .i64 ti] w fun e w' => e = .returned (.bool true) ∧ Below w.heap.size w w' := by
  have hsz : s.tens.length ≤ 60 ∧ s.leas.length ≤ 100 ∧ s.sess.length ≤ 60 ∧ s.dsks.length ≤ 60 := by
    have := of_decide_eq_false hg
    omega
  obtain ⟨z1, z2, z3, z4⟩ := hsz
  have HG := Lib.hid (fun w' (hb : Below w.heap.size w w') => great_st s r 0 w' (h.below hb))
  have HGG := Lib.hid hg
  have HCR := Lib.hid (fun w' (hb : Below w.heap.size w w') => credit_st s r 0 ti w' (h.below hb) (by omega) (by omega) (by omega) (by omega))
  have HRC := Lib.hid (fun w' (hb : Below w.heap.size w w') => refcredit_st s r 0 ti w' (h.below hb) (by omega) (by omega) (by omega) (by omega))
  obtain ⟨y1, y2, y3, y4⟩ := creditS_len (k := ti) z1
  have HY := Lib.hid (And.intro y1 (And.intro (show (creditS s ti).leas.length ≤ 900 by rw [y2]; omega) (And.intro (show (creditS s ti).sess.length ≤ 900 by rw [y3]; omega) (show (creditS s ti).dsks.length ≤ 900 by rw [y4]; omega))))
  clear y1 y2 y3 y4 z1 z2 z3 z4
  obtain ⟨term, stamp, next, ⟨a1, n1, c1⟩, ⟨a2, n2, c2⟩, ⟨a3, n3, c3⟩, ⟨a4, n4, c4⟩⟩ := r
  clear h hg
  go_enter Try.func5, Try.ntmps5
  go_upto_region 1 with (fail)
  obtain ⟨w1, hw1⟩ : ∃ x, x = w.alloc (.cells #[.int .i64 term, .int .i64 stamp, .int .i64 next, .slice a1 n1 c1, .slice a2 n2 c2, .slice a3 n3 c3, .slice a4 n4 c4] 27) := ⟨_, rfl⟩
  rw [← hw1]
  have HX1 : Hid (Box w1 w.heap.size (Raw.cells ⟨term, stamp, next, ⟨a1, n1, c1⟩, ⟨a2, n2, c2⟩, ⟨a3, n3, c3⟩, ⟨a4, n4, c4⟩⟩)) := by show Box _ _ _; rw [hw1]; exact Box.of_alloc (Below.refl _ _)
  have HB1 : Hid (Below w.heap.size w w1) := by show Below _ _ _; rw [hw1]; exact mid_alloc' (Below.refl _ _)
  clear hw1
  have HK : Hid (∀ w', Box w' w.heap.size (Raw.cells ⟨term, stamp, next, ⟨a1, n1, c1⟩, ⟨a2, n2, c2⟩, ⟨a3, n3, c3⟩, ⟨a4, n4, c4⟩⟩) → (w'.cell? ⟨w.heap.size, 0, none⟩ = some (.int .i64 term) ∧ w'.cell? ⟨w.heap.size, 1, none⟩ = some (.int .i64 stamp) ∧ w'.cell? ⟨w.heap.size, 2, none⟩ = some (.int .i64 next) ∧ w'.cell? ⟨w.heap.size, 3, none⟩ = some (.slice a1 n1 c1) ∧ w'.cell? ⟨w.heap.size, 4, none⟩ = some (.slice a2 n2 c2) ∧ w'.cell? ⟨w.heap.size, 5, none⟩ = some (.slice a3 n3 c3) ∧ w'.cell? ⟨w.heap.size, 6, none⟩ = some (.slice a4 n4 c4))) := fun w' b => ⟨b.cell (j := 0) rfl, b.cell (j := 1) rfl, b.cell (j := 2) rfl, b.cell (j := 3) rfl, b.cell (j := 4) rfl, b.cell (j := 5) rfl, b.cell (j := 6) rfl⟩
  refine wp_region_held_drew (S := (fun w' => (w'.cell? ⟨w.heap.size, 0, none⟩ = some (.int .i64 term) ∧ w'.cell? ⟨w.heap.size, 1, none⟩ = some (.int .i64 stamp) ∧ w'.cell? ⟨w.heap.size, 2, none⟩ = some (.int .i64 next) ∧ w'.cell? ⟨w.heap.size, 3, none⟩ = some (.slice a1 n1 c1) ∧ w'.cell? ⟨w.heap.size, 4, none⟩ = some (.slice a2 n2 c2) ∧ w'.cell? ⟨w.heap.size, 5, none⟩ = some (.slice a3 n3 c3) ∧ w'.cell? ⟨w.heap.size, 6, none⟩ = some (.slice a4 n4 c4)))) (by kernel_rfl) (HK.out _ HX1.out.drew) (fun hHeld => ?_)
  refine wpAnyH_take (i := 0) (oi := _) (v := ?v0_72) rfl (by kernel_rfl) (by kernel_rfl) (by kernel_rfl) (fun _ _ _ h => h) (Or.inl ⟨by rfl, ?hy0_72⟩) (by assumption) ?rest0_72
  case hy0_72 =>
    intro w hSw
    (try dsimp only at hSw)
    go_simp
    rfl
  case' rest0_72 => try simp only [Act.put, List.setIfInBounds_toArray, List.set_cons_zero, List.set_cons_succ, List.getElem_toArray, List.getElem_cons_zero, List.getElem_cons_succ]
  refine wpAnyH_ready (rs := [1]) (by kernel_rfl) (by simp) ?_
  refine AllReadyH.cons (o := _) rfl (fun K hK => ?_) AllReadyH.nil
  go_simp
  go_at_call 9
  with_reducible refine (HG.out w1.drew HB1.out.drew).mono ?_
  rw [HGG.out]
  rintro e w2 ⟨rfl, hb2a⟩
  have hb2 : Below w1.heap.size w1 w2 := ⟨hb2a.os, hb2a.tape, hb2a.output, hb2a.size, hb2a.block⟩
  clear hb2a
  have HB2 := Lib.hid (below_on HB1.out hb2)
  have HX2 := Lib.hid (HX1.out.next (show 0 < 7 by decide) hb2)
  clear hHeld
  refine hK.out _ _ (HK.out _ HX2.out) (fun hHeld => ?_)
  clear hK K
  try simp only [Act.put, List.setIfInBounds_toArray, List.set_cons_zero, List.set_cons_succ, List.getElem_toArray, List.getElem_cons_zero, List.getElem_cons_succ]
  refine wpAnyH_take (i := 2) (oi := _) (v := ?v2_73) rfl (by kernel_rfl) (by kernel_rfl) (by kernel_rfl) (fun _ _ _ h => h) (Or.inl ⟨by rfl, ?hy2_73⟩) (by assumption) ?rest2_73
  case hy2_73 =>
    intro w hSw
    (try dsimp only at hSw)
    go_simp
    rfl
  case' rest2_73 => try simp only [Act.put, List.setIfInBounds_toArray, List.set_cons_zero, List.set_cons_succ, List.getElem_toArray, List.getElem_cons_zero, List.getElem_cons_succ]
  refine wpAnyH_skip 3 (some 8) (by kernel_rfl) (by kernel_rfl) (by kernel_rfl) (by kernel_rfl) (fun _ _ _ h => h) (by rfl) (by assumption) ?r3_74
  try simp only [Act.put, List.setIfInBounds_toArray, List.set_cons_zero, List.set_cons_succ, List.getElem_toArray, List.getElem_cons_zero, List.getElem_cons_succ]
  refine wpAnyH_take (i := 4) (oi := _) (v := ?v4_75) rfl (by kernel_rfl) (by kernel_rfl) (by kernel_rfl) (fun _ _ _ h => h) (Or.inl ⟨by rfl, ?hy4_75⟩) (by assumption) ?rest4_75
  case hy4_75 =>
    intro w hSw
    (try dsimp only at hSw)
    go_simp
    rfl
  case' rest4_75 => try simp only [Act.put, List.setIfInBounds_toArray, List.set_cons_zero, List.set_cons_succ, List.getElem_toArray, List.getElem_cons_zero, List.getElem_cons_succ]
  refine wpAnyH_take (i := 5) (oi := _) (v := ?v5_76) rfl (by kernel_rfl) (by kernel_rfl) (by kernel_rfl) (fun _ _ _ h => h) (Or.inl ⟨by rfl, ?hy5_76⟩) (by assumption) ?rest5_76
  case hy5_76 =>
    intro w hSw
    (try dsimp only at hSw)
    go_simp
    rfl
  case' rest5_76 => try simp only [Act.put, List.setIfInBounds_toArray, List.set_cons_zero, List.set_cons_succ, List.getElem_toArray, List.getElem_cons_zero, List.getElem_cons_succ]
  refine wpAnyH_take (i := 6) (oi := _) (v := ?v6_77) rfl (by kernel_rfl) (by kernel_rfl) (by kernel_rfl) (fun _ _ _ h => h) (Or.inl ⟨by rfl, ?hy6_77⟩) (by assumption) ?rest6_77
  case hy6_77 =>
    intro w hSw
    (try dsimp only at hSw)
    go_simp
    rfl
  case' rest6_77 => try simp only [Act.put, List.setIfInBounds_toArray, List.set_cons_zero, List.set_cons_succ, List.getElem_toArray, List.getElem_cons_zero, List.getElem_cons_succ]
  refine wpAnyH_ready (rs := [7]) (by kernel_rfl) (by simp) ?_
  refine AllReadyH.cons (o := _) rfl (fun K hK => ?_) AllReadyH.nil
  go_simp
  go_at_call 9
  with_reducible refine (HG.out w2 HB2.out).mono ?_
  rw [HGG.out]
  rintro e w3 ⟨rfl, hb3a⟩
  have hb3 : Below w2.heap.size w2 w3 := ⟨hb3a.os, hb3a.tape, hb3a.output, hb3a.size, hb3a.block⟩
  clear hb3a
  have HB3 := Lib.hid (below_on HB2.out hb3)
  have HX3 := Lib.hid (HX2.out.next (show 0 < 7 by decide) hb3)
  clear hHeld
  refine hK.out _ _ (HK.out _ HX3.out) (fun hHeld => ?_)
  clear hK K
  try simp only [Act.put, List.setIfInBounds_toArray, List.set_cons_zero, List.set_cons_succ, List.getElem_toArray, List.getElem_cons_zero, List.getElem_cons_succ]
  refine wpAnyH_take (i := 8) (oi := _) (v := ?v8_78) rfl (by kernel_rfl) (by kernel_rfl) (by kernel_rfl) (fun _ _ _ h => h) (Or.inl ⟨by rfl, ?hy8_78⟩) (by assumption) ?rest8_78
  case hy8_78 =>
    intro w hSw
    (try dsimp only at hSw)
    go_simp
    rfl
  case' rest8_78 => try simp only [Act.put, List.setIfInBounds_toArray, List.set_cons_zero, List.set_cons_succ, List.getElem_toArray, List.getElem_cons_zero, List.getElem_cons_succ]
  refine wpAnyH_take (i := 9) (oi := _) (v := ?v9_79) rfl (by kernel_rfl) (by kernel_rfl) (by kernel_rfl) (fun _ _ _ h => h) (Or.inl ⟨by rfl, ?hy9_79⟩) (by assumption) ?rest9_79
  case hy9_79 =>
    intro w hSw
    (try dsimp only at hSw)
    go_simp
    rfl
  case' rest9_79 => try simp only [Act.put, List.setIfInBounds_toArray, List.set_cons_zero, List.set_cons_succ, List.getElem_toArray, List.getElem_cons_zero, List.getElem_cons_succ]
  refine wpAnyH_take (i := 10) (oi := _) (v := ?v10_80) rfl (by kernel_rfl) (by kernel_rfl) (by kernel_rfl) (fun _ _ _ h => h) (Or.inl ⟨by rfl, ?hy10_80⟩) (by assumption) ?rest10_80
  case hy10_80 =>
    intro w hSw
    (try dsimp only at hSw)
    go_simp
    rfl
  case' rest10_80 => try simp only [Act.put, List.setIfInBounds_toArray, List.set_cons_zero, List.set_cons_succ, List.getElem_toArray, List.getElem_cons_zero, List.getElem_cons_succ]
  refine wpAnyH_take (i := 11) (oi := _) (v := ?v11_81) rfl (by kernel_rfl) (by kernel_rfl) (by kernel_rfl) (fun _ _ _ h => h) (Or.inl ⟨by rfl, ?hy11_81⟩) (by assumption) ?rest11_81
  case hy11_81 =>
    intro w hSw
    (try dsimp only at hSw)
    go_simp
    rfl
  case' rest11_81 => try simp only [Act.put, List.setIfInBounds_toArray, List.set_cons_zero, List.set_cons_succ, List.getElem_toArray, List.getElem_cons_zero, List.getElem_cons_succ]
  refine wpAnyH_take (i := 13) (oi := _) (v := ?v13_82) rfl (by kernel_rfl) (by kernel_rfl) (by kernel_rfl) (fun _ _ _ h => h) (Or.inl ⟨by rfl, ?hy13_82⟩) (by assumption) ?rest13_82
  case hy13_82 =>
    intro w hSw
    (try dsimp only at hSw)
    go_simp
    rfl
  case' rest13_82 => try simp only [Act.put, List.setIfInBounds_toArray, List.set_cons_zero, List.set_cons_succ, List.getElem_toArray, List.getElem_cons_zero, List.getElem_cons_succ]
  refine wpAnyH_take (i := 14) (oi := _) (v := ?v14_83) rfl (by kernel_rfl) (by kernel_rfl) (by kernel_rfl) (fun _ _ _ h => h) (Or.inl ⟨by rfl, ?hy14_83⟩) (by assumption) ?rest14_83
  case hy14_83 =>
    intro w hSw
    (try dsimp only at hSw)
    go_simp
    rfl
  case' rest14_83 => try simp only [Act.put, List.setIfInBounds_toArray, List.set_cons_zero, List.set_cons_succ, List.getElem_toArray, List.getElem_cons_zero, List.getElem_cons_succ]
  refine wpAnyH_ready (rs := [12]) (by kernel_rfl) (by simp) ?_
  refine AllReadyH.cons (o := _) rfl (fun K hK => ?_) AllReadyH.nil
  go_simp
  go_at_call 20
  with_reducible refine (HCR.out w3 HB3.out).mono ?_
  rintro e w4 ⟨q1, rfl, hq1, hb4a⟩
  have hb4 : Below w3.heap.size w3 w4 := ⟨hb4a.os, hb4a.tape, hb4a.output, hb4a.size, hb4a.block⟩
  clear hb4a
  have HB4 := Lib.hid (below_on HB3.out hb4)
  have HX4 := Lib.hid (HX3.out.next (show 0 < 7 by decide) hb4)
  have HQ1 := Lib.hid hq1
  clear hq1
  clear hHeld
  refine hK.out _ _ (HK.out _ HX4.out) (fun hHeld => ?_)
  clear hK K
  try simp only [Act.put, List.setIfInBounds_toArray, List.set_cons_zero, List.set_cons_succ, List.getElem_toArray, List.getElem_cons_zero, List.getElem_cons_succ]
  refine wpAnyH_ready (rs := [15]) (by kernel_rfl) (by simp) ?_
  refine AllReadyH.cons (o := _) rfl (fun K hK => ?_) AllReadyH.nil
  go_simp
  go_at_call 21
  with_reducible refine (HRC.out w4 HB4.out).mono ?_
  rintro e w5 ⟨q2, rfl, hq2, hb5a⟩
  have hb5 : Below w4.heap.size w4 w5 := ⟨hb5a.os, hb5a.tape, hb5a.output, hb5a.size, hb5a.block⟩
  clear hb5a
  have HB5 := Lib.hid (below_on HB4.out hb5)
  have HX5 := Lib.hid (HX4.out.next (show 0 < 7 by decide) hb5)
  have HQ2 := Lib.hid hq2
  clear hq2
  have HQ1b := Lib.hid (HQ1.out.below hb5)
  clear hHeld
  refine hK.out _ _ (HK.out _ HX5.out) (fun hHeld => ?_)
  clear hK K
  try simp only [Act.put, List.setIfInBounds_toArray, List.set_cons_zero, List.set_cons_succ, List.getElem_toArray, List.getElem_cons_zero, List.getElem_cons_succ]
  refine wpAnyH_ready (rs := [16]) (by kernel_rfl) (by simp) ?_
  refine AllReadyH.cons (o := _) rfl (fun K hK => ?_) AllReadyH.nil
  go_simp
  go_at_call 13
  with_reducible refine (same_st (creditS s ti) q1 q2 0 0 w5 HQ1b.out HQ2.out HY.out.1 HY.out.2.1 HY.out.2.2.1 HY.out.2.2.2).mono ?_
  rintro e w6 ⟨rfl, hb6a⟩
  have hb6 : Below w5.heap.size w5 w6 := ⟨hb6a.os, hb6a.tape, hb6a.output, hb6a.size, hb6a.block⟩
  clear hb6a
  have HB6 := Lib.hid (below_on HB5.out hb6)
  have HX6 := Lib.hid (HX5.out.next (show 0 < 7 by decide) hb6)
  clear hHeld
  refine hK.out _ _ (HK.out _ HX6.out) (fun hHeld => ?_)
  clear hK K
  try simp only [Act.put, List.setIfInBounds_toArray, List.set_cons_zero, List.set_cons_succ, List.getElem_toArray, List.getElem_cons_zero, List.getElem_cons_succ]
  refine wpAnyH_take (i := 17) (oi := _) (v := ?v17_84) rfl (by kernel_rfl) (by kernel_rfl) (by kernel_rfl) (fun _ _ _ h => h) (Or.inl ⟨by rfl, ?hy17_84⟩) (by assumption) ?rest17_84
  case hy17_84 =>
    intro w hSw
    (try dsimp only at hSw)
    go_simp
    rfl
  case' rest17_84 => try simp only [Act.put, List.setIfInBounds_toArray, List.set_cons_zero, List.set_cons_succ, List.getElem_toArray, List.getElem_cons_zero, List.getElem_cons_succ]
  refine wpAnyH_take (i := 18) (oi := _) (v := ?v18_85) rfl (by kernel_rfl) (by kernel_rfl) (by kernel_rfl) (fun _ _ _ h => h) (Or.inl ⟨by rfl, ?hy18_85⟩) (by assumption) ?rest18_85
  case hy18_85 =>
    intro w hSw
    (try dsimp only at hSw)
    go_simp
    rfl
  case' rest18_85 => try simp only [Act.put, List.setIfInBounds_toArray, List.set_cons_zero, List.set_cons_succ, List.getElem_toArray, List.getElem_cons_zero, List.getElem_cons_succ]
  refine wpAnyH_ready (rs := [19]) (by kernel_rfl) (by simp) ?_
  refine AllReadyH.cons (o := _) rfl (fun K hK => ?_) AllReadyH.nil
  go_simp
  go_at_call 10
  with_reducible refine (wakes_true _).mono ?_
  rintro e w7 ⟨rfl, hb7a⟩
  have hb7 : Below w6.heap.size w6 w7 := ⟨hb7a.os, hb7a.tape, hb7a.output, hb7a.size, hb7a.block⟩
  clear hb7a
  have HB7 := Lib.hid (below_on HB6.out hb7)
  have HX7 := Lib.hid (HX6.out.next (show 0 < 7 by decide) hb7)
  clear hHeld
  refine hK.out _ _ (HK.out _ HX7.out) (fun hHeld => ?_)
  clear hK K
  try simp only [Act.put, List.setIfInBounds_toArray, List.set_cons_zero, List.set_cons_succ, List.getElem_toArray, List.getElem_cons_zero, List.getElem_cons_succ]
  refine wpAnyH_take (i := 20) (oi := _) (v := ?v20_86) rfl (by kernel_rfl) (by kernel_rfl) (by kernel_rfl) (fun _ _ _ h => h) (Or.inl ⟨by rfl, ?hy20_86⟩) (by assumption) ?rest20_86
  case hy20_86 =>
    intro w hSw
    (try dsimp only at hSw)
    go_simp
    rfl
  case' rest20_86 => try simp only [Act.put, List.setIfInBounds_toArray, List.set_cons_zero, List.set_cons_succ, List.getElem_toArray, List.getElem_cons_zero, List.getElem_cons_succ]
  refine wpAnyH_take (i := 21) (oi := _) (v := ?v21_87) rfl (by kernel_rfl) (by kernel_rfl) (by kernel_rfl) (fun _ _ _ h => h) (Or.inl ⟨by rfl, ?hy21_87⟩) (by assumption) ?rest21_87
  case hy21_87 =>
    intro w hSw
    (try dsimp only at hSw)
    go_simp
    rfl
  case' rest21_87 => try simp only [Act.put, List.setIfInBounds_toArray, List.set_cons_zero, List.set_cons_succ, List.getElem_toArray, List.getElem_cons_zero, List.getElem_cons_succ]
  refine wpAnyH_take (i := 22) (oi := _) (v := ?v22_88) rfl (by kernel_rfl) (by kernel_rfl) (by kernel_rfl) (fun _ _ _ h => h) (Or.inl ⟨by rfl, ?hy22_88⟩) (by assumption) ?rest22_88
  case hy22_88 =>
    intro w hSw
    (try dsimp only at hSw)
    go_simp
    rfl
  case' rest22_88 => try simp only [Act.put, List.setIfInBounds_toArray, List.set_cons_zero, List.set_cons_succ, List.getElem_toArray, List.getElem_cons_zero, List.getElem_cons_succ]
  refine wpAnyH_done (by kernel_rfl) ?_ _
  clear hHeld
  go_wp2_with fail
  go_returns
  exact ⟨rfl, HB7.out⟩
end Go.Proofs.Ytoofmofaimdhpaa

/- LedgerCredits: the walk. -/
namespace Go.Proofs.Ytoofmofaimdhpaa
open Go.ChangeShapes Go.WideShapes Go.ChangeAt Go.RowKit
set_option maxRecDepth 100000

theorem law_lcredits (s : St) (r : Raw) (ti : Int) (w : World) (h : StAt w 0 r s) :
    Calls Try.prog 5 #[r.agg, .int .i64 ti] w fun e w' => e = .returned (.bool true) ∧ Below w.heap.size w w' := by
  cases hg : greatB s with
  | true => exact lcredits_great s r ti w h hg
  | false => exact lcredits_small s r ti w h hg
end Go.Proofs.Ytoofmofaimdhpaa
