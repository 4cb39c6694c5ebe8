import Derived.Test.YtlckgnemmffdkaaWirRefReadSt
import Derived.Test.YtlckgnemmffdkaaWirRefSt
import Derived.Test.YtlckgnemmffdkaaPackWireState6
import Derived.Test.YtlckgnemmffdkaaPackWireState4
import Derived.Test.YtlckgnemmffdkaaPackWireState1
import Derived.Deep.QuietTactic
import Derived.BigQuiet
set_option linter.unusedVariables false
set_option linter.unusedSimpArgs false
/- The law of states. (printed by gen_wirlaw.py) -/
namespace Go.Proofs.Ytlckgnemmffdkaa
open Go.ChangeShapes Go.WideShapes Go.ChangeAt Go.RowKit
set_option maxRecDepth 100000

set_option maxHeartbeats 32000000 in
theorem law_state (x : WSt) (p : PSt) (a : Option Addr) (l : List UInt8) (n c : Nat) (w : World) (hz : x.tens.length ≤ 1000000000000000 ∧ x.leas.length ≤ 1000000000000000 ∧ x.sess.length ≤ 1000000000000000 ∧ x.dsks.length ≤ 1000000000000000) (hp : LowSt w.heap.size w x p) (hn : l.length = n) (hc : n ≤ c) (hr : RowB w a l) :
    Calls Try.prog 6 #[valSt x p, .slice a n c] w (fun e w' => e = .returned (.bool true) ∧ Below w.heap.size w w') := by
  have hB : ∀ v0 v1 v2 (v3 : List WTen) (v4 : List WLea) (v5 : List WSes) (v6 : List WDsk) p0 p1 p2 p3 p4 p5 p6 p7, Below w.heap.size w (w.alloc (.cells #[.int .i64 v0, .int .i64 v1, .int .i64 v2, .slice p0 v3.length p1, .slice p2 v4.length p3, .slice p4 v5.length p5, .slice p6 v6.length p7] 56)) := fun _ _ _ _ _ _ _ _ _ _ _ _ _ _ _ => mid_alloc' (Below.refl _ _)
  have hgr := fun w' => great_state x p w' hz
  by_cases hg1 : 300 < x.tens.length + x.leas.length + x.sess.length + x.dsks.length
  · skip
    rw [decide_eq_true hg1] at hgr
    have HGR := Lib.hid hgr
    clear hgr
    obtain ⟨v0, v1, v2, v3, v4, v5, v6⟩ := x
    obtain ⟨p0, p1, p2, p3, p4, p5, p6, p7⟩ := p
    simp only at hg1
    have HN := Lib.hid hn
    have HB := Lib.hid (hB v0 v1 v2 v3 v4 v5 v6 p0 p1 p2 p3 p4 p5 p6 p7)
    clear hn hr hz hp hB
    unfold valSt at HGR ⊢
    simp only at HGR ⊢
    skip
    go_enter Try.func6, Try.ntmps6
    go_wp2_with (first
      | (go_at_call 9; ((with_reducible refine (wakes_any _).mono ?_); rintro e w' ⟨rfl, hb⟩; have HBW := Lib.hid hb; clear hb))
      | (go_at_call 28; ((with_reducible refine (HGR.out _).mono ?_); rintro e wg ⟨rfl, hb⟩; have HB2 := Lib.hid (HB.out.trans (hb.mono HB.out.size)); clear hb)))
    go_returns
    exact ⟨rfl, HB2.out.trans (HBW.out.mono HB2.out.size)⟩
  by_cases hg2 : 20000 < n
  · skip
    rw [decide_eq_false hg1] at hgr
    have HGR := Lib.hid hgr
    clear hgr
    obtain ⟨v0, v1, v2, v3, v4, v5, v6⟩ := x
    obtain ⟨p0, p1, p2, p3, p4, p5, p6, p7⟩ := p
    simp only at hg1
    have HN := Lib.hid hn
    have HB := Lib.hid (hB v0 v1 v2 v3 v4 v5 v6 p0 p1 p2 p3 p4 p5 p6 p7)
    clear hn hr hz hp hB
    unfold valSt at HGR ⊢
    simp only at HGR ⊢
    have d2 : decide ((20000 : Int) < (n : Int)) = true := decide_eq_true (by omega)
    go_enter Try.func6, Try.ntmps6
    go_wp2_with (first
      | (go_at_call 9; ((with_reducible refine (wakes_any _).mono ?_); rintro e w' ⟨rfl, hb⟩; have HBW := Lib.hid hb; clear hb))
      | (go_at_call 28; ((with_reducible refine (HGR.out _).mono ?_); rintro e wg ⟨rfl, hb⟩; have HB2 := Lib.hid (HB.out.trans (hb.mono HB.out.size)); clear hb)))
    go_returns
    exact ⟨rfl, HB2.out.trans (HBW.out.mono HB2.out.size)⟩
  have hok : OkSt x := ok_st (by omega)
  rw [decide_eq_false hg1] at hgr
  have HGR := Lib.hid hgr
  clear hgr
  have HEN := Lib.hid (fun w' (hb : Below w.heap.size w w') => state_bytes x p w' (hp.up hb.size hb) hok)
  have HRN := Lib.hid (fun w' (hb : Below w.heap.size w w') => refstate_bytes x p w' (hp.up hb.size hb) hok)
  subst hn
  have HRD := Lib.hid (fun w' (hb : Below w.heap.size w w') => readstate_any a c l w' (hr.below hb) hc (by omega))
  have HRR := Lib.hid (fun w' (hb : Below w.heap.size w w') => refreadstate_any a c l w' (hr.below hb) hc (by omega))
  have HYL := Lib.hid (read_lists l (by omega))
  generalize readP zSt wStP l = r at HRD HRR HYL
  obtain ⟨⟨y0, y1, y2, y3, y4, y5, y6⟩, i, j⟩ := r
  generalize encWSt x = L at HEN HRN
  obtain ⟨v0, v1, v2, v3, v4, v5, v6⟩ := x
  obtain ⟨p0, p1, p2, p3, p4, p5, p6, p7⟩ := p
  have HX1 := Lib.hid (Box.of_alloc (w := w) (cs := [.int .i64 v0, .int .i64 v1, .int .i64 v2, .slice p0 v3.length p1, .slice p2 v4.length p3, .slice p4 v5.length p5, .slice p6 v6.length p7]) (t := 56) (Below.refl _ _))
  have HB1 := Lib.hid (hB v0 v1 v2 v3 v4 v5 v6 p0 p1 p2 p3 p4 p5 p6 p7)
  have d2 : decide ((20000 : Int) < (l.length : Int)) = false := decide_eq_false (by omega)
  clear hz hp hok hr hB hg1
  unfold valSt at HEN HRN HGR ⊢
  simp only at HEN HRN HGR ⊢
  go_enter Try.func6, Try.ntmps6
  go_upto_region 5 with (first
    | (go_at_call 28; ((with_reducible refine (HGR.out _).mono ?_); rintro e wg ⟨rfl, hb⟩; replace HX1 := Lib.hid (HX1.out.next (by simp) hb); replace HB1 := Lib.hid (HB1.out.trans (hb.mono HB1.out.size)); clear hb))
    | (go_at_call 30; ((with_reducible refine (HRR.out _ HB2.out).mono ?_); rintro e w3 ⟨⟨r0, r1, r2, r3, r4, r5, r6, r7⟩, rfl, hm, hb⟩; have hba : Below w3.heap.size w3 (w3.alloc (.cells #[.int .i64 y0, .int .i64 y1, .int .i64 y2, .slice r0 y3.length r1, .slice r2 y4.length r3, .slice r4 y5.length r5, .slice r6 y6.length r7] 56)) := mid_alloc' (Below.refl _ _); have HX3 := Lib.hid ((HX2.out.next (by simp) hb).next (by simp) hba); have HY3 := Lib.hid ((HY2.out.next (by simp) hb).next (by simp) hba); have HZ3 := Lib.hid (Box.of_alloc (w := w3) (cs := [.int .i64 y0, .int .i64 y1, .int .i64 y2, .slice r0 y3.length r1, .slice r2 y4.length r3, .slice r4 y5.length r5, .slice r6 y6.length r7]) (t := 56) (Below.refl _ _)); have hb3 := HB2.out.trans (hb.mono HB2.out.size); have HB3 := Lib.hid (hb3.trans (hba.mono hb3.size)); have HMY3 := Lib.hid ((HMY2.out.below hb).below hba); have HMZ3 := Lib.hid (hm.below hba); clear hm hb hba hb3; unfold valSt))
    | (go_at_call 29; ((with_reducible refine (HRD.out _ HB1.out).mono ?_); rintro e w2 ⟨⟨q0, q1, q2, q3, q4, q5, q6, q7⟩, rfl, hm, hb⟩; have hba : Below w2.heap.size w2 (w2.alloc (.cells #[.int .i64 y0, .int .i64 y1, .int .i64 y2, .slice q0 y3.length q1, .slice q2 y4.length q3, .slice q4 y5.length q5, .slice q6 y6.length q7] 56)) := mid_alloc' (Below.refl _ _); have HX2 := Lib.hid ((HX1.out.next (by simp) hb).next (by simp) hba); have HY2 := Lib.hid (Box.of_alloc (w := w2) (cs := [.int .i64 y0, .int .i64 y1, .int .i64 y2, .slice q0 y3.length q1, .slice q2 y4.length q3, .slice q4 y5.length q5, .slice q6 y6.length q7]) (t := 56) (Below.refl _ _)); have hb2 := HB1.out.trans (hb.mono HB1.out.size); have HB2 := Lib.hid (hb2.trans (hba.mono hb2.size)); have HMY2 := Lib.hid (hm.below hba); clear hm hb hba hb2; unfold valSt)))
  generalize w3.alloc (.cells #[.int .i64 y0, .int .i64 y1, .int .i64 y2, .slice r0 y3.length r1, .slice r2 y4.length r3, .slice r4 y5.length r5, .slice r6 y6.length r7] 56) = w4 at HX3 HY3 HZ3 HB3 HMY3 HMZ3 ⊢
  have HK : Hid (∀ w', Box w' w.heap.size [.int .i64 v0, .int .i64 v1, .int .i64 v2, .slice p0 v3.length p1, .slice p2 v4.length p3, .slice p4 v5.length p5, .slice p6 v6.length p7] → Box w' w2.heap.size [.int .i64 y0, .int .i64 y1, .int .i64 y2, .slice q0 y3.length q1, .slice q2 y4.length q3, .slice q4 y5.length q5, .slice q6 y6.length q7] → Box w' w3.heap.size [.int .i64 y0, .int .i64 y1, .int .i64 y2, .slice r0 y3.length r1, .slice r2 y4.length r3, .slice r4 y5.length r5, .slice r6 y6.length r7] → w'.cell? ⟨w.heap.size, 0, none⟩ = some (.int .i64 v0) ∧ w'.cell? ⟨w.heap.size, 1, none⟩ = some (.int .i64 v1) ∧ w'.cell? ⟨w.heap.size, 2, none⟩ = some (.int .i64 v2) ∧ w'.cell? ⟨w.heap.size, 3, none⟩ = some (.slice p0 v3.length p1) ∧ w'.cell? ⟨w.heap.size, 4, none⟩ = some (.slice p2 v4.length p3) ∧ w'.cell? ⟨w.heap.size, 5, none⟩ = some (.slice p4 v5.length p5) ∧ w'.cell? ⟨w.heap.size, 6, none⟩ = some (.slice p6 v6.length p7) ∧ w'.cell? ⟨w2.heap.size, 0, none⟩ = some (.int .i64 y0) ∧ w'.cell? ⟨w2.heap.size, 1, none⟩ = some (.int .i64 y1) ∧ w'.cell? ⟨w2.heap.size, 2, none⟩ = some (.int .i64 y2) ∧ w'.cell? ⟨w2.heap.size, 3, none⟩ = some (.slice q0 y3.length q1) ∧ w'.cell? ⟨w2.heap.size, 4, none⟩ = some (.slice q2 y4.length q3) ∧ w'.cell? ⟨w2.heap.size, 5, none⟩ = some (.slice q4 y5.length q5) ∧ w'.cell? ⟨w2.heap.size, 6, none⟩ = some (.slice q6 y6.length q7) ∧ w'.cell? ⟨w3.heap.size, 0, none⟩ = some (.int .i64 y0) ∧ w'.cell? ⟨w3.heap.size, 1, none⟩ = some (.int .i64 y1) ∧ w'.cell? ⟨w3.heap.size, 2, none⟩ = some (.int .i64 y2) ∧ w'.cell? ⟨w3.heap.size, 3, none⟩ = some (.slice r0 y3.length r1) ∧ w'.cell? ⟨w3.heap.size, 4, none⟩ = some (.slice r2 y4.length r3) ∧ w'.cell? ⟨w3.heap.size, 5, none⟩ = some (.slice r4 y5.length r5) ∧ w'.cell? ⟨w3.heap.size, 6, none⟩ = some (.slice r6 y6.length r7)) := fun w' x y z => ⟨x.cell (j := 0) rfl, x.cell (j := 1) rfl, x.cell (j := 2) rfl, x.cell (j := 3) rfl, x.cell (j := 4) rfl, x.cell (j := 5) rfl, x.cell (j := 6) rfl, y.cell (j := 0) rfl, y.cell (j := 1) rfl, y.cell (j := 2) rfl, y.cell (j := 3) rfl, y.cell (j := 4) rfl, y.cell (j := 5) rfl, y.cell (j := 6) rfl, z.cell (j := 0) rfl, z.cell (j := 1) rfl, z.cell (j := 2) rfl, z.cell (j := 3) rfl, z.cell (j := 4) rfl, z.cell (j := 5) rfl, z.cell (j := 6) rfl⟩
  have hb4 : Below w4.heap.size w4 w4.drew := (Below.refl _ _).drew
  have HX4 := Lib.hid (HX3.out.next (by simp) hb4); have HY4 := Lib.hid (HY3.out.next (by simp) hb4); have HZ4 := Lib.hid (HZ3.out.next (by simp) hb4); have HB4 := Lib.hid (HB3.out.trans (hb4.mono HB3.out.size)); have HMY4 := Lib.hid (HMY3.out.below hb4); have HMZ4 := Lib.hid (HMZ3.out.below hb4); clear hb4
  refine wp_region_held_drew (S := (fun w' => w'.cell? ⟨w.heap.size, 0, none⟩ = some (.int .i64 v0) ∧ w'.cell? ⟨w.heap.size, 1, none⟩ = some (.int .i64 v1) ∧ w'.cell? ⟨w.heap.size, 2, none⟩ = some (.int .i64 v2) ∧ w'.cell? ⟨w.heap.size, 3, none⟩ = some (.slice p0 v3.length p1) ∧ w'.cell? ⟨w.heap.size, 4, none⟩ = some (.slice p2 v4.length p3) ∧ w'.cell? ⟨w.heap.size, 5, none⟩ = some (.slice p4 v5.length p5) ∧ w'.cell? ⟨w.heap.size, 6, none⟩ = some (.slice p6 v6.length p7) ∧ w'.cell? ⟨w2.heap.size, 0, none⟩ = some (.int .i64 y0) ∧ w'.cell? ⟨w2.heap.size, 1, none⟩ = some (.int .i64 y1) ∧ w'.cell? ⟨w2.heap.size, 2, none⟩ = some (.int .i64 y2) ∧ w'.cell? ⟨w2.heap.size, 3, none⟩ = some (.slice q0 y3.length q1) ∧ w'.cell? ⟨w2.heap.size, 4, none⟩ = some (.slice q2 y4.length q3) ∧ w'.cell? ⟨w2.heap.size, 5, none⟩ = some (.slice q4 y5.length q5) ∧ w'.cell? ⟨w2.heap.size, 6, none⟩ = some (.slice q6 y6.length q7) ∧ w'.cell? ⟨w3.heap.size, 0, none⟩ = some (.int .i64 y0) ∧ w'.cell? ⟨w3.heap.size, 1, none⟩ = some (.int .i64 y1) ∧ w'.cell? ⟨w3.heap.size, 2, none⟩ = some (.int .i64 y2) ∧ w'.cell? ⟨w3.heap.size, 3, none⟩ = some (.slice r0 y3.length r1) ∧ w'.cell? ⟨w3.heap.size, 4, none⟩ = some (.slice r2 y4.length r3) ∧ w'.cell? ⟨w3.heap.size, 5, none⟩ = some (.slice r4 y5.length r5) ∧ w'.cell? ⟨w3.heap.size, 6, none⟩ = some (.slice r6 y6.length r7))) (by kernel_rfl) (HK.out _ HX4.out HY4.out HZ4.out) (fun hHeld => ?_)
  refine wpAnyH_take (i := 0) (oi := _) (v := ?v0_38) rfl (by kernel_rfl) (by kernel_rfl) (by kernel_rfl) (fun _ _ _ h => h) (Or.inl ⟨by rfl, ?hy0_38⟩) (by assumption) ?rest0_38
  case hy0_38 =>
    intro w hSw
    (try dsimp only at hSw)
    go_simp
    rfl
  case' rest0_38 => try simp only [Act.put, List.setIfInBounds_toArray, List.set_cons_zero, List.set_cons_succ, List.getElem_toArray, List.getElem_cons_zero]
  refine wpAnyH_take (i := 3) (oi := _) (v := ?v3_39) rfl (by kernel_rfl) (by kernel_rfl) (by kernel_rfl) (fun _ _ _ h => h) (Or.inl ⟨by rfl, ?hy3_39⟩) (by assumption) ?rest3_39
  case hy3_39 =>
    intro w hSw
    (try dsimp only at hSw)
    go_simp
    rfl
  case' rest3_39 => try simp only [Act.put, List.setIfInBounds_toArray, List.set_cons_zero, List.set_cons_succ, List.getElem_toArray, List.getElem_cons_zero, List.getElem_cons_succ]
  refine wpAnyH_ready (rs := [1]) (by kernel_rfl) (by simp) ?_
  refine AllReadyH.cons (o := _) rfl (fun K hK => ?_) AllReadyH.nil
  go_simp
  go_at_call 31
  with_reducible refine (HEN.out _ HB4.out).mono ?_
  rintro e w5 ⟨a5, c5, rfl, hrw5, hb5, -⟩
  have HX5 := Lib.hid (HX4.out.next (by simp) hb5); have HY5 := Lib.hid (HY4.out.next (by simp) hb5); have HZ5 := Lib.hid (HZ4.out.next (by simp) hb5); have HB5 := Lib.hid (HB4.out.trans (hb5.mono HB4.out.size)); have HMY5 := Lib.hid (HMY4.out.below hb5); have HMZ5 := Lib.hid (HMZ4.out.below hb5); clear hb5
  have HRW5 := Lib.hid hrw5
  have HCV5 : Hid (∀ w', RowB w' a5 L → (convert 22 9 (.slice a5 L.length c5)).run Try.prog w' = .ok (.string ⟨L.toArray⟩) w') := fun w' h => conv_bytes h rfl
  clear hrw5
  clear hHeld
  refine hK.out _ _ (HK.out _ HX5.out HY5.out HZ5.out) (fun hHeld => ?_)
  clear hK K
  try simp only [Act.put, List.setIfInBounds_toArray, List.set_cons_zero, List.set_cons_succ, List.getElem_toArray, List.getElem_cons_zero, List.getElem_cons_succ]
  refine wpAnyH_up (S' := (fun w' => w'.cell? ⟨w.heap.size, 0, none⟩ = some (.int .i64 v0) ∧ w'.cell? ⟨w.heap.size, 1, none⟩ = some (.int .i64 v1) ∧ w'.cell? ⟨w.heap.size, 2, none⟩ = some (.int .i64 v2) ∧ w'.cell? ⟨w.heap.size, 3, none⟩ = some (.slice p0 v3.length p1) ∧ w'.cell? ⟨w.heap.size, 4, none⟩ = some (.slice p2 v4.length p3) ∧ w'.cell? ⟨w.heap.size, 5, none⟩ = some (.slice p4 v5.length p5) ∧ w'.cell? ⟨w.heap.size, 6, none⟩ = some (.slice p6 v6.length p7) ∧ w'.cell? ⟨w2.heap.size, 0, none⟩ = some (.int .i64 y0) ∧ w'.cell? ⟨w2.heap.size, 1, none⟩ = some (.int .i64 y1) ∧ w'.cell? ⟨w2.heap.size, 2, none⟩ = some (.int .i64 y2) ∧ w'.cell? ⟨w2.heap.size, 3, none⟩ = some (.slice q0 y3.length q1) ∧ w'.cell? ⟨w2.heap.size, 4, none⟩ = some (.slice q2 y4.length q3) ∧ w'.cell? ⟨w2.heap.size, 5, none⟩ = some (.slice q4 y5.length q5) ∧ w'.cell? ⟨w2.heap.size, 6, none⟩ = some (.slice q6 y6.length q7) ∧ w'.cell? ⟨w3.heap.size, 0, none⟩ = some (.int .i64 y0) ∧ w'.cell? ⟨w3.heap.size, 1, none⟩ = some (.int .i64 y1) ∧ w'.cell? ⟨w3.heap.size, 2, none⟩ = some (.int .i64 y2) ∧ w'.cell? ⟨w3.heap.size, 3, none⟩ = some (.slice r0 y3.length r1) ∧ w'.cell? ⟨w3.heap.size, 4, none⟩ = some (.slice r2 y4.length r3) ∧ w'.cell? ⟨w3.heap.size, 5, none⟩ = some (.slice r4 y5.length r5) ∧ w'.cell? ⟨w3.heap.size, 6, none⟩ = some (.slice r6 y6.length r7) ∧ (convert 22 9 (.slice a5 L.length c5)).run Try.prog w' = .ok (.string ⟨L.toArray⟩) w')) (fun _ h => ⟨h.1, h.2.1, h.2.2.1, h.2.2.2.1, h.2.2.2.2.1, h.2.2.2.2.2.1, h.2.2.2.2.2.2.1, h.2.2.2.2.2.2.2.1, h.2.2.2.2.2.2.2.2.1, h.2.2.2.2.2.2.2.2.2.1, h.2.2.2.2.2.2.2.2.2.2.1, h.2.2.2.2.2.2.2.2.2.2.2.1, h.2.2.2.2.2.2.2.2.2.2.2.2.1, h.2.2.2.2.2.2.2.2.2.2.2.2.2.1, h.2.2.2.2.2.2.2.2.2.2.2.2.2.2.1, h.2.2.2.2.2.2.2.2.2.2.2.2.2.2.2.1, h.2.2.2.2.2.2.2.2.2.2.2.2.2.2.2.2.1, h.2.2.2.2.2.2.2.2.2.2.2.2.2.2.2.2.2.1, h.2.2.2.2.2.2.2.2.2.2.2.2.2.2.2.2.2.2.1, h.2.2.2.2.2.2.2.2.2.2.2.2.2.2.2.2.2.2.2.1, h.2.2.2.2.2.2.2.2.2.2.2.2.2.2.2.2.2.2.2.2.1⟩) ?_
  have hHeld2 : (fun w' => w'.cell? ⟨w.heap.size, 0, none⟩ = some (.int .i64 v0) ∧ w'.cell? ⟨w.heap.size, 1, none⟩ = some (.int .i64 v1) ∧ w'.cell? ⟨w.heap.size, 2, none⟩ = some (.int .i64 v2) ∧ w'.cell? ⟨w.heap.size, 3, none⟩ = some (.slice p0 v3.length p1) ∧ w'.cell? ⟨w.heap.size, 4, none⟩ = some (.slice p2 v4.length p3) ∧ w'.cell? ⟨w.heap.size, 5, none⟩ = some (.slice p4 v5.length p5) ∧ w'.cell? ⟨w.heap.size, 6, none⟩ = some (.slice p6 v6.length p7) ∧ w'.cell? ⟨w2.heap.size, 0, none⟩ = some (.int .i64 y0) ∧ w'.cell? ⟨w2.heap.size, 1, none⟩ = some (.int .i64 y1) ∧ w'.cell? ⟨w2.heap.size, 2, none⟩ = some (.int .i64 y2) ∧ w'.cell? ⟨w2.heap.size, 3, none⟩ = some (.slice q0 y3.length q1) ∧ w'.cell? ⟨w2.heap.size, 4, none⟩ = some (.slice q2 y4.length q3) ∧ w'.cell? ⟨w2.heap.size, 5, none⟩ = some (.slice q4 y5.length q5) ∧ w'.cell? ⟨w2.heap.size, 6, none⟩ = some (.slice q6 y6.length q7) ∧ w'.cell? ⟨w3.heap.size, 0, none⟩ = some (.int .i64 y0) ∧ w'.cell? ⟨w3.heap.size, 1, none⟩ = some (.int .i64 y1) ∧ w'.cell? ⟨w3.heap.size, 2, none⟩ = some (.int .i64 y2) ∧ w'.cell? ⟨w3.heap.size, 3, none⟩ = some (.slice r0 y3.length r1) ∧ w'.cell? ⟨w3.heap.size, 4, none⟩ = some (.slice r2 y4.length r3) ∧ w'.cell? ⟨w3.heap.size, 5, none⟩ = some (.slice r4 y5.length r5) ∧ w'.cell? ⟨w3.heap.size, 6, none⟩ = some (.slice r6 y6.length r7) ∧ (convert 22 9 (.slice a5 L.length c5)).run Try.prog w' = .ok (.string ⟨L.toArray⟩) w') w5 := ⟨HX5.out.cell (j := 0) rfl, HX5.out.cell (j := 1) rfl, HX5.out.cell (j := 2) rfl, HX5.out.cell (j := 3) rfl, HX5.out.cell (j := 4) rfl, HX5.out.cell (j := 5) rfl, HX5.out.cell (j := 6) rfl, HY5.out.cell (j := 0) rfl, HY5.out.cell (j := 1) rfl, HY5.out.cell (j := 2) rfl, HY5.out.cell (j := 3) rfl, HY5.out.cell (j := 4) rfl, HY5.out.cell (j := 5) rfl, HY5.out.cell (j := 6) rfl, HZ5.out.cell (j := 0) rfl, HZ5.out.cell (j := 1) rfl, HZ5.out.cell (j := 2) rfl, HZ5.out.cell (j := 3) rfl, HZ5.out.cell (j := 4) rfl, HZ5.out.cell (j := 5) rfl, HZ5.out.cell (j := 6) rfl, HCV5.out _ HRW5.out⟩
  clear hHeld
  have hHeld := hHeld2
  clear hHeld2
  refine wpAnyH_take (i := 2) (oi := _) (v := ?v2_40) rfl (by kernel_rfl) (by kernel_rfl) (by kernel_rfl) (fun _ _ _ h => h) (Or.inl ⟨by rfl, ?hy2_40⟩) (by assumption) ?rest2_40
  case hy2_40 =>
    intro w hSw
    (try dsimp only at hSw)
    go_simp
    rfl
  case' rest2_40 => try simp only [Act.put, List.setIfInBounds_toArray, List.set_cons_zero, List.set_cons_succ, List.getElem_toArray, List.getElem_cons_zero, List.getElem_cons_succ]
  refine wpAnyH_ready (rs := [4]) (by kernel_rfl) (by simp) ?_
  refine AllReadyH.cons (o := _) rfl (fun K hK => ?_) AllReadyH.nil
  go_simp
  go_at_call 32
  with_reducible refine (HRN.out _ HB5.out).mono ?_
  rintro e w6 ⟨a6, c6, rfl, hrw6, hb6⟩
  have HX6 := Lib.hid (HX5.out.next (by simp) hb6); have HY6 := Lib.hid (HY5.out.next (by simp) hb6); have HZ6 := Lib.hid (HZ5.out.next (by simp) hb6); have HB6 := Lib.hid (HB5.out.trans (hb6.mono HB5.out.size)); have HMY6 := Lib.hid (HMY5.out.below hb6); have HMZ6 := Lib.hid (HMZ5.out.below hb6); have HRW6 := Lib.hid (HRW5.out.below hb6); clear hb6
  have HRV6 := Lib.hid hrw6
  have HCV6 : Hid (∀ w', RowB w' a6 L → (convert 22 9 (.slice a6 L.length c6)).run Try.prog w' = .ok (.string ⟨L.toArray⟩) w') := fun w' h => conv_bytes h rfl
  clear hrw6
  clear hHeld
  refine hK.out _ _ ⟨HX6.out.cell (j := 0) rfl, HX6.out.cell (j := 1) rfl, HX6.out.cell (j := 2) rfl, HX6.out.cell (j := 3) rfl, HX6.out.cell (j := 4) rfl, HX6.out.cell (j := 5) rfl, HX6.out.cell (j := 6) rfl, HY6.out.cell (j := 0) rfl, HY6.out.cell (j := 1) rfl, HY6.out.cell (j := 2) rfl, HY6.out.cell (j := 3) rfl, HY6.out.cell (j := 4) rfl, HY6.out.cell (j := 5) rfl, HY6.out.cell (j := 6) rfl, HZ6.out.cell (j := 0) rfl, HZ6.out.cell (j := 1) rfl, HZ6.out.cell (j := 2) rfl, HZ6.out.cell (j := 3) rfl, HZ6.out.cell (j := 4) rfl, HZ6.out.cell (j := 5) rfl, HZ6.out.cell (j := 6) rfl, HCV5.out _ HRW6.out⟩ (fun hHeld => ?_)
  clear hK K
  try simp only [Act.put, List.setIfInBounds_toArray, List.set_cons_zero, List.set_cons_succ, List.getElem_toArray, List.getElem_cons_zero, List.getElem_cons_succ]
  refine wpAnyH_up (S' := (fun w' => w'.cell? ⟨w.heap.size, 0, none⟩ = some (.int .i64 v0) ∧ w'.cell? ⟨w.heap.size, 1, none⟩ = some (.int .i64 v1) ∧ w'.cell? ⟨w.heap.size, 2, none⟩ = some (.int .i64 v2) ∧ w'.cell? ⟨w.heap.size, 3, none⟩ = some (.slice p0 v3.length p1) ∧ w'.cell? ⟨w.heap.size, 4, none⟩ = some (.slice p2 v4.length p3) ∧ w'.cell? ⟨w.heap.size, 5, none⟩ = some (.slice p4 v5.length p5) ∧ w'.cell? ⟨w.heap.size, 6, none⟩ = some (.slice p6 v6.length p7) ∧ w'.cell? ⟨w2.heap.size, 0, none⟩ = some (.int .i64 y0) ∧ w'.cell? ⟨w2.heap.size, 1, none⟩ = some (.int .i64 y1) ∧ w'.cell? ⟨w2.heap.size, 2, none⟩ = some (.int .i64 y2) ∧ w'.cell? ⟨w2.heap.size, 3, none⟩ = some (.slice q0 y3.length q1) ∧ w'.cell? ⟨w2.heap.size, 4, none⟩ = some (.slice q2 y4.length q3) ∧ w'.cell? ⟨w2.heap.size, 5, none⟩ = some (.slice q4 y5.length q5) ∧ w'.cell? ⟨w2.heap.size, 6, none⟩ = some (.slice q6 y6.length q7) ∧ w'.cell? ⟨w3.heap.size, 0, none⟩ = some (.int .i64 y0) ∧ w'.cell? ⟨w3.heap.size, 1, none⟩ = some (.int .i64 y1) ∧ w'.cell? ⟨w3.heap.size, 2, none⟩ = some (.int .i64 y2) ∧ w'.cell? ⟨w3.heap.size, 3, none⟩ = some (.slice r0 y3.length r1) ∧ w'.cell? ⟨w3.heap.size, 4, none⟩ = some (.slice r2 y4.length r3) ∧ w'.cell? ⟨w3.heap.size, 5, none⟩ = some (.slice r4 y5.length r5) ∧ w'.cell? ⟨w3.heap.size, 6, none⟩ = some (.slice r6 y6.length r7) ∧ (convert 22 9 (.slice a5 L.length c5)).run Try.prog w' = .ok (.string ⟨L.toArray⟩) w' ∧ (convert 22 9 (.slice a6 L.length c6)).run Try.prog w' = .ok (.string ⟨L.toArray⟩) w')) (fun _ h => ⟨h.1, h.2.1, h.2.2.1, h.2.2.2.1, h.2.2.2.2.1, h.2.2.2.2.2.1, h.2.2.2.2.2.2.1, h.2.2.2.2.2.2.2.1, h.2.2.2.2.2.2.2.2.1, h.2.2.2.2.2.2.2.2.2.1, h.2.2.2.2.2.2.2.2.2.2.1, h.2.2.2.2.2.2.2.2.2.2.2.1, h.2.2.2.2.2.2.2.2.2.2.2.2.1, h.2.2.2.2.2.2.2.2.2.2.2.2.2.1, h.2.2.2.2.2.2.2.2.2.2.2.2.2.2.1, h.2.2.2.2.2.2.2.2.2.2.2.2.2.2.2.1, h.2.2.2.2.2.2.2.2.2.2.2.2.2.2.2.2.1, h.2.2.2.2.2.2.2.2.2.2.2.2.2.2.2.2.2.1, h.2.2.2.2.2.2.2.2.2.2.2.2.2.2.2.2.2.2.1, h.2.2.2.2.2.2.2.2.2.2.2.2.2.2.2.2.2.2.2.1, h.2.2.2.2.2.2.2.2.2.2.2.2.2.2.2.2.2.2.2.2.1, h.2.2.2.2.2.2.2.2.2.2.2.2.2.2.2.2.2.2.2.2.2.1⟩) ?_
  have hHeld2 : (fun w' => w'.cell? ⟨w.heap.size, 0, none⟩ = some (.int .i64 v0) ∧ w'.cell? ⟨w.heap.size, 1, none⟩ = some (.int .i64 v1) ∧ w'.cell? ⟨w.heap.size, 2, none⟩ = some (.int .i64 v2) ∧ w'.cell? ⟨w.heap.size, 3, none⟩ = some (.slice p0 v3.length p1) ∧ w'.cell? ⟨w.heap.size, 4, none⟩ = some (.slice p2 v4.length p3) ∧ w'.cell? ⟨w.heap.size, 5, none⟩ = some (.slice p4 v5.length p5) ∧ w'.cell? ⟨w.heap.size, 6, none⟩ = some (.slice p6 v6.length p7) ∧ w'.cell? ⟨w2.heap.size, 0, none⟩ = some (.int .i64 y0) ∧ w'.cell? ⟨w2.heap.size, 1, none⟩ = some (.int .i64 y1) ∧ w'.cell? ⟨w2.heap.size, 2, none⟩ = some (.int .i64 y2) ∧ w'.cell? ⟨w2.heap.size, 3, none⟩ = some (.slice q0 y3.length q1) ∧ w'.cell? ⟨w2.heap.size, 4, none⟩ = some (.slice q2 y4.length q3) ∧ w'.cell? ⟨w2.heap.size, 5, none⟩ = some (.slice q4 y5.length q5) ∧ w'.cell? ⟨w2.heap.size, 6, none⟩ = some (.slice q6 y6.length q7) ∧ w'.cell? ⟨w3.heap.size, 0, none⟩ = some (.int .i64 y0) ∧ w'.cell? ⟨w3.heap.size, 1, none⟩ = some (.int .i64 y1) ∧ w'.cell? ⟨w3.heap.size, 2, none⟩ = some (.int .i64 y2) ∧ w'.cell? ⟨w3.heap.size, 3, none⟩ = some (.slice r0 y3.length r1) ∧ w'.cell? ⟨w3.heap.size, 4, none⟩ = some (.slice r2 y4.length r3) ∧ w'.cell? ⟨w3.heap.size, 5, none⟩ = some (.slice r4 y5.length r5) ∧ w'.cell? ⟨w3.heap.size, 6, none⟩ = some (.slice r6 y6.length r7) ∧ (convert 22 9 (.slice a5 L.length c5)).run Try.prog w' = .ok (.string ⟨L.toArray⟩) w' ∧ (convert 22 9 (.slice a6 L.length c6)).run Try.prog w' = .ok (.string ⟨L.toArray⟩) w') w6 := ⟨HX6.out.cell (j := 0) rfl, HX6.out.cell (j := 1) rfl, HX6.out.cell (j := 2) rfl, HX6.out.cell (j := 3) rfl, HX6.out.cell (j := 4) rfl, HX6.out.cell (j := 5) rfl, HX6.out.cell (j := 6) rfl, HY6.out.cell (j := 0) rfl, HY6.out.cell (j := 1) rfl, HY6.out.cell (j := 2) rfl, HY6.out.cell (j := 3) rfl, HY6.out.cell (j := 4) rfl, HY6.out.cell (j := 5) rfl, HY6.out.cell (j := 6) rfl, HZ6.out.cell (j := 0) rfl, HZ6.out.cell (j := 1) rfl, HZ6.out.cell (j := 2) rfl, HZ6.out.cell (j := 3) rfl, HZ6.out.cell (j := 4) rfl, HZ6.out.cell (j := 5) rfl, HZ6.out.cell (j := 6) rfl, HCV5.out _ HRW6.out, HCV6.out _ HRV6.out⟩
  clear hHeld
  have hHeld := hHeld2
  clear hHeld2
  refine wpAnyH_take (i := 5) (oi := _) (v := ?v5_41) rfl (by kernel_rfl) (by kernel_rfl) (by kernel_rfl) (fun _ _ _ h => h) (Or.inl ⟨by rfl, ?hy5_41⟩) (by assumption) ?rest5_41
  case hy5_41 =>
    intro w hSw
    (try dsimp only at hSw)
    go_simp
    rfl
  case' rest5_41 => try simp only [Act.put, List.setIfInBounds_toArray, List.set_cons_zero, List.set_cons_succ, List.getElem_toArray, List.getElem_cons_zero, List.getElem_cons_succ]
  refine wpAnyH_take (i := 6) (oi := _) (v := ?v6_42) rfl (by kernel_rfl) (by kernel_rfl) (by kernel_rfl) (fun _ _ _ h => h) (Or.inl ⟨by rfl, ?hy6_42⟩) (by assumption) ?rest6_42
  case hy6_42 =>
    intro w hSw
    (try dsimp only at hSw)
    go_simp
    rfl
  case' rest6_42 => try simp only [Act.put, List.setIfInBounds_toArray, List.set_cons_zero, List.set_cons_succ, List.getElem_toArray, List.getElem_cons_zero, List.getElem_cons_succ]
  refine wpAnyH_take (i := 7) (oi := _) (v := ?v7_43) rfl (by kernel_rfl) (by kernel_rfl) (by kernel_rfl) (fun _ _ _ h => h) (Or.inl ⟨by rfl, ?hy7_43⟩) (by assumption) ?rest7_43
  case hy7_43 =>
    intro w hSw
    (try dsimp only at hSw)
    go_simp
    rfl
  case' rest7_43 => try simp only [Act.put, List.setIfInBounds_toArray, List.set_cons_zero, List.set_cons_succ, List.getElem_toArray, List.getElem_cons_zero, List.getElem_cons_succ]
  refine wpAnyH_take (i := 8) (oi := _) (v := ?v8_44) rfl (by kernel_rfl) (by kernel_rfl) (by kernel_rfl) (fun _ _ _ h => h) (Or.inl ⟨by rfl, ?hy8_44⟩) (by assumption) ?rest8_44
  case hy8_44 =>
    intro w hSw
    (try dsimp only at hSw)
    go_simp
    rfl
  case' rest8_44 => try simp only [Act.put, List.setIfInBounds_toArray, List.set_cons_zero, List.set_cons_succ, List.getElem_toArray, List.getElem_cons_zero, List.getElem_cons_succ]
  refine wpAnyH_take (i := 9) (oi := _) (v := ?v9_45) rfl (by kernel_rfl) (by kernel_rfl) (by kernel_rfl) (fun _ _ _ h => h) (Or.inl ⟨by rfl, ?hy9_45⟩) (by assumption) ?rest9_45
  case hy9_45 =>
    intro w hSw
    (try dsimp only at hSw)
    go_simp
    rfl
  case' rest9_45 => try simp only [Act.put, List.setIfInBounds_toArray, List.set_cons_zero, List.set_cons_succ, List.getElem_toArray, List.getElem_cons_zero, List.getElem_cons_succ]
  refine wpAnyH_ready (rs := [10]) (by kernel_rfl) (by simp) ?_
  refine AllReadyH.cons (o := _) rfl (fun K hK => ?_) AllReadyH.nil
  go_simp
  go_at_call 33
  have hse := same_state ⟨y0, y1, y2, y3, y4, y5, y6⟩ (q0, q1, q2, q3, q4, q5, q6, q7) (r0, r1, r2, r3, r4, r5, r6, r7) w6 HMY6.out.low HMZ6.out.low HYL.out
  unfold valSt at hse
  with_reducible refine hse.mono ?_
  clear hse
  rintro e w7 ⟨rfl, hb7⟩
  have HX7 := Lib.hid (HX6.out.next (by simp) hb7); have HY7 := Lib.hid (HY6.out.next (by simp) hb7); have HZ7 := Lib.hid (HZ6.out.next (by simp) hb7); have HB7 := Lib.hid (HB6.out.trans (hb7.mono HB6.out.size)); have HMY7 := Lib.hid (HMY6.out.below hb7); have HMZ7 := Lib.hid (HMZ6.out.below hb7); have HRW7 := Lib.hid (HRW6.out.below hb7); have HRV7 := Lib.hid (HRV6.out.below hb7); clear hb7
  clear hHeld
  refine hK.out _ _ ⟨HX7.out.cell (j := 0) rfl, HX7.out.cell (j := 1) rfl, HX7.out.cell (j := 2) rfl, HX7.out.cell (j := 3) rfl, HX7.out.cell (j := 4) rfl, HX7.out.cell (j := 5) rfl, HX7.out.cell (j := 6) rfl, HY7.out.cell (j := 0) rfl, HY7.out.cell (j := 1) rfl, HY7.out.cell (j := 2) rfl, HY7.out.cell (j := 3) rfl, HY7.out.cell (j := 4) rfl, HY7.out.cell (j := 5) rfl, HY7.out.cell (j := 6) rfl, HZ7.out.cell (j := 0) rfl, HZ7.out.cell (j := 1) rfl, HZ7.out.cell (j := 2) rfl, HZ7.out.cell (j := 3) rfl, HZ7.out.cell (j := 4) rfl, HZ7.out.cell (j := 5) rfl, HZ7.out.cell (j := 6) rfl, HCV5.out _ HRW7.out, HCV6.out _ HRV7.out⟩ (fun hHeld => ?_)
  clear hK K
  try simp only [Act.put, List.setIfInBounds_toArray, List.set_cons_zero, List.set_cons_succ, List.getElem_toArray, List.getElem_cons_zero, List.getElem_cons_succ]
  refine wpAnyH_take (i := 11) (oi := _) (v := ?v11_46) rfl (by kernel_rfl) (by kernel_rfl) (by kernel_rfl) (fun _ _ _ h => h) (Or.inl ⟨by rfl, ?hy11_46⟩) (by assumption) ?rest11_46
  case hy11_46 =>
    intro w hSw
    (try dsimp only at hSw)
    go_simp
    rfl
  case' rest11_46 => try simp only [Act.put, List.setIfInBounds_toArray, List.set_cons_zero, List.set_cons_succ, List.getElem_toArray, List.getElem_cons_zero, List.getElem_cons_succ]
  refine wpAnyH_take (i := 12) (oi := _) (v := ?v12_47) rfl (by kernel_rfl) (by kernel_rfl) (by kernel_rfl) (fun _ _ _ h => h) (Or.inl ⟨by rfl, ?hy12_47⟩) (by assumption) ?rest12_47
  case hy12_47 =>
    intro w hSw
    (try dsimp only at hSw)
    go_simp
    rfl
  case' rest12_47 => try simp only [Act.put, List.setIfInBounds_toArray, List.set_cons_zero, List.set_cons_succ, List.getElem_toArray, List.getElem_cons_zero, List.getElem_cons_succ]
  refine wpAnyH_take (i := 13) (oi := _) (v := ?v13_48) rfl (by kernel_rfl) (by kernel_rfl) (by kernel_rfl) (fun _ _ _ h => h) (Or.inl ⟨by rfl, ?hy13_48⟩) (by assumption) ?rest13_48
  case hy13_48 =>
    intro w hSw
    (try dsimp only at hSw)
    go_simp
    rfl
  case' rest13_48 => try simp only [Act.put, List.setIfInBounds_toArray, List.set_cons_zero, List.set_cons_succ, List.getElem_toArray, List.getElem_cons_zero, List.getElem_cons_succ]
  refine wpAnyH_take (i := 14) (oi := _) (v := ?v14_49) rfl (by kernel_rfl) (by kernel_rfl) (by kernel_rfl) (fun _ _ _ h => h) (Or.inl ⟨by rfl, ?hy14_49⟩) (by assumption) ?rest14_49
  case hy14_49 =>
    intro w hSw
    (try dsimp only at hSw)
    go_simp
    rfl
  case' rest14_49 => try simp only [Act.put, List.setIfInBounds_toArray, List.set_cons_zero, List.set_cons_succ, List.getElem_toArray, List.getElem_cons_zero, List.getElem_cons_succ]
  refine wpAnyH_take (i := 15) (oi := _) (v := ?v15_50) rfl (by kernel_rfl) (by kernel_rfl) (by kernel_rfl) (fun _ _ _ h => h) (Or.inl ⟨by rfl, ?hy15_50⟩) (by assumption) ?rest15_50
  case hy15_50 =>
    intro w hSw
    (try dsimp only at hSw)
    go_simp
    rfl
  case' rest15_50 => try simp only [Act.put, List.setIfInBounds_toArray, List.set_cons_zero, List.set_cons_succ, List.getElem_toArray, List.getElem_cons_zero, List.getElem_cons_succ]
  refine wpAnyH_take (i := 16) (oi := _) (v := ?v16_51) rfl (by kernel_rfl) (by kernel_rfl) (by kernel_rfl) (fun _ _ _ h => h) (Or.inl ⟨by rfl, ?hy16_51⟩) (by assumption) ?rest16_51
  case hy16_51 =>
    intro w hSw
    (try dsimp only at hSw)
    go_simp
    rfl
  case' rest16_51 => try simp only [Act.put, List.setIfInBounds_toArray, List.set_cons_zero, List.set_cons_succ, List.getElem_toArray, List.getElem_cons_zero, List.getElem_cons_succ]
  refine wpAnyH_take (i := 17) (oi := _) (v := ?v17_52) rfl (by kernel_rfl) (by kernel_rfl) (by kernel_rfl) (fun _ _ _ h => h) (Or.inl ⟨by rfl, ?hy17_52⟩) (by assumption) ?rest17_52
  case hy17_52 =>
    intro w hSw
    (try dsimp only at hSw)
    go_simp
    rfl
  case' rest17_52 => try simp only [Act.put, List.setIfInBounds_toArray, List.set_cons_zero, List.set_cons_succ, List.getElem_toArray, List.getElem_cons_zero, List.getElem_cons_succ]
  refine wpAnyH_take (i := 18) (oi := _) (v := ?v18_53) rfl (by kernel_rfl) (by kernel_rfl) (by kernel_rfl) (fun _ _ _ h => h) (Or.inl ⟨by rfl, ?hy18_53⟩) (by assumption) ?rest18_53
  case hy18_53 =>
    intro w hSw
    (try dsimp only at hSw)
    go_simp
    rfl
  case' rest18_53 => try simp only [Act.put, List.setIfInBounds_toArray, List.set_cons_zero, List.set_cons_succ, List.getElem_toArray, List.getElem_cons_zero, List.getElem_cons_succ]
  refine wpAnyH_take (i := 19) (oi := _) (v := ?v19_54) rfl (by kernel_rfl) (by kernel_rfl) (by kernel_rfl) (fun _ _ _ h => h) (Or.inl ⟨by rfl, ?hy19_54⟩) (by assumption) ?rest19_54
  case hy19_54 =>
    intro w hSw
    (try dsimp only at hSw)
    go_simp
    rfl
  case' rest19_54 => try simp only [Act.put, List.setIfInBounds_toArray, List.set_cons_zero, List.set_cons_succ, List.getElem_toArray, List.getElem_cons_zero, List.getElem_cons_succ]
  refine wpAnyH_take (i := 20) (oi := _) (v := ?v20_55) rfl (by kernel_rfl) (by kernel_rfl) (by kernel_rfl) (fun _ _ _ h => h) (Or.inl ⟨by rfl, ?hy20_55⟩) (by assumption) ?rest20_55
  case hy20_55 =>
    intro w hSw
    (try dsimp only at hSw)
    go_simp
    rfl
  case' rest20_55 => try simp only [Act.put, List.setIfInBounds_toArray, List.set_cons_zero, List.set_cons_succ, List.getElem_toArray, List.getElem_cons_zero, List.getElem_cons_succ]
  refine wpAnyH_take (i := 21) (oi := _) (v := ?v21_56) rfl (by kernel_rfl) (by kernel_rfl) (by kernel_rfl) (fun _ _ _ h => h) (Or.inl ⟨by rfl, ?hy21_56⟩) (by assumption) ?rest21_56
  case hy21_56 =>
    intro w hSw
    (try dsimp only at hSw)
    go_simp
    rfl
  case' rest21_56 => try simp only [Act.put, List.setIfInBounds_toArray, List.set_cons_zero, List.set_cons_succ, List.getElem_toArray, List.getElem_cons_zero, List.getElem_cons_succ]
  refine wpAnyH_take (i := 22) (oi := _) (v := ?v22_57) rfl (by kernel_rfl) (by kernel_rfl) (by kernel_rfl) (fun _ _ _ h => h) (Or.inl ⟨by rfl, ?hy22_57⟩) (by assumption) ?rest22_57
  case hy22_57 =>
    intro w hSw
    (try dsimp only at hSw)
    go_simp
    rfl
  case' rest22_57 => try simp only [Act.put, List.setIfInBounds_toArray, List.set_cons_zero, List.set_cons_succ, List.getElem_toArray, List.getElem_cons_zero, List.getElem_cons_succ]
  refine wpAnyH_ready (rs := [23]) (by kernel_rfl) (by simp) ?_
  refine AllReadyH.cons (o := _) rfl (fun K hK => ?_) AllReadyH.nil
  go_simp
  go_at_call 9
  with_reducible refine (wakes_any _).mono ?_
  rintro e w8 ⟨rfl, hb8⟩
  have HX8 := Lib.hid (HX7.out.next (by simp) hb8); have HY8 := Lib.hid (HY7.out.next (by simp) hb8); have HZ8 := Lib.hid (HZ7.out.next (by simp) hb8); have HB8 := Lib.hid (HB7.out.trans (hb8.mono HB7.out.size)); have HMY8 := Lib.hid (HMY7.out.below hb8); have HMZ8 := Lib.hid (HMZ7.out.below hb8); have HRW8 := Lib.hid (HRW7.out.below hb8); have HRV8 := Lib.hid (HRV7.out.below hb8); clear hb8
  clear hHeld
  refine hK.out _ _ ⟨HX8.out.cell (j := 0) rfl, HX8.out.cell (j := 1) rfl, HX8.out.cell (j := 2) rfl, HX8.out.cell (j := 3) rfl, HX8.out.cell (j := 4) rfl, HX8.out.cell (j := 5) rfl, HX8.out.cell (j := 6) rfl, HY8.out.cell (j := 0) rfl, HY8.out.cell (j := 1) rfl, HY8.out.cell (j := 2) rfl, HY8.out.cell (j := 3) rfl, HY8.out.cell (j := 4) rfl, HY8.out.cell (j := 5) rfl, HY8.out.cell (j := 6) rfl, HZ8.out.cell (j := 0) rfl, HZ8.out.cell (j := 1) rfl, HZ8.out.cell (j := 2) rfl, HZ8.out.cell (j := 3) rfl, HZ8.out.cell (j := 4) rfl, HZ8.out.cell (j := 5) rfl, HZ8.out.cell (j := 6) rfl, HCV5.out _ HRW8.out, HCV6.out _ HRV8.out⟩ (fun hHeld => ?_)
  clear hK K
  try simp only [Act.put, List.setIfInBounds_toArray, List.set_cons_zero, List.set_cons_succ, List.getElem_toArray, List.getElem_cons_zero, List.getElem_cons_succ]
  refine wpAnyH_take (i := 24) (oi := _) (v := ?v24_58) rfl (by kernel_rfl) (by kernel_rfl) (by kernel_rfl) (fun _ _ _ h => h) (Or.inl ⟨by rfl, ?hy24_58⟩) (by assumption) ?rest24_58
  case hy24_58 =>
    intro w hSw
    (try dsimp only at hSw)
    go_simp
    rfl
  case' rest24_58 => try simp only [Act.put, List.setIfInBounds_toArray, List.set_cons_zero, List.set_cons_succ, List.getElem_toArray, List.getElem_cons_zero, List.getElem_cons_succ]
  refine wpAnyH_take (i := 25) (oi := _) (v := ?v25_59) rfl (by kernel_rfl) (by kernel_rfl) (by kernel_rfl) (fun _ _ _ h => h) (Or.inl ⟨by rfl, ?hy25_59⟩) (by assumption) ?rest25_59
  case hy25_59 =>
    intro w hSw
    (try dsimp only at hSw)
    go_simp
    rfl
  case' rest25_59 => try simp only [Act.put, List.setIfInBounds_toArray, List.set_cons_zero, List.set_cons_succ, List.getElem_toArray, List.getElem_cons_zero, List.getElem_cons_succ]
  refine wpAnyH_done (by kernel_rfl) ?_ _
  clear hHeld
  go_wp2_with fail
  go_returns
  exact ⟨rfl, HB8.out⟩
end Go.Proofs.Ytlckgnemmffdkaa
