/- The law of entries. (printed by gen_wirlaw.py) -/
import Derived.Test.YtlckgnemmffdkaaWirRefReadEnt
import Derived.Test.YtlckgnemmffdkaaWirSame
import Derived.Test.YtlckgnemmffdkaaWirWakes
import Derived.Test.YtlckgnemmffdkaaOrdSkip
import Derived.Deep.QuietTactic
import Derived.BigQuiet
namespace Go.Proofs.Ytlckgnemmffdkaa
open Go.ChangeShapes Go.WideShapes Go.ChangeAt Go.RowKit
set_option maxRecDepth 100000

set_option maxHeartbeats 8000000 in
theorem law_entry (x : WEnt) (p : PEnt) (a : Option Addr) (l : List UInt8) (n c : Nat) (w : World) (hx : goodWEnt x) (hp : LowEnt w.heap.size w x p) (hn : l.length = n) (hc : n ≤ c) (hr : RowB w a l) :
    Calls Try.prog 4 #[valEnt x p, .slice a n c] w (fun e w' => e = .returned (.bool true) ∧ Below w.heap.size w w') := by
  have hB : ∀ v0 v1 v2 v3 (v4 : List UInt8) p0 p1, Below w.heap.size w (w.alloc (.cells #[.int .i64 v0, .int .i8 v1, .int .i64 v2, B v3, .slice p0 v4.length p1] 32)) := fun _ _ _ _ _ _ _ => mid_alloc' (Below.refl _ _)
  by_cases hg1 : 4000 < x.data.length
  · skip
    obtain ⟨v0, v1, v2, v3, v4⟩ := x
    obtain ⟨p0, p1⟩ := p
    simp only at hg1
    have HN := Lib.hid hn
    have HB := Lib.hid (hB v0 v1 v2 v3 v4 p0 p1)
    clear hn hr hx hp hB
    unfold valEnt
    simp only
    have d1 : decide ((4000 : Int) < (v4.length : Int)) = true := decide_eq_true (by omega)
    go_enter Try.func4, Try.ntmps4
    go_wp2_with (go_at_call 9; ((with_reducible refine (wakes_any _).mono ?_); rintro e w' ⟨rfl, hb⟩; have HBW := Lib.hid hb; clear hb))
    go_returns
    exact ⟨rfl, HB.out.trans (HBW.out.mono HB.out.size)⟩
  by_cases hg2 : 4000 < n
  · skip
    obtain ⟨v0, v1, v2, v3, v4⟩ := x
    obtain ⟨p0, p1⟩ := p
    simp only at hg1
    have HN := Lib.hid hn
    have HB := Lib.hid (hB v0 v1 v2 v3 v4 p0 p1)
    clear hn hr hx hp hB
    unfold valEnt
    simp only
    have d1 : decide ((4000 : Int) < (v4.length : Int)) = false := decide_eq_false (by omega)
    have d2 : decide ((4000 : Int) < (n : Int)) = true := decide_eq_true (by omega)
    go_enter Try.func4, Try.ntmps4
    go_wp2_with (go_at_call 9; ((with_reducible refine (wakes_any _).mono ?_); rintro e w' ⟨rfl, hb⟩; have HBW := Lib.hid hb; clear hb))
    go_returns
    exact ⟨rfl, HB.out.trans (HBW.out.mono HB.out.size)⟩
  have hok : OkEnt x := ⟨hx.2.1, by unfold encWEnt; simp only [List.length_append, be8_length, List.length_cons, List.length_nil]; omega⟩
  have HEN := Lib.hid (fun w' (hb : Below w.heap.size w w') => entry_bytes x p w' (hp.up hb.size hb) hok)
  have HRN := Lib.hid (fun w' (hb : Below w.heap.size w w') => refentry_bytes x p w' (hp.up hb.size hb) hok)
  subst hn
  have HRD := Lib.hid (fun w' (hb : Below w.heap.size w w') => readentry_any a c l w' (hr.below hb) hc (by omega))
  have HRR := Lib.hid (fun w' (hb : Below w.heap.size w w') => refreadentry_any a c l w' (hr.below hb) hc (by omega))
  generalize readP zEnt wEntP l = r at HRD HRR
  obtain ⟨⟨y0, y1, y2, y3, y4⟩, i, j⟩ := r
  generalize encWEnt x = L at HEN HRN
  obtain ⟨v0, v1, v2, v3, v4⟩ := x
  obtain ⟨p0, p1⟩ := p
  have HX1 := Lib.hid (Box.of_alloc (w := w) (cs := [.int .i64 v0, .int .i8 v1, .int .i64 v2, B v3, .slice p0 v4.length p1]) (t := 32) (Below.refl _ _))
  have HB1 := Lib.hid (hB v0 v1 v2 v3 v4 p0 p1)
  simp only at hg1
  have d1 : decide ((4000 : Int) < (v4.length : Int)) = false := decide_eq_false (by omega)
  have d2 : decide ((4000 : Int) < (l.length : Int)) = false := decide_eq_false (by omega)
  clear hx hp hok hr hB
  unfold valEnt at HEN HRN ⊢
  simp only at HEN HRN ⊢
  go_enter Try.func4, Try.ntmps4
  go_upto_region 5 with (first
    | (go_at_call 15; ((with_reducible refine (HRR.out _ HB2.out).mono ?_); rintro e w3 ⟨⟨r0, r1⟩, rfl, hm, hb⟩; have hba : Below w3.heap.size w3 (w3.alloc (.cells #[.int .i64 y0, .int .i8 y1, .int .i64 y2, B y3, .slice r0 y4.length r1] 32)) := mid_alloc' (Below.refl _ _); have HX3 := Lib.hid ((HX2.out.next (by simp) hb).next (by simp) hba); have HY3 := Lib.hid ((HY2.out.next (by simp) hb).next (by simp) hba); have HZ3 := Lib.hid (Box.of_alloc (w := w3) (cs := [.int .i64 y0, .int .i8 y1, .int .i64 y2, B y3, .slice r0 y4.length r1]) (t := 32) (Below.refl _ _)); have hb3 := HB2.out.trans (hb.mono HB2.out.size); have HB3 := Lib.hid (hb3.trans (hba.mono hb3.size)); have HMY3 := Lib.hid ((HMY2.out.row.row.below hb).below hba); have HMZ3 := Lib.hid (hm.row.row.below hba); clear hm hb hba hb3; unfold valEnt))
    | (go_at_call 14; ((with_reducible refine (HRD.out _ HB1.out).mono ?_); rintro e w2 ⟨⟨q0, q1⟩, rfl, hm, hb⟩; have hba : Below w2.heap.size w2 (w2.alloc (.cells #[.int .i64 y0, .int .i8 y1, .int .i64 y2, B y3, .slice q0 y4.length q1] 32)) := mid_alloc' (Below.refl _ _); have HX2 := Lib.hid ((HX1.out.next (by simp) hb).next (by simp) hba); have HY2 := Lib.hid (Box.of_alloc (w := w2) (cs := [.int .i64 y0, .int .i8 y1, .int .i64 y2, B y3, .slice q0 y4.length q1]) (t := 32) (Below.refl _ _)); have hb2 := HB1.out.trans (hb.mono HB1.out.size); have HB2 := Lib.hid (hb2.trans (hba.mono hb2.size)); have HMY2 := Lib.hid (hm.below hba); clear hm hb hba hb2; unfold valEnt)))
  generalize w3.alloc (.cells #[.int .i64 y0, .int .i8 y1, .int .i64 y2, B y3, .slice r0 y4.length r1] 32) = w4 at HX3 HY3 HZ3 HB3 HMY3 HMZ3 ⊢
  have HK : Hid (∀ w', Box w' w.heap.size [.int .i64 v0, .int .i8 v1, .int .i64 v2, B v3, .slice p0 v4.length p1] → Box w' w2.heap.size [.int .i64 y0, .int .i8 y1, .int .i64 y2, B y3, .slice q0 y4.length q1] → Box w' w3.heap.size [.int .i64 y0, .int .i8 y1, .int .i64 y2, B y3, .slice r0 y4.length r1] → w'.cell? ⟨w.heap.size, 0, none⟩ = some (.int .i64 v0) ∧ w'.cell? ⟨w.heap.size, 1, none⟩ = some (.int .i8 v1) ∧ w'.cell? ⟨w.heap.size, 2, none⟩ = some (.int .i64 v2) ∧ w'.cell? ⟨w.heap.size, 3, none⟩ = some (B v3) ∧ w'.cell? ⟨w.heap.size, 4, none⟩ = some (.slice p0 v4.length p1) ∧ w'.cell? ⟨w2.heap.size, 0, none⟩ = some (.int .i64 y0) ∧ w'.cell? ⟨w2.heap.size, 1, none⟩ = some (.int .i8 y1) ∧ w'.cell? ⟨w2.heap.size, 2, none⟩ = some (.int .i64 y2) ∧ w'.cell? ⟨w2.heap.size, 3, none⟩ = some (B y3) ∧ w'.cell? ⟨w2.heap.size, 4, none⟩ = some (.slice q0 y4.length q1) ∧ w'.cell? ⟨w3.heap.size, 0, none⟩ = some (.int .i64 y0) ∧ w'.cell? ⟨w3.heap.size, 1, none⟩ = some (.int .i8 y1) ∧ w'.cell? ⟨w3.heap.size, 2, none⟩ = some (.int .i64 y2) ∧ w'.cell? ⟨w3.heap.size, 3, none⟩ = some (B y3) ∧ w'.cell? ⟨w3.heap.size, 4, none⟩ = some (.slice r0 y4.length r1)) := fun w' x y z => ⟨x.cell (j := 0) rfl, x.cell (j := 1) rfl, x.cell (j := 2) rfl, x.cell (j := 3) rfl, x.cell (j := 4) rfl, y.cell (j := 0) rfl, y.cell (j := 1) rfl, y.cell (j := 2) rfl, y.cell (j := 3) rfl, y.cell (j := 4) rfl, z.cell (j := 0) rfl, z.cell (j := 1) rfl, z.cell (j := 2) rfl, z.cell (j := 3) rfl, z.cell (j := 4) rfl⟩
  have hb4 : Below w4.heap.size w4 w4.drew := (Below.refl _ _).drew
  have HX4 := Lib.hid (HX3.out.next (by simp) hb4); have HY4 := Lib.hid (HY3.out.next (by simp) hb4); have HZ4 := Lib.hid (HZ3.out.next (by simp) hb4); have HB4 := Lib.hid (HB3.out.trans (hb4.mono HB3.out.size)); have HMY4 := Lib.hid (HMY3.out.below hb4); have HMZ4 := Lib.hid (HMZ3.out.below hb4); clear hb4
  refine wp_region_held_drew (S := (fun w' => w'.cell? ⟨w.heap.size, 0, none⟩ = some (.int .i64 v0) ∧ w'.cell? ⟨w.heap.size, 1, none⟩ = some (.int .i8 v1) ∧ w'.cell? ⟨w.heap.size, 2, none⟩ = some (.int .i64 v2) ∧ w'.cell? ⟨w.heap.size, 3, none⟩ = some (B v3) ∧ w'.cell? ⟨w.heap.size, 4, none⟩ = some (.slice p0 v4.length p1) ∧ w'.cell? ⟨w2.heap.size, 0, none⟩ = some (.int .i64 y0) ∧ w'.cell? ⟨w2.heap.size, 1, none⟩ = some (.int .i8 y1) ∧ w'.cell? ⟨w2.heap.size, 2, none⟩ = some (.int .i64 y2) ∧ w'.cell? ⟨w2.heap.size, 3, none⟩ = some (B y3) ∧ w'.cell? ⟨w2.heap.size, 4, none⟩ = some (.slice q0 y4.length q1) ∧ w'.cell? ⟨w3.heap.size, 0, none⟩ = some (.int .i64 y0) ∧ w'.cell? ⟨w3.heap.size, 1, none⟩ = some (.int .i8 y1) ∧ w'.cell? ⟨w3.heap.size, 2, none⟩ = some (.int .i64 y2) ∧ w'.cell? ⟨w3.heap.size, 3, none⟩ = some (B y3) ∧ w'.cell? ⟨w3.heap.size, 4, none⟩ = some (.slice r0 y4.length r1))) (by kernel_rfl) (HK.out _ HX4.out HY4.out HZ4.out) (fun hHeld => ?_)
  refine wpAnyH_take (i := 0) (oi := _) (v := ?v0_1) rfl (by kernel_rfl) (by kernel_rfl) (by kernel_rfl) (fun _ _ _ h => h) (Or.inl ⟨by rfl, ?hy0_1⟩) (by assumption) ?rest0_1
  case hy0_1 =>
    intro w hSw
    (try dsimp only at hSw)
    go_simp
    rfl
  case' rest0_1 => try simp only [Act.put, List.setIfInBounds_toArray, List.set_cons_zero, List.set_cons_succ, List.getElem_toArray, List.getElem_cons_zero, List.getElem_cons_succ]
  refine wpAnyH_take (i := 3) (oi := _) (v := ?v3_2) rfl (by kernel_rfl) (by kernel_rfl) (by kernel_rfl) (fun _ _ _ h => h) (Or.inl ⟨by rfl, ?hy3_2⟩) (by assumption) ?rest3_2
  case hy3_2 =>
    intro w hSw
    (try dsimp only at hSw)
    go_simp
    rfl
  case' rest3_2 => try simp only [Act.put, List.setIfInBounds_toArray, List.set_cons_zero, List.set_cons_succ, List.getElem_toArray, List.getElem_cons_zero, List.getElem_cons_succ]
  refine wpAnyH_ready (rs := [1]) (by kernel_rfl) (by simp) ?_
  refine AllReadyH.cons (o := _) rfl (fun K hK => ?_) AllReadyH.nil
  go_simp
  go_at_call 16
  with_reducible refine (HEN.out _ HB4.out).mono ?_
  rintro e w5 ⟨a5, c5, rfl, hrw5, hb5, -⟩
  have HX5 := Lib.hid (HX4.out.next (by simp) hb5); have HY5 := Lib.hid (HY4.out.next (by simp) hb5); have HZ5 := Lib.hid (HZ4.out.next (by simp) hb5); have HB5 := Lib.hid (HB4.out.trans (hb5.mono HB4.out.size)); have HMY5 := Lib.hid (HMY4.out.below hb5); have HMZ5 := Lib.hid (HMZ4.out.below hb5); clear hb5
  have HRW5 := Lib.hid hrw5
  have HCV5 : Hid (∀ w', RowB w' a5 L → (convert 22 9 (.slice a5 L.length c5)).run Try.prog w' = .ok (.string ⟨L.toArray⟩) w') := fun w' h => conv_bytes h rfl
  clear hrw5
  clear hHeld
  refine hK.out _ _ (HK.out _ HX5.out HY5.out HZ5.out) (fun hHeld => ?_)
  clear hK K
  try simp only [Act.put, List.setIfInBounds_toArray, List.set_cons_zero, List.set_cons_succ, List.getElem_toArray, List.getElem_cons_zero, List.getElem_cons_succ]
  refine wpAnyH_up (S' := (fun w' => w'.cell? ⟨w.heap.size, 0, none⟩ = some (.int .i64 v0) ∧ w'.cell? ⟨w.heap.size, 1, none⟩ = some (.int .i8 v1) ∧ w'.cell? ⟨w.heap.size, 2, none⟩ = some (.int .i64 v2) ∧ w'.cell? ⟨w.heap.size, 3, none⟩ = some (B v3) ∧ w'.cell? ⟨w.heap.size, 4, none⟩ = some (.slice p0 v4.length p1) ∧ w'.cell? ⟨w2.heap.size, 0, none⟩ = some (.int .i64 y0) ∧ w'.cell? ⟨w2.heap.size, 1, none⟩ = some (.int .i8 y1) ∧ w'.cell? ⟨w2.heap.size, 2, none⟩ = some (.int .i64 y2) ∧ w'.cell? ⟨w2.heap.size, 3, none⟩ = some (B y3) ∧ w'.cell? ⟨w2.heap.size, 4, none⟩ = some (.slice q0 y4.length q1) ∧ w'.cell? ⟨w3.heap.size, 0, none⟩ = some (.int .i64 y0) ∧ w'.cell? ⟨w3.heap.size, 1, none⟩ = some (.int .i8 y1) ∧ w'.cell? ⟨w3.heap.size, 2, none⟩ = some (.int .i64 y2) ∧ w'.cell? ⟨w3.heap.size, 3, none⟩ = some (B y3) ∧ w'.cell? ⟨w3.heap.size, 4, none⟩ = some (.slice r0 y4.length r1) ∧ (convert 22 9 (.slice a5 L.length c5)).run Try.prog w' = .ok (.string ⟨L.toArray⟩) w')) (fun _ h => ⟨h.1, h.2.1, h.2.2.1, h.2.2.2.1, h.2.2.2.2.1, h.2.2.2.2.2.1, h.2.2.2.2.2.2.1, h.2.2.2.2.2.2.2.1, h.2.2.2.2.2.2.2.2.1, h.2.2.2.2.2.2.2.2.2.1, h.2.2.2.2.2.2.2.2.2.2.1, h.2.2.2.2.2.2.2.2.2.2.2.1, h.2.2.2.2.2.2.2.2.2.2.2.2.1, h.2.2.2.2.2.2.2.2.2.2.2.2.2.1, h.2.2.2.2.2.2.2.2.2.2.2.2.2.2.1⟩) ?_
  have hHeld2 : (fun w' => w'.cell? ⟨w.heap.size, 0, none⟩ = some (.int .i64 v0) ∧ w'.cell? ⟨w.heap.size, 1, none⟩ = some (.int .i8 v1) ∧ w'.cell? ⟨w.heap.size, 2, none⟩ = some (.int .i64 v2) ∧ w'.cell? ⟨w.heap.size, 3, none⟩ = some (B v3) ∧ w'.cell? ⟨w.heap.size, 4, none⟩ = some (.slice p0 v4.length p1) ∧ w'.cell? ⟨w2.heap.size, 0, none⟩ = some (.int .i64 y0) ∧ w'.cell? ⟨w2.heap.size, 1, none⟩ = some (.int .i8 y1) ∧ w'.cell? ⟨w2.heap.size, 2, none⟩ = some (.int .i64 y2) ∧ w'.cell? ⟨w2.heap.size, 3, none⟩ = some (B y3) ∧ w'.cell? ⟨w2.heap.size, 4, none⟩ = some (.slice q0 y4.length q1) ∧ w'.cell? ⟨w3.heap.size, 0, none⟩ = some (.int .i64 y0) ∧ w'.cell? ⟨w3.heap.size, 1, none⟩ = some (.int .i8 y1) ∧ w'.cell? ⟨w3.heap.size, 2, none⟩ = some (.int .i64 y2) ∧ w'.cell? ⟨w3.heap.size, 3, none⟩ = some (B y3) ∧ w'.cell? ⟨w3.heap.size, 4, none⟩ = some (.slice r0 y4.length r1) ∧ (convert 22 9 (.slice a5 L.length c5)).run Try.prog w' = .ok (.string ⟨L.toArray⟩) w') w5 := ⟨HX5.out.cell (j := 0) rfl, HX5.out.cell (j := 1) rfl, HX5.out.cell (j := 2) rfl, HX5.out.cell (j := 3) rfl, HX5.out.cell (j := 4) rfl, HY5.out.cell (j := 0) rfl, HY5.out.cell (j := 1) rfl, HY5.out.cell (j := 2) rfl, HY5.out.cell (j := 3) rfl, HY5.out.cell (j := 4) rfl, HZ5.out.cell (j := 0) rfl, HZ5.out.cell (j := 1) rfl, HZ5.out.cell (j := 2) rfl, HZ5.out.cell (j := 3) rfl, HZ5.out.cell (j := 4) rfl, HCV5.out _ HRW5.out⟩
  clear hHeld
  have hHeld := hHeld2
  clear hHeld2
  refine wpAnyH_take (i := 2) (oi := _) (v := ?v2_3) rfl (by kernel_rfl) (by kernel_rfl) (by kernel_rfl) (fun _ _ _ h => h) (Or.inl ⟨by rfl, ?hy2_3⟩) (by assumption) ?rest2_3
  case hy2_3 =>
    intro w hSw
    (try dsimp only at hSw)
    go_simp
    rfl
  case' rest2_3 => try simp only [Act.put, List.setIfInBounds_toArray, List.set_cons_zero, List.set_cons_succ, List.getElem_toArray, List.getElem_cons_zero, List.getElem_cons_succ]
  refine wpAnyH_ready (rs := [4]) (by kernel_rfl) (by simp) ?_
  refine AllReadyH.cons (o := _) rfl (fun K hK => ?_) AllReadyH.nil
  go_simp
  go_at_call 17
  with_reducible refine (HRN.out _ HB5.out).mono ?_
  rintro e w6 ⟨a6, c6, rfl, hrw6, hb6⟩
  have HX6 := Lib.hid (HX5.out.next (by simp) hb6); have HY6 := Lib.hid (HY5.out.next (by simp) hb6); have HZ6 := Lib.hid (HZ5.out.next (by simp) hb6); have HB6 := Lib.hid (HB5.out.trans (hb6.mono HB5.out.size)); have HMY6 := Lib.hid (HMY5.out.below hb6); have HMZ6 := Lib.hid (HMZ5.out.below hb6); have HRW6 := Lib.hid (HRW5.out.below hb6); clear hb6
  have HRV6 := Lib.hid hrw6
  have HCV6 : Hid (∀ w', RowB w' a6 L → (convert 22 9 (.slice a6 L.length c6)).run Try.prog w' = .ok (.string ⟨L.toArray⟩) w') := fun w' h => conv_bytes h rfl
  clear hrw6
  clear hHeld
  refine hK.out _ _ ⟨HX6.out.cell (j := 0) rfl, HX6.out.cell (j := 1) rfl, HX6.out.cell (j := 2) rfl, HX6.out.cell (j := 3) rfl, HX6.out.cell (j := 4) rfl, HY6.out.cell (j := 0) rfl, HY6.out.cell (j := 1) rfl, HY6.out.cell (j := 2) rfl, HY6.out.cell (j := 3) rfl, HY6.out.cell (j := 4) rfl, HZ6.out.cell (j := 0) rfl, HZ6.out.cell (j := 1) rfl, HZ6.out.cell (j := 2) rfl, HZ6.out.cell (j := 3) rfl, HZ6.out.cell (j := 4) rfl, HCV5.out _ HRW6.out⟩ (fun hHeld => ?_)
  clear hK K
  try simp only [Act.put, List.setIfInBounds_toArray, List.set_cons_zero, List.set_cons_succ, List.getElem_toArray, List.getElem_cons_zero, List.getElem_cons_succ]
  refine wpAnyH_up (S' := (fun w' => w'.cell? ⟨w.heap.size, 0, none⟩ = some (.int .i64 v0) ∧ w'.cell? ⟨w.heap.size, 1, none⟩ = some (.int .i8 v1) ∧ w'.cell? ⟨w.heap.size, 2, none⟩ = some (.int .i64 v2) ∧ w'.cell? ⟨w.heap.size, 3, none⟩ = some (B v3) ∧ w'.cell? ⟨w.heap.size, 4, none⟩ = some (.slice p0 v4.length p1) ∧ w'.cell? ⟨w2.heap.size, 0, none⟩ = some (.int .i64 y0) ∧ w'.cell? ⟨w2.heap.size, 1, none⟩ = some (.int .i8 y1) ∧ w'.cell? ⟨w2.heap.size, 2, none⟩ = some (.int .i64 y2) ∧ w'.cell? ⟨w2.heap.size, 3, none⟩ = some (B y3) ∧ w'.cell? ⟨w2.heap.size, 4, none⟩ = some (.slice q0 y4.length q1) ∧ w'.cell? ⟨w3.heap.size, 0, none⟩ = some (.int .i64 y0) ∧ w'.cell? ⟨w3.heap.size, 1, none⟩ = some (.int .i8 y1) ∧ w'.cell? ⟨w3.heap.size, 2, none⟩ = some (.int .i64 y2) ∧ w'.cell? ⟨w3.heap.size, 3, none⟩ = some (B y3) ∧ w'.cell? ⟨w3.heap.size, 4, none⟩ = some (.slice r0 y4.length r1) ∧ (convert 22 9 (.slice a5 L.length c5)).run Try.prog w' = .ok (.string ⟨L.toArray⟩) w' ∧ (convert 22 9 (.slice a6 L.length c6)).run Try.prog w' = .ok (.string ⟨L.toArray⟩) w')) (fun _ h => ⟨h.1, h.2.1, h.2.2.1, h.2.2.2.1, h.2.2.2.2.1, h.2.2.2.2.2.1, h.2.2.2.2.2.2.1, h.2.2.2.2.2.2.2.1, h.2.2.2.2.2.2.2.2.1, h.2.2.2.2.2.2.2.2.2.1, h.2.2.2.2.2.2.2.2.2.2.1, h.2.2.2.2.2.2.2.2.2.2.2.1, h.2.2.2.2.2.2.2.2.2.2.2.2.1, h.2.2.2.2.2.2.2.2.2.2.2.2.2.1, h.2.2.2.2.2.2.2.2.2.2.2.2.2.2.1, h.2.2.2.2.2.2.2.2.2.2.2.2.2.2.2.1⟩) ?_
  have hHeld2 : (fun w' => w'.cell? ⟨w.heap.size, 0, none⟩ = some (.int .i64 v0) ∧ w'.cell? ⟨w.heap.size, 1, none⟩ = some (.int .i8 v1) ∧ w'.cell? ⟨w.heap.size, 2, none⟩ = some (.int .i64 v2) ∧ w'.cell? ⟨w.heap.size, 3, none⟩ = some (B v3) ∧ w'.cell? ⟨w.heap.size, 4, none⟩ = some (.slice p0 v4.length p1) ∧ w'.cell? ⟨w2.heap.size, 0, none⟩ = some (.int .i64 y0) ∧ w'.cell? ⟨w2.heap.size, 1, none⟩ = some (.int .i8 y1) ∧ w'.cell? ⟨w2.heap.size, 2, none⟩ = some (.int .i64 y2) ∧ w'.cell? ⟨w2.heap.size, 3, none⟩ = some (B y3) ∧ w'.cell? ⟨w2.heap.size, 4, none⟩ = some (.slice q0 y4.length q1) ∧ w'.cell? ⟨w3.heap.size, 0, none⟩ = some (.int .i64 y0) ∧ w'.cell? ⟨w3.heap.size, 1, none⟩ = some (.int .i8 y1) ∧ w'.cell? ⟨w3.heap.size, 2, none⟩ = some (.int .i64 y2) ∧ w'.cell? ⟨w3.heap.size, 3, none⟩ = some (B y3) ∧ w'.cell? ⟨w3.heap.size, 4, none⟩ = some (.slice r0 y4.length r1) ∧ (convert 22 9 (.slice a5 L.length c5)).run Try.prog w' = .ok (.string ⟨L.toArray⟩) w' ∧ (convert 22 9 (.slice a6 L.length c6)).run Try.prog w' = .ok (.string ⟨L.toArray⟩) w') w6 := ⟨HX6.out.cell (j := 0) rfl, HX6.out.cell (j := 1) rfl, HX6.out.cell (j := 2) rfl, HX6.out.cell (j := 3) rfl, HX6.out.cell (j := 4) rfl, HY6.out.cell (j := 0) rfl, HY6.out.cell (j := 1) rfl, HY6.out.cell (j := 2) rfl, HY6.out.cell (j := 3) rfl, HY6.out.cell (j := 4) rfl, HZ6.out.cell (j := 0) rfl, HZ6.out.cell (j := 1) rfl, HZ6.out.cell (j := 2) rfl, HZ6.out.cell (j := 3) rfl, HZ6.out.cell (j := 4) rfl, HCV5.out _ HRW6.out, HCV6.out _ HRV6.out⟩
  clear hHeld
  have hHeld := hHeld2
  clear hHeld2
  refine wpAnyH_take (i := 5) (oi := _) (v := ?v5_4) rfl (by kernel_rfl) (by kernel_rfl) (by kernel_rfl) (fun _ _ _ h => h) (Or.inl ⟨by rfl, ?hy5_4⟩) (by assumption) ?rest5_4
  case hy5_4 =>
    intro w hSw
    (try dsimp only at hSw)
    go_simp
    rfl
  case' rest5_4 => try simp only [Act.put, List.setIfInBounds_toArray, List.set_cons_zero, List.set_cons_succ, List.getElem_toArray, List.getElem_cons_zero, List.getElem_cons_succ]
  refine wpAnyH_take (i := 6) (oi := _) (v := ?v6_5) rfl (by kernel_rfl) (by kernel_rfl) (by kernel_rfl) (fun _ _ _ h => h) (Or.inl ⟨by rfl, ?hy6_5⟩) (by assumption) ?rest6_5
  case hy6_5 =>
    intro w hSw
    (try dsimp only at hSw)
    go_simp
    rfl
  case' rest6_5 => try simp only [Act.put, List.setIfInBounds_toArray, List.set_cons_zero, List.set_cons_succ, List.getElem_toArray, List.getElem_cons_zero, List.getElem_cons_succ]
  refine wpAnyH_take (i := 7) (oi := _) (v := ?v7_6) rfl (by kernel_rfl) (by kernel_rfl) (by kernel_rfl) (fun _ _ _ h => h) (Or.inl ⟨by rfl, ?hy7_6⟩) (by assumption) ?rest7_6
  case hy7_6 =>
    intro w hSw
    (try dsimp only at hSw)
    go_simp
    rfl
  case' rest7_6 => try simp only [Act.put, List.setIfInBounds_toArray, List.set_cons_zero, List.set_cons_succ, List.getElem_toArray, List.getElem_cons_zero, List.getElem_cons_succ]
  refine wpAnyH_take (i := 8) (oi := _) (v := ?v8_7) rfl (by kernel_rfl) (by kernel_rfl) (by kernel_rfl) (fun _ _ _ h => h) (Or.inl ⟨by rfl, ?hy8_7⟩) (by assumption) ?rest8_7
  case hy8_7 =>
    intro w hSw
    (try dsimp only at hSw)
    go_simp
    rfl
  case' rest8_7 => try simp only [Act.put, List.setIfInBounds_toArray, List.set_cons_zero, List.set_cons_succ, List.getElem_toArray, List.getElem_cons_zero, List.getElem_cons_succ]
  refine wpAnyH_take (i := 9) (oi := _) (v := ?v9_8) rfl (by kernel_rfl) (by kernel_rfl) (by kernel_rfl) (fun _ _ _ h => h) (Or.inl ⟨by rfl, ?hy9_8⟩) (by assumption) ?rest9_8
  case hy9_8 =>
    intro w hSw
    (try dsimp only at hSw)
    go_simp
    rfl
  case' rest9_8 => try simp only [Act.put, List.setIfInBounds_toArray, List.set_cons_zero, List.set_cons_succ, List.getElem_toArray, List.getElem_cons_zero, List.getElem_cons_succ]
  refine wpAnyH_ready (rs := [10]) (by kernel_rfl) (by simp) ?_
  refine AllReadyH.cons (o := _) rfl (fun K hK => ?_) AllReadyH.nil
  go_simp
  go_at_call 18
  have hse := same_entry ⟨y0, y1, y2, y3, y4⟩ (q0, q1) (r0, r1) w6 HMY6.out HMZ6.out
  unfold valEnt at hse
  with_reducible refine hse.mono ?_
  clear hse
  rintro e w7 ⟨rfl, hb7⟩
  have HX7 := Lib.hid (HX6.out.next (by simp) hb7); have HY7 := Lib.hid (HY6.out.next (by simp) hb7); have HZ7 := Lib.hid (HZ6.out.next (by simp) hb7); have HB7 := Lib.hid (HB6.out.trans (hb7.mono HB6.out.size)); have HMY7 := Lib.hid (HMY6.out.below hb7); have HMZ7 := Lib.hid (HMZ6.out.below hb7); have HRW7 := Lib.hid (HRW6.out.below hb7); have HRV7 := Lib.hid (HRV6.out.below hb7); clear hb7
  clear hHeld
  refine hK.out _ _ ⟨HX7.out.cell (j := 0) rfl, HX7.out.cell (j := 1) rfl, HX7.out.cell (j := 2) rfl, HX7.out.cell (j := 3) rfl, HX7.out.cell (j := 4) rfl, HY7.out.cell (j := 0) rfl, HY7.out.cell (j := 1) rfl, HY7.out.cell (j := 2) rfl, HY7.out.cell (j := 3) rfl, HY7.out.cell (j := 4) rfl, HZ7.out.cell (j := 0) rfl, HZ7.out.cell (j := 1) rfl, HZ7.out.cell (j := 2) rfl, HZ7.out.cell (j := 3) rfl, HZ7.out.cell (j := 4) rfl, HCV5.out _ HRW7.out, HCV6.out _ HRV7.out⟩ (fun hHeld => ?_)
  clear hK K
  try simp only [Act.put, List.setIfInBounds_toArray, List.set_cons_zero, List.set_cons_succ, List.getElem_toArray, List.getElem_cons_zero, List.getElem_cons_succ]
  refine wpAnyH_take (i := 11) (oi := _) (v := ?v11_9) rfl (by kernel_rfl) (by kernel_rfl) (by kernel_rfl) (fun _ _ _ h => h) (Or.inl ⟨by rfl, ?hy11_9⟩) (by assumption) ?rest11_9
  case hy11_9 =>
    intro w hSw
    (try dsimp only at hSw)
    go_simp
    rfl
  case' rest11_9 => try simp only [Act.put, List.setIfInBounds_toArray, List.set_cons_zero, List.set_cons_succ, List.getElem_toArray, List.getElem_cons_zero, List.getElem_cons_succ]
  refine wpAnyH_take (i := 12) (oi := _) (v := ?v12_10) rfl (by kernel_rfl) (by kernel_rfl) (by kernel_rfl) (fun _ _ _ h => h) (Or.inl ⟨by rfl, ?hy12_10⟩) (by assumption) ?rest12_10
  case hy12_10 =>
    intro w hSw
    (try dsimp only at hSw)
    go_simp
    rfl
  case' rest12_10 => try simp only [Act.put, List.setIfInBounds_toArray, List.set_cons_zero, List.set_cons_succ, List.getElem_toArray, List.getElem_cons_zero, List.getElem_cons_succ]
  refine wpAnyH_take (i := 13) (oi := _) (v := ?v13_11) rfl (by kernel_rfl) (by kernel_rfl) (by kernel_rfl) (fun _ _ _ h => h) (Or.inl ⟨by rfl, ?hy13_11⟩) (by assumption) ?rest13_11
  case hy13_11 =>
    intro w hSw
    (try dsimp only at hSw)
    go_simp
    rfl
  case' rest13_11 => try simp only [Act.put, List.setIfInBounds_toArray, List.set_cons_zero, List.set_cons_succ, List.getElem_toArray, List.getElem_cons_zero, List.getElem_cons_succ]
  refine wpAnyH_take (i := 14) (oi := _) (v := ?v14_12) rfl (by kernel_rfl) (by kernel_rfl) (by kernel_rfl) (fun _ _ _ h => h) (Or.inl ⟨by rfl, ?hy14_12⟩) (by assumption) ?rest14_12
  case hy14_12 =>
    intro w hSw
    (try dsimp only at hSw)
    go_simp
    rfl
  case' rest14_12 => try simp only [Act.put, List.setIfInBounds_toArray, List.set_cons_zero, List.set_cons_succ, List.getElem_toArray, List.getElem_cons_zero, List.getElem_cons_succ]
  refine wpAnyH_take (i := 15) (oi := _) (v := ?v15_13) rfl (by kernel_rfl) (by kernel_rfl) (by kernel_rfl) (fun _ _ _ h => h) (Or.inl ⟨by rfl, ?hy15_13⟩) (by assumption) ?rest15_13
  case hy15_13 =>
    intro w hSw
    (try dsimp only at hSw)
    go_simp
    rfl
  case' rest15_13 => try simp only [Act.put, List.setIfInBounds_toArray, List.set_cons_zero, List.set_cons_succ, List.getElem_toArray, List.getElem_cons_zero, List.getElem_cons_succ]
  refine wpAnyH_take (i := 16) (oi := _) (v := ?v16_14) rfl (by kernel_rfl) (by kernel_rfl) (by kernel_rfl) (fun _ _ _ h => h) (Or.inl ⟨by rfl, ?hy16_14⟩) (by assumption) ?rest16_14
  case hy16_14 =>
    intro w hSw
    (try dsimp only at hSw)
    go_simp
    rfl
  case' rest16_14 => try simp only [Act.put, List.setIfInBounds_toArray, List.set_cons_zero, List.set_cons_succ, List.getElem_toArray, List.getElem_cons_zero, List.getElem_cons_succ]
  refine wpAnyH_take (i := 17) (oi := _) (v := ?v17_15) rfl (by kernel_rfl) (by kernel_rfl) (by kernel_rfl) (fun _ _ _ h => h) (Or.inl ⟨by rfl, ?hy17_15⟩) (by assumption) ?rest17_15
  case hy17_15 =>
    intro w hSw
    (try dsimp only at hSw)
    go_simp
    rfl
  case' rest17_15 => try simp only [Act.put, List.setIfInBounds_toArray, List.set_cons_zero, List.set_cons_succ, List.getElem_toArray, List.getElem_cons_zero, List.getElem_cons_succ]
  refine wpAnyH_take (i := 18) (oi := _) (v := ?v18_16) rfl (by kernel_rfl) (by kernel_rfl) (by kernel_rfl) (fun _ _ _ h => h) (Or.inl ⟨by rfl, ?hy18_16⟩) (by assumption) ?rest18_16
  case hy18_16 =>
    intro w hSw
    (try dsimp only at hSw)
    go_simp
    rfl
  case' rest18_16 => try simp only [Act.put, List.setIfInBounds_toArray, List.set_cons_zero, List.set_cons_succ, List.getElem_toArray, List.getElem_cons_zero, List.getElem_cons_succ]
  refine wpAnyH_take (i := 19) (oi := _) (v := ?v19_17) rfl (by kernel_rfl) (by kernel_rfl) (by kernel_rfl) (fun _ _ _ h => h) (Or.inl ⟨by rfl, ?hy19_17⟩) (by assumption) ?rest19_17
  case hy19_17 =>
    intro w hSw
    (try dsimp only at hSw)
    go_simp
    rfl
  case' rest19_17 => try simp only [Act.put, List.setIfInBounds_toArray, List.set_cons_zero, List.set_cons_succ, List.getElem_toArray, List.getElem_cons_zero, List.getElem_cons_succ]
  refine wpAnyH_take (i := 20) (oi := _) (v := ?v20_18) rfl (by kernel_rfl) (by kernel_rfl) (by kernel_rfl) (fun _ _ _ h => h) (Or.inl ⟨by rfl, ?hy20_18⟩) (by assumption) ?rest20_18
  case hy20_18 =>
    intro w hSw
    (try dsimp only at hSw)
    go_simp
    rfl
  case' rest20_18 => try simp only [Act.put, List.setIfInBounds_toArray, List.set_cons_zero, List.set_cons_succ, List.getElem_toArray, List.getElem_cons_zero, List.getElem_cons_succ]
  refine wpAnyH_take (i := 21) (oi := _) (v := ?v21_19) rfl (by kernel_rfl) (by kernel_rfl) (by kernel_rfl) (fun _ _ _ h => h) (Or.inl ⟨by rfl, ?hy21_19⟩) (by assumption) ?rest21_19
  case hy21_19 =>
    intro w hSw
    (try dsimp only at hSw)
    go_simp
    rfl
  case' rest21_19 => try simp only [Act.put, List.setIfInBounds_toArray, List.set_cons_zero, List.set_cons_succ, List.getElem_toArray, List.getElem_cons_zero, List.getElem_cons_succ]
  refine wpAnyH_take (i := 22) (oi := _) (v := ?v22_20) rfl (by kernel_rfl) (by kernel_rfl) (by kernel_rfl) (fun _ _ _ h => h) (Or.inl ⟨by rfl, ?hy22_20⟩) (by assumption) ?rest22_20
  case hy22_20 =>
    intro w hSw
    (try dsimp only at hSw)
    go_simp
    rfl
  case' rest22_20 => try simp only [Act.put, List.setIfInBounds_toArray, List.set_cons_zero, List.set_cons_succ, List.getElem_toArray, List.getElem_cons_zero, List.getElem_cons_succ]
  refine wpAnyH_ready (rs := [23]) (by kernel_rfl) (by simp) ?_
  refine AllReadyH.cons (o := _) rfl (fun K hK => ?_) AllReadyH.nil
  go_simp
  go_at_call 9
  with_reducible refine (wakes_any _).mono ?_
  rintro e w8 ⟨rfl, hb8⟩
  have HX8 := Lib.hid (HX7.out.next (by simp) hb8); have HY8 := Lib.hid (HY7.out.next (by simp) hb8); have HZ8 := Lib.hid (HZ7.out.next (by simp) hb8); have HB8 := Lib.hid (HB7.out.trans (hb8.mono HB7.out.size)); have HMY8 := Lib.hid (HMY7.out.below hb8); have HMZ8 := Lib.hid (HMZ7.out.below hb8); have HRW8 := Lib.hid (HRW7.out.below hb8); have HRV8 := Lib.hid (HRV7.out.below hb8); clear hb8
  clear hHeld
  refine hK.out _ _ ⟨HX8.out.cell (j := 0) rfl, HX8.out.cell (j := 1) rfl, HX8.out.cell (j := 2) rfl, HX8.out.cell (j := 3) rfl, HX8.out.cell (j := 4) rfl, HY8.out.cell (j := 0) rfl, HY8.out.cell (j := 1) rfl, HY8.out.cell (j := 2) rfl, HY8.out.cell (j := 3) rfl, HY8.out.cell (j := 4) rfl, HZ8.out.cell (j := 0) rfl, HZ8.out.cell (j := 1) rfl, HZ8.out.cell (j := 2) rfl, HZ8.out.cell (j := 3) rfl, HZ8.out.cell (j := 4) rfl, HCV5.out _ HRW8.out, HCV6.out _ HRV8.out⟩ (fun hHeld => ?_)
  clear hK K
  try simp only [Act.put, List.setIfInBounds_toArray, List.set_cons_zero, List.set_cons_succ, List.getElem_toArray, List.getElem_cons_zero, List.getElem_cons_succ]
  refine wpAnyH_take (i := 24) (oi := _) (v := ?v24_21) rfl (by kernel_rfl) (by kernel_rfl) (by kernel_rfl) (fun _ _ _ h => h) (Or.inl ⟨by rfl, ?hy24_21⟩) (by assumption) ?rest24_21
  case hy24_21 =>
    intro w hSw
    (try dsimp only at hSw)
    go_simp
    rfl
  case' rest24_21 => try simp only [Act.put, List.setIfInBounds_toArray, List.set_cons_zero, List.set_cons_succ, List.getElem_toArray, List.getElem_cons_zero, List.getElem_cons_succ]
  refine wpAnyH_take (i := 25) (oi := _) (v := ?v25_22) rfl (by kernel_rfl) (by kernel_rfl) (by kernel_rfl) (fun _ _ _ h => h) (Or.inl ⟨by rfl, ?hy25_22⟩) (by assumption) ?rest25_22
  case hy25_22 =>
    intro w hSw
    (try dsimp only at hSw)
    go_simp
    rfl
  case' rest25_22 => try simp only [Act.put, List.setIfInBounds_toArray, List.set_cons_zero, List.set_cons_succ, List.getElem_toArray, List.getElem_cons_zero, List.getElem_cons_succ]
  refine wpAnyH_done (by kernel_rfl) ?_ _
  clear hHeld
  go_wp2_with fail
  go_returns
  exact ⟨rfl, HB8.out⟩
end Go.Proofs.Ytlckgnemmffdkaa
