import Derived.Test.YtlckgnemmffdkaaWirRefReadM
import Derived.Test.YtlckgnemmffdkaaWirRefM
import Derived.Test.YtlckgnemmffdkaaPackWireMessage6
import Derived.Test.YtlckgnemmffdkaaPackWireMessage4
import Derived.Test.YtlckgnemmffdkaaPackWireMessage1
import Derived.Deep.QuietTactic
import Derived.BigQuiet
set_option linter.unusedVariables false
set_option linter.unusedSimpArgs false
/- The law of messages. (printed by gen_wirlaw.py) -/
namespace Go.Proofs.Ytlckgnemmffdkaa
open Go.ChangeShapes Go.WideShapes Go.ChangeAt Go.RowKit
set_option maxRecDepth 100000

theorem read_entries (l : List UInt8) (hl : l.length ≤ 1000000) : (readP zMsg wMsgP l).1.entries.length ≤ 1000000 := by
  have hz : zMsg.entries.length ≤ 1000000 := by simp [zMsg]
  unfold readP
  rw [if_neg (by omega)]
  cases h0 : wMsgP l 0 with
  | error e => exact hz
  | ok y =>
    obtain ⟨x, q⟩ := y
    obtain ⟨-, -, he, -⟩ := wMsg_wrote l 0 x q (Nat.zero_le _) h0
    have h1 := congrArg List.length he
    rw [List.length_take, List.length_drop] at h1
    have h2 : (encWMsg x).length ≤ 1000000 := by omega
    simp only
    split
    · exact hz
    · simp only [encWMsg, List.length_append] at h2
      have a0 := flat_len (f := encWEnt) (fun x => by have := encWEnt_size x; omega) x.entries
      show x.entries.length ≤ 1000000
      omega
set_option maxHeartbeats 3800000 in
theorem law_message (x : WMsg) (p : PMsg) (a : Option Addr) (l : List UInt8) (n c : Nat) (w : World) (hx : goodWMsg x) (hz : x.entries.length ≤ 1000000000000000) (hz2 : ∀ y ∈ x.entries, y.data.length ≤ 1000000000000000) (hp : LowMsg w.heap.size w x p) (hn : l.length = n) (hc : n ≤ c) (hr : RowB w a l) :
    Calls Try.prog 7 #[valMsg x p, .slice a n c] w (fun e w' => e = .returned (.bool true) ∧ Below w.heap.size w w') := by
  have hB : ∀ v0 v1 v2 v3 v4 v5 v6 (v7 : Bool) (v8 : List WEnt) v9 v10 (v11 : UInt8) (v12 v13 : List UInt8) p0 p1 p2 p3 p4 p5, Below w.heap.size w (w.alloc (.cells #[.int .i8 v0, .int .i64 v1, .int .i64 v2, .int .i64 v3, .int .i64 v4, .int .i64 v5, .int .i64 v6, .bool v7, .slice p0 v8.length p1, .int .i64 v9, .int .i64 v10, B v11, .slice p2 v12.length p3, .slice p4 v13.length p5] 67)) := fun _ _ _ _ _ _ _ _ _ _ _ _ _ _ _ _ _ _ _ _ => mid_alloc' (Below.refl _ _)
  have hgr := fun w' (hb : Below w.heap.size w w') => great_message x p w' (hp.up hb.size hb) hz hz2
  by_cases hg2 : 8000 < n
  · skip
    have HGR := Lib.hid hgr
    clear hgr
    obtain ⟨v0, v1, v2, v3, v4, v5, v6, v7, v8, v9, v10, v11, v12, v13⟩ := x
    obtain ⟨p0, p1, p2, p3, p4, p5⟩ := p
    have HN := Lib.hid hn
    have HB := Lib.hid (hB v0 v1 v2 v3 v4 v5 v6 v7 v8 v9 v10 v11 v12 v13 p0 p1 p2 p3 p4 p5)
    clear hn hr hz hz2 hp hB hx
    unfold valMsg at HGR ⊢
    simp only at HGR ⊢
    have d2 : decide ((8000 : Int) < (n : Int)) = true := decide_eq_true (by omega)
    go_enter Try.func7, Try.ntmps7
    go_wp2_with (first
      | (go_at_call 9; ((with_reducible refine (wakes_any _).mono ?_); rintro e w' ⟨rfl, hb⟩; have HBW := Lib.hid hb; clear hb))
      | (go_at_call 34; ((with_reducible refine (HGR.out _ HB.out).mono ?_); rintro e wg ⟨b, rfl, hb, -⟩; have HB2 := Lib.hid (HB.out.trans (hb.mono HB.out.size)); clear hb; cases b)))
    all_goals (go_returns; exact ⟨rfl, HB2.out.trans (HBW.out.mono HB2.out.size)⟩)
  have HGR := Lib.hid hgr
  clear hgr
  have HEN := Lib.hid (fun (hok : OkMsg x) w' (hb : Below w.heap.size w w') => message_bytes x p w' (hp.up hb.size hb) hok)
  have HRN := Lib.hid (fun (hok : OkMsg x) w' (hb : Below w.heap.size w w') => refmessage_bytes x p w' (hp.up hb.size hb) hok)
  subst hn
  have HRD := Lib.hid (fun w' (hb : Below w.heap.size w w') => readmessage_any a c l w' (hr.below hb) hc (by omega))
  have HRR := Lib.hid (fun w' (hb : Below w.heap.size w w') => refreadmessage_any a c l w' (hr.below hb) hc (by omega))
  have HYL := Lib.hid (read_entries l (by omega))
  generalize readP zMsg wMsgP l = r at HRD HRR HYL
  obtain ⟨⟨y0, y1, y2, y3, y4, y5, y6, y7, y8, y9, y10, y11, y12, y13⟩, i, j⟩ := r
  generalize encWMsg x = L at HEN HRN
  obtain ⟨v0, v1, v2, v3, v4, v5, v6, v7, v8, v9, v10, v11, v12, v13⟩ := x
  obtain ⟨p0, p1, p2, p3, p4, p5⟩ := p
  have HX1 := Lib.hid (Box.of_alloc (w := w) (cs := [.int .i8 v0, .int .i64 v1, .int .i64 v2, .int .i64 v3, .int .i64 v4, .int .i64 v5, .int .i64 v6, .bool v7, .slice p0 v8.length p1, .int .i64 v9, .int .i64 v10, B v11, .slice p2 v12.length p3, .slice p4 v13.length p5]) (t := 67) (Below.refl _ _))
  have HB1 := Lib.hid (hB v0 v1 v2 v3 v4 v5 v6 v7 v8 v9 v10 v11 v12 v13 p0 p1 p2 p3 p4 p5)
  have d2 : decide ((8000 : Int) < (l.length : Int)) = false := decide_eq_false (by omega)
  clear hz hz2 hp hr hB
  unfold valMsg at HEN HRN HGR ⊢
  simp only at HEN HRN HGR ⊢
  go_enter Try.func7, Try.ntmps7
  go_upto_region 5 with (first
    | (go_at_call 9; ((with_reducible refine (wakes_any _).mono ?_); rintro e w' ⟨rfl, hb⟩; have HBW := Lib.hid hb; clear hb))
    | (go_at_call 34; ((with_reducible refine (HGR.out _ HB1.out).mono ?_); rintro e wg ⟨b, rfl, hb, hf⟩; replace HX1 := Lib.hid (HX1.out.next (by simp) hb); replace HB1 := Lib.hid (HB1.out.trans (hb.mono HB1.out.size)); have HFW := Lib.hid hf; clear hb hf; cases b))
    | (go_at_call 36; ((with_reducible refine (HRR.out _ HB2.out).mono ?_); rintro e w3 ⟨⟨r0, r1, r2, r3, r4, r5⟩, rfl, hm, hb⟩; have hba : Below w3.heap.size w3 (w3.alloc (.cells #[.int .i8 y0, .int .i64 y1, .int .i64 y2, .int .i64 y3, .int .i64 y4, .int .i64 y5, .int .i64 y6, .bool y7, .slice r0 y8.length r1, .int .i64 y9, .int .i64 y10, B y11, .slice r2 y12.length r3, .slice r4 y13.length r5] 67)) := mid_alloc' (Below.refl _ _); have HX3 := Lib.hid ((HX2.out.next (by simp) hb).next (by simp) hba); have HY3 := Lib.hid ((HY2.out.next (by simp) hb).next (by simp) hba); have HZ3 := Lib.hid (Box.of_alloc (w := w3) (cs := [.int .i8 y0, .int .i64 y1, .int .i64 y2, .int .i64 y3, .int .i64 y4, .int .i64 y5, .int .i64 y6, .bool y7, .slice r0 y8.length r1, .int .i64 y9, .int .i64 y10, B y11, .slice r2 y12.length r3, .slice r4 y13.length r5]) (t := 67) (Below.refl _ _)); have hb3 := HB2.out.trans (hb.mono HB2.out.size); have HB3 := Lib.hid (hb3.trans (hba.mono hb3.size)); have HMY3 := Lib.hid ((HMY2.out.below hb).below hba); have HMZ3 := Lib.hid (hm.below hba); clear hm hb hba hb3; unfold valMsg))
    | (go_at_call 35; ((with_reducible refine (HRD.out _ HB1.out).mono ?_); rintro e w2 ⟨⟨q0, q1, q2, q3, q4, q5⟩, rfl, hm, hb⟩; have hba : Below w2.heap.size w2 (w2.alloc (.cells #[.int .i8 y0, .int .i64 y1, .int .i64 y2, .int .i64 y3, .int .i64 y4, .int .i64 y5, .int .i64 y6, .bool y7, .slice q0 y8.length q1, .int .i64 y9, .int .i64 y10, B y11, .slice q2 y12.length q3, .slice q4 y13.length q5] 67)) := mid_alloc' (Below.refl _ _); have HX2 := Lib.hid ((HX1.out.next (by simp) hb).next (by simp) hba); have HY2 := Lib.hid (Box.of_alloc (w := w2) (cs := [.int .i8 y0, .int .i64 y1, .int .i64 y2, .int .i64 y3, .int .i64 y4, .int .i64 y5, .int .i64 y6, .bool y7, .slice q0 y8.length q1, .int .i64 y9, .int .i64 y10, B y11, .slice q2 y12.length q3, .slice q4 y13.length q5]) (t := 67) (Below.refl _ _)); have hb2 := HB1.out.trans (hb.mono HB1.out.size); have HB2 := Lib.hid (hb2.trans (hba.mono hb2.size)); have HMY2 := Lib.hid (hm.below hba); clear hm hb hba hb2; unfold valMsg)))
  rotate_left
  · go_returns; exact ⟨rfl, HB1.out.trans (HBW.out.mono HB1.out.size)⟩
  replace HEN := Lib.hid (HEN.out (Few.ok (HFW.out (by first | trivial | rfl)) hx))
  replace HRN := Lib.hid (HRN.out (Few.ok (HFW.out (by first | trivial | rfl)) hx))
  clear HFW hx
  generalize w3.alloc (.cells #[.int .i8 y0, .int .i64 y1, .int .i64 y2, .int .i64 y3, .int .i64 y4, .int .i64 y5, .int .i64 y6, .bool y7, .slice r0 y8.length r1, .int .i64 y9, .int .i64 y10, B y11, .slice r2 y12.length r3, .slice r4 y13.length r5] 67) = w4 at HX3 HY3 HZ3 HB3 HMY3 HMZ3 ⊢
  have HK : Hid (∀ w', Box w' w.heap.size [.int .i8 v0, .int .i64 v1, .int .i64 v2, .int .i64 v3, .int .i64 v4, .int .i64 v5, .int .i64 v6, .bool v7, .slice p0 v8.length p1, .int .i64 v9, .int .i64 v10, B v11, .slice p2 v12.length p3, .slice p4 v13.length p5] → Box w' w2.heap.size [.int .i8 y0, .int .i64 y1, .int .i64 y2, .int .i64 y3, .int .i64 y4, .int .i64 y5, .int .i64 y6, .bool y7, .slice q0 y8.length q1, .int .i64 y9, .int .i64 y10, B y11, .slice q2 y12.length q3, .slice q4 y13.length q5] → Box w' w3.heap.size [.int .i8 y0, .int .i64 y1, .int .i64 y2, .int .i64 y3, .int .i64 y4, .int .i64 y5, .int .i64 y6, .bool y7, .slice r0 y8.length r1, .int .i64 y9, .int .i64 y10, B y11, .slice r2 y12.length r3, .slice r4 y13.length r5] → w'.cell? ⟨w.heap.size, 0, none⟩ = some (.int .i8 v0) ∧ w'.cell? ⟨w.heap.size, 1, none⟩ = some (.int .i64 v1) ∧ w'.cell? ⟨w.heap.size, 2, none⟩ = some (.int .i64 v2) ∧ w'.cell? ⟨w.heap.size, 3, none⟩ = some (.int .i64 v3) ∧ w'.cell? ⟨w.heap.size, 4, none⟩ = some (.int .i64 v4) ∧ w'.cell? ⟨w.heap.size, 5, none⟩ = some (.int .i64 v5) ∧ w'.cell? ⟨w.heap.size, 6, none⟩ = some (.int .i64 v6) ∧ w'.cell? ⟨w.heap.size, 7, none⟩ = some (.bool v7) ∧ w'.cell? ⟨w.heap.size, 8, none⟩ = some (.slice p0 v8.length p1) ∧ w'.cell? ⟨w.heap.size, 9, none⟩ = some (.int .i64 v9) ∧ w'.cell? ⟨w.heap.size, 10, none⟩ = some (.int .i64 v10) ∧ w'.cell? ⟨w.heap.size, 11, none⟩ = some (B v11) ∧ w'.cell? ⟨w.heap.size, 12, none⟩ = some (.slice p2 v12.length p3) ∧ w'.cell? ⟨w.heap.size, 13, none⟩ = some (.slice p4 v13.length p5) ∧ w'.cell? ⟨w2.heap.size, 0, none⟩ = some (.int .i8 y0) ∧ w'.cell? ⟨w2.heap.size, 1, none⟩ = some (.int .i64 y1) ∧ w'.cell? ⟨w2.heap.size, 2, none⟩ = some (.int .i64 y2) ∧ w'.cell? ⟨w2.heap.size, 3, none⟩ = some (.int .i64 y3) ∧ w'.cell? ⟨w2.heap.size, 4, none⟩ = some (.int .i64 y4) ∧ w'.cell? ⟨w2.heap.size, 5, none⟩ = some (.int .i64 y5) ∧ w'.cell? ⟨w2.heap.size, 6, none⟩ = some (.int .i64 y6) ∧ w'.cell? ⟨w2.heap.size, 7, none⟩ = some (.bool y7) ∧ w'.cell? ⟨w2.heap.size, 8, none⟩ = some (.slice q0 y8.length q1) ∧ w'.cell? ⟨w2.heap.size, 9, none⟩ = some (.int .i64 y9) ∧ w'.cell? ⟨w2.heap.size, 10, none⟩ = some (.int .i64 y10) ∧ w'.cell? ⟨w2.heap.size, 11, none⟩ = some (B y11) ∧ w'.cell? ⟨w2.heap.size, 12, none⟩ = some (.slice q2 y12.length q3) ∧ w'.cell? ⟨w2.heap.size, 13, none⟩ = some (.slice q4 y13.length q5) ∧ w'.cell? ⟨w3.heap.size, 0, none⟩ = some (.int .i8 y0) ∧ w'.cell? ⟨w3.heap.size, 1, none⟩ = some (.int .i64 y1) ∧ w'.cell? ⟨w3.heap.size, 2, none⟩ = some (.int .i64 y2) ∧ w'.cell? ⟨w3.heap.size, 3, none⟩ = some (.int .i64 y3) ∧ w'.cell? ⟨w3.heap.size, 4, none⟩ = some (.int .i64 y4) ∧ w'.cell? ⟨w3.heap.size, 5, none⟩ = some (.int .i64 y5) ∧ w'.cell? ⟨w3.heap.size, 6, none⟩ = some (.int .i64 y6) ∧ w'.cell? ⟨w3.heap.size, 7, none⟩ = some (.bool y7) ∧ w'.cell? ⟨w3.heap.size, 8, none⟩ = some (.slice r0 y8.length r1) ∧ w'.cell? ⟨w3.heap.size, 9, none⟩ = some (.int .i64 y9) ∧ w'.cell? ⟨w3.heap.size, 10, none⟩ = some (.int .i64 y10) ∧ w'.cell? ⟨w3.heap.size, 11, none⟩ = some (B y11) ∧ w'.cell? ⟨w3.heap.size, 12, none⟩ = some (.slice r2 y12.length r3) ∧ w'.cell? ⟨w3.heap.size, 13, none⟩ = some (.slice r4 y13.length r5)) := fun w' x y z => ⟨x.cell (j := 0) rfl, x.cell (j := 1) rfl, x.cell (j := 2) rfl, x.cell (j := 3) rfl, x.cell (j := 4) rfl, x.cell (j := 5) rfl, x.cell (j := 6) rfl, x.cell (j := 7) rfl, x.cell (j := 8) rfl, x.cell (j := 9) rfl, x.cell (j := 10) rfl, x.cell (j := 11) rfl, x.cell (j := 12) rfl, x.cell (j := 13) rfl, y.cell (j := 0) rfl, y.cell (j := 1) rfl, y.cell (j := 2) rfl, y.cell (j := 3) rfl, y.cell (j := 4) rfl, y.cell (j := 5) rfl, y.cell (j := 6) rfl, y.cell (j := 7) rfl, y.cell (j := 8) rfl, y.cell (j := 9) rfl, y.cell (j := 10) rfl, y.cell (j := 11) rfl, y.cell (j := 12) rfl, y.cell (j := 13) rfl, z.cell (j := 0) rfl, z.cell (j := 1) rfl, z.cell (j := 2) rfl, z.cell (j := 3) rfl, z.cell (j := 4) rfl, z.cell (j := 5) rfl, z.cell (j := 6) rfl, z.cell (j := 7) rfl, z.cell (j := 8) rfl, z.cell (j := 9) rfl, z.cell (j := 10) rfl, z.cell (j := 11) rfl, z.cell (j := 12) rfl, z.cell (j := 13) rfl⟩
  have hb4 : Below w4.heap.size w4 w4.drew := (Below.refl _ _).drew
  have HX4 := Lib.hid (HX3.out.next (by simp) hb4); have HY4 := Lib.hid (HY3.out.next (by simp) hb4); have HZ4 := Lib.hid (HZ3.out.next (by simp) hb4); have HB4 := Lib.hid (HB3.out.trans (hb4.mono HB3.out.size)); have HMY4 := Lib.hid (HMY3.out.below hb4); have HMZ4 := Lib.hid (HMZ3.out.below hb4); clear hb4
  refine wp_region_held_drew (S := (fun w' => w'.cell? ⟨w.heap.size, 0, none⟩ = some (.int .i8 v0) ∧ w'.cell? ⟨w.heap.size, 1, none⟩ = some (.int .i64 v1) ∧ w'.cell? ⟨w.heap.size, 2, none⟩ = some (.int .i64 v2) ∧ w'.cell? ⟨w.heap.size, 3, none⟩ = some (.int .i64 v3) ∧ w'.cell? ⟨w.heap.size, 4, none⟩ = some (.int .i64 v4) ∧ w'.cell? ⟨w.heap.size, 5, none⟩ = some (.int .i64 v5) ∧ w'.cell? ⟨w.heap.size, 6, none⟩ = some (.int .i64 v6) ∧ w'.cell? ⟨w.heap.size, 7, none⟩ = some (.bool v7) ∧ w'.cell? ⟨w.heap.size, 8, none⟩ = some (.slice p0 v8.length p1) ∧ w'.cell? ⟨w.heap.size, 9, none⟩ = some (.int .i64 v9) ∧ w'.cell? ⟨w.heap.size, 10, none⟩ = some (.int .i64 v10) ∧ w'.cell? ⟨w.heap.size, 11, none⟩ = some (B v11) ∧ w'.cell? ⟨w.heap.size, 12, none⟩ = some (.slice p2 v12.length p3) ∧ w'.cell? ⟨w.heap.size, 13, none⟩ = some (.slice p4 v13.length p5) ∧ w'.cell? ⟨w2.heap.size, 0, none⟩ = some (.int .i8 y0) ∧ w'.cell? ⟨w2.heap.size, 1, none⟩ = some (.int .i64 y1) ∧ w'.cell? ⟨w2.heap.size, 2, none⟩ = some (.int .i64 y2) ∧ w'.cell? ⟨w2.heap.size, 3, none⟩ = some (.int .i64 y3) ∧ w'.cell? ⟨w2.heap.size, 4, none⟩ = some (.int .i64 y4) ∧ w'.cell? ⟨w2.heap.size, 5, none⟩ = some (.int .i64 y5) ∧ w'.cell? ⟨w2.heap.size, 6, none⟩ = some (.int .i64 y6) ∧ w'.cell? ⟨w2.heap.size, 7, none⟩ = some (.bool y7) ∧ w'.cell? ⟨w2.heap.size, 8, none⟩ = some (.slice q0 y8.length q1) ∧ w'.cell? ⟨w2.heap.size, 9, none⟩ = some (.int .i64 y9) ∧ w'.cell? ⟨w2.heap.size, 10, none⟩ = some (.int .i64 y10) ∧ w'.cell? ⟨w2.heap.size, 11, none⟩ = some (B y11) ∧ w'.cell? ⟨w2.heap.size, 12, none⟩ = some (.slice q2 y12.length q3) ∧ w'.cell? ⟨w2.heap.size, 13, none⟩ = some (.slice q4 y13.length q5) ∧ w'.cell? ⟨w3.heap.size, 0, none⟩ = some (.int .i8 y0) ∧ w'.cell? ⟨w3.heap.size, 1, none⟩ = some (.int .i64 y1) ∧ w'.cell? ⟨w3.heap.size, 2, none⟩ = some (.int .i64 y2) ∧ w'.cell? ⟨w3.heap.size, 3, none⟩ = some (.int .i64 y3) ∧ w'.cell? ⟨w3.heap.size, 4, none⟩ = some (.int .i64 y4) ∧ w'.cell? ⟨w3.heap.size, 5, none⟩ = some (.int .i64 y5) ∧ w'.cell? ⟨w3.heap.size, 6, none⟩ = some (.int .i64 y6) ∧ w'.cell? ⟨w3.heap.size, 7, none⟩ = some (.bool y7) ∧ w'.cell? ⟨w3.heap.size, 8, none⟩ = some (.slice r0 y8.length r1) ∧ w'.cell? ⟨w3.heap.size, 9, none⟩ = some (.int .i64 y9) ∧ w'.cell? ⟨w3.heap.size, 10, none⟩ = some (.int .i64 y10) ∧ w'.cell? ⟨w3.heap.size, 11, none⟩ = some (B y11) ∧ w'.cell? ⟨w3.heap.size, 12, none⟩ = some (.slice r2 y12.length r3) ∧ w'.cell? ⟨w3.heap.size, 13, none⟩ = some (.slice r4 y13.length r5))) (by kernel_rfl) (HK.out _ HX4.out HY4.out HZ4.out) (fun hHeld => ?_)
  refine wpAnyH_take (i := 0) (oi := _) (v := ?v0_60) rfl (by kernel_rfl) (by kernel_rfl) (by kernel_rfl) (fun _ _ _ h => h) (Or.inl ⟨by rfl, ?hy0_60⟩) (by assumption) ?rest0_60
  case hy0_60 =>
    intro w hSw
    (try dsimp only at hSw)
    go_simp
    rfl
  case' rest0_60 => try simp only [Act.put, List.setIfInBounds_toArray, List.set_cons_zero, List.set_cons_succ, List.getElem_toArray, List.getElem_cons_zero]
  refine wpAnyH_take (i := 3) (oi := _) (v := ?v3_61) rfl (by kernel_rfl) (by kernel_rfl) (by kernel_rfl) (fun _ _ _ h => h) (Or.inl ⟨by rfl, ?hy3_61⟩) (by assumption) ?rest3_61
  case hy3_61 =>
    intro w hSw
    (try dsimp only at hSw)
    go_simp
    rfl
  case' rest3_61 => try simp only [Act.put, List.setIfInBounds_toArray, List.set_cons_zero, List.set_cons_succ, List.getElem_toArray, List.getElem_cons_zero, List.getElem_cons_succ]
  refine wpAnyH_ready (rs := [1]) (by kernel_rfl) (by simp) ?_
  refine AllReadyH.cons (o := _) rfl (fun K hK => ?_) AllReadyH.nil
  go_simp
  go_at_call 37
  with_reducible refine (HEN.out _ HB4.out).mono ?_
  rintro e w5 ⟨a5, c5, rfl, hrw5, hb5, -⟩
  have HX5 := Lib.hid (HX4.out.next (by simp) hb5); have HY5 := Lib.hid (HY4.out.next (by simp) hb5); have HZ5 := Lib.hid (HZ4.out.next (by simp) hb5); have HB5 := Lib.hid (HB4.out.trans (hb5.mono HB4.out.size)); have HMY5 := Lib.hid (HMY4.out.below hb5); have HMZ5 := Lib.hid (HMZ4.out.below hb5); clear hb5
  have HRW5 := Lib.hid hrw5
  have HCV5 : Hid (∀ w', RowB w' a5 L → (convert 22 9 (.slice a5 L.length c5)).run Try.prog w' = .ok (.string ⟨L.toArray⟩) w') := fun w' h => conv_bytes h rfl
  clear hrw5
  clear hHeld
  refine hK.out _ _ (HK.out _ HX5.out HY5.out HZ5.out) (fun hHeld => ?_)
  clear hK K
  try simp only [Act.put, List.setIfInBounds_toArray, List.set_cons_zero, List.set_cons_succ, List.getElem_toArray, List.getElem_cons_zero, List.getElem_cons_succ]
  refine wpAnyH_up (S' := (fun w' => w'.cell? ⟨w.heap.size, 0, none⟩ = some (.int .i8 v0) ∧ w'.cell? ⟨w.heap.size, 1, none⟩ = some (.int .i64 v1) ∧ w'.cell? ⟨w.heap.size, 2, none⟩ = some (.int .i64 v2) ∧ w'.cell? ⟨w.heap.size, 3, none⟩ = some (.int .i64 v3) ∧ w'.cell? ⟨w.heap.size, 4, none⟩ = some (.int .i64 v4) ∧ w'.cell? ⟨w.heap.size, 5, none⟩ = some (.int .i64 v5) ∧ w'.cell? ⟨w.heap.size, 6, none⟩ = some (.int .i64 v6) ∧ w'.cell? ⟨w.heap.size, 7, none⟩ = some (.bool v7) ∧ w'.cell? ⟨w.heap.size, 8, none⟩ = some (.slice p0 v8.length p1) ∧ w'.cell? ⟨w.heap.size, 9, none⟩ = some (.int .i64 v9) ∧ w'.cell? ⟨w.heap.size, 10, none⟩ = some (.int .i64 v10) ∧ w'.cell? ⟨w.heap.size, 11, none⟩ = some (B v11) ∧ w'.cell? ⟨w.heap.size, 12, none⟩ = some (.slice p2 v12.length p3) ∧ w'.cell? ⟨w.heap.size, 13, none⟩ = some (.slice p4 v13.length p5) ∧ w'.cell? ⟨w2.heap.size, 0, none⟩ = some (.int .i8 y0) ∧ w'.cell? ⟨w2.heap.size, 1, none⟩ = some (.int .i64 y1) ∧ w'.cell? ⟨w2.heap.size, 2, none⟩ = some (.int .i64 y2) ∧ w'.cell? ⟨w2.heap.size, 3, none⟩ = some (.int .i64 y3) ∧ w'.cell? ⟨w2.heap.size, 4, none⟩ = some (.int .i64 y4) ∧ w'.cell? ⟨w2.heap.size, 5, none⟩ = some (.int .i64 y5) ∧ w'.cell? ⟨w2.heap.size, 6, none⟩ = some (.int .i64 y6) ∧ w'.cell? ⟨w2.heap.size, 7, none⟩ = some (.bool y7) ∧ w'.cell? ⟨w2.heap.size, 8, none⟩ = some (.slice q0 y8.length q1) ∧ w'.cell? ⟨w2.heap.size, 9, none⟩ = some (.int .i64 y9) ∧ w'.cell? ⟨w2.heap.size, 10, none⟩ = some (.int .i64 y10) ∧ w'.cell? ⟨w2.heap.size, 11, none⟩ = some (B y11) ∧ w'.cell? ⟨w2.heap.size, 12, none⟩ = some (.slice q2 y12.length q3) ∧ w'.cell? ⟨w2.heap.size, 13, none⟩ = some (.slice q4 y13.length q5) ∧ w'.cell? ⟨w3.heap.size, 0, none⟩ = some (.int .i8 y0) ∧ w'.cell? ⟨w3.heap.size, 1, none⟩ = some (.int .i64 y1) ∧ w'.cell? ⟨w3.heap.size, 2, none⟩ = some (.int .i64 y2) ∧ w'.cell? ⟨w3.heap.size, 3, none⟩ = some (.int .i64 y3) ∧ w'.cell? ⟨w3.heap.size, 4, none⟩ = some (.int .i64 y4) ∧ w'.cell? ⟨w3.heap.size, 5, none⟩ = some (.int .i64 y5) ∧ w'.cell? ⟨w3.heap.size, 6, none⟩ = some (.int .i64 y6) ∧ w'.cell? ⟨w3.heap.size, 7, none⟩ = some (.bool y7) ∧ w'.cell? ⟨w3.heap.size, 8, none⟩ = some (.slice r0 y8.length r1) ∧ w'.cell? ⟨w3.heap.size, 9, none⟩ = some (.int .i64 y9) ∧ w'.cell? ⟨w3.heap.size, 10, none⟩ = some (.int .i64 y10) ∧ w'.cell? ⟨w3.heap.size, 11, none⟩ = some (B y11) ∧ w'.cell? ⟨w3.heap.size, 12, none⟩ = some (.slice r2 y12.length r3) ∧ w'.cell? ⟨w3.heap.size, 13, none⟩ = some (.slice r4 y13.length r5) ∧ (convert 22 9 (.slice a5 L.length c5)).run Try.prog w' = .ok (.string ⟨L.toArray⟩) w')) (fun _ h => ⟨h.1, h.2.1, h.2.2.1, h.2.2.2.1, h.2.2.2.2.1, h.2.2.2.2.2.1, h.2.2.2.2.2.2.1, h.2.2.2.2.2.2.2.1, h.2.2.2.2.2.2.2.2.1, h.2.2.2.2.2.2.2.2.2.1, h.2.2.2.2.2.2.2.2.2.2.1, h.2.2.2.2.2.2.2.2.2.2.2.1, h.2.2.2.2.2.2.2.2.2.2.2.2.1, h.2.2.2.2.2.2.2.2.2.2.2.2.2.1, h.2.2.2.2.2.2.2.2.2.2.2.2.2.2.1, h.2.2.2.2.2.2.2.2.2.2.2.2.2.2.2.1, h.2.2.2.2.2.2.2.2.2.2.2.2.2.2.2.2.1, h.2.2.2.2.2.2.2.2.2.2.2.2.2.2.2.2.2.1, h.2.2.2.2.2.2.2.2.2.2.2.2.2.2.2.2.2.2.1, h.2.2.2.2.2.2.2.2.2.2.2.2.2.2.2.2.2.2.2.1, h.2.2.2.2.2.2.2.2.2.2.2.2.2.2.2.2.2.2.2.2.1, h.2.2.2.2.2.2.2.2.2.2.2.2.2.2.2.2.2.2.2.2.2.1, h.2.2.2.2.2.2.2.2.2.2.2.2.2.2.2.2.2.2.2.2.2.2.1, h.2.2.2.2.2.2.2.2.2.2.2.2.2.2.2.2.2.2.2.2.2.2.2.1, h.2.2.2.2.2.2.2.2.2.2.2.2.2.2.2.2.2.2.2.2.2.2.2.2.1, h.2.2.2.2.2.2.2.2.2.2.2.2.2.2.2.2.2.2.2.2.2.2.2.2.2.1, h.2.2.2.2.2.2.2.2.2.2.2.2.2.2.2.2.2.2.2.2.2.2.2.2.2.2.1, h.2.2.2.2.2.2.2.2.2.2.2.2.2.2.2.2.2.2.2.2.2.2.2.2.2.2.2.1, h.2.2.2.2.2.2.2.2.2.2.2.2.2.2.2.2.2.2.2.2.2.2.2.2.2.2.2.2.1, h.2.2.2.2.2.2.2.2.2.2.2.2.2.2.2.2.2.2.2.2.2.2.2.2.2.2.2.2.2.1, h.2.2.2.2.2.2.2.2.2.2.2.2.2.2.2.2.2.2.2.2.2.2.2.2.2.2.2.2.2.2.1, h.2.2.2.2.2.2.2.2.2.2.2.2.2.2.2.2.2.2.2.2.2.2.2.2.2.2.2.2.2.2.2.1, h.2.2.2.2.2.2.2.2.2.2.2.2.2.2.2.2.2.2.2.2.2.2.2.2.2.2.2.2.2.2.2.2.1, h.2.2.2.2.2.2.2.2.2.2.2.2.2.2.2.2.2.2.2.2.2.2.2.2.2.2.2.2.2.2.2.2.2.1, h.2.2.2.2.2.2.2.2.2.2.2.2.2.2.2.2.2.2.2.2.2.2.2.2.2.2.2.2.2.2.2.2.2.2.1, h.2.2.2.2.2.2.2.2.2.2.2.2.2.2.2.2.2.2.2.2.2.2.2.2.2.2.2.2.2.2.2.2.2.2.2.1, h.2.2.2.2.2.2.2.2.2.2.2.2.2.2.2.2.2.2.2.2.2.2.2.2.2.2.2.2.2.2.2.2.2.2.2.2.1, h.2.2.2.2.2.2.2.2.2.2.2.2.2.2.2.2.2.2.2.2.2.2.2.2.2.2.2.2.2.2.2.2.2.2.2.2.2.1, h.2.2.2.2.2.2.2.2.2.2.2.2.2.2.2.2.2.2.2.2.2.2.2.2.2.2.2.2.2.2.2.2.2.2.2.2.2.2.1, h.2.2.2.2.2.2.2.2.2.2.2.2.2.2.2.2.2.2.2.2.2.2.2.2.2.2.2.2.2.2.2.2.2.2.2.2.2.2.2.1, h.2.2.2.2.2.2.2.2.2.2.2.2.2.2.2.2.2.2.2.2.2.2.2.2.2.2.2.2.2.2.2.2.2.2.2.2.2.2.2.2.1, h.2.2.2.2.2.2.2.2.2.2.2.2.2.2.2.2.2.2.2.2.2.2.2.2.2.2.2.2.2.2.2.2.2.2.2.2.2.2.2.2.2.1⟩) ?_
  have hHeld2 : (fun w' => w'.cell? ⟨w.heap.size, 0, none⟩ = some (.int .i8 v0) ∧ w'.cell? ⟨w.heap.size, 1, none⟩ = some (.int .i64 v1) ∧ w'.cell? ⟨w.heap.size, 2, none⟩ = some (.int .i64 v2) ∧ w'.cell? ⟨w.heap.size, 3, none⟩ = some (.int .i64 v3) ∧ w'.cell? ⟨w.heap.size, 4, none⟩ = some (.int .i64 v4) ∧ w'.cell? ⟨w.heap.size, 5, none⟩ = some (.int .i64 v5) ∧ w'.cell? ⟨w.heap.size, 6, none⟩ = some (.int .i64 v6) ∧ w'.cell? ⟨w.heap.size, 7, none⟩ = some (.bool v7) ∧ w'.cell? ⟨w.heap.size, 8, none⟩ = some (.slice p0 v8.length p1) ∧ w'.cell? ⟨w.heap.size, 9, none⟩ = some (.int .i64 v9) ∧ w'.cell? ⟨w.heap.size, 10, none⟩ = some (.int .i64 v10) ∧ w'.cell? ⟨w.heap.size, 11, none⟩ = some (B v11) ∧ w'.cell? ⟨w.heap.size, 12, none⟩ = some (.slice p2 v12.length p3) ∧ w'.cell? ⟨w.heap.size, 13, none⟩ = some (.slice p4 v13.length p5) ∧ w'.cell? ⟨w2.heap.size, 0, none⟩ = some (.int .i8 y0) ∧ w'.cell? ⟨w2.heap.size, 1, none⟩ = some (.int .i64 y1) ∧ w'.cell? ⟨w2.heap.size, 2, none⟩ = some (.int .i64 y2) ∧ w'.cell? ⟨w2.heap.size, 3, none⟩ = some (.int .i64 y3) ∧ w'.cell? ⟨w2.heap.size, 4, none⟩ = some (.int .i64 y4) ∧ w'.cell? ⟨w2.heap.size, 5, none⟩ = some (.int .i64 y5) ∧ w'.cell? ⟨w2.heap.size, 6, none⟩ = some (.int .i64 y6) ∧ w'.cell? ⟨w2.heap.size, 7, none⟩ = some (.bool y7) ∧ w'.cell? ⟨w2.heap.size, 8, none⟩ = some (.slice q0 y8.length q1) ∧ w'.cell? ⟨w2.heap.size, 9, none⟩ = some (.int .i64 y9) ∧ w'.cell? ⟨w2.heap.size, 10, none⟩ = some (.int .i64 y10) ∧ w'.cell? ⟨w2.heap.size, 11, none⟩ = some (B y11) ∧ w'.cell? ⟨w2.heap.size, 12, none⟩ = some (.slice q2 y12.length q3) ∧ w'.cell? ⟨w2.heap.size, 13, none⟩ = some (.slice q4 y13.length q5) ∧ w'.cell? ⟨w3.heap.size, 0, none⟩ = some (.int .i8 y0) ∧ w'.cell? ⟨w3.heap.size, 1, none⟩ = some (.int .i64 y1) ∧ w'.cell? ⟨w3.heap.size, 2, none⟩ = some (.int .i64 y2) ∧ w'.cell? ⟨w3.heap.size, 3, none⟩ = some (.int .i64 y3) ∧ w'.cell? ⟨w3.heap.size, 4, none⟩ = some (.int .i64 y4) ∧ w'.cell? ⟨w3.heap.size, 5, none⟩ = some (.int .i64 y5) ∧ w'.cell? ⟨w3.heap.size, 6, none⟩ = some (.int .i64 y6) ∧ w'.cell? ⟨w3.heap.size, 7, none⟩ = some (.bool y7) ∧ w'.cell? ⟨w3.heap.size, 8, none⟩ = some (.slice r0 y8.length r1) ∧ w'.cell? ⟨w3.heap.size, 9, none⟩ = some (.int .i64 y9) ∧ w'.cell? ⟨w3.heap.size, 10, none⟩ = some (.int .i64 y10) ∧ w'.cell? ⟨w3.heap.size, 11, none⟩ = some (B y11) ∧ w'.cell? ⟨w3.heap.size, 12, none⟩ = some (.slice r2 y12.length r3) ∧ w'.cell? ⟨w3.heap.size, 13, none⟩ = some (.slice r4 y13.length r5) ∧ (convert 22 9 (.slice a5 L.length c5)).run Try.prog w' = .ok (.string ⟨L.toArray⟩) w') w5 := ⟨HX5.out.cell (j := 0) rfl, HX5.out.cell (j := 1) rfl, HX5.out.cell (j := 2) rfl, HX5.out.cell (j := 3) rfl, HX5.out.cell (j := 4) rfl, HX5.out.cell (j := 5) rfl, HX5.out.cell (j := 6) rfl, HX5.out.cell (j := 7) rfl, HX5.out.cell (j := 8) rfl, HX5.out.cell (j := 9) rfl, HX5.out.cell (j := 10) rfl, HX5.out.cell (j := 11) rfl, HX5.out.cell (j := 12) rfl, HX5.out.cell (j := 13) rfl, HY5.out.cell (j := 0) rfl, HY5.out.cell (j := 1) rfl, HY5.out.cell (j := 2) rfl, HY5.out.cell (j := 3) rfl, HY5.out.cell (j := 4) rfl, HY5.out.cell (j := 5) rfl, HY5.out.cell (j := 6) rfl, HY5.out.cell (j := 7) rfl, HY5.out.cell (j := 8) rfl, HY5.out.cell (j := 9) rfl, HY5.out.cell (j := 10) rfl, HY5.out.cell (j := 11) rfl, HY5.out.cell (j := 12) rfl, HY5.out.cell (j := 13) rfl, HZ5.out.cell (j := 0) rfl, HZ5.out.cell (j := 1) rfl, HZ5.out.cell (j := 2) rfl, HZ5.out.cell (j := 3) rfl, HZ5.out.cell (j := 4) rfl, HZ5.out.cell (j := 5) rfl, HZ5.out.cell (j := 6) rfl, HZ5.out.cell (j := 7) rfl, HZ5.out.cell (j := 8) rfl, HZ5.out.cell (j := 9) rfl, HZ5.out.cell (j := 10) rfl, HZ5.out.cell (j := 11) rfl, HZ5.out.cell (j := 12) rfl, HZ5.out.cell (j := 13) rfl, HCV5.out _ HRW5.out⟩
  clear hHeld
  have hHeld := hHeld2
  clear hHeld2
  refine wpAnyH_take (i := 2) (oi := _) (v := ?v2_62) rfl (by kernel_rfl) (by kernel_rfl) (by kernel_rfl) (fun _ _ _ h => h) (Or.inl ⟨by rfl, ?hy2_62⟩) (by assumption) ?rest2_62
  case hy2_62 =>
    intro w hSw
    (try dsimp only at hSw)
    go_simp
    rfl
  case' rest2_62 => try simp only [Act.put, List.setIfInBounds_toArray, List.set_cons_zero, List.set_cons_succ, List.getElem_toArray, List.getElem_cons_zero, List.getElem_cons_succ]
  refine wpAnyH_ready (rs := [4]) (by kernel_rfl) (by simp) ?_
  refine AllReadyH.cons (o := _) rfl (fun K hK => ?_) AllReadyH.nil
  go_simp
  go_at_call 38
  with_reducible refine (HRN.out _ HB5.out).mono ?_
  rintro e w6 ⟨a6, c6, rfl, hrw6, hb6⟩
  have HX6 := Lib.hid (HX5.out.next (by simp) hb6); have HY6 := Lib.hid (HY5.out.next (by simp) hb6); have HZ6 := Lib.hid (HZ5.out.next (by simp) hb6); have HB6 := Lib.hid (HB5.out.trans (hb6.mono HB5.out.size)); have HMY6 := Lib.hid (HMY5.out.below hb6); have HMZ6 := Lib.hid (HMZ5.out.below hb6); have HRW6 := Lib.hid (HRW5.out.below hb6); clear hb6
  have HRV6 := Lib.hid hrw6
  have HCV6 : Hid (∀ w', RowB w' a6 L → (convert 22 9 (.slice a6 L.length c6)).run Try.prog w' = .ok (.string ⟨L.toArray⟩) w') := fun w' h => conv_bytes h rfl
  clear hrw6
  clear hHeld
  refine hK.out _ _ ⟨HX6.out.cell (j := 0) rfl, HX6.out.cell (j := 1) rfl, HX6.out.cell (j := 2) rfl, HX6.out.cell (j := 3) rfl, HX6.out.cell (j := 4) rfl, HX6.out.cell (j := 5) rfl, HX6.out.cell (j := 6) rfl, HX6.out.cell (j := 7) rfl, HX6.out.cell (j := 8) rfl, HX6.out.cell (j := 9) rfl, HX6.out.cell (j := 10) rfl, HX6.out.cell (j := 11) rfl, HX6.out.cell (j := 12) rfl, HX6.out.cell (j := 13) rfl, HY6.out.cell (j := 0) rfl, HY6.out.cell (j := 1) rfl, HY6.out.cell (j := 2) rfl, HY6.out.cell (j := 3) rfl, HY6.out.cell (j := 4) rfl, HY6.out.cell (j := 5) rfl, HY6.out.cell (j := 6) rfl, HY6.out.cell (j := 7) rfl, HY6.out.cell (j := 8) rfl, HY6.out.cell (j := 9) rfl, HY6.out.cell (j := 10) rfl, HY6.out.cell (j := 11) rfl, HY6.out.cell (j := 12) rfl, HY6.out.cell (j := 13) rfl, HZ6.out.cell (j := 0) rfl, HZ6.out.cell (j := 1) rfl, HZ6.out.cell (j := 2) rfl, HZ6.out.cell (j := 3) rfl, HZ6.out.cell (j := 4) rfl, HZ6.out.cell (j := 5) rfl, HZ6.out.cell (j := 6) rfl, HZ6.out.cell (j := 7) rfl, HZ6.out.cell (j := 8) rfl, HZ6.out.cell (j := 9) rfl, HZ6.out.cell (j := 10) rfl, HZ6.out.cell (j := 11) rfl, HZ6.out.cell (j := 12) rfl, HZ6.out.cell (j := 13) rfl, HCV5.out _ HRW6.out⟩ (fun hHeld => ?_)
  clear hK K
  try simp only [Act.put, List.setIfInBounds_toArray, List.set_cons_zero, List.set_cons_succ, List.getElem_toArray, List.getElem_cons_zero, List.getElem_cons_succ]
  refine wpAnyH_up (S' := (fun w' => w'.cell? ⟨w.heap.size, 0, none⟩ = some (.int .i8 v0) ∧ w'.cell? ⟨w.heap.size, 1, none⟩ = some (.int .i64 v1) ∧ w'.cell? ⟨w.heap.size, 2, none⟩ = some (.int .i64 v2) ∧ w'.cell? ⟨w.heap.size, 3, none⟩ = some (.int .i64 v3) ∧ w'.cell? ⟨w.heap.size, 4, none⟩ = some (.int .i64 v4) ∧ w'.cell? ⟨w.heap.size, 5, none⟩ = some (.int .i64 v5) ∧ w'.cell? ⟨w.heap.size, 6, none⟩ = some (.int .i64 v6) ∧ w'.cell? ⟨w.heap.size, 7, none⟩ = some (.bool v7) ∧ w'.cell? ⟨w.heap.size, 8, none⟩ = some (.slice p0 v8.length p1) ∧ w'.cell? ⟨w.heap.size, 9, none⟩ = some (.int .i64 v9) ∧ w'.cell? ⟨w.heap.size, 10, none⟩ = some (.int .i64 v10) ∧ w'.cell? ⟨w.heap.size, 11, none⟩ = some (B v11) ∧ w'.cell? ⟨w.heap.size, 12, none⟩ = some (.slice p2 v12.length p3) ∧ w'.cell? ⟨w.heap.size, 13, none⟩ = some (.slice p4 v13.length p5) ∧ w'.cell? ⟨w2.heap.size, 0, none⟩ = some (.int .i8 y0) ∧ w'.cell? ⟨w2.heap.size, 1, none⟩ = some (.int .i64 y1) ∧ w'.cell? ⟨w2.heap.size, 2, none⟩ = some (.int .i64 y2) ∧ w'.cell? ⟨w2.heap.size, 3, none⟩ = some (.int .i64 y3) ∧ w'.cell? ⟨w2.heap.size, 4, none⟩ = some (.int .i64 y4) ∧ w'.cell? ⟨w2.heap.size, 5, none⟩ = some (.int .i64 y5) ∧ w'.cell? ⟨w2.heap.size, 6, none⟩ = some (.int .i64 y6) ∧ w'.cell? ⟨w2.heap.size, 7, none⟩ = some (.bool y7) ∧ w'.cell? ⟨w2.heap.size, 8, none⟩ = some (.slice q0 y8.length q1) ∧ w'.cell? ⟨w2.heap.size, 9, none⟩ = some (.int .i64 y9) ∧ w'.cell? ⟨w2.heap.size, 10, none⟩ = some (.int .i64 y10) ∧ w'.cell? ⟨w2.heap.size, 11, none⟩ = some (B y11) ∧ w'.cell? ⟨w2.heap.size, 12, none⟩ = some (.slice q2 y12.length q3) ∧ w'.cell? ⟨w2.heap.size, 13, none⟩ = some (.slice q4 y13.length q5) ∧ w'.cell? ⟨w3.heap.size, 0, none⟩ = some (.int .i8 y0) ∧ w'.cell? ⟨w3.heap.size, 1, none⟩ = some (.int .i64 y1) ∧ w'.cell? ⟨w3.heap.size, 2, none⟩ = some (.int .i64 y2) ∧ w'.cell? ⟨w3.heap.size, 3, none⟩ = some (.int .i64 y3) ∧ w'.cell? ⟨w3.heap.size, 4, none⟩ = some (.int .i64 y4) ∧ w'.cell? ⟨w3.heap.size, 5, none⟩ = some (.int .i64 y5) ∧ w'.cell? ⟨w3.heap.size, 6, none⟩ = some (.int .i64 y6) ∧ w'.cell? ⟨w3.heap.size, 7, none⟩ = some (.bool y7) ∧ w'.cell? ⟨w3.heap.size, 8, none⟩ = some (.slice r0 y8.length r1) ∧ w'.cell? ⟨w3.heap.size, 9, none⟩ = some (.int .i64 y9) ∧ w'.cell? ⟨w3.heap.size, 10, none⟩ = some (.int .i64 y10) ∧ w'.cell? ⟨w3.heap.size, 11, none⟩ = some (B y11) ∧ w'.cell? ⟨w3.heap.size, 12, none⟩ = some (.slice r2 y12.length r3) ∧ w'.cell? ⟨w3.heap.size, 13, none⟩ = some (.slice r4 y13.length r5) ∧ (convert 22 9 (.slice a5 L.length c5)).run Try.prog w' = .ok (.string ⟨L.toArray⟩) w' ∧ (convert 22 9 (.slice a6 L.length c6)).run Try.prog w' = .ok (.string ⟨L.toArray⟩) w')) (fun _ h => ⟨h.1, h.2.1, h.2.2.1, h.2.2.2.1, h.2.2.2.2.1, h.2.2.2.2.2.1, h.2.2.2.2.2.2.1, h.2.2.2.2.2.2.2.1, h.2.2.2.2.2.2.2.2.1, h.2.2.2.2.2.2.2.2.2.1, h.2.2.2.2.2.2.2.2.2.2.1, h.2.2.2.2.2.2.2.2.2.2.2.1, h.2.2.2.2.2.2.2.2.2.2.2.2.1, h.2.2.2.2.2.2.2.2.2.2.2.2.2.1, h.2.2.2.2.2.2.2.2.2.2.2.2.2.2.1, h.2.2.2.2.2.2.2.2.2.2.2.2.2.2.2.1, h.2.2.2.2.2.2.2.2.2.2.2.2.2.2.2.2.1, h.2.2.2.2.2.2.2.2.2.2.2.2.2.2.2.2.2.1, h.2.2.2.2.2.2.2.2.2.2.2.2.2.2.2.2.2.2.1, h.2.2.2.2.2.2.2.2.2.2.2.2.2.2.2.2.2.2.2.1, h.2.2.2.2.2.2.2.2.2.2.2.2.2.2.2.2.2.2.2.2.1, h.2.2.2.2.2.2.2.2.2.2.2.2.2.2.2.2.2.2.2.2.2.1, h.2.2.2.2.2.2.2.2.2.2.2.2.2.2.2.2.2.2.2.2.2.2.1, h.2.2.2.2.2.2.2.2.2.2.2.2.2.2.2.2.2.2.2.2.2.2.2.1, h.2.2.2.2.2.2.2.2.2.2.2.2.2.2.2.2.2.2.2.2.2.2.2.2.1, h.2.2.2.2.2.2.2.2.2.2.2.2.2.2.2.2.2.2.2.2.2.2.2.2.2.1, h.2.2.2.2.2.2.2.2.2.2.2.2.2.2.2.2.2.2.2.2.2.2.2.2.2.2.1, h.2.2.2.2.2.2.2.2.2.2.2.2.2.2.2.2.2.2.2.2.2.2.2.2.2.2.2.1, h.2.2.2.2.2.2.2.2.2.2.2.2.2.2.2.2.2.2.2.2.2.2.2.2.2.2.2.2.1, h.2.2.2.2.2.2.2.2.2.2.2.2.2.2.2.2.2.2.2.2.2.2.2.2.2.2.2.2.2.1, h.2.2.2.2.2.2.2.2.2.2.2.2.2.2.2.2.2.2.2.2.2.2.2.2.2.2.2.2.2.2.1, h.2.2.2.2.2.2.2.2.2.2.2.2.2.2.2.2.2.2.2.2.2.2.2.2.2.2.2.2.2.2.2.1, h.2.2.2.2.2.2.2.2.2.2.2.2.2.2.2.2.2.2.2.2.2.2.2.2.2.2.2.2.2.2.2.2.1, h.2.2.2.2.2.2.2.2.2.2.2.2.2.2.2.2.2.2.2.2.2.2.2.2.2.2.2.2.2.2.2.2.2.1, h.2.2.2.2.2.2.2.2.2.2.2.2.2.2.2.2.2.2.2.2.2.2.2.2.2.2.2.2.2.2.2.2.2.2.1, h.2.2.2.2.2.2.2.2.2.2.2.2.2.2.2.2.2.2.2.2.2.2.2.2.2.2.2.2.2.2.2.2.2.2.2.1, h.2.2.2.2.2.2.2.2.2.2.2.2.2.2.2.2.2.2.2.2.2.2.2.2.2.2.2.2.2.2.2.2.2.2.2.2.1, h.2.2.2.2.2.2.2.2.2.2.2.2.2.2.2.2.2.2.2.2.2.2.2.2.2.2.2.2.2.2.2.2.2.2.2.2.2.1, h.2.2.2.2.2.2.2.2.2.2.2.2.2.2.2.2.2.2.2.2.2.2.2.2.2.2.2.2.2.2.2.2.2.2.2.2.2.2.1, h.2.2.2.2.2.2.2.2.2.2.2.2.2.2.2.2.2.2.2.2.2.2.2.2.2.2.2.2.2.2.2.2.2.2.2.2.2.2.2.1, h.2.2.2.2.2.2.2.2.2.2.2.2.2.2.2.2.2.2.2.2.2.2.2.2.2.2.2.2.2.2.2.2.2.2.2.2.2.2.2.2.1, h.2.2.2.2.2.2.2.2.2.2.2.2.2.2.2.2.2.2.2.2.2.2.2.2.2.2.2.2.2.2.2.2.2.2.2.2.2.2.2.2.2.1, h.2.2.2.2.2.2.2.2.2.2.2.2.2.2.2.2.2.2.2.2.2.2.2.2.2.2.2.2.2.2.2.2.2.2.2.2.2.2.2.2.2.2.1⟩) ?_
  have hHeld2 : (fun w' => w'.cell? ⟨w.heap.size, 0, none⟩ = some (.int .i8 v0) ∧ w'.cell? ⟨w.heap.size, 1, none⟩ = some (.int .i64 v1) ∧ w'.cell? ⟨w.heap.size, 2, none⟩ = some (.int .i64 v2) ∧ w'.cell? ⟨w.heap.size, 3, none⟩ = some (.int .i64 v3) ∧ w'.cell? ⟨w.heap.size, 4, none⟩ = some (.int .i64 v4) ∧ w'.cell? ⟨w.heap.size, 5, none⟩ = some (.int .i64 v5) ∧ w'.cell? ⟨w.heap.size, 6, none⟩ = some (.int .i64 v6) ∧ w'.cell? ⟨w.heap.size, 7, none⟩ = some (.bool v7) ∧ w'.cell? ⟨w.heap.size, 8, none⟩ = some (.slice p0 v8.length p1) ∧ w'.cell? ⟨w.heap.size, 9, none⟩ = some (.int .i64 v9) ∧ w'.cell? ⟨w.heap.size, 10, none⟩ = some (.int .i64 v10) ∧ w'.cell? ⟨w.heap.size, 11, none⟩ = some (B v11) ∧ w'.cell? ⟨w.heap.size, 12, none⟩ = some (.slice p2 v12.length p3) ∧ w'.cell? ⟨w.heap.size, 13, none⟩ = some (.slice p4 v13.length p5) ∧ w'.cell? ⟨w2.heap.size, 0, none⟩ = some (.int .i8 y0) ∧ w'.cell? ⟨w2.heap.size, 1, none⟩ = some (.int .i64 y1) ∧ w'.cell? ⟨w2.heap.size, 2, none⟩ = some (.int .i64 y2) ∧ w'.cell? ⟨w2.heap.size, 3, none⟩ = some (.int .i64 y3) ∧ w'.cell? ⟨w2.heap.size, 4, none⟩ = some (.int .i64 y4) ∧ w'.cell? ⟨w2.heap.size, 5, none⟩ = some (.int .i64 y5) ∧ w'.cell? ⟨w2.heap.size, 6, none⟩ = some (.int .i64 y6) ∧ w'.cell? ⟨w2.heap.size, 7, none⟩ = some (.bool y7) ∧ w'.cell? ⟨w2.heap.size, 8, none⟩ = some (.slice q0 y8.length q1) ∧ w'.cell? ⟨w2.heap.size, 9, none⟩ = some (.int .i64 y9) ∧ w'.cell? ⟨w2.heap.size, 10, none⟩ = some (.int .i64 y10) ∧ w'.cell? ⟨w2.heap.size, 11, none⟩ = some (B y11) ∧ w'.cell? ⟨w2.heap.size, 12, none⟩ = some (.slice q2 y12.length q3) ∧ w'.cell? ⟨w2.heap.size, 13, none⟩ = some (.slice q4 y13.length q5) ∧ w'.cell? ⟨w3.heap.size, 0, none⟩ = some (.int .i8 y0) ∧ w'.cell? ⟨w3.heap.size, 1, none⟩ = some (.int .i64 y1) ∧ w'.cell? ⟨w3.heap.size, 2, none⟩ = some (.int .i64 y2) ∧ w'.cell? ⟨w3.heap.size, 3, none⟩ = some (.int .i64 y3) ∧ w'.cell? ⟨w3.heap.size, 4, none⟩ = some (.int .i64 y4) ∧ w'.cell? ⟨w3.heap.size, 5, none⟩ = some (.int .i64 y5) ∧ w'.cell? ⟨w3.heap.size, 6, none⟩ = some (.int .i64 y6) ∧ w'.cell? ⟨w3.heap.size, 7, none⟩ = some (.bool y7) ∧ w'.cell? ⟨w3.heap.size, 8, none⟩ = some (.slice r0 y8.length r1) ∧ w'.cell? ⟨w3.heap.size, 9, none⟩ = some (.int .i64 y9) ∧ w'.cell? ⟨w3.heap.size, 10, none⟩ = some (.int .i64 y10) ∧ w'.cell? ⟨w3.heap.size, 11, none⟩ = some (B y11) ∧ w'.cell? ⟨w3.heap.size, 12, none⟩ = some (.slice r2 y12.length r3) ∧ w'.cell? ⟨w3.heap.size, 13, none⟩ = some (.slice r4 y13.length r5) ∧ (convert 22 9 (.slice a5 L.length c5)).run Try.prog w' = .ok (.string ⟨L.toArray⟩) w' ∧ (convert 22 9 (.slice a6 L.length c6)).run Try.prog w' = .ok (.string ⟨L.toArray⟩) w') w6 := ⟨HX6.out.cell (j := 0) rfl, HX6.out.cell (j := 1) rfl, HX6.out.cell (j := 2) rfl, HX6.out.cell (j := 3) rfl, HX6.out.cell (j := 4) rfl, HX6.out.cell (j := 5) rfl, HX6.out.cell (j := 6) rfl, HX6.out.cell (j := 7) rfl, HX6.out.cell (j := 8) rfl, HX6.out.cell (j := 9) rfl, HX6.out.cell (j := 10) rfl, HX6.out.cell (j := 11) rfl, HX6.out.cell (j := 12) rfl, HX6.out.cell (j := 13) rfl, HY6.out.cell (j := 0) rfl, HY6.out.cell (j := 1) rfl, HY6.out.cell (j := 2) rfl, HY6.out.cell (j := 3) rfl, HY6.out.cell (j := 4) rfl, HY6.out.cell (j := 5) rfl, HY6.out.cell (j := 6) rfl, HY6.out.cell (j := 7) rfl, HY6.out.cell (j := 8) rfl, HY6.out.cell (j := 9) rfl, HY6.out.cell (j := 10) rfl, HY6.out.cell (j := 11) rfl, HY6.out.cell (j := 12) rfl, HY6.out.cell (j := 13) rfl, HZ6.out.cell (j := 0) rfl, HZ6.out.cell (j := 1) rfl, HZ6.out.cell (j := 2) rfl, HZ6.out.cell (j := 3) rfl, HZ6.out.cell (j := 4) rfl, HZ6.out.cell (j := 5) rfl, HZ6.out.cell (j := 6) rfl, HZ6.out.cell (j := 7) rfl, HZ6.out.cell (j := 8) rfl, HZ6.out.cell (j := 9) rfl, HZ6.out.cell (j := 10) rfl, HZ6.out.cell (j := 11) rfl, HZ6.out.cell (j := 12) rfl, HZ6.out.cell (j := 13) rfl, HCV5.out _ HRW6.out, HCV6.out _ HRV6.out⟩
  clear hHeld
  have hHeld := hHeld2
  clear hHeld2
  refine wpAnyH_take (i := 5) (oi := _) (v := ?v5_63) rfl (by kernel_rfl) (by kernel_rfl) (by kernel_rfl) (fun _ _ _ h => h) (Or.inl ⟨by rfl, ?hy5_63⟩) (by assumption) ?rest5_63
  case hy5_63 =>
    intro w hSw
    (try dsimp only at hSw)
    go_simp
    rfl
  case' rest5_63 => try simp only [Act.put, List.setIfInBounds_toArray, List.set_cons_zero, List.set_cons_succ, List.getElem_toArray, List.getElem_cons_zero, List.getElem_cons_succ]
  refine wpAnyH_take (i := 6) (oi := _) (v := ?v6_64) rfl (by kernel_rfl) (by kernel_rfl) (by kernel_rfl) (fun _ _ _ h => h) (Or.inl ⟨by rfl, ?hy6_64⟩) (by assumption) ?rest6_64
  case hy6_64 =>
    intro w hSw
    (try dsimp only at hSw)
    go_simp
    rfl
  case' rest6_64 => try simp only [Act.put, List.setIfInBounds_toArray, List.set_cons_zero, List.set_cons_succ, List.getElem_toArray, List.getElem_cons_zero, List.getElem_cons_succ]
  refine wpAnyH_take (i := 7) (oi := _) (v := ?v7_65) rfl (by kernel_rfl) (by kernel_rfl) (by kernel_rfl) (fun _ _ _ h => h) (Or.inl ⟨by rfl, ?hy7_65⟩) (by assumption) ?rest7_65
  case hy7_65 =>
    intro w hSw
    (try dsimp only at hSw)
    go_simp
    rfl
  case' rest7_65 => try simp only [Act.put, List.setIfInBounds_toArray, List.set_cons_zero, List.set_cons_succ, List.getElem_toArray, List.getElem_cons_zero, List.getElem_cons_succ]
  refine wpAnyH_take (i := 8) (oi := _) (v := ?v8_66) rfl (by kernel_rfl) (by kernel_rfl) (by kernel_rfl) (fun _ _ _ h => h) (Or.inl ⟨by rfl, ?hy8_66⟩) (by assumption) ?rest8_66
  case hy8_66 =>
    intro w hSw
    (try dsimp only at hSw)
    go_simp
    rfl
  case' rest8_66 => try simp only [Act.put, List.setIfInBounds_toArray, List.set_cons_zero, List.set_cons_succ, List.getElem_toArray, List.getElem_cons_zero, List.getElem_cons_succ]
  refine wpAnyH_take (i := 9) (oi := _) (v := ?v9_67) rfl (by kernel_rfl) (by kernel_rfl) (by kernel_rfl) (fun _ _ _ h => h) (Or.inl ⟨by rfl, ?hy9_67⟩) (by assumption) ?rest9_67
  case hy9_67 =>
    intro w hSw
    (try dsimp only at hSw)
    go_simp
    rfl
  case' rest9_67 => try simp only [Act.put, List.setIfInBounds_toArray, List.set_cons_zero, List.set_cons_succ, List.getElem_toArray, List.getElem_cons_zero, List.getElem_cons_succ]
  refine wpAnyH_ready (rs := [10]) (by kernel_rfl) (by simp) ?_
  refine AllReadyH.cons (o := _) rfl (fun K hK => ?_) AllReadyH.nil
  go_simp
  go_at_call 39
  have hse := same_message ⟨y0, y1, y2, y3, y4, y5, y6, y7, y8, y9, y10, y11, y12, y13⟩ (q0, q1, q2, q3, q4, q5) (r0, r1, r2, r3, r4, r5) w6 HMY6.out.rows HMZ6.out.rows HYL.out
  unfold valMsg at hse
  with_reducible refine hse.mono ?_
  clear hse
  rintro e w7 ⟨rfl, hb7⟩
  have HX7 := Lib.hid (HX6.out.next (by simp) hb7); have HY7 := Lib.hid (HY6.out.next (by simp) hb7); have HZ7 := Lib.hid (HZ6.out.next (by simp) hb7); have HB7 := Lib.hid (HB6.out.trans (hb7.mono HB6.out.size)); have HMY7 := Lib.hid (HMY6.out.below hb7); have HMZ7 := Lib.hid (HMZ6.out.below hb7); have HRW7 := Lib.hid (HRW6.out.below hb7); have HRV7 := Lib.hid (HRV6.out.below hb7); clear hb7
  clear hHeld
  refine hK.out _ _ ⟨HX7.out.cell (j := 0) rfl, HX7.out.cell (j := 1) rfl, HX7.out.cell (j := 2) rfl, HX7.out.cell (j := 3) rfl, HX7.out.cell (j := 4) rfl, HX7.out.cell (j := 5) rfl, HX7.out.cell (j := 6) rfl, HX7.out.cell (j := 7) rfl, HX7.out.cell (j := 8) rfl, HX7.out.cell (j := 9) rfl, HX7.out.cell (j := 10) rfl, HX7.out.cell (j := 11) rfl, HX7.out.cell (j := 12) rfl, HX7.out.cell (j := 13) rfl, HY7.out.cell (j := 0) rfl, HY7.out.cell (j := 1) rfl, HY7.out.cell (j := 2) rfl, HY7.out.cell (j := 3) rfl, HY7.out.cell (j := 4) rfl, HY7.out.cell (j := 5) rfl, HY7.out.cell (j := 6) rfl, HY7.out.cell (j := 7) rfl, HY7.out.cell (j := 8) rfl, HY7.out.cell (j := 9) rfl, HY7.out.cell (j := 10) rfl, HY7.out.cell (j := 11) rfl, HY7.out.cell (j := 12) rfl, HY7.out.cell (j := 13) rfl, HZ7.out.cell (j := 0) rfl, HZ7.out.cell (j := 1) rfl, HZ7.out.cell (j := 2) rfl, HZ7.out.cell (j := 3) rfl, HZ7.out.cell (j := 4) rfl, HZ7.out.cell (j := 5) rfl, HZ7.out.cell (j := 6) rfl, HZ7.out.cell (j := 7) rfl, HZ7.out.cell (j := 8) rfl, HZ7.out.cell (j := 9) rfl, HZ7.out.cell (j := 10) rfl, HZ7.out.cell (j := 11) rfl, HZ7.out.cell (j := 12) rfl, HZ7.out.cell (j := 13) rfl, HCV5.out _ HRW7.out, HCV6.out _ HRV7.out⟩ (fun hHeld => ?_)
  clear hK K
  try simp only [Act.put, List.setIfInBounds_toArray, List.set_cons_zero, List.set_cons_succ, List.getElem_toArray, List.getElem_cons_zero, List.getElem_cons_succ]
  refine wpAnyH_take (i := 11) (oi := _) (v := ?v11_68) rfl (by kernel_rfl) (by kernel_rfl) (by kernel_rfl) (fun _ _ _ h => h) (Or.inl ⟨by rfl, ?hy11_68⟩) (by assumption) ?rest11_68
  case hy11_68 =>
    intro w hSw
    (try dsimp only at hSw)
    go_simp
    rfl
  case' rest11_68 => try simp only [Act.put, List.setIfInBounds_toArray, List.set_cons_zero, List.set_cons_succ, List.getElem_toArray, List.getElem_cons_zero, List.getElem_cons_succ]
  refine wpAnyH_take (i := 12) (oi := _) (v := ?v12_69) rfl (by kernel_rfl) (by kernel_rfl) (by kernel_rfl) (fun _ _ _ h => h) (Or.inl ⟨by rfl, ?hy12_69⟩) (by assumption) ?rest12_69
  case hy12_69 =>
    intro w hSw
    (try dsimp only at hSw)
    go_simp
    rfl
  case' rest12_69 => try simp only [Act.put, List.setIfInBounds_toArray, List.set_cons_zero, List.set_cons_succ, List.getElem_toArray, List.getElem_cons_zero, List.getElem_cons_succ]
  refine wpAnyH_take (i := 13) (oi := _) (v := ?v13_70) rfl (by kernel_rfl) (by kernel_rfl) (by kernel_rfl) (fun _ _ _ h => h) (Or.inl ⟨by rfl, ?hy13_70⟩) (by assumption) ?rest13_70
  case hy13_70 =>
    intro w hSw
    (try dsimp only at hSw)
    go_simp
    rfl
  case' rest13_70 => try simp only [Act.put, List.setIfInBounds_toArray, List.set_cons_zero, List.set_cons_succ, List.getElem_toArray, List.getElem_cons_zero, List.getElem_cons_succ]
  refine wpAnyH_take (i := 14) (oi := _) (v := ?v14_71) rfl (by kernel_rfl) (by kernel_rfl) (by kernel_rfl) (fun _ _ _ h => h) (Or.inl ⟨by rfl, ?hy14_71⟩) (by assumption) ?rest14_71
  case hy14_71 =>
    intro w hSw
    (try dsimp only at hSw)
    go_simp
    rfl
  case' rest14_71 => try simp only [Act.put, List.setIfInBounds_toArray, List.set_cons_zero, List.set_cons_succ, List.getElem_toArray, List.getElem_cons_zero, List.getElem_cons_succ]
  refine wpAnyH_take (i := 15) (oi := _) (v := ?v15_72) rfl (by kernel_rfl) (by kernel_rfl) (by kernel_rfl) (fun _ _ _ h => h) (Or.inl ⟨by rfl, ?hy15_72⟩) (by assumption) ?rest15_72
  case hy15_72 =>
    intro w hSw
    (try dsimp only at hSw)
    go_simp
    rfl
  case' rest15_72 => try simp only [Act.put, List.setIfInBounds_toArray, List.set_cons_zero, List.set_cons_succ, List.getElem_toArray, List.getElem_cons_zero, List.getElem_cons_succ]
  refine wpAnyH_take (i := 16) (oi := _) (v := ?v16_73) rfl (by kernel_rfl) (by kernel_rfl) (by kernel_rfl) (fun _ _ _ h => h) (Or.inl ⟨by rfl, ?hy16_73⟩) (by assumption) ?rest16_73
  case hy16_73 =>
    intro w hSw
    (try dsimp only at hSw)
    go_simp
    rfl
  case' rest16_73 => try simp only [Act.put, List.setIfInBounds_toArray, List.set_cons_zero, List.set_cons_succ, List.getElem_toArray, List.getElem_cons_zero, List.getElem_cons_succ]
  refine wpAnyH_take (i := 17) (oi := _) (v := ?v17_74) rfl (by kernel_rfl) (by kernel_rfl) (by kernel_rfl) (fun _ _ _ h => h) (Or.inl ⟨by rfl, ?hy17_74⟩) (by assumption) ?rest17_74
  case hy17_74 =>
    intro w hSw
    (try dsimp only at hSw)
    go_simp
    rfl
  case' rest17_74 => try simp only [Act.put, List.setIfInBounds_toArray, List.set_cons_zero, List.set_cons_succ, List.getElem_toArray, List.getElem_cons_zero, List.getElem_cons_succ]
  refine wpAnyH_take (i := 18) (oi := _) (v := ?v18_75) rfl (by kernel_rfl) (by kernel_rfl) (by kernel_rfl) (fun _ _ _ h => h) (Or.inl ⟨by rfl, ?hy18_75⟩) (by assumption) ?rest18_75
  case hy18_75 =>
    intro w hSw
    (try dsimp only at hSw)
    go_simp
    rfl
  case' rest18_75 => try simp only [Act.put, List.setIfInBounds_toArray, List.set_cons_zero, List.set_cons_succ, List.getElem_toArray, List.getElem_cons_zero, List.getElem_cons_succ]
  refine wpAnyH_take (i := 19) (oi := _) (v := ?v19_76) rfl (by kernel_rfl) (by kernel_rfl) (by kernel_rfl) (fun _ _ _ h => h) (Or.inl ⟨by rfl, ?hy19_76⟩) (by assumption) ?rest19_76
  case hy19_76 =>
    intro w hSw
    (try dsimp only at hSw)
    go_simp
    rfl
  case' rest19_76 => try simp only [Act.put, List.setIfInBounds_toArray, List.set_cons_zero, List.set_cons_succ, List.getElem_toArray, List.getElem_cons_zero, List.getElem_cons_succ]
  refine wpAnyH_take (i := 20) (oi := _) (v := ?v20_77) rfl (by kernel_rfl) (by kernel_rfl) (by kernel_rfl) (fun _ _ _ h => h) (Or.inl ⟨by rfl, ?hy20_77⟩) (by assumption) ?rest20_77
  case hy20_77 =>
    intro w hSw
    (try dsimp only at hSw)
    go_simp
    rfl
  case' rest20_77 => try simp only [Act.put, List.setIfInBounds_toArray, List.set_cons_zero, List.set_cons_succ, List.getElem_toArray, List.getElem_cons_zero, List.getElem_cons_succ]
  refine wpAnyH_take (i := 21) (oi := _) (v := ?v21_78) rfl (by kernel_rfl) (by kernel_rfl) (by kernel_rfl) (fun _ _ _ h => h) (Or.inl ⟨by rfl, ?hy21_78⟩) (by assumption) ?rest21_78
  case hy21_78 =>
    intro w hSw
    (try dsimp only at hSw)
    go_simp
    rfl
  case' rest21_78 => try simp only [Act.put, List.setIfInBounds_toArray, List.set_cons_zero, List.set_cons_succ, List.getElem_toArray, List.getElem_cons_zero, List.getElem_cons_succ]
  refine wpAnyH_take (i := 22) (oi := _) (v := ?v22_79) rfl (by kernel_rfl) (by kernel_rfl) (by kernel_rfl) (fun _ _ _ h => h) (Or.inl ⟨by rfl, ?hy22_79⟩) (by assumption) ?rest22_79
  case hy22_79 =>
    intro w hSw
    (try dsimp only at hSw)
    go_simp
    rfl
  case' rest22_79 => try simp only [Act.put, List.setIfInBounds_toArray, List.set_cons_zero, List.set_cons_succ, List.getElem_toArray, List.getElem_cons_zero, List.getElem_cons_succ]
  refine wpAnyH_ready (rs := [23]) (by kernel_rfl) (by simp) ?_
  refine AllReadyH.cons (o := _) rfl (fun K hK => ?_) AllReadyH.nil
  go_simp
  go_at_call 9
  with_reducible refine (wakes_any _).mono ?_
  rintro e w8 ⟨rfl, hb8⟩
  have HX8 := Lib.hid (HX7.out.next (by simp) hb8); have HY8 := Lib.hid (HY7.out.next (by simp) hb8); have HZ8 := Lib.hid (HZ7.out.next (by simp) hb8); have HB8 := Lib.hid (HB7.out.trans (hb8.mono HB7.out.size)); have HMY8 := Lib.hid (HMY7.out.below hb8); have HMZ8 := Lib.hid (HMZ7.out.below hb8); have HRW8 := Lib.hid (HRW7.out.below hb8); have HRV8 := Lib.hid (HRV7.out.below hb8); clear hb8
  clear hHeld
  refine hK.out _ _ ⟨HX8.out.cell (j := 0) rfl, HX8.out.cell (j := 1) rfl, HX8.out.cell (j := 2) rfl, HX8.out.cell (j := 3) rfl, HX8.out.cell (j := 4) rfl, HX8.out.cell (j := 5) rfl, HX8.out.cell (j := 6) rfl, HX8.out.cell (j := 7) rfl, HX8.out.cell (j := 8) rfl, HX8.out.cell (j := 9) rfl, HX8.out.cell (j := 10) rfl, HX8.out.cell (j := 11) rfl, HX8.out.cell (j := 12) rfl, HX8.out.cell (j := 13) rfl, HY8.out.cell (j := 0) rfl, HY8.out.cell (j := 1) rfl, HY8.out.cell (j := 2) rfl, HY8.out.cell (j := 3) rfl, HY8.out.cell (j := 4) rfl, HY8.out.cell (j := 5) rfl, HY8.out.cell (j := 6) rfl, HY8.out.cell (j := 7) rfl, HY8.out.cell (j := 8) rfl, HY8.out.cell (j := 9) rfl, HY8.out.cell (j := 10) rfl, HY8.out.cell (j := 11) rfl, HY8.out.cell (j := 12) rfl, HY8.out.cell (j := 13) rfl, HZ8.out.cell (j := 0) rfl, HZ8.out.cell (j := 1) rfl, HZ8.out.cell (j := 2) rfl, HZ8.out.cell (j := 3) rfl, HZ8.out.cell (j := 4) rfl, HZ8.out.cell (j := 5) rfl, HZ8.out.cell (j := 6) rfl, HZ8.out.cell (j := 7) rfl, HZ8.out.cell (j := 8) rfl, HZ8.out.cell (j := 9) rfl, HZ8.out.cell (j := 10) rfl, HZ8.out.cell (j := 11) rfl, HZ8.out.cell (j := 12) rfl, HZ8.out.cell (j := 13) rfl, HCV5.out _ HRW8.out, HCV6.out _ HRV8.out⟩ (fun hHeld => ?_)
  clear hK K
  try simp only [Act.put, List.setIfInBounds_toArray, List.set_cons_zero, List.set_cons_succ, List.getElem_toArray, List.getElem_cons_zero, List.getElem_cons_succ]
  refine wpAnyH_take (i := 24) (oi := _) (v := ?v24_80) rfl (by kernel_rfl) (by kernel_rfl) (by kernel_rfl) (fun _ _ _ h => h) (Or.inl ⟨by rfl, ?hy24_80⟩) (by assumption) ?rest24_80
  case hy24_80 =>
    intro w hSw
    (try dsimp only at hSw)
    go_simp
    rfl
  case' rest24_80 => try simp only [Act.put, List.setIfInBounds_toArray, List.set_cons_zero, List.set_cons_succ, List.getElem_toArray, List.getElem_cons_zero, List.getElem_cons_succ]
  refine wpAnyH_take (i := 25) (oi := _) (v := ?v25_81) rfl (by kernel_rfl) (by kernel_rfl) (by kernel_rfl) (fun _ _ _ h => h) (Or.inl ⟨by rfl, ?hy25_81⟩) (by assumption) ?rest25_81
  case hy25_81 =>
    intro w hSw
    (try dsimp only at hSw)
    go_simp
    rfl
  case' rest25_81 => try simp only [Act.put, List.setIfInBounds_toArray, List.set_cons_zero, List.set_cons_succ, List.getElem_toArray, List.getElem_cons_zero, List.getElem_cons_succ]
  refine wpAnyH_done (by kernel_rfl) ?_ _
  clear hHeld
  go_wp2_with fail
  go_returns
  exact ⟨rfl, HB8.out⟩
end Go.Proofs.Ytlckgnemmffdkaa
