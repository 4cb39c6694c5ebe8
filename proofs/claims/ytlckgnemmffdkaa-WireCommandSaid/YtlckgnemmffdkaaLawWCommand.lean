/- The law of commands and answers. (printed by gen_wirlaw.py) -/
import Derived.Test.YtlckgnemmffdkaaWirRefReadCmd
import Derived.Test.YtlckgnemmffdkaaWirRefReadAns
import Derived.Test.YtlckgnemmffdkaaWirRefC
import Derived.Test.YtlckgnemmffdkaaWirSameC
import Derived.Test.YtlckgnemmffdkaaAns
import Derived.Test.YtlckgnemmffdkaaWirWakes
import Derived.Test.YtlckgnemmffdkaaOrdSkip
import Derived.Deep.QuietTactic
import Derived.BigQuiet
namespace Go.Proofs.Ytlckgnemmffdkaa
open Go.ChangeShapes Go.WideShapes Go.ChangeAt Go.RowKit
set_option maxRecDepth 100000

theorem times_len {α : Type} {one : List UInt8 → Nat → Got α} {l : List UInt8} : ∀ {k p q : Nat} {xs : List α}, timesP one k l p = .ok (xs, q) → xs.length = k
  | 0, p, q, xs, h => by
    simp only [timesP, Except.ok.injEq, Prod.mk.injEq] at h
    obtain ⟨rfl, -⟩ := h; rfl
  | k + 1, p, q, xs, h => by
    simp only [timesP] at h
    cases ho : one l p with
    | error e => rw [ho] at h; cases h
    | ok y =>
      obtain ⟨x, m⟩ := y
      rw [ho] at h
      simp only [bindP] at h
      cases ht : timesP one k l m with
      | error e => rw [ht] at h; cases h
      | ok z =>
        obtain ⟨ys, m2⟩ := z
        rw [ht] at h
        simp only [Except.ok.injEq, Prod.mk.injEq] at h
        obtain ⟨rfl, rfl⟩ := h
        rw [List.length_cons, times_len ht]
theorem list_len {α : Type} {one : List UInt8 → Nat → Got α} {l : List UInt8} {size p q : Nat} {xs : List α} (h : listP size one l p = .ok (xs, q)) : xs.length ≤ l.length := by
  unfold listP at h
  cases hc : countP size l p with
  | error e => rw [hc] at h; cases h
  | ok y =>
    obtain ⟨n, m⟩ := y
    rw [hc] at h
    simp only [bindP] at h
    rw [times_len h]
    have h1 := count_le hc
    have h2 := Nat.div_le_self (l.length - m) size
    omega
theorem read_leases (l : List UInt8) (hl : l.length ≤ 1000000) : (readP zCmd wCmdP l).1.leases.length ≤ 1000000 := by
  unfold readP
  rw [if_neg (by omega), wCmdP_eq]
  cases h0 : kindP l 0 with
  | error e => exact Nat.zero_le _
  | ok y0 =>
    obtain ⟨v0, q0⟩ := y0
    simp only [bindP]
    cases h1 : timesP numP 10 l q0 with
    | error e => exact Nat.zero_le _
    | ok y1 =>
      obtain ⟨v1, q1⟩ := y1
      simp only
      cases h2 : truthP l q1 with
      | error e => exact Nat.zero_le _
      | ok y2 =>
        obtain ⟨v2, q2⟩ := y2
        simp only
        cases h3 : listP 8 numP l q2 with
        | error e => exact Nat.zero_le _
        | ok y3 =>
          obtain ⟨v3, q3⟩ := y3
          have := list_len h3
          simp only
          split
          · exact Nat.zero_le _
          · show v3.length ≤ _; omega
set_option maxHeartbeats 16000000 in
theorem law_command (x : WCmd) (p : PCmd) (b : WAns) (a : Option Addr) (l : List UInt8) (n c : Nat) (w : World) (hx : goodWCmd x) (hp : LowCmd w.heap.size w x p) (hn : l.length = n) (hc : n ≤ c) (hr : RowB w a l) :
    Calls Try.prog 5 #[valCmd x p, valAns b (), .slice a n c] w (fun e w' => e = .returned (.bool true) ∧ Below w.heap.size w w') := by
  obtain ⟨b0, b1, b2, b3, b4⟩ := b
  have hB : ∀ v0 v1 v2 v3 v4 v5 v6 v7 v8 v9 v10 (v11 : Bool) (v12 : List Int) p0 p1, Below w.heap.size w ((w.alloc (.cells #[.int .i8 v0, .int .i64 v1, .int .i64 v2, .int .i64 v3, .int .i64 v4, .int .i64 v5, .int .i64 v6, .int .i64 v7, .int .i64 v8, .int .i64 v9, .int .i64 v10, .bool v11, .slice p0 v12.length p1] 40)).alloc (.cells #[.int .i64 b0, .int .i64 b1, .int .i64 b2, .int .i64 b3, .int .i64 b4] 42)) := fun _ _ _ _ _ _ _ _ _ _ _ _ _ _ _ => mid_alloc' (mid_alloc' (Below.refl _ _))
  by_cases hg1 : 500 < x.leases.length
  · skip
    obtain ⟨v0, v1, v2, v3, v4, v5, v6, v7, v8, v9, v10, v11, v12⟩ := x
    obtain ⟨p0, p1⟩ := p
    simp only at hg1
    have HN := Lib.hid hn
    have HB := Lib.hid (hB v0 v1 v2 v3 v4 v5 v6 v7 v8 v9 v10 v11 v12 p0 p1)
    clear hn hr hx hp hB
    unfold valCmd valAns
    simp only
    have d1 : decide ((500 : Int) < (v12.length : Int)) = true := decide_eq_true (by omega)
    go_enter Try.func5, Try.ntmps5
    go_wp2_with (go_at_call 9; ((with_reducible refine (wakes_any _).mono ?_); rintro e w' ⟨rfl, hb⟩; have HBW := Lib.hid hb; clear hb))
    go_returns
    exact ⟨rfl, HB.out.trans (HBW.out.mono HB.out.size)⟩
  by_cases hg2 : 8000 < n
  · skip
    obtain ⟨v0, v1, v2, v3, v4, v5, v6, v7, v8, v9, v10, v11, v12⟩ := x
    obtain ⟨p0, p1⟩ := p
    simp only at hg1
    have HN := Lib.hid hn
    have HB := Lib.hid (hB v0 v1 v2 v3 v4 v5 v6 v7 v8 v9 v10 v11 v12 p0 p1)
    clear hn hr hx hp hB
    unfold valCmd valAns
    simp only
    have d1 : decide ((500 : Int) < (v12.length : Int)) = false := decide_eq_false (by omega)
    have d2 : decide ((8000 : Int) < (n : Int)) = true := decide_eq_true (by omega)
    go_enter Try.func5, Try.ntmps5
    go_wp2_with (go_at_call 9; ((with_reducible refine (wakes_any _).mono ?_); rintro e w' ⟨rfl, hb⟩; have HBW := Lib.hid hb; clear hb))
    go_returns
    exact ⟨rfl, HB.out.trans (HBW.out.mono HB.out.size)⟩
  have hok : OkCmd x := ⟨hx.1, by unfold encWCmd; have h8 := flatMap_len8 x.leases; simp only [List.length_append, be8_length, List.length_cons, List.length_nil, h8]; omega⟩
  have HEN := Lib.hid (fun w' (hb : Below w.heap.size w w') => command_bytes x p w' (hp.up hb.size hb) hok)
  have HRN := Lib.hid (fun w' (hb : Below w.heap.size w w') => refcommand_bytes x p w' (hp.up hb.size hb) hok)
  have HAN := Lib.hid (fun w' => answer_bytes b0 b1 b2 b3 b4 w')
  have HRA := Lib.hid (fun w' => refanswer_bytes b0 b1 b2 b3 b4 w')
  subst hn
  have HRD := Lib.hid (fun w' (hb : Below w.heap.size w w') => readcommand_any a c l w' (hr.below hb) hc (by omega))
  have HRR := Lib.hid (fun w' (hb : Below w.heap.size w w') => refreadcommand_any a c l w' (hr.below hb) hc (by omega))
  have HAD := Lib.hid (fun w' (hb : Below w.heap.size w w') => readanswer_any a c l w' (hr.below hb) hc (by omega))
  have HAR := Lib.hid (fun w' (hb : Below w.heap.size w w') => refreadanswer_any a c l w' (hr.below hb) hc (by omega))
  have HYL := Lib.hid (read_leases l (by omega))
  generalize readP zCmd wCmdP l = r at HRD HRR HYL
  rw [show zAns = ans0 from rfl] at HAR
  generalize readP ans0 wAnsP l = s at HAD HAR
  obtain ⟨⟨y0, y1, y2, y3, y4, y5, y6, y7, y8, y9, y10, y11, y12⟩, i, j⟩ := r
  obtain ⟨⟨c0, c1, c2, c3, c4⟩, i2, j2⟩ := s
  generalize encWCmd x = L at HEN HRN
  generalize encWAns ⟨b0, b1, b2, b3, b4⟩ = M at HAN HRA
  obtain ⟨v0, v1, v2, v3, v4, v5, v6, v7, v8, v9, v10, v11, v12⟩ := x
  obtain ⟨p0, p1⟩ := p
  have HX1 := Lib.hid (Box.of_alloc (w := w) (cs := [.int .i8 v0, .int .i64 v1, .int .i64 v2, .int .i64 v3, .int .i64 v4, .int .i64 v5, .int .i64 v6, .int .i64 v7, .int .i64 v8, .int .i64 v9, .int .i64 v10, .bool v11, .slice p0 v12.length p1]) (t := 40) (mid_alloc' (Below.refl _ _) : Below (w.alloc (.cells #[.int .i8 v0, .int .i64 v1, .int .i64 v2, .int .i64 v3, .int .i64 v4, .int .i64 v5, .int .i64 v6, .int .i64 v7, .int .i64 v8, .int .i64 v9, .int .i64 v10, .bool v11, .slice p0 v12.length p1] 40)).heap.size (w.alloc (.cells #[.int .i8 v0, .int .i64 v1, .int .i64 v2, .int .i64 v3, .int .i64 v4, .int .i64 v5, .int .i64 v6, .int .i64 v7, .int .i64 v8, .int .i64 v9, .int .i64 v10, .bool v11, .slice p0 v12.length p1] 40)) ((w.alloc (.cells #[.int .i8 v0, .int .i64 v1, .int .i64 v2, .int .i64 v3, .int .i64 v4, .int .i64 v5, .int .i64 v6, .int .i64 v7, .int .i64 v8, .int .i64 v9, .int .i64 v10, .bool v11, .slice p0 v12.length p1] 40)).alloc (.cells #[.int .i64 b0, .int .i64 b1, .int .i64 b2, .int .i64 b3, .int .i64 b4] 42))))
  have HA1 := Lib.hid (Box.of_alloc1 (w := w) (o := .cells #[.int .i8 v0, .int .i64 v1, .int .i64 v2, .int .i64 v3, .int .i64 v4, .int .i64 v5, .int .i64 v6, .int .i64 v7, .int .i64 v8, .int .i64 v9, .int .i64 v10, .bool v11, .slice p0 v12.length p1] 40) (cs := [.int .i64 b0, .int .i64 b1, .int .i64 b2, .int .i64 b3, .int .i64 b4]) (t := 42) (Below.refl _ _))
  have HB1 := Lib.hid (hB v0 v1 v2 v3 v4 v5 v6 v7 v8 v9 v10 v11 v12 p0 p1)
  have HNE := aneq_same c0 c1 c2 c3 c4
  simp only at hg1
  have d1 : decide ((500 : Int) < (v12.length : Int)) = false := decide_eq_false (by omega)
  have d2 : decide ((8000 : Int) < (l.length : Int)) = false := decide_eq_false (by omega)
  clear hx hp hok hr hB
  unfold valCmd at HEN HRN ⊢
  unfold valAns
  simp only at HEN HRN ⊢
  go_enter Try.func5, Try.ntmps5
  go_upto_region 9 with (first
    | (go_at_call 23; have hse := same_command ⟨y0, y1, y2, y3, y4, y5, y6, y7, y8, y9, y10, y11, y12⟩ (q0, q1) (r0, r1) _ HMY5.out HMZ5.out HYL.out; unfold valCmd at hse; ((with_reducible refine hse.mono ?_); clear hse; rintro e w6 ⟨rfl, hb⟩; clear gy0 gz0 gy1 gz1 gy2 gz2 gy3 gz3 gy4 gz4 gy5 gz5 gy6 gz6 gy7 gz7 gy8 gz8 gy9 gz9 gy10 gz10 gy11 gz11 gy12 gz12; have HX6 := Lib.hid (HX5.out.next (by simp) hb); have HA6 := Lib.hid (HA5.out.next (by simp) hb); have HC6 := Lib.hid (HC5.out.next (by simp) hb); have HD6 := Lib.hid (HD5.out.next (by simp) hb); have HB6 := Lib.hid (HB5.out.trans (hb.mono HB5.out.size)); have gc0 := HC6.out.cell (j := 0) rfl; have gd0 := HD6.out.cell (j := 0) rfl; have gc1 := HC6.out.cell (j := 1) rfl; have gd1 := HD6.out.cell (j := 1) rfl; have gc2 := HC6.out.cell (j := 2) rfl; have gd2 := HD6.out.cell (j := 2) rfl; have gc3 := HC6.out.cell (j := 3) rfl; have gd3 := HD6.out.cell (j := 3) rfl; have gc4 := HC6.out.cell (j := 4) rfl; have gd4 := HD6.out.cell (j := 4) rfl; clear hb))
    | (go_at_call 22; ((with_reducible refine (HAR.out _ HB4.out).mono ?_); rintro e w5 ⟨⟨⟩, rfl, -, hb⟩; have hbz : Below w5.heap.size w5 (w5.alloc (.cells #[.int .i64 c0, .int .i64 c1, .int .i64 c2, .int .i64 c3, .int .i64 c4] 42)) := mid_alloc' (Below.refl _ _); have HMY5 := Lib.hid ((HMY4.out.below hb).below hbz); have HMZ5 := Lib.hid ((HMZ4.out.below hb).below hbz); clear hbz; have hba : Below w5.heap.size w5 (w5.alloc (.cells #[.int .i64 c0, .int .i64 c1, .int .i64 c2, .int .i64 c3, .int .i64 c4] 42)) := mid_alloc' (Below.refl _ _); have HX5 := Lib.hid ((HX4.out.next (by simp) hb).next (by simp) hba); have HA5 := Lib.hid ((HA4.out.next (by simp) hb).next (by simp) hba); have HY5 := Lib.hid ((HY4.out.next (by simp) hb).next (by simp) hba); have HZ5 := Lib.hid ((HZ4.out.next (by simp) hb).next (by simp) hba); have HC5 := Lib.hid ((HC4.out.next (by simp) hb).next (by simp) hba); have HD5 := Lib.hid (Box.of_alloc (w := w5) (cs := [.int .i64 c0, .int .i64 c1, .int .i64 c2, .int .i64 c3, .int .i64 c4]) (t := 42) (Below.refl _ _)); have hbk := HB4.out.trans (hb.mono HB4.out.size); have HB5 := Lib.hid (hbk.trans (hba.mono hbk.size)); clear hb hba hbk; have gy0 := HY5.out.cell (j := 0) rfl; have gz0 := HZ5.out.cell (j := 0) rfl; have gy1 := HY5.out.cell (j := 1) rfl; have gz1 := HZ5.out.cell (j := 1) rfl; have gy2 := HY5.out.cell (j := 2) rfl; have gz2 := HZ5.out.cell (j := 2) rfl; have gy3 := HY5.out.cell (j := 3) rfl; have gz3 := HZ5.out.cell (j := 3) rfl; have gy4 := HY5.out.cell (j := 4) rfl; have gz4 := HZ5.out.cell (j := 4) rfl; have gy5 := HY5.out.cell (j := 5) rfl; have gz5 := HZ5.out.cell (j := 5) rfl; have gy6 := HY5.out.cell (j := 6) rfl; have gz6 := HZ5.out.cell (j := 6) rfl; have gy7 := HY5.out.cell (j := 7) rfl; have gz7 := HZ5.out.cell (j := 7) rfl; have gy8 := HY5.out.cell (j := 8) rfl; have gz8 := HZ5.out.cell (j := 8) rfl; have gy9 := HY5.out.cell (j := 9) rfl; have gz9 := HZ5.out.cell (j := 9) rfl; have gy10 := HY5.out.cell (j := 10) rfl; have gz10 := HZ5.out.cell (j := 10) rfl; have gy11 := HY5.out.cell (j := 11) rfl; have gz11 := HZ5.out.cell (j := 11) rfl; have gy12 := HY5.out.cell (j := 12) rfl; have gz12 := HZ5.out.cell (j := 12) rfl; unfold valAns))
    | (go_at_call 21; ((with_reducible refine (HAD.out _ HB3.out).mono ?_); rintro e w4 ⟨rfl, hb⟩; have hbz : Below w4.heap.size w4 (w4.alloc (.cells #[.int .i64 c0, .int .i64 c1, .int .i64 c2, .int .i64 c3, .int .i64 c4] 42)) := mid_alloc' (Below.refl _ _); have HMY4 := Lib.hid ((HMY3.out.below hb).below hbz); have HMZ4 := Lib.hid ((HMZ3.out.below hb).below hbz); clear hbz; have hba : Below w4.heap.size w4 (w4.alloc (.cells #[.int .i64 c0, .int .i64 c1, .int .i64 c2, .int .i64 c3, .int .i64 c4] 42)) := mid_alloc' (Below.refl _ _); have HX4 := Lib.hid ((HX3.out.next (by simp) hb).next (by simp) hba); have HA4 := Lib.hid ((HA3.out.next (by simp) hb).next (by simp) hba); have HY4 := Lib.hid ((HY3.out.next (by simp) hb).next (by simp) hba); have HZ4 := Lib.hid ((HZ3.out.next (by simp) hb).next (by simp) hba); have HC4 := Lib.hid (Box.of_alloc (w := w4) (cs := [.int .i64 c0, .int .i64 c1, .int .i64 c2, .int .i64 c3, .int .i64 c4]) (t := 42) (Below.refl _ _)); have hbk := HB3.out.trans (hb.mono HB3.out.size); have HB4 := Lib.hid (hbk.trans (hba.mono hbk.size)); clear hb hba hbk; unfold ansV))
    | (go_at_call 20; ((with_reducible refine (HRR.out _ HB2.out).mono ?_); rintro e w3 ⟨⟨r0, r1⟩, rfl, hm, hb⟩; have hbz : Below w3.heap.size w3 (w3.alloc (.cells #[.int .i8 y0, .int .i64 y1, .int .i64 y2, .int .i64 y3, .int .i64 y4, .int .i64 y5, .int .i64 y6, .int .i64 y7, .int .i64 y8, .int .i64 y9, .int .i64 y10, .bool y11, .slice r0 y12.length r1] 40)) := mid_alloc' (Below.refl _ _); have HMY3 := Lib.hid ((HMY2.out.below hb).below hbz); have HMZ3 := Lib.hid (hm.row.row.below hbz); clear hm hbz; have hba : Below w3.heap.size w3 (w3.alloc (.cells #[.int .i8 y0, .int .i64 y1, .int .i64 y2, .int .i64 y3, .int .i64 y4, .int .i64 y5, .int .i64 y6, .int .i64 y7, .int .i64 y8, .int .i64 y9, .int .i64 y10, .bool y11, .slice r0 y12.length r1] 40)) := mid_alloc' (Below.refl _ _); have HX3 := Lib.hid ((HX2.out.next (by simp) hb).next (by simp) hba); have HA3 := Lib.hid ((HA2.out.next (by simp) hb).next (by simp) hba); have HY3 := Lib.hid ((HY2.out.next (by simp) hb).next (by simp) hba); have HZ3 := Lib.hid (Box.of_alloc (w := w3) (cs := [.int .i8 y0, .int .i64 y1, .int .i64 y2, .int .i64 y3, .int .i64 y4, .int .i64 y5, .int .i64 y6, .int .i64 y7, .int .i64 y8, .int .i64 y9, .int .i64 y10, .bool y11, .slice r0 y12.length r1]) (t := 40) (Below.refl _ _)); have hbk := HB2.out.trans (hb.mono HB2.out.size); have HB3 := Lib.hid (hbk.trans (hba.mono hbk.size)); clear hb hba hbk; unfold valCmd))
    | (go_at_call 19; ((with_reducible refine (HRD.out _ HB1.out).mono ?_); rintro e w2 ⟨⟨q0, q1⟩, rfl, hm, hb⟩; have HMY2 := Lib.hid (hm.row.row.below (mid_alloc' (Below.refl _ _) : Below w2.heap.size w2 (w2.alloc (.cells #[.int .i8 y0, .int .i64 y1, .int .i64 y2, .int .i64 y3, .int .i64 y4, .int .i64 y5, .int .i64 y6, .int .i64 y7, .int .i64 y8, .int .i64 y9, .int .i64 y10, .bool y11, .slice q0 y12.length q1] 40)))); clear hm; have hba : Below w2.heap.size w2 (w2.alloc (.cells #[.int .i8 y0, .int .i64 y1, .int .i64 y2, .int .i64 y3, .int .i64 y4, .int .i64 y5, .int .i64 y6, .int .i64 y7, .int .i64 y8, .int .i64 y9, .int .i64 y10, .bool y11, .slice q0 y12.length q1] 40)) := mid_alloc' (Below.refl _ _); have HX2 := Lib.hid ((HX1.out.next (by simp) hb).next (by simp) hba); have HA2 := Lib.hid ((HA1.out.next (by simp) hb).next (by simp) hba); have HY2 := Lib.hid (Box.of_alloc (w := w2) (cs := [.int .i8 y0, .int .i64 y1, .int .i64 y2, .int .i64 y3, .int .i64 y4, .int .i64 y5, .int .i64 y6, .int .i64 y7, .int .i64 y8, .int .i64 y9, .int .i64 y10, .bool y11, .slice q0 y12.length q1]) (t := 40) (Below.refl _ _)); have hbk := HB1.out.trans (hb.mono HB1.out.size); have HB2 := Lib.hid (hbk.trans (hba.mono hbk.size)); clear hb hba hbk; unfold valCmd)))
  clear gc0 gd0 gc1 gd1 gc2 gd2 gc3 gd3 gc4 gd4 HNE d1 d2
  have hb7 : Below w6.heap.size w6 w6.drew := (Below.refl _ _).drew
  have HX7 := Lib.hid (HX6.out.next (by simp) hb7); have HA7 := Lib.hid (HA6.out.next (by simp) hb7); have HB7 := Lib.hid (HB6.out.trans (hb7.mono HB6.out.size)); clear hb7
  refine wp_region_held_drew (S := (fun w' => w'.cell? ⟨w.heap.size, 0, none⟩ = some (.int .i8 v0) ∧ w'.cell? ⟨w.heap.size, 1, none⟩ = some (.int .i64 v1) ∧ w'.cell? ⟨w.heap.size, 2, none⟩ = some (.int .i64 v2) ∧ w'.cell? ⟨w.heap.size, 3, none⟩ = some (.int .i64 v3) ∧ w'.cell? ⟨w.heap.size, 4, none⟩ = some (.int .i64 v4) ∧ w'.cell? ⟨w.heap.size, 5, none⟩ = some (.int .i64 v5) ∧ w'.cell? ⟨w.heap.size, 6, none⟩ = some (.int .i64 v6) ∧ w'.cell? ⟨w.heap.size, 7, none⟩ = some (.int .i64 v7) ∧ w'.cell? ⟨w.heap.size, 8, none⟩ = some (.int .i64 v8) ∧ w'.cell? ⟨w.heap.size, 9, none⟩ = some (.int .i64 v9) ∧ w'.cell? ⟨w.heap.size, 10, none⟩ = some (.int .i64 v10) ∧ w'.cell? ⟨w.heap.size, 11, none⟩ = some (.bool v11) ∧ w'.cell? ⟨w.heap.size, 12, none⟩ = some (.slice p0 v12.length p1) ∧ w'.cell? ⟨(w.heap.size + 1), 0, none⟩ = some (.int .i64 b0) ∧ w'.cell? ⟨(w.heap.size + 1), 1, none⟩ = some (.int .i64 b1) ∧ w'.cell? ⟨(w.heap.size + 1), 2, none⟩ = some (.int .i64 b2) ∧ w'.cell? ⟨(w.heap.size + 1), 3, none⟩ = some (.int .i64 b3) ∧ w'.cell? ⟨(w.heap.size + 1), 4, none⟩ = some (.int .i64 b4))) (by kernel_rfl) ⟨HX7.out.cell (j := 0) rfl, HX7.out.cell (j := 1) rfl, HX7.out.cell (j := 2) rfl, HX7.out.cell (j := 3) rfl, HX7.out.cell (j := 4) rfl, HX7.out.cell (j := 5) rfl, HX7.out.cell (j := 6) rfl, HX7.out.cell (j := 7) rfl, HX7.out.cell (j := 8) rfl, HX7.out.cell (j := 9) rfl, HX7.out.cell (j := 10) rfl, HX7.out.cell (j := 11) rfl, HX7.out.cell (j := 12) rfl, HA7.out.cell (j := 0) rfl, HA7.out.cell (j := 1) rfl, HA7.out.cell (j := 2) rfl, HA7.out.cell (j := 3) rfl, HA7.out.cell (j := 4) rfl⟩ (fun hHeld => ?_)
  refine wpAnyH_take (i := 0) (oi := _) (v := ?v0_23) rfl (by kernel_rfl) (by kernel_rfl) (by kernel_rfl) (fun _ _ _ h => h) (Or.inl ⟨by rfl, ?hy0_23⟩) (by assumption) ?rest0_23
  case hy0_23 =>
    intro w hSw
    (try dsimp only at hSw)
    go_simp
    rfl
  case' rest0_23 => try simp only [Act.put, List.setIfInBounds_toArray, List.set_cons_zero, List.set_cons_succ, List.getElem_toArray, List.getElem_cons_zero, List.getElem_cons_succ]
  refine wpAnyH_take (i := 3) (oi := _) (v := ?v3_24) rfl (by kernel_rfl) (by kernel_rfl) (by kernel_rfl) (fun _ _ _ h => h) (Or.inl ⟨by rfl, ?hy3_24⟩) (by assumption) ?rest3_24
  case hy3_24 =>
    intro w hSw
    (try dsimp only at hSw)
    go_simp
    rfl
  case' rest3_24 => try simp only [Act.put, List.setIfInBounds_toArray, List.set_cons_zero, List.set_cons_succ, List.getElem_toArray, List.getElem_cons_zero, List.getElem_cons_succ]
  refine wpAnyH_ready (rs := [1]) (by kernel_rfl) (by simp) ?_
  refine AllReadyH.cons (o := _) rfl (fun K hK => ?_) AllReadyH.nil
  go_simp
  go_at_call 24
  with_reducible refine (HEN.out _ HB7.out).mono ?_
  rintro e w8 ⟨a8, c8, rfl, hrw, hb8, -⟩
  have HX8 := Lib.hid (HX7.out.next (by simp) hb8); have HA8 := Lib.hid (HA7.out.next (by simp) hb8); have HB8 := Lib.hid (HB7.out.trans (hb8.mono HB7.out.size)); clear hb8
  have HWA8 := Lib.hid hrw
  have HCVA : Hid (∀ w', RowB w' a8 L → (convert 22 9 (.slice a8 L.length c8)).run Try.prog w' = .ok (.string ⟨L.toArray⟩) w') := fun w' h => conv_bytes h rfl
  clear hrw
  clear hHeld
  refine hK.out _ _ ⟨HX8.out.cell (j := 0) rfl, HX8.out.cell (j := 1) rfl, HX8.out.cell (j := 2) rfl, HX8.out.cell (j := 3) rfl, HX8.out.cell (j := 4) rfl, HX8.out.cell (j := 5) rfl, HX8.out.cell (j := 6) rfl, HX8.out.cell (j := 7) rfl, HX8.out.cell (j := 8) rfl, HX8.out.cell (j := 9) rfl, HX8.out.cell (j := 10) rfl, HX8.out.cell (j := 11) rfl, HX8.out.cell (j := 12) rfl, HA8.out.cell (j := 0) rfl, HA8.out.cell (j := 1) rfl, HA8.out.cell (j := 2) rfl, HA8.out.cell (j := 3) rfl, HA8.out.cell (j := 4) rfl⟩ (fun hHeld => ?_)
  clear hK K
  try simp only [Act.put, List.setIfInBounds_toArray, List.set_cons_zero, List.set_cons_succ, List.getElem_toArray, List.getElem_cons_zero, List.getElem_cons_succ]
  refine wpAnyH_up (S' := (fun w' => w'.cell? ⟨w.heap.size, 0, none⟩ = some (.int .i8 v0) ∧ w'.cell? ⟨w.heap.size, 1, none⟩ = some (.int .i64 v1) ∧ w'.cell? ⟨w.heap.size, 2, none⟩ = some (.int .i64 v2) ∧ w'.cell? ⟨w.heap.size, 3, none⟩ = some (.int .i64 v3) ∧ w'.cell? ⟨w.heap.size, 4, none⟩ = some (.int .i64 v4) ∧ w'.cell? ⟨w.heap.size, 5, none⟩ = some (.int .i64 v5) ∧ w'.cell? ⟨w.heap.size, 6, none⟩ = some (.int .i64 v6) ∧ w'.cell? ⟨w.heap.size, 7, none⟩ = some (.int .i64 v7) ∧ w'.cell? ⟨w.heap.size, 8, none⟩ = some (.int .i64 v8) ∧ w'.cell? ⟨w.heap.size, 9, none⟩ = some (.int .i64 v9) ∧ w'.cell? ⟨w.heap.size, 10, none⟩ = some (.int .i64 v10) ∧ w'.cell? ⟨w.heap.size, 11, none⟩ = some (.bool v11) ∧ w'.cell? ⟨w.heap.size, 12, none⟩ = some (.slice p0 v12.length p1) ∧ w'.cell? ⟨(w.heap.size + 1), 0, none⟩ = some (.int .i64 b0) ∧ w'.cell? ⟨(w.heap.size + 1), 1, none⟩ = some (.int .i64 b1) ∧ w'.cell? ⟨(w.heap.size + 1), 2, none⟩ = some (.int .i64 b2) ∧ w'.cell? ⟨(w.heap.size + 1), 3, none⟩ = some (.int .i64 b3) ∧ w'.cell? ⟨(w.heap.size + 1), 4, none⟩ = some (.int .i64 b4) ∧ (convert 22 9 (.slice a8 L.length c8)).run Try.prog w' = .ok (.string ⟨L.toArray⟩) w')) (fun _ h => ⟨h.1, h.2.1, h.2.2.1, h.2.2.2.1, h.2.2.2.2.1, h.2.2.2.2.2.1, h.2.2.2.2.2.2.1, h.2.2.2.2.2.2.2.1, h.2.2.2.2.2.2.2.2.1, h.2.2.2.2.2.2.2.2.2.1, h.2.2.2.2.2.2.2.2.2.2.1, h.2.2.2.2.2.2.2.2.2.2.2.1, h.2.2.2.2.2.2.2.2.2.2.2.2.1, h.2.2.2.2.2.2.2.2.2.2.2.2.2.1, h.2.2.2.2.2.2.2.2.2.2.2.2.2.2.1, h.2.2.2.2.2.2.2.2.2.2.2.2.2.2.2.1, h.2.2.2.2.2.2.2.2.2.2.2.2.2.2.2.2.1, h.2.2.2.2.2.2.2.2.2.2.2.2.2.2.2.2.2.1⟩) ?_
  have hHeld2 : (fun w' => w'.cell? ⟨w.heap.size, 0, none⟩ = some (.int .i8 v0) ∧ w'.cell? ⟨w.heap.size, 1, none⟩ = some (.int .i64 v1) ∧ w'.cell? ⟨w.heap.size, 2, none⟩ = some (.int .i64 v2) ∧ w'.cell? ⟨w.heap.size, 3, none⟩ = some (.int .i64 v3) ∧ w'.cell? ⟨w.heap.size, 4, none⟩ = some (.int .i64 v4) ∧ w'.cell? ⟨w.heap.size, 5, none⟩ = some (.int .i64 v5) ∧ w'.cell? ⟨w.heap.size, 6, none⟩ = some (.int .i64 v6) ∧ w'.cell? ⟨w.heap.size, 7, none⟩ = some (.int .i64 v7) ∧ w'.cell? ⟨w.heap.size, 8, none⟩ = some (.int .i64 v8) ∧ w'.cell? ⟨w.heap.size, 9, none⟩ = some (.int .i64 v9) ∧ w'.cell? ⟨w.heap.size, 10, none⟩ = some (.int .i64 v10) ∧ w'.cell? ⟨w.heap.size, 11, none⟩ = some (.bool v11) ∧ w'.cell? ⟨w.heap.size, 12, none⟩ = some (.slice p0 v12.length p1) ∧ w'.cell? ⟨(w.heap.size + 1), 0, none⟩ = some (.int .i64 b0) ∧ w'.cell? ⟨(w.heap.size + 1), 1, none⟩ = some (.int .i64 b1) ∧ w'.cell? ⟨(w.heap.size + 1), 2, none⟩ = some (.int .i64 b2) ∧ w'.cell? ⟨(w.heap.size + 1), 3, none⟩ = some (.int .i64 b3) ∧ w'.cell? ⟨(w.heap.size + 1), 4, none⟩ = some (.int .i64 b4) ∧ (convert 22 9 (.slice a8 L.length c8)).run Try.prog w' = .ok (.string ⟨L.toArray⟩) w') w8 := ⟨HX8.out.cell (j := 0) rfl, HX8.out.cell (j := 1) rfl, HX8.out.cell (j := 2) rfl, HX8.out.cell (j := 3) rfl, HX8.out.cell (j := 4) rfl, HX8.out.cell (j := 5) rfl, HX8.out.cell (j := 6) rfl, HX8.out.cell (j := 7) rfl, HX8.out.cell (j := 8) rfl, HX8.out.cell (j := 9) rfl, HX8.out.cell (j := 10) rfl, HX8.out.cell (j := 11) rfl, HX8.out.cell (j := 12) rfl, HA8.out.cell (j := 0) rfl, HA8.out.cell (j := 1) rfl, HA8.out.cell (j := 2) rfl, HA8.out.cell (j := 3) rfl, HA8.out.cell (j := 4) rfl, HCVA.out _ HWA8.out⟩
  clear hHeld
  have hHeld := hHeld2
  clear hHeld2
  refine wpAnyH_take (i := 2) (oi := _) (v := ?v2_25) rfl (by kernel_rfl) (by kernel_rfl) (by kernel_rfl) (fun _ _ _ h => h) (Or.inl ⟨by rfl, ?hy2_25⟩) (by assumption) ?rest2_25
  case hy2_25 =>
    intro w hSw
    (try dsimp only at hSw)
    go_simp
    rfl
  case' rest2_25 => try simp only [Act.put, List.setIfInBounds_toArray, List.set_cons_zero, List.set_cons_succ, List.getElem_toArray, List.getElem_cons_zero, List.getElem_cons_succ]
  refine wpAnyH_ready (rs := [4]) (by kernel_rfl) (by simp) ?_
  refine AllReadyH.cons (o := _) rfl (fun K hK => ?_) AllReadyH.nil
  go_simp
  go_at_call 25
  with_reducible refine (HRN.out _ HB8.out).mono ?_
  rintro e w9 ⟨a9, c9, rfl, hrw, hb9⟩
  have HX9 := Lib.hid (HX8.out.next (by simp) hb9); have HA9 := Lib.hid (HA8.out.next (by simp) hb9); have HB9 := Lib.hid (HB8.out.trans (hb9.mono HB8.out.size)); have HWA9 := Lib.hid (HWA8.out.below hb9); clear hb9
  have HWB9 := Lib.hid hrw
  have HCVB : Hid (∀ w', RowB w' a9 L → (convert 22 9 (.slice a9 L.length c9)).run Try.prog w' = .ok (.string ⟨L.toArray⟩) w') := fun w' h => conv_bytes h rfl
  clear hrw
  clear hHeld
  refine hK.out _ _ ⟨HX9.out.cell (j := 0) rfl, HX9.out.cell (j := 1) rfl, HX9.out.cell (j := 2) rfl, HX9.out.cell (j := 3) rfl, HX9.out.cell (j := 4) rfl, HX9.out.cell (j := 5) rfl, HX9.out.cell (j := 6) rfl, HX9.out.cell (j := 7) rfl, HX9.out.cell (j := 8) rfl, HX9.out.cell (j := 9) rfl, HX9.out.cell (j := 10) rfl, HX9.out.cell (j := 11) rfl, HX9.out.cell (j := 12) rfl, HA9.out.cell (j := 0) rfl, HA9.out.cell (j := 1) rfl, HA9.out.cell (j := 2) rfl, HA9.out.cell (j := 3) rfl, HA9.out.cell (j := 4) rfl, HCVA.out _ HWA9.out⟩ (fun hHeld => ?_)
  clear hK K
  try simp only [Act.put, List.setIfInBounds_toArray, List.set_cons_zero, List.set_cons_succ, List.getElem_toArray, List.getElem_cons_zero, List.getElem_cons_succ]
  refine wpAnyH_up (S' := (fun w' => w'.cell? ⟨w.heap.size, 0, none⟩ = some (.int .i8 v0) ∧ w'.cell? ⟨w.heap.size, 1, none⟩ = some (.int .i64 v1) ∧ w'.cell? ⟨w.heap.size, 2, none⟩ = some (.int .i64 v2) ∧ w'.cell? ⟨w.heap.size, 3, none⟩ = some (.int .i64 v3) ∧ w'.cell? ⟨w.heap.size, 4, none⟩ = some (.int .i64 v4) ∧ w'.cell? ⟨w.heap.size, 5, none⟩ = some (.int .i64 v5) ∧ w'.cell? ⟨w.heap.size, 6, none⟩ = some (.int .i64 v6) ∧ w'.cell? ⟨w.heap.size, 7, none⟩ = some (.int .i64 v7) ∧ w'.cell? ⟨w.heap.size, 8, none⟩ = some (.int .i64 v8) ∧ w'.cell? ⟨w.heap.size, 9, none⟩ = some (.int .i64 v9) ∧ w'.cell? ⟨w.heap.size, 10, none⟩ = some (.int .i64 v10) ∧ w'.cell? ⟨w.heap.size, 11, none⟩ = some (.bool v11) ∧ w'.cell? ⟨w.heap.size, 12, none⟩ = some (.slice p0 v12.length p1) ∧ w'.cell? ⟨(w.heap.size + 1), 0, none⟩ = some (.int .i64 b0) ∧ w'.cell? ⟨(w.heap.size + 1), 1, none⟩ = some (.int .i64 b1) ∧ w'.cell? ⟨(w.heap.size + 1), 2, none⟩ = some (.int .i64 b2) ∧ w'.cell? ⟨(w.heap.size + 1), 3, none⟩ = some (.int .i64 b3) ∧ w'.cell? ⟨(w.heap.size + 1), 4, none⟩ = some (.int .i64 b4) ∧ (convert 22 9 (.slice a8 L.length c8)).run Try.prog w' = .ok (.string ⟨L.toArray⟩) w' ∧ (convert 22 9 (.slice a9 L.length c9)).run Try.prog w' = .ok (.string ⟨L.toArray⟩) w')) (fun _ h => ⟨h.1, h.2.1, h.2.2.1, h.2.2.2.1, h.2.2.2.2.1, h.2.2.2.2.2.1, h.2.2.2.2.2.2.1, h.2.2.2.2.2.2.2.1, h.2.2.2.2.2.2.2.2.1, h.2.2.2.2.2.2.2.2.2.1, h.2.2.2.2.2.2.2.2.2.2.1, h.2.2.2.2.2.2.2.2.2.2.2.1, h.2.2.2.2.2.2.2.2.2.2.2.2.1, h.2.2.2.2.2.2.2.2.2.2.2.2.2.1, h.2.2.2.2.2.2.2.2.2.2.2.2.2.2.1, h.2.2.2.2.2.2.2.2.2.2.2.2.2.2.2.1, h.2.2.2.2.2.2.2.2.2.2.2.2.2.2.2.2.1, h.2.2.2.2.2.2.2.2.2.2.2.2.2.2.2.2.2.1, h.2.2.2.2.2.2.2.2.2.2.2.2.2.2.2.2.2.2.1⟩) ?_
  have hHeld2 : (fun w' => w'.cell? ⟨w.heap.size, 0, none⟩ = some (.int .i8 v0) ∧ w'.cell? ⟨w.heap.size, 1, none⟩ = some (.int .i64 v1) ∧ w'.cell? ⟨w.heap.size, 2, none⟩ = some (.int .i64 v2) ∧ w'.cell? ⟨w.heap.size, 3, none⟩ = some (.int .i64 v3) ∧ w'.cell? ⟨w.heap.size, 4, none⟩ = some (.int .i64 v4) ∧ w'.cell? ⟨w.heap.size, 5, none⟩ = some (.int .i64 v5) ∧ w'.cell? ⟨w.heap.size, 6, none⟩ = some (.int .i64 v6) ∧ w'.cell? ⟨w.heap.size, 7, none⟩ = some (.int .i64 v7) ∧ w'.cell? ⟨w.heap.size, 8, none⟩ = some (.int .i64 v8) ∧ w'.cell? ⟨w.heap.size, 9, none⟩ = some (.int .i64 v9) ∧ w'.cell? ⟨w.heap.size, 10, none⟩ = some (.int .i64 v10) ∧ w'.cell? ⟨w.heap.size, 11, none⟩ = some (.bool v11) ∧ w'.cell? ⟨w.heap.size, 12, none⟩ = some (.slice p0 v12.length p1) ∧ w'.cell? ⟨(w.heap.size + 1), 0, none⟩ = some (.int .i64 b0) ∧ w'.cell? ⟨(w.heap.size + 1), 1, none⟩ = some (.int .i64 b1) ∧ w'.cell? ⟨(w.heap.size + 1), 2, none⟩ = some (.int .i64 b2) ∧ w'.cell? ⟨(w.heap.size + 1), 3, none⟩ = some (.int .i64 b3) ∧ w'.cell? ⟨(w.heap.size + 1), 4, none⟩ = some (.int .i64 b4) ∧ (convert 22 9 (.slice a8 L.length c8)).run Try.prog w' = .ok (.string ⟨L.toArray⟩) w' ∧ (convert 22 9 (.slice a9 L.length c9)).run Try.prog w' = .ok (.string ⟨L.toArray⟩) w') w9 := ⟨HX9.out.cell (j := 0) rfl, HX9.out.cell (j := 1) rfl, HX9.out.cell (j := 2) rfl, HX9.out.cell (j := 3) rfl, HX9.out.cell (j := 4) rfl, HX9.out.cell (j := 5) rfl, HX9.out.cell (j := 6) rfl, HX9.out.cell (j := 7) rfl, HX9.out.cell (j := 8) rfl, HX9.out.cell (j := 9) rfl, HX9.out.cell (j := 10) rfl, HX9.out.cell (j := 11) rfl, HX9.out.cell (j := 12) rfl, HA9.out.cell (j := 0) rfl, HA9.out.cell (j := 1) rfl, HA9.out.cell (j := 2) rfl, HA9.out.cell (j := 3) rfl, HA9.out.cell (j := 4) rfl, HCVA.out _ HWA9.out, HCVB.out _ HWB9.out⟩
  clear hHeld
  have hHeld := hHeld2
  clear hHeld2
  refine wpAnyH_take (i := 5) (oi := _) (v := ?v5_26) rfl (by kernel_rfl) (by kernel_rfl) (by kernel_rfl) (fun _ _ _ h => h) (Or.inl ⟨by rfl, ?hy5_26⟩) (by assumption) ?rest5_26
  case hy5_26 =>
    intro w hSw
    (try dsimp only at hSw)
    go_simp
    rfl
  case' rest5_26 => try simp only [Act.put, List.setIfInBounds_toArray, List.set_cons_zero, List.set_cons_succ, List.getElem_toArray, List.getElem_cons_zero, List.getElem_cons_succ]
  refine wpAnyH_take (i := 6) (oi := _) (v := ?v6_27) rfl (by kernel_rfl) (by kernel_rfl) (by kernel_rfl) (fun _ _ _ h => h) (Or.inl ⟨by rfl, ?hy6_27⟩) (by assumption) ?rest6_27
  case hy6_27 =>
    intro w hSw
    (try dsimp only at hSw)
    go_simp
    rfl
  case' rest6_27 => try simp only [Act.put, List.setIfInBounds_toArray, List.set_cons_zero, List.set_cons_succ, List.getElem_toArray, List.getElem_cons_zero, List.getElem_cons_succ]
  refine wpAnyH_take (i := 7) (oi := _) (v := ?v7_28) rfl (by kernel_rfl) (by kernel_rfl) (by kernel_rfl) (fun _ _ _ h => h) (Or.inl ⟨by rfl, ?hy7_28⟩) (by assumption) ?rest7_28
  case hy7_28 =>
    intro w hSw
    (try dsimp only at hSw)
    go_simp
    rfl
  case' rest7_28 => try simp only [Act.put, List.setIfInBounds_toArray, List.set_cons_zero, List.set_cons_succ, List.getElem_toArray, List.getElem_cons_zero, List.getElem_cons_succ]
  refine wpAnyH_take (i := 8) (oi := _) (v := ?v8_29) rfl (by kernel_rfl) (by kernel_rfl) (by kernel_rfl) (fun _ _ _ h => h) (Or.inl ⟨by rfl, ?hy8_29⟩) (by assumption) ?rest8_29
  case hy8_29 =>
    intro w hSw
    (try dsimp only at hSw)
    go_simp
    rfl
  case' rest8_29 => try simp only [Act.put, List.setIfInBounds_toArray, List.set_cons_zero, List.set_cons_succ, List.getElem_toArray, List.getElem_cons_zero, List.getElem_cons_succ]
  refine wpAnyH_take (i := 11) (oi := _) (v := ?v11_30) rfl (by kernel_rfl) (by kernel_rfl) (by kernel_rfl) (fun _ _ _ h => h) (Or.inl ⟨by rfl, ?hy11_30⟩) (by assumption) ?rest11_30
  case hy11_30 =>
    intro w hSw
    (try dsimp only at hSw)
    go_simp
    rfl
  case' rest11_30 => try simp only [Act.put, List.setIfInBounds_toArray, List.set_cons_zero, List.set_cons_succ, List.getElem_toArray, List.getElem_cons_zero, List.getElem_cons_succ]
  refine wpAnyH_ready (rs := [9]) (by kernel_rfl) (by simp) ?_
  refine AllReadyH.cons (o := _) rfl (fun K hK => ?_) AllReadyH.nil
  go_simp
  go_at_call 26
  with_reducible refine (HAN.out _).mono ?_
  rintro e w10 ⟨a10, c10, rfl, hrw, hb10, -⟩
  have HX10 := Lib.hid (HX9.out.next (by simp) hb10); have HA10 := Lib.hid (HA9.out.next (by simp) hb10); have HB10 := Lib.hid (HB9.out.trans (hb10.mono HB9.out.size)); have HWA10 := Lib.hid (HWA9.out.below hb10); have HWB10 := Lib.hid (HWB9.out.below hb10); clear hb10
  have HWC10 := Lib.hid hrw
  have HCVC : Hid (∀ w', RowB w' a10 M → (convert 22 9 (.slice a10 M.length c10)).run Try.prog w' = .ok (.string ⟨M.toArray⟩) w') := fun w' h => conv_bytes h rfl
  clear hrw
  clear hHeld
  refine hK.out _ _ ⟨HX10.out.cell (j := 0) rfl, HX10.out.cell (j := 1) rfl, HX10.out.cell (j := 2) rfl, HX10.out.cell (j := 3) rfl, HX10.out.cell (j := 4) rfl, HX10.out.cell (j := 5) rfl, HX10.out.cell (j := 6) rfl, HX10.out.cell (j := 7) rfl, HX10.out.cell (j := 8) rfl, HX10.out.cell (j := 9) rfl, HX10.out.cell (j := 10) rfl, HX10.out.cell (j := 11) rfl, HX10.out.cell (j := 12) rfl, HA10.out.cell (j := 0) rfl, HA10.out.cell (j := 1) rfl, HA10.out.cell (j := 2) rfl, HA10.out.cell (j := 3) rfl, HA10.out.cell (j := 4) rfl, HCVA.out _ HWA10.out, HCVB.out _ HWB10.out⟩ (fun hHeld => ?_)
  clear hK K
  try simp only [Act.put, List.setIfInBounds_toArray, List.set_cons_zero, List.set_cons_succ, List.getElem_toArray, List.getElem_cons_zero, List.getElem_cons_succ]
  refine wpAnyH_up (S' := (fun w' => w'.cell? ⟨w.heap.size, 0, none⟩ = some (.int .i8 v0) ∧ w'.cell? ⟨w.heap.size, 1, none⟩ = some (.int .i64 v1) ∧ w'.cell? ⟨w.heap.size, 2, none⟩ = some (.int .i64 v2) ∧ w'.cell? ⟨w.heap.size, 3, none⟩ = some (.int .i64 v3) ∧ w'.cell? ⟨w.heap.size, 4, none⟩ = some (.int .i64 v4) ∧ w'.cell? ⟨w.heap.size, 5, none⟩ = some (.int .i64 v5) ∧ w'.cell? ⟨w.heap.size, 6, none⟩ = some (.int .i64 v6) ∧ w'.cell? ⟨w.heap.size, 7, none⟩ = some (.int .i64 v7) ∧ w'.cell? ⟨w.heap.size, 8, none⟩ = some (.int .i64 v8) ∧ w'.cell? ⟨w.heap.size, 9, none⟩ = some (.int .i64 v9) ∧ w'.cell? ⟨w.heap.size, 10, none⟩ = some (.int .i64 v10) ∧ w'.cell? ⟨w.heap.size, 11, none⟩ = some (.bool v11) ∧ w'.cell? ⟨w.heap.size, 12, none⟩ = some (.slice p0 v12.length p1) ∧ w'.cell? ⟨(w.heap.size + 1), 0, none⟩ = some (.int .i64 b0) ∧ w'.cell? ⟨(w.heap.size + 1), 1, none⟩ = some (.int .i64 b1) ∧ w'.cell? ⟨(w.heap.size + 1), 2, none⟩ = some (.int .i64 b2) ∧ w'.cell? ⟨(w.heap.size + 1), 3, none⟩ = some (.int .i64 b3) ∧ w'.cell? ⟨(w.heap.size + 1), 4, none⟩ = some (.int .i64 b4) ∧ (convert 22 9 (.slice a8 L.length c8)).run Try.prog w' = .ok (.string ⟨L.toArray⟩) w' ∧ (convert 22 9 (.slice a9 L.length c9)).run Try.prog w' = .ok (.string ⟨L.toArray⟩) w' ∧ (convert 22 9 (.slice a10 M.length c10)).run Try.prog w' = .ok (.string ⟨M.toArray⟩) w')) (fun _ h => ⟨h.1, h.2.1, h.2.2.1, h.2.2.2.1, h.2.2.2.2.1, h.2.2.2.2.2.1, h.2.2.2.2.2.2.1, h.2.2.2.2.2.2.2.1, h.2.2.2.2.2.2.2.2.1, h.2.2.2.2.2.2.2.2.2.1, h.2.2.2.2.2.2.2.2.2.2.1, h.2.2.2.2.2.2.2.2.2.2.2.1, h.2.2.2.2.2.2.2.2.2.2.2.2.1, h.2.2.2.2.2.2.2.2.2.2.2.2.2.1, h.2.2.2.2.2.2.2.2.2.2.2.2.2.2.1, h.2.2.2.2.2.2.2.2.2.2.2.2.2.2.2.1, h.2.2.2.2.2.2.2.2.2.2.2.2.2.2.2.2.1, h.2.2.2.2.2.2.2.2.2.2.2.2.2.2.2.2.2.1, h.2.2.2.2.2.2.2.2.2.2.2.2.2.2.2.2.2.2.1, h.2.2.2.2.2.2.2.2.2.2.2.2.2.2.2.2.2.2.2.1⟩) ?_
  have hHeld2 : (fun w' => w'.cell? ⟨w.heap.size, 0, none⟩ = some (.int .i8 v0) ∧ w'.cell? ⟨w.heap.size, 1, none⟩ = some (.int .i64 v1) ∧ w'.cell? ⟨w.heap.size, 2, none⟩ = some (.int .i64 v2) ∧ w'.cell? ⟨w.heap.size, 3, none⟩ = some (.int .i64 v3) ∧ w'.cell? ⟨w.heap.size, 4, none⟩ = some (.int .i64 v4) ∧ w'.cell? ⟨w.heap.size, 5, none⟩ = some (.int .i64 v5) ∧ w'.cell? ⟨w.heap.size, 6, none⟩ = some (.int .i64 v6) ∧ w'.cell? ⟨w.heap.size, 7, none⟩ = some (.int .i64 v7) ∧ w'.cell? ⟨w.heap.size, 8, none⟩ = some (.int .i64 v8) ∧ w'.cell? ⟨w.heap.size, 9, none⟩ = some (.int .i64 v9) ∧ w'.cell? ⟨w.heap.size, 10, none⟩ = some (.int .i64 v10) ∧ w'.cell? ⟨w.heap.size, 11, none⟩ = some (.bool v11) ∧ w'.cell? ⟨w.heap.size, 12, none⟩ = some (.slice p0 v12.length p1) ∧ w'.cell? ⟨(w.heap.size + 1), 0, none⟩ = some (.int .i64 b0) ∧ w'.cell? ⟨(w.heap.size + 1), 1, none⟩ = some (.int .i64 b1) ∧ w'.cell? ⟨(w.heap.size + 1), 2, none⟩ = some (.int .i64 b2) ∧ w'.cell? ⟨(w.heap.size + 1), 3, none⟩ = some (.int .i64 b3) ∧ w'.cell? ⟨(w.heap.size + 1), 4, none⟩ = some (.int .i64 b4) ∧ (convert 22 9 (.slice a8 L.length c8)).run Try.prog w' = .ok (.string ⟨L.toArray⟩) w' ∧ (convert 22 9 (.slice a9 L.length c9)).run Try.prog w' = .ok (.string ⟨L.toArray⟩) w' ∧ (convert 22 9 (.slice a10 M.length c10)).run Try.prog w' = .ok (.string ⟨M.toArray⟩) w') w10 := ⟨HX10.out.cell (j := 0) rfl, HX10.out.cell (j := 1) rfl, HX10.out.cell (j := 2) rfl, HX10.out.cell (j := 3) rfl, HX10.out.cell (j := 4) rfl, HX10.out.cell (j := 5) rfl, HX10.out.cell (j := 6) rfl, HX10.out.cell (j := 7) rfl, HX10.out.cell (j := 8) rfl, HX10.out.cell (j := 9) rfl, HX10.out.cell (j := 10) rfl, HX10.out.cell (j := 11) rfl, HX10.out.cell (j := 12) rfl, HA10.out.cell (j := 0) rfl, HA10.out.cell (j := 1) rfl, HA10.out.cell (j := 2) rfl, HA10.out.cell (j := 3) rfl, HA10.out.cell (j := 4) rfl, HCVA.out _ HWA10.out, HCVB.out _ HWB10.out, HCVC.out _ HWC10.out⟩
  clear hHeld
  have hHeld := hHeld2
  clear hHeld2
  refine wpAnyH_take (i := 10) (oi := _) (v := ?v10_31) rfl (by kernel_rfl) (by kernel_rfl) (by kernel_rfl) (fun _ _ _ h => h) (Or.inl ⟨by rfl, ?hy10_31⟩) (by assumption) ?rest10_31
  case hy10_31 =>
    intro w hSw
    (try dsimp only at hSw)
    go_simp
    rfl
  case' rest10_31 => try simp only [Act.put, List.setIfInBounds_toArray, List.set_cons_zero, List.set_cons_succ, List.getElem_toArray, List.getElem_cons_zero, List.getElem_cons_succ]
  refine wpAnyH_ready (rs := [12]) (by kernel_rfl) (by simp) ?_
  refine AllReadyH.cons (o := _) rfl (fun K hK => ?_) AllReadyH.nil
  go_simp
  go_at_call 27
  with_reducible refine (HRA.out _).mono ?_
  rintro e w11 ⟨a11, c11, rfl, hrw, hb11⟩
  have HX11 := Lib.hid (HX10.out.next (by simp) hb11); have HA11 := Lib.hid (HA10.out.next (by simp) hb11); have HB11 := Lib.hid (HB10.out.trans (hb11.mono HB10.out.size)); have HWA11 := Lib.hid (HWA10.out.below hb11); have HWB11 := Lib.hid (HWB10.out.below hb11); have HWC11 := Lib.hid (HWC10.out.below hb11); clear hb11
  have HWD11 := Lib.hid hrw
  have HCVD : Hid (∀ w', RowB w' a11 M → (convert 22 9 (.slice a11 M.length c11)).run Try.prog w' = .ok (.string ⟨M.toArray⟩) w') := fun w' h => conv_bytes h rfl
  clear hrw
  clear hHeld
  refine hK.out _ _ ⟨HX11.out.cell (j := 0) rfl, HX11.out.cell (j := 1) rfl, HX11.out.cell (j := 2) rfl, HX11.out.cell (j := 3) rfl, HX11.out.cell (j := 4) rfl, HX11.out.cell (j := 5) rfl, HX11.out.cell (j := 6) rfl, HX11.out.cell (j := 7) rfl, HX11.out.cell (j := 8) rfl, HX11.out.cell (j := 9) rfl, HX11.out.cell (j := 10) rfl, HX11.out.cell (j := 11) rfl, HX11.out.cell (j := 12) rfl, HA11.out.cell (j := 0) rfl, HA11.out.cell (j := 1) rfl, HA11.out.cell (j := 2) rfl, HA11.out.cell (j := 3) rfl, HA11.out.cell (j := 4) rfl, HCVA.out _ HWA11.out, HCVB.out _ HWB11.out, HCVC.out _ HWC11.out⟩ (fun hHeld => ?_)
  clear hK K
  try simp only [Act.put, List.setIfInBounds_toArray, List.set_cons_zero, List.set_cons_succ, List.getElem_toArray, List.getElem_cons_zero, List.getElem_cons_succ]
  refine wpAnyH_up (S' := (fun w' => w'.cell? ⟨w.heap.size, 0, none⟩ = some (.int .i8 v0) ∧ w'.cell? ⟨w.heap.size, 1, none⟩ = some (.int .i64 v1) ∧ w'.cell? ⟨w.heap.size, 2, none⟩ = some (.int .i64 v2) ∧ w'.cell? ⟨w.heap.size, 3, none⟩ = some (.int .i64 v3) ∧ w'.cell? ⟨w.heap.size, 4, none⟩ = some (.int .i64 v4) ∧ w'.cell? ⟨w.heap.size, 5, none⟩ = some (.int .i64 v5) ∧ w'.cell? ⟨w.heap.size, 6, none⟩ = some (.int .i64 v6) ∧ w'.cell? ⟨w.heap.size, 7, none⟩ = some (.int .i64 v7) ∧ w'.cell? ⟨w.heap.size, 8, none⟩ = some (.int .i64 v8) ∧ w'.cell? ⟨w.heap.size, 9, none⟩ = some (.int .i64 v9) ∧ w'.cell? ⟨w.heap.size, 10, none⟩ = some (.int .i64 v10) ∧ w'.cell? ⟨w.heap.size, 11, none⟩ = some (.bool v11) ∧ w'.cell? ⟨w.heap.size, 12, none⟩ = some (.slice p0 v12.length p1) ∧ w'.cell? ⟨(w.heap.size + 1), 0, none⟩ = some (.int .i64 b0) ∧ w'.cell? ⟨(w.heap.size + 1), 1, none⟩ = some (.int .i64 b1) ∧ w'.cell? ⟨(w.heap.size + 1), 2, none⟩ = some (.int .i64 b2) ∧ w'.cell? ⟨(w.heap.size + 1), 3, none⟩ = some (.int .i64 b3) ∧ w'.cell? ⟨(w.heap.size + 1), 4, none⟩ = some (.int .i64 b4) ∧ (convert 22 9 (.slice a8 L.length c8)).run Try.prog w' = .ok (.string ⟨L.toArray⟩) w' ∧ (convert 22 9 (.slice a9 L.length c9)).run Try.prog w' = .ok (.string ⟨L.toArray⟩) w' ∧ (convert 22 9 (.slice a10 M.length c10)).run Try.prog w' = .ok (.string ⟨M.toArray⟩) w' ∧ (convert 22 9 (.slice a11 M.length c11)).run Try.prog w' = .ok (.string ⟨M.toArray⟩) w')) (fun _ h => ⟨h.1, h.2.1, h.2.2.1, h.2.2.2.1, h.2.2.2.2.1, h.2.2.2.2.2.1, h.2.2.2.2.2.2.1, h.2.2.2.2.2.2.2.1, h.2.2.2.2.2.2.2.2.1, h.2.2.2.2.2.2.2.2.2.1, h.2.2.2.2.2.2.2.2.2.2.1, h.2.2.2.2.2.2.2.2.2.2.2.1, h.2.2.2.2.2.2.2.2.2.2.2.2.1, h.2.2.2.2.2.2.2.2.2.2.2.2.2.1, h.2.2.2.2.2.2.2.2.2.2.2.2.2.2.1, h.2.2.2.2.2.2.2.2.2.2.2.2.2.2.2.1, h.2.2.2.2.2.2.2.2.2.2.2.2.2.2.2.2.1, h.2.2.2.2.2.2.2.2.2.2.2.2.2.2.2.2.2.1, h.2.2.2.2.2.2.2.2.2.2.2.2.2.2.2.2.2.2.1, h.2.2.2.2.2.2.2.2.2.2.2.2.2.2.2.2.2.2.2.1, h.2.2.2.2.2.2.2.2.2.2.2.2.2.2.2.2.2.2.2.2.1⟩) ?_
  have hHeld2 : (fun w' => w'.cell? ⟨w.heap.size, 0, none⟩ = some (.int .i8 v0) ∧ w'.cell? ⟨w.heap.size, 1, none⟩ = some (.int .i64 v1) ∧ w'.cell? ⟨w.heap.size, 2, none⟩ = some (.int .i64 v2) ∧ w'.cell? ⟨w.heap.size, 3, none⟩ = some (.int .i64 v3) ∧ w'.cell? ⟨w.heap.size, 4, none⟩ = some (.int .i64 v4) ∧ w'.cell? ⟨w.heap.size, 5, none⟩ = some (.int .i64 v5) ∧ w'.cell? ⟨w.heap.size, 6, none⟩ = some (.int .i64 v6) ∧ w'.cell? ⟨w.heap.size, 7, none⟩ = some (.int .i64 v7) ∧ w'.cell? ⟨w.heap.size, 8, none⟩ = some (.int .i64 v8) ∧ w'.cell? ⟨w.heap.size, 9, none⟩ = some (.int .i64 v9) ∧ w'.cell? ⟨w.heap.size, 10, none⟩ = some (.int .i64 v10) ∧ w'.cell? ⟨w.heap.size, 11, none⟩ = some (.bool v11) ∧ w'.cell? ⟨w.heap.size, 12, none⟩ = some (.slice p0 v12.length p1) ∧ w'.cell? ⟨(w.heap.size + 1), 0, none⟩ = some (.int .i64 b0) ∧ w'.cell? ⟨(w.heap.size + 1), 1, none⟩ = some (.int .i64 b1) ∧ w'.cell? ⟨(w.heap.size + 1), 2, none⟩ = some (.int .i64 b2) ∧ w'.cell? ⟨(w.heap.size + 1), 3, none⟩ = some (.int .i64 b3) ∧ w'.cell? ⟨(w.heap.size + 1), 4, none⟩ = some (.int .i64 b4) ∧ (convert 22 9 (.slice a8 L.length c8)).run Try.prog w' = .ok (.string ⟨L.toArray⟩) w' ∧ (convert 22 9 (.slice a9 L.length c9)).run Try.prog w' = .ok (.string ⟨L.toArray⟩) w' ∧ (convert 22 9 (.slice a10 M.length c10)).run Try.prog w' = .ok (.string ⟨M.toArray⟩) w' ∧ (convert 22 9 (.slice a11 M.length c11)).run Try.prog w' = .ok (.string ⟨M.toArray⟩) w') w11 := ⟨HX11.out.cell (j := 0) rfl, HX11.out.cell (j := 1) rfl, HX11.out.cell (j := 2) rfl, HX11.out.cell (j := 3) rfl, HX11.out.cell (j := 4) rfl, HX11.out.cell (j := 5) rfl, HX11.out.cell (j := 6) rfl, HX11.out.cell (j := 7) rfl, HX11.out.cell (j := 8) rfl, HX11.out.cell (j := 9) rfl, HX11.out.cell (j := 10) rfl, HX11.out.cell (j := 11) rfl, HX11.out.cell (j := 12) rfl, HA11.out.cell (j := 0) rfl, HA11.out.cell (j := 1) rfl, HA11.out.cell (j := 2) rfl, HA11.out.cell (j := 3) rfl, HA11.out.cell (j := 4) rfl, HCVA.out _ HWA11.out, HCVB.out _ HWB11.out, HCVC.out _ HWC11.out, HCVD.out _ HWD11.out⟩
  clear hHeld
  have hHeld := hHeld2
  clear hHeld2
  refine wpAnyH_take (i := 13) (oi := _) (v := ?v13_32) rfl (by kernel_rfl) (by kernel_rfl) (by kernel_rfl) (fun _ _ _ h => h) (Or.inl ⟨by rfl, ?hy13_32⟩) (by assumption) ?rest13_32
  case hy13_32 =>
    intro w hSw
    (try dsimp only at hSw)
    go_simp
    rfl
  case' rest13_32 => try simp only [Act.put, List.setIfInBounds_toArray, List.set_cons_zero, List.set_cons_succ, List.getElem_toArray, List.getElem_cons_zero, List.getElem_cons_succ]
  refine wpAnyH_take (i := 14) (oi := _) (v := ?v14_33) rfl (by kernel_rfl) (by kernel_rfl) (by kernel_rfl) (fun _ _ _ h => h) (Or.inl ⟨by rfl, ?hy14_33⟩) (by assumption) ?rest14_33
  case hy14_33 =>
    intro w hSw
    (try dsimp only at hSw)
    go_simp
    rfl
  case' rest14_33 => try simp only [Act.put, List.setIfInBounds_toArray, List.set_cons_zero, List.set_cons_succ, List.getElem_toArray, List.getElem_cons_zero, List.getElem_cons_succ]
  refine wpAnyH_take (i := 15) (oi := _) (v := ?v15_34) rfl (by kernel_rfl) (by kernel_rfl) (by kernel_rfl) (fun _ _ _ h => h) (Or.inl ⟨by rfl, ?hy15_34⟩) (by assumption) ?rest15_34
  case hy15_34 =>
    intro w hSw
    (try dsimp only at hSw)
    go_simp
    rfl
  case' rest15_34 => try simp only [Act.put, List.setIfInBounds_toArray, List.set_cons_zero, List.set_cons_succ, List.getElem_toArray, List.getElem_cons_zero, List.getElem_cons_succ]
  refine wpAnyH_take (i := 16) (oi := _) (v := ?v16_35) rfl (by kernel_rfl) (by kernel_rfl) (by kernel_rfl) (fun _ _ _ h => h) (Or.inl ⟨by rfl, ?hy16_35⟩) (by assumption) ?rest16_35
  case hy16_35 =>
    intro w hSw
    (try dsimp only at hSw)
    go_simp
    rfl
  case' rest16_35 => try simp only [Act.put, List.setIfInBounds_toArray, List.set_cons_zero, List.set_cons_succ, List.getElem_toArray, List.getElem_cons_zero, List.getElem_cons_succ]
  refine wpAnyH_ready (rs := [17]) (by kernel_rfl) (by simp) ?_
  refine AllReadyH.cons (o := _) rfl (fun K hK => ?_) AllReadyH.nil
  go_simp
  go_at_call 9
  with_reducible refine (wakes_any _).mono ?_
  rintro e w12 ⟨rfl, hb12⟩
  have HX12 := Lib.hid (HX11.out.next (by simp) hb12); have HA12 := Lib.hid (HA11.out.next (by simp) hb12); have HB12 := Lib.hid (HB11.out.trans (hb12.mono HB11.out.size)); have HWA12 := Lib.hid (HWA11.out.below hb12); have HWB12 := Lib.hid (HWB11.out.below hb12); have HWC12 := Lib.hid (HWC11.out.below hb12); have HWD12 := Lib.hid (HWD11.out.below hb12); clear hb12
  clear hHeld
  refine hK.out _ _ ⟨HX12.out.cell (j := 0) rfl, HX12.out.cell (j := 1) rfl, HX12.out.cell (j := 2) rfl, HX12.out.cell (j := 3) rfl, HX12.out.cell (j := 4) rfl, HX12.out.cell (j := 5) rfl, HX12.out.cell (j := 6) rfl, HX12.out.cell (j := 7) rfl, HX12.out.cell (j := 8) rfl, HX12.out.cell (j := 9) rfl, HX12.out.cell (j := 10) rfl, HX12.out.cell (j := 11) rfl, HX12.out.cell (j := 12) rfl, HA12.out.cell (j := 0) rfl, HA12.out.cell (j := 1) rfl, HA12.out.cell (j := 2) rfl, HA12.out.cell (j := 3) rfl, HA12.out.cell (j := 4) rfl, HCVA.out _ HWA12.out, HCVB.out _ HWB12.out, HCVC.out _ HWC12.out, HCVD.out _ HWD12.out⟩ (fun hHeld => ?_)
  clear hK K
  try simp only [Act.put, List.setIfInBounds_toArray, List.set_cons_zero, List.set_cons_succ, List.getElem_toArray, List.getElem_cons_zero, List.getElem_cons_succ]
  refine wpAnyH_take (i := 18) (oi := _) (v := ?v18_36) rfl (by kernel_rfl) (by kernel_rfl) (by kernel_rfl) (fun _ _ _ h => h) (Or.inl ⟨by rfl, ?hy18_36⟩) (by assumption) ?rest18_36
  case hy18_36 =>
    intro w hSw
    (try dsimp only at hSw)
    go_simp
    rfl
  case' rest18_36 => try simp only [Act.put, List.setIfInBounds_toArray, List.set_cons_zero, List.set_cons_succ, List.getElem_toArray, List.getElem_cons_zero, List.getElem_cons_succ]
  refine wpAnyH_take (i := 19) (oi := _) (v := ?v19_37) rfl (by kernel_rfl) (by kernel_rfl) (by kernel_rfl) (fun _ _ _ h => h) (Or.inl ⟨by rfl, ?hy19_37⟩) (by assumption) ?rest19_37
  case hy19_37 =>
    intro w hSw
    (try dsimp only at hSw)
    go_simp
    rfl
  case' rest19_37 => try simp only [Act.put, List.setIfInBounds_toArray, List.set_cons_zero, List.set_cons_succ, List.getElem_toArray, List.getElem_cons_zero, List.getElem_cons_succ]
  refine wpAnyH_done (by kernel_rfl) ?_ _
  clear hHeld
  go_wp2_with fail
  go_returns
  exact ⟨rfl, HB12.out⟩
end Go.Proofs.Ytlckgnemmffdkaa
