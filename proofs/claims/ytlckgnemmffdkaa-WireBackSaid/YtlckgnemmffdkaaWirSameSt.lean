import Derived.Test.YtlckgnemmffdkaaWirSt
import Derived.Deep.QuietTactic
import Derived.BigQuiet
set_option linter.unusedVariables false
set_option linter.unusedSimpArgs false
/- The same states. (printed by gen_wirsamest.py) -/
namespace Go.Proofs.Ytlckgnemmffdkaa
open Go.ChangeShapes Go.WideShapes Go.ChangeAt Go.RowKit
set_option maxRecDepth 100000

theorem rows_at {α : Type} {cells : α → List Value} {size : Nat} (hs : ∀ x, (cells x).length = size) {w : World} {a : Option Addr} {xs : List α} (h : Row w a (xs.flatMap cells)) {k : Nat} (hk : k < xs.length) (h0 : 0 < size) : ∃ b o, a = some ⟨b, o, none⟩ ∧ ∀ r, r < size → w.cell? ⟨b, o + k * size + r, none⟩ = (cells xs[k])[r]? := by
  have hle : k * size + size ≤ xs.length * size := by rw [← Nat.succ_mul]; exact Nat.mul_le_mul_right _ hk
  have hl : (xs.flatMap cells).length = xs.length * size := flatMap_len hs xs
  have h2 : k * size < (xs.flatMap cells).length := by omega
  obtain ⟨b, o, ha, hc⟩ := Row.at h h2
  refine ⟨b, o, ha, fun r hr => ?_⟩
  have h3 : k * size + r < (xs.flatMap cells).length := by omega
  have h1 := flatMap_at (cells := cells) hs (xs := xs) (i := k) hr
  rw [List.getElem?_eq_getElem hk, Option.bind_some] at h1
  rw [Nat.add_assoc, hc _ h3, ← h1, List.getElem?_eq_getElem h3]
theorem neq_sameTen (x : WTen) (w : World) : (binOp .neq 115 (.agg #[.int .i64 x.id, .int .i64 x.rate, .int .i64 x.burst, .int .i64 x.bucket, .bool x.gone]) (.agg #[.int .i64 x.id, .int .i64 x.rate, .int .i64 x.burst, .int .i64 x.bucket, .bool x.gone])).run Try.prog w = .ok (.bool false) w := by
  have hp : Try.prog.stoodInHeld 115 = false := by kernel_rfl
  have hi := fun (d : Nat) (a b : Int) (w : World) => run_equalIn_int (P := Try.prog) w d 3 .i64 .i64 a b Try.underlying3
  have hb := fun (d : Nat) (a b : Bool) (w : World) => run_equalIn_bool' (P := Try.prog) w d 4 a b Try.underlying4
  rw [run_neq_struct]
  simp [go_sem, hp, hi, hb]
theorem neq_sameLea (x : WLea) (w : World) : (binOp .neq 118 (.agg #[.int .i64 x.id, .int .i64 x.tenant, .int .i64 x.shaper, .int .i64 x.epoch, .int .i64 x.number, .int .i64 x.size, .int .i64 x.spent]) (.agg #[.int .i64 x.id, .int .i64 x.tenant, .int .i64 x.shaper, .int .i64 x.epoch, .int .i64 x.number, .int .i64 x.size, .int .i64 x.spent])).run Try.prog w = .ok (.bool false) w := by
  have hp : Try.prog.stoodInHeld 118 = false := by kernel_rfl
  have hi := fun (d : Nat) (a b : Int) (w : World) => run_equalIn_int (P := Try.prog) w d 3 .i64 .i64 a b Try.underlying3
  rw [run_neq_struct]
  simp [go_sem, hp, hi]
theorem neq_sameSes (x : WSes) (w : World) : (binOp .neq 120 (.agg #[.int .i64 x.client, .int .i64 x.number, .int .i64 x.answer.e, .int .i64 x.answer.rate, .int .i64 x.answer.burst, .int .i64 x.answer.lease, .int .i64 x.answer.size]) (.agg #[.int .i64 x.client, .int .i64 x.number, .int .i64 x.answer.e, .int .i64 x.answer.rate, .int .i64 x.answer.burst, .int .i64 x.answer.lease, .int .i64 x.answer.size])).run Try.prog w = .ok (.bool false) w := by
  have hp : Try.prog.stoodInHeld 120 = false := by kernel_rfl
  have hi := fun (d : Nat) (a b : Int) (w : World) => run_equalIn_int (P := Try.prog) w d 3 .i64 .i64 a b Try.underlying3
  have hpa : Try.prog.stoodInHeld 42 = false := by kernel_rfl
  have he := fun (d : Nat) (a b : Int) (w : World) => run_equalIn_int (P := Try.prog) w d 24 .i64 .i64 a b Try.underlying24
  rw [run_neq_struct]
  simp [go_sem, hp, hi, hpa, he]
theorem neq_sameDsk (x : WDsk) (w : World) : (binOp .neq 122 (.agg #[.int .i64 x.shaper, .int .i64 x.epoch, .int .i64 x.number, .int .i64 x.answer.e, .int .i64 x.answer.rate, .int .i64 x.answer.burst, .int .i64 x.answer.lease, .int .i64 x.answer.size]) (.agg #[.int .i64 x.shaper, .int .i64 x.epoch, .int .i64 x.number, .int .i64 x.answer.e, .int .i64 x.answer.rate, .int .i64 x.answer.burst, .int .i64 x.answer.lease, .int .i64 x.answer.size])).run Try.prog w = .ok (.bool false) w := by
  have hp : Try.prog.stoodInHeld 122 = false := by kernel_rfl
  have hi := fun (d : Nat) (a b : Int) (w : World) => run_equalIn_int (P := Try.prog) w d 3 .i64 .i64 a b Try.underlying3
  have hpa : Try.prog.stoodInHeld 42 = false := by kernel_rfl
  have he := fun (d : Nat) (a b : Int) (w : World) => run_equalIn_int (P := Try.prog) w d 24 .i64 .i64 a b Try.underlying24
  rw [run_neq_struct]
  simp [go_sem, hp, hi, hpa, he]
set_option maxHeartbeats 16000000 in
theorem same_state (v : WSt) (p q : PSt) (w : World) (hp : LowSt w.heap.size w v p) (hq : LowSt w.heap.size w v q) (hl : v.tens.length ≤ 1000000 ∧ v.leas.length ≤ 1000000 ∧ v.sess.length ≤ 1000000 ∧ v.dsks.length ≤ 1000000) :
    Calls Try.prog 33 #[valSt v p, valSt v q] w (fun e w' => e = .returned (.bool true) ∧ Below w.heap.size w w') := by
  obtain ⟨t0, t1, t2, l0, l1, l2, l3⟩ := v
  obtain ⟨p0, p0', p1, p1', p2, p2', p3, p3'⟩ := p
  obtain ⟨q0, q0', q1, q1', q2, q2', q3, q3'⟩ := q
  obtain ⟨ha0, ha1, ha2, ha3⟩ := hp
  obtain ⟨hb0, hb1, hb2, hb3⟩ := hq
  simp only at ha0 ha1 ha2 ha3 hb0 hb1 hb2 hb3 hl
  obtain ⟨hl0, hl1, hl2, hl3⟩ := hl
  obtain ⟨W, hW⟩ : ∃ W, W = (w.alloc (.cells #[.int .i64 t0, .int .i64 t1, .int .i64 t2, .slice p0 l0.length p0', .slice p1 l1.length p1', .slice p2 l2.length p2', .slice p3 l3.length p3'] 56)).alloc (.cells #[.int .i64 t0, .int .i64 t1, .int .i64 t2, .slice q0 l0.length q0', .slice q1 l1.length q1', .slice q2 l2.length q2', .slice q3 l3.length q3'] 56) := ⟨_, rfl⟩
  have hB : Below w.heap.size w W := by rw [hW]; exact mid_alloc' (mid_alloc' (Below.refl _ _))
  have HX : Hid (Box W w.heap.size [.int .i64 t0, .int .i64 t1, .int .i64 t2, .slice p0 l0.length p0', .slice p1 l1.length p1', .slice p2 l2.length p2', .slice p3 l3.length p3']) := Lib.hid (by rw [hW]; exact Box.of_alloc (mid_alloc' (Below.refl _ _)))
  have HY : Hid (Box W (w.heap.size + 1) [.int .i64 t0, .int .i64 t1, .int .i64 t2, .slice q0 l0.length q0', .slice q1 l1.length q1', .slice q2 l2.length q2', .slice q3 l3.length q3']) := Lib.hid (by rw [hW]; exact Box.of_alloc1 (Below.refl _ _))
  have HP0 := Lib.hid (And.intro (ha0.row.below hB) (hb0.row.below hB))
  have HP1 := Lib.hid (And.intro (ha1.row.below hB) (hb1.row.below hB))
  have HP2 := Lib.hid (And.intro (ha2.row.below hB) (hb2.row.below hB))
  have HP3 := Lib.hid (And.intro (ha3.row.below hB) (hb3.row.below hB))
  have HB := Lib.hid hB
  clear ha0 ha1 ha2 ha3 hb0 hb1 hb2 hb3 hB
  unfold valSt
  simp only
  go_enter Try.func33, Try.ntmps33
  have y0 := HX.out.cell (j := 0) rfl
  have z0 := HY.out.cell (j := 0) rfl
  have y1 := HX.out.cell (j := 1) rfl
  have z1 := HY.out.cell (j := 1) rfl
  have y2 := HX.out.cell (j := 2) rfl
  have z2 := HY.out.cell (j := 2) rfl
  have y3 := HX.out.cell (j := 3) rfl
  have z3 := HY.out.cell (j := 3) rfl
  have y4 := HX.out.cell (j := 4) rfl
  have z4 := HY.out.cell (j := 4) rfl
  have y5 := HX.out.cell (j := 5) rfl
  have z5 := HY.out.cell (j := 5) rfl
  have y6 := HX.out.cell (j := 6) rfl
  have z6 := HY.out.cell (j := 6) rfl
  go_upto_region 1 with (fail)
  rw [← hW]
  have HW := Lib.hid hW
  clear hW
  go_wp2
  clear y0 y1 y2 y3 y4 y5 y6 z0 z1 z2 z3 z4 z5 z6
  go_loopw [5] (fun i wr => ∃ k : Nat, k ≤ l0.length ∧ i = .int .i64 k ∧ Hid (∃ n, wr = W.drewN n)) (fun i _ => l0.length - (intOf i).toNat)
  case atStart => exact ⟨0, by omega, rfl, ⟨0, rfl⟩⟩
  case round =>
    obtain ⟨k, hk, rfl, hwr⟩ := hrel
    obtain ⟨n1, rfl⟩ := hwr.out
    clear hwr
    have y3 := HX.out.cell (j := 3) rfl
    have z3 := HY.out.cell (j := 3) rfl
    by_cases hlt : k < l0.length
    · obtain ⟨b, o, hp0, hc⟩ := rows_at (cells := cellsWTen) (size := 5) (fun _ => rfl) HP0.out.1 hlt (by decide)
      obtain ⟨b2, o2, hq0, hc2⟩ := rows_at (cells := cellsWTen) (size := 5) (fun _ => rfl) HP0.out.2 hlt (by decide)
      subst hp0 hq0
      generalize l0[k]'hlt = x at hc hc2
      have a0 := hc 0 (by decide)
      rw [show (cellsWTen x)[0]? = some (.int .i64 x.id) from rfl] at a0
      have c0 := hc2 0 (by decide)
      rw [show (cellsWTen x)[0]? = some (.int .i64 x.id) from rfl] at c0
      have a1 := hc 1 (by decide)
      rw [show (cellsWTen x)[1]? = some (.int .i64 x.rate) from rfl] at a1
      have c1 := hc2 1 (by decide)
      rw [show (cellsWTen x)[1]? = some (.int .i64 x.rate) from rfl] at c1
      have a2 := hc 2 (by decide)
      rw [show (cellsWTen x)[2]? = some (.int .i64 x.burst) from rfl] at a2
      have c2 := hc2 2 (by decide)
      rw [show (cellsWTen x)[2]? = some (.int .i64 x.burst) from rfl] at c2
      have a3 := hc 3 (by decide)
      rw [show (cellsWTen x)[3]? = some (.int .i64 x.bucket) from rfl] at a3
      have c3 := hc2 3 (by decide)
      rw [show (cellsWTen x)[3]? = some (.int .i64 x.bucket) from rfl] at c3
      have a4 := hc 4 (by decide)
      rw [show (cellsWTen x)[4]? = some (.bool x.gone) from rfl] at a4
      have c4 := hc2 4 (by decide)
      rw [show (cellsWTen x)[4]? = some (.bool x.gone) from rfl] at c4
      simp only [Nat.add_zero] at a0 c0
      have hne := neq_sameTen x
      have hd : decide (k < l0.length) = true := decide_eq_true hlt
      clear hc hc2
      go_upto_region 6 with (fail)
      go_quiet (fail)
      go_wp2
      exact ⟨⟨k + 1, by omega, by go_num, by (show ∃ m, _ = _); exact ⟨n1 + nq, by simp⟩⟩, by simp [intOf]; omega⟩
    · obtain rfl : k = l0.length := by omega
      have hd : decide (l0.length < l0.length) = false := decide_eq_false (by omega)
      go_wp2
      clear hd y3 z3 hk hlt
      go_loopw [6] (fun i wr => ∃ k : Nat, k ≤ l1.length ∧ i = .int .i64 k ∧ Hid (∃ n, wr = W.drewN n)) (fun i _ => l1.length - (intOf i).toNat)
      case atStart => exact ⟨0, by omega, rfl, ⟨n1, rfl⟩⟩
      case round =>
        obtain ⟨k, hk, rfl, hwr⟩ := hrel
        obtain ⟨n2, rfl⟩ := hwr.out
        clear hwr
        have y4 := HX.out.cell (j := 4) rfl
        have z4 := HY.out.cell (j := 4) rfl
        by_cases hlt : k < l1.length
        · obtain ⟨b, o, hp0, hc⟩ := rows_at (cells := cellsWLea) (size := 7) (fun _ => rfl) HP1.out.1 hlt (by decide)
          obtain ⟨b2, o2, hq0, hc2⟩ := rows_at (cells := cellsWLea) (size := 7) (fun _ => rfl) HP1.out.2 hlt (by decide)
          subst hp0 hq0
          generalize l1[k]'hlt = x at hc hc2
          have a0 := hc 0 (by decide)
          rw [show (cellsWLea x)[0]? = some (.int .i64 x.id) from rfl] at a0
          have c0 := hc2 0 (by decide)
          rw [show (cellsWLea x)[0]? = some (.int .i64 x.id) from rfl] at c0
          have a1 := hc 1 (by decide)
          rw [show (cellsWLea x)[1]? = some (.int .i64 x.tenant) from rfl] at a1
          have c1 := hc2 1 (by decide)
          rw [show (cellsWLea x)[1]? = some (.int .i64 x.tenant) from rfl] at c1
          have a2 := hc 2 (by decide)
          rw [show (cellsWLea x)[2]? = some (.int .i64 x.shaper) from rfl] at a2
          have c2 := hc2 2 (by decide)
          rw [show (cellsWLea x)[2]? = some (.int .i64 x.shaper) from rfl] at c2
          have a3 := hc 3 (by decide)
          rw [show (cellsWLea x)[3]? = some (.int .i64 x.epoch) from rfl] at a3
          have c3 := hc2 3 (by decide)
          rw [show (cellsWLea x)[3]? = some (.int .i64 x.epoch) from rfl] at c3
          have a4 := hc 4 (by decide)
          rw [show (cellsWLea x)[4]? = some (.int .i64 x.number) from rfl] at a4
          have c4 := hc2 4 (by decide)
          rw [show (cellsWLea x)[4]? = some (.int .i64 x.number) from rfl] at c4
          have a5 := hc 5 (by decide)
          rw [show (cellsWLea x)[5]? = some (.int .i64 x.size) from rfl] at a5
          have c5 := hc2 5 (by decide)
          rw [show (cellsWLea x)[5]? = some (.int .i64 x.size) from rfl] at c5
          have a6 := hc 6 (by decide)
          rw [show (cellsWLea x)[6]? = some (.int .i64 x.spent) from rfl] at a6
          have c6 := hc2 6 (by decide)
          rw [show (cellsWLea x)[6]? = some (.int .i64 x.spent) from rfl] at c6
          simp only [Nat.add_zero] at a0 c0
          have hne := neq_sameLea x
          have hd : decide (k < l1.length) = true := decide_eq_true hlt
          clear hc hc2
          go_upto_region 11 with (fail)
          go_quiet (fail)
          go_wp2
          exact ⟨⟨k + 1, by omega, by go_num, by (show ∃ m, _ = _); exact ⟨n2 + nq, by simp⟩⟩, by simp [intOf]; omega⟩
        · obtain rfl : k = l1.length := by omega
          have hd : decide (l1.length < l1.length) = false := decide_eq_false (by omega)
          go_wp2
          clear hd y4 z4 hk hlt
          go_loopw [7] (fun i wr => ∃ k : Nat, k ≤ l2.length ∧ i = .int .i64 k ∧ Hid (∃ n, wr = W.drewN n)) (fun i _ => l2.length - (intOf i).toNat)
          case atStart => exact ⟨0, by omega, rfl, ⟨n2, rfl⟩⟩
          case round =>
            obtain ⟨k, hk, rfl, hwr⟩ := hrel
            obtain ⟨n3, rfl⟩ := hwr.out
            clear hwr
            have y5 := HX.out.cell (j := 5) rfl
            have z5 := HY.out.cell (j := 5) rfl
            by_cases hlt : k < l2.length
            · obtain ⟨b, o, hp0, hc⟩ := rows_at (cells := cellsWSes) (size := 7) (fun _ => rfl) HP2.out.1 hlt (by decide)
              obtain ⟨b2, o2, hq0, hc2⟩ := rows_at (cells := cellsWSes) (size := 7) (fun _ => rfl) HP2.out.2 hlt (by decide)
              subst hp0 hq0
              generalize l2[k]'hlt = x at hc hc2
              have a0 := hc 0 (by decide)
              rw [show (cellsWSes x)[0]? = some (.int .i64 x.client) from rfl] at a0
              have c0 := hc2 0 (by decide)
              rw [show (cellsWSes x)[0]? = some (.int .i64 x.client) from rfl] at c0
              have a1 := hc 1 (by decide)
              rw [show (cellsWSes x)[1]? = some (.int .i64 x.number) from rfl] at a1
              have c1 := hc2 1 (by decide)
              rw [show (cellsWSes x)[1]? = some (.int .i64 x.number) from rfl] at c1
              have a2 := hc 2 (by decide)
              rw [show (cellsWSes x)[2]? = some (.int .i64 x.answer.e) from rfl] at a2
              have c2 := hc2 2 (by decide)
              rw [show (cellsWSes x)[2]? = some (.int .i64 x.answer.e) from rfl] at c2
              have a3 := hc 3 (by decide)
              rw [show (cellsWSes x)[3]? = some (.int .i64 x.answer.rate) from rfl] at a3
              have c3 := hc2 3 (by decide)
              rw [show (cellsWSes x)[3]? = some (.int .i64 x.answer.rate) from rfl] at c3
              have a4 := hc 4 (by decide)
              rw [show (cellsWSes x)[4]? = some (.int .i64 x.answer.burst) from rfl] at a4
              have c4 := hc2 4 (by decide)
              rw [show (cellsWSes x)[4]? = some (.int .i64 x.answer.burst) from rfl] at c4
              have a5 := hc 5 (by decide)
              rw [show (cellsWSes x)[5]? = some (.int .i64 x.answer.lease) from rfl] at a5
              have c5 := hc2 5 (by decide)
              rw [show (cellsWSes x)[5]? = some (.int .i64 x.answer.lease) from rfl] at c5
              have a6 := hc 6 (by decide)
              rw [show (cellsWSes x)[6]? = some (.int .i64 x.answer.size) from rfl] at a6
              have c6 := hc2 6 (by decide)
              rw [show (cellsWSes x)[6]? = some (.int .i64 x.answer.size) from rfl] at c6
              simp only [Nat.add_zero] at a0 c0
              have hne := neq_sameSes x
              have hd : decide (k < l2.length) = true := decide_eq_true hlt
              clear hc hc2
              go_upto_region 16 with (fail)
              go_quiet (fail)
              go_wp2
              exact ⟨⟨k + 1, by omega, by go_num, by (show ∃ m, _ = _); exact ⟨n3 + nq, by simp⟩⟩, by simp [intOf]; omega⟩
            · obtain rfl : k = l2.length := by omega
              have hd : decide (l2.length < l2.length) = false := decide_eq_false (by omega)
              go_wp2
              clear hd y5 z5 hk hlt
              go_loopw [8] (fun i wr => ∃ k : Nat, k ≤ l3.length ∧ i = .int .i64 k ∧ Hid (∃ n, wr = W.drewN n)) (fun i _ => l3.length - (intOf i).toNat)
              case atStart => exact ⟨0, by omega, rfl, ⟨n3, rfl⟩⟩
              case round =>
                obtain ⟨k, hk, rfl, hwr⟩ := hrel
                obtain ⟨n4, rfl⟩ := hwr.out
                clear hwr
                have y6 := HX.out.cell (j := 6) rfl
                have z6 := HY.out.cell (j := 6) rfl
                by_cases hlt : k < l3.length
                · obtain ⟨b, o, hp0, hc⟩ := rows_at (cells := cellsWDsk) (size := 8) (fun _ => rfl) HP3.out.1 hlt (by decide)
                  obtain ⟨b2, o2, hq0, hc2⟩ := rows_at (cells := cellsWDsk) (size := 8) (fun _ => rfl) HP3.out.2 hlt (by decide)
                  subst hp0 hq0
                  generalize l3[k]'hlt = x at hc hc2
                  have a0 := hc 0 (by decide)
                  rw [show (cellsWDsk x)[0]? = some (.int .i64 x.shaper) from rfl] at a0
                  have c0 := hc2 0 (by decide)
                  rw [show (cellsWDsk x)[0]? = some (.int .i64 x.shaper) from rfl] at c0
                  have a1 := hc 1 (by decide)
                  rw [show (cellsWDsk x)[1]? = some (.int .i64 x.epoch) from rfl] at a1
                  have c1 := hc2 1 (by decide)
                  rw [show (cellsWDsk x)[1]? = some (.int .i64 x.epoch) from rfl] at c1
                  have a2 := hc 2 (by decide)
                  rw [show (cellsWDsk x)[2]? = some (.int .i64 x.number) from rfl] at a2
                  have c2 := hc2 2 (by decide)
                  rw [show (cellsWDsk x)[2]? = some (.int .i64 x.number) from rfl] at c2
                  have a3 := hc 3 (by decide)
                  rw [show (cellsWDsk x)[3]? = some (.int .i64 x.answer.e) from rfl] at a3
                  have c3 := hc2 3 (by decide)
                  rw [show (cellsWDsk x)[3]? = some (.int .i64 x.answer.e) from rfl] at c3
                  have a4 := hc 4 (by decide)
                  rw [show (cellsWDsk x)[4]? = some (.int .i64 x.answer.rate) from rfl] at a4
                  have c4 := hc2 4 (by decide)
                  rw [show (cellsWDsk x)[4]? = some (.int .i64 x.answer.rate) from rfl] at c4
                  have a5 := hc 5 (by decide)
                  rw [show (cellsWDsk x)[5]? = some (.int .i64 x.answer.burst) from rfl] at a5
                  have c5 := hc2 5 (by decide)
                  rw [show (cellsWDsk x)[5]? = some (.int .i64 x.answer.burst) from rfl] at c5
                  have a6 := hc 6 (by decide)
                  rw [show (cellsWDsk x)[6]? = some (.int .i64 x.answer.lease) from rfl] at a6
                  have c6 := hc2 6 (by decide)
                  rw [show (cellsWDsk x)[6]? = some (.int .i64 x.answer.lease) from rfl] at c6
                  have a7 := hc 7 (by decide)
                  rw [show (cellsWDsk x)[7]? = some (.int .i64 x.answer.size) from rfl] at a7
                  have c7 := hc2 7 (by decide)
                  rw [show (cellsWDsk x)[7]? = some (.int .i64 x.answer.size) from rfl] at c7
                  simp only [Nat.add_zero] at a0 c0
                  have hne := neq_sameDsk x
                  have hd : decide (k < l3.length) = true := decide_eq_true hlt
                  clear hc hc2
                  go_upto_region 21 with (fail)
                  go_quiet (fail)
                  go_wp2
                  exact ⟨⟨k + 1, by omega, by go_num, by (show ∃ m, _ = _); exact ⟨n4 + nq, by simp⟩⟩, by simp [intOf]; omega⟩
                · obtain rfl : k = l3.length := by omega
                  have hd : decide (l3.length < l3.length) = false := decide_eq_false (by omega)
                  go_wp2
                  go_ret
                  exact ⟨rfl, below_drewN HB.out n4⟩
end Go.Proofs.Ytlckgnemmffdkaa
