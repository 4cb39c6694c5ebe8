/- The same commands. -/
import Derived.Test.YtlckgnemmffdkaaWirCmd
import Derived.Deep.QuietTactic
import Derived.BigQuiet
namespace Go.Proofs.Ytlckgnemmffdkaa
open Go.ChangeShapes Go.WideShapes Go.ChangeAt Go.RowKit
set_option maxRecDepth 100000

theorem int_at {w : World} {a : Option Addr} {xs : List Int} (h : Row w a (xs.flatMap cellsInt)) {k : Nat} (hk : k < xs.length) : ∃ b o, a = some ⟨b, o, none⟩ ∧ w.cell? ⟨b, o + k, none⟩ = some (.int .i64 xs[k]) := by
  have h2 : k < (xs.flatMap cellsInt).length := by rw [flatMap_len (fun _ => rfl : ∀ x, (cellsInt x).length = 1), Nat.mul_one]; exact hk
  obtain ⟨b, o, ha, hc⟩ := Row.at h h2
  refine ⟨b, o, ha, ?_⟩
  have h1 := flatMap_at (cells := cellsInt) (size := 1) (fun _ => rfl) (xs := xs) (i := k) (r := 0) (by decide)
  rw [List.getElem?_eq_getElem hk, Option.bind_some, Nat.mul_one, Nat.add_zero] at h1
  rw [hc k h2, ← List.getElem?_eq_getElem h2, h1]; rfl
set_option maxHeartbeats 8000000 in
theorem same_command (v : WCmd) (p q : PCmd) (w : World) (hp : Row w p.1 (v.leases.flatMap cellsInt)) (hq : Row w q.1 (v.leases.flatMap cellsInt)) (hl : v.leases.length ≤ 1000000) :
    Calls Try.prog 23 #[valCmd v p, valCmd v q] w (fun e w' => e = .returned (.bool true) ∧ Below w.heap.size w w') := by
  obtain ⟨v0, v1, v2, v3, v4, v5, v6, v7, v8, v9, v10, v11, l⟩ := v
  obtain ⟨p0, p1⟩ := p
  obtain ⟨q0, q1⟩ := q
  simp only at hp hq hl
  obtain ⟨W, hW⟩ : ∃ W, W = (w.alloc (.cells #[.int .i8 v0, .int .i64 v1, .int .i64 v2, .int .i64 v3, .int .i64 v4, .int .i64 v5, .int .i64 v6, .int .i64 v7, .int .i64 v8, .int .i64 v9, .int .i64 v10, .bool v11, .slice p0 l.length p1] 40)).alloc (.cells #[.int .i8 v0, .int .i64 v1, .int .i64 v2, .int .i64 v3, .int .i64 v4, .int .i64 v5, .int .i64 v6, .int .i64 v7, .int .i64 v8, .int .i64 v9, .int .i64 v10, .bool v11, .slice q0 l.length q1] 40) := ⟨_, rfl⟩
  have hB : Below w.heap.size w W := by rw [hW]; exact mid_alloc' (mid_alloc' (Below.refl _ _))
  have HX : Hid (Box W w.heap.size [.int .i8 v0, .int .i64 v1, .int .i64 v2, .int .i64 v3, .int .i64 v4, .int .i64 v5, .int .i64 v6, .int .i64 v7, .int .i64 v8, .int .i64 v9, .int .i64 v10, .bool v11, .slice p0 l.length p1]) := Lib.hid (by rw [hW]; exact Box.of_alloc (mid_alloc' (Below.refl _ _)))
  have HY : Hid (Box W (w.heap.size + 1) [.int .i8 v0, .int .i64 v1, .int .i64 v2, .int .i64 v3, .int .i64 v4, .int .i64 v5, .int .i64 v6, .int .i64 v7, .int .i64 v8, .int .i64 v9, .int .i64 v10, .bool v11, .slice q0 l.length q1]) := Lib.hid (by rw [hW]; exact Box.of_alloc1 (Below.refl _ _))
  have HP := Lib.hid (hp.below hB)
  have HQ := Lib.hid (hq.below hB)
  have HB := Lib.hid hB
  clear hp hq hB
  unfold valCmd
  simp only
  go_enter Try.func23, Try.ntmps23
  go_wp2
  rw [← hW]
  have HW := Lib.hid hW
  clear hW
  go_loopw [5] (fun i wr => ∃ k : Nat, k ≤ l.length ∧ i = .int .i64 k ∧ Hid (∃ n, wr = W.drewN n)) (fun i _ => l.length - (intOf i).toNat)
  case atStart => exact ⟨0, by omega, rfl, ⟨0, rfl⟩⟩
  case round =>
    obtain ⟨k, hk, rfl, hwr⟩ := hrel
    obtain ⟨n, rfl⟩ := hwr.out
    clear hwr
    have y12 := HX.out.cell (j := 12) rfl
    have z12 := HY.out.cell (j := 12) rfl
    by_cases hlt : k < l.length
    · obtain ⟨b, o, hp0, hc⟩ := int_at HP.out hlt
      obtain ⟨b2, o2, hq0, hc2⟩ := int_at HQ.out hlt
      subst hp0 hq0
      generalize l[k]'hlt = x at hc hc2
      have hd : decide (k < l.length) = true := decide_eq_true hlt
      go_upto_region 6 with (fail)
      go_quiet (fail)
      go_wp2
      exact ⟨⟨k + 1, by omega, by go_num, by (show ∃ m, _ = _); exact ⟨n + nq, by simp⟩⟩, by simp [intOf]; omega⟩
    · obtain rfl : k = l.length := by omega
      have hd : decide (l.length < l.length) = false := decide_eq_false (by omega)
      have y0 := HX.out.cell (j := 0) rfl
      have z0 := HY.out.cell (j := 0) rfl
      have y1 := HX.out.cell (j := 1) rfl
      have z1 := HY.out.cell (j := 1) rfl
      have y2 := HX.out.cell (j := 2) rfl
      have z2 := HY.out.cell (j := 2) rfl
      have y3 := HX.out.cell (j := 3) rfl
      have z3 := HY.out.cell (j := 3) rfl
      have y4 := HX.out.cell (j := 4) rfl
      have z4 := HY.out.cell (j := 4) rfl
      have y5 := HX.out.cell (j := 5) rfl
      have z5 := HY.out.cell (j := 5) rfl
      have y6 := HX.out.cell (j := 6) rfl
      have z6 := HY.out.cell (j := 6) rfl
      have y7 := HX.out.cell (j := 7) rfl
      have z7 := HY.out.cell (j := 7) rfl
      have y8 := HX.out.cell (j := 8) rfl
      have z8 := HY.out.cell (j := 8) rfl
      have y9 := HX.out.cell (j := 9) rfl
      have z9 := HY.out.cell (j := 9) rfl
      have y10 := HX.out.cell (j := 10) rfl
      have z10 := HY.out.cell (j := 10) rfl
      have y11 := HX.out.cell (j := 11) rfl
      have z11 := HY.out.cell (j := 11) rfl
      go_wp2
      go_ret
      exact ⟨rfl, below_drewN HB.out n⟩
end Go.Proofs.Ytlckgnemmffdkaa
