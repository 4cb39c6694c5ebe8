import Derived.Test.YtkboojpkkhiceaaDoorPackHistoryDoes1
import Derived.WalkLawsBesides
set_option linter.unusedVariables false
set_option linter.unusedSimpArgs false
/- May a policy be; may a table be asked a command, both sides. -/
namespace Go.Proofs.YtkboojpkkhiceaaDoor
open Go.ChangeShapes Go.WideShapes Go.ChangeAt Go.RowKit
set_option maxRecDepth 100000

theorem may_any (r b : Int) (w : World) : Calls Tryd.prog 24 #[.int .i64 r, .int .i64 b] w fun e w' => e = .returned (.bool (mayB r b)) ∧ w = w' := by
  go_each [r < 0, 1000000 < r, b < 0, 1000000 < b] => (
    go_enter Tryd.func24, Tryd.ntmps24
    go_wp2
    go_returns
    refine ⟨ret_bool ?_, rfl⟩
    unfold mayB
    first | (refine (decide_eq_true ?_).symm; omega) | (refine (decide_eq_false ?_).symm; omega) | (rw [Bool.eq_iff_iff]; simp only [decide_eq_true_iff, Bool.and_eq_true]; omega))
theorem refmay_any (r b : Int) (w : World) : Calls Tryd.prog 30 #[.int .i64 r, .int .i64 b] w fun e w' => e = .returned (.bool (mayB r b)) ∧ w = w' := by
  go_each [r < 0, 1000000 < r, b < 0, 1000000 < b] => (
    go_enter Tryd.func30, Tryd.ntmps30
    go_wp2
    go_returns
    refine ⟨ret_bool ?_, rfl⟩
    unfold mayB
    first | (refine (decide_eq_true ?_).symm; omega) | (refine (decide_eq_false ?_).symm; omega) | (rw [Bool.eq_iff_iff]; simp only [decide_eq_true_iff, Bool.and_eq_true]; omega))
/-- asks: the command lies at ⟨g, o⟩. -/
theorem asks_any (x : HCmd) (g o : Nat) (w : World) (h0 : w.cell? ⟨g, o, none⟩ = some (.int .i8 x.kind)) (h3 : w.cell? ⟨g, o + 3, none⟩ = some (.int .i64 x.tenant)) : Calls Tryd.prog 21 #[.pointer (some ⟨g, o, none⟩)] w fun e w' => e = .returned (.bool (asksC x)) ∧ w = w' := by
  obtain ⟨k, a1, a2, t, a4, a5, a6, a7, a8, a9, a10, a11, a12⟩ := x
  simp only at h0 h3
  go_each [k < 1, 3 < k, t < 1, 16 < t] => (
    go_enter Tryd.func21, Tryd.ntmps21
    go_wp2
    go_returns
    refine ⟨ret_bool ?_, rfl⟩
    unfold asksC
    first | (refine (decide_eq_true ?_).symm; dsimp only; omega) | (refine (decide_eq_false ?_).symm; dsimp only; omega) | (rw [Bool.eq_iff_iff]; simp only [decide_eq_true_iff, Bool.and_eq_true]; omega))
theorem command_any (x : HCmd) (w : World) : Calls Tryd.prog 28 #[x.agg] w fun e w' => e = .returned (.bool (asksC x)) ∧ Below w.heap.size w w' := by
  obtain ⟨k, a1, a2, t, a4, a5, a6, a7, a8, a9, a10, a11, a12⟩ := x
  have HB : Hid (Below w.heap.size w (w.alloc (.cells #[.int .i8 k, .int .i64 a1, .int .i64 a2, .int .i64 t, .int .i64 a4, .int .i64 a5, .int .i64 a6, .int .i64 a7, .int .i64 a8, .int .i64 a9, .int .i64 a10, .bool a11, a12.v] 26))) := mid_alloc' (Below.refl _ _)
  go_each [k < 1, 3 < k, t < 1, 16 < t] => (
    go_enter Tryd.func28, Tryd.ntmps28
    go_wp2
    go_returns
    refine ⟨ret_bool ?_, HB.out⟩
    unfold asksC
    first | (refine (decide_eq_true ?_).symm; dsimp only; omega) | (refine (decide_eq_false ?_).symm; dsimp only; omega) | (rw [Bool.eq_iff_iff]; simp only [decide_eq_true_iff, Bool.and_eq_true]; omega))
end Go.Proofs.YtkboojpkkhiceaaDoor
