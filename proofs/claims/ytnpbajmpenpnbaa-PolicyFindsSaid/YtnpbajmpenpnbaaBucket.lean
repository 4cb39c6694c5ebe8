import Derived.Test.YtnpbajmpenpnbaaTen
import Derived.WalkLawsBesides
namespace Go.Proofs.Ytnpbajmpenpnbaa
open Go.ChangeShapes Go.WideShapes Go.ChangeAt Go.RowKit

theorem may_any (r b : Int) (w : World) : Calls Try.prog 25 #[.int .i64 r, .int .i64 b] w fun e w' => e = .returned (.bool (mayB r b)) ∧ w = w' := by
  go_each [r < 0, 1000000 < r, b < 0, 1000000 < b] => (
    go_enter Try.func25, Try.ntmps25
    go_wp2
    go_returns
    refine ⟨ret_bool ?_, rfl⟩
    unfold mayB
    first | (refine (decide_eq_true ?_).symm; omega) | (refine (decide_eq_false ?_).symm; omega) | (rw [Bool.eq_iff_iff]; simp only [decide_eq_true_iff, Bool.and_eq_true]; omega))
theorem refmay_any (r b : Int) (w : World) : Calls Try.prog 29 #[.int .i64 r, .int .i64 b] w fun e w' => e = .returned (.bool (mayB r b)) ∧ w = w' := by
  go_each [r < 0, 1000000 < r, b < 0, 1000000 < b] => (
    go_enter Try.func29, Try.ntmps29
    go_wp2
    go_returns
    refine ⟨ret_bool ?_, rfl⟩
    unfold mayB
    first | (refine (decide_eq_true ?_).symm; omega) | (refine (decide_eq_false ?_).symm; omega) | (rw [Bool.eq_iff_iff]; simp only [decide_eq_true_iff, Bool.and_eq_true]; omega))
theorem brought_any (n lo hi : Int) (w : World) : Calls Try.prog 44 #[.int .i64 n, .int .i64 lo, .int .i64 hi] w fun e w' => e = .returned (.int .i64 (broughtI n lo hi)) ∧ w = w' := by
  go_each [n < lo, hi < n, hi < lo] => (
    go_enter Try.func44, Try.ntmps44
    go_wp2
    go_returns
    exact ⟨ret_int (by unfold broughtI; omega), rfl⟩)
theorem room_any (burst out : Int) (w : World) : Calls Try.prog 45 #[.int .i64 burst, .int .i64 out] w fun e w' => e = .returned (.int .i64 (roomI burst out)) ∧ w = w' := by
  have h := broughtI_range burst 0 1000000 (by omega)
  have h2 := broughtI_range out 0 (broughtI burst 0 1000000) h.1
  obtain ⟨h3, h4⟩ := h
  obtain ⟨h5, h6⟩ := h2
  go_enter Try.func45, Try.ntmps45
  go_wp2_with (go_at_call 44; ((with_reducible refine (brought_any _ _ _ _).mono ?_); rintro e w' ⟨rfl, rfl⟩))
  go_returns
  exact ⟨rfl, rfl⟩
theorem cut_any (b burst out : Int) (w : World) : Calls Try.prog 26 #[.int .i64 b, .int .i64 burst, .int .i64 out] w fun e w' => e = .returned (.int .i64 (cutI b burst out)) ∧ w = w' := by
  go_enter Try.func26, Try.ntmps26
  go_wp2_with (first
    | (go_at_call 44; ((with_reducible refine (brought_any _ _ _ _).mono ?_); rintro e w' ⟨rfl, rfl⟩))
    | (go_at_call 45; ((with_reducible refine (room_any _ _ _).mono ?_); rintro e w' ⟨rfl, rfl⟩)))
  go_returns
  exact ⟨rfl, rfl⟩
theorem refroom_any (burst out : Int) (w : World) : Calls Try.prog 48 #[.int .i64 burst, .int .i64 out] w fun e w' => e = .returned (.int .i64 (roomI burst out)) ∧ w = w' := by
  go_each [burst < 0, 1000000 < burst, out < 0, burst < out, 1000000 < out] => (
    go_enter Try.func48, Try.ntmps48
    go_wp2
    all_goals
      go_returns
      exact ⟨ret_int (by unfold roomI broughtI; omega), rfl⟩)
theorem refcut_any (b burst out : Int) (w : World) : Calls Try.prog 30 #[.int .i64 b, .int .i64 burst, .int .i64 out] w fun e w' => e = .returned (.int .i64 (cutI b burst out)) ∧ w = w' := by
  obtain ⟨h0, _⟩ := roomI_range burst out
  go_each [b < 0, roomI burst out < b] => (
    go_enter Try.func30, Try.ntmps30
    go_wp2_with (go_at_call 48; ((with_reducible refine (refroom_any _ _ _).mono ?_); rintro e w' ⟨rfl, rfl⟩))
    go_returns
    exact ⟨ret_int (by unfold cutI broughtI; omega), rfl⟩)
end Go.Proofs.Ytnpbajmpenpnbaa
