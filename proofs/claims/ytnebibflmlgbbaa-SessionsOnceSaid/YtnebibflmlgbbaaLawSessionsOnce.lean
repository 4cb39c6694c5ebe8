/- SessionsOnce holds: for every argument the law answers true, and its arguments read afterwards as before. No condition. -/
import Derived.Test.YtnebibflmlgbbaaOpen
import Derived.Test.YtnebibflmlgbbaaOpen
import Derived.Test.YtnebibflmlgbbaaSesOnce
namespace Go.Proofs.Ytnebibflmlgbbaa
open Go.ChangeShapes Go.WideShapes Go.ChangeAt Go.RowKit

set_option maxRecDepth 100000 in
theorem sessionsOnce_lifted (os : Os) (started : os.Started) (H : Type) (enc : TypeId × Value → H) :
    ReturnsInHanded {} Try.checked os 5 .any (Rows.sessionsOnceSpec.pre6 enc Try.prog Try.f5 Rows.sessionsOnceRow.domain false) (Rows.sessionsOnceSpec.post enc Try.prog Try.f5 false true false false) := by
  refine law_lifted (C := Try.checked) own started (by kernel_rfl) Try.func5
    (ChangeSpec.witness6 (enc := enc) (C := Try.checked) false ⟨#[], #[.slice none 0 0, .slice none 0 0], []⟩ 8 (by kernel_rfl) (by kernel_rfl) (by kernel_rfl) (by kernel_rfl))
    rfl rfl Try.underlying4 laidOut (by kernel_rfl) ?_ ?_
  · intro ds h
    rw [Try.params5] at h
    match ds, h with
    | [d1, d2], _ => rfl
  · intro W vs h
    rw [Try.params5] at h
    obtain ⟨v0, vs0, rfl, h0, r0⟩ := h
    obtain ⟨v1, vs1, rfl, h1, r1⟩ := r0
    obtain rfl := r1
    obtain ⟨a0, len0, cap0, rfl, q0⟩ := h0.slice Try.underlying36
    obtain ⟨l0, n0, m0, k0, -, -, x0, w0⟩ := q0.ints Try.underlying36 Try.underlying3 (by kernel_rfl)
    obtain ⟨a1, len1, cap1, rfl, q1⟩ := h1.slice Try.underlying36
    obtain ⟨l1, n1, m1, k1, -, -, x1, w1⟩ := q1.ints Try.underlying36 Try.underlying3 (by kernel_rfl)
    exact law_once a0 a1 l0 l1 len0 cap0 len1 cap1 W n0 n1 (Nat.le_trans m0 k0) (Nat.le_trans m1 k1) w0 w1

/-- The statement. -/
theorem sessionsOnce_proved : Rows.SessionsOnceSaid :=
  OpenClaim.holds_of_wide 5 Try.f5 rfl rfl rfl rfl rfl rfl rfl ⟨rfl, rfl, rfl, rfl, rfl⟩ rfl rfl rfl rfl rfl (by kernel_rfl) Try.func5 (by kernel_rfl)
    (of_decide_eq_true (by kernel_rfl)) (by unfold Func.isWrapper; first | (rw [if_pos (by decide +kernel)]; kernel_rfl) | (rw [if_neg (by decide +kernel)]; exact ⟨rfl, rfl⟩))
    (fun os started H enc _ => sessionsOnce_lifted os started H enc)
#print axioms sessionsOnce_proved
end Go.Proofs.Ytnebibflmlgbbaa
