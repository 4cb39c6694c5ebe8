/- SumsSigned holds: for every byte slice and every sum the law answers true, and its arguments read afterwards as before. No condition. -/
import Derived.Test.YtmlpgpopaakjbaaOpen
import Derived.Test.YtmlpgpopaakjbaaSums
namespace Go.Proofs.Ytmlpgpopaakjbaa
open Go.ChangeShapes Go.WideShapes Go.ChangeAt Go.RowKit

set_option maxRecDepth 100000 in
theorem sumsSigned_lifted (os : Os) (started : os.Started) (H : Type) (enc : TypeId × Value → H) :
    ReturnsInHanded {} Try.checked os 4 .any (Rows.sumsSignedSpec.pre6 enc Try.prog Try.f4 Rows.sumsSignedRow.domain false) (Rows.sumsSignedSpec.post enc Try.prog Try.f4 false true false false) := by
  refine law_lifted (C := Try.checked) own started (by kernel_rfl) Try.func4
    (ChangeSpec.witness6 (enc := enc) (C := Try.checked) false ⟨#[], #[.slice none 0 0, .int .u32 0], []⟩ 8 (by kernel_rfl) (by kernel_rfl) (by kernel_rfl) (by kernel_rfl))
    rfl rfl Try.underlying4 laidOut (by kernel_rfl) ?_ ?_
  · intro ds h
    rw [Try.params4] at h
    match ds, h with
    | [d1, d2], _ => rfl
  · intro W vs h
    rw [Try.params4] at h
    obtain ⟨v0, vs0, rfl, h0, r0⟩ := h
    obtain ⟨v1, vs1, rfl, h1, r1⟩ := r0
    obtain rfl := r1
    obtain ⟨a0, len0, cap0, rfl, q0⟩ := h0.slice Try.underlying22
    obtain ⟨l0, n0, m0, x0, y0, z0, w0⟩ := q0.bytes Try.underlying22 Try.underlying5 (by kernel_rfl)
    obtain ⟨a1, rfl, w1⟩ := h1.int Try.underlying23
    obtain ⟨b1, c1⟩ := bounds_u32 w1
    exact law_signed a0 l0 len0 cap0 a1 W n0 (by omega) w0 b1 (by omega)

/-- The statement. -/
theorem sumsSigned_proved : Rows.SumsSignedSaid :=
  OpenClaim.holds_of_wide 4 Try.f4 rfl rfl rfl rfl rfl rfl rfl ⟨rfl, rfl, rfl, rfl, rfl⟩ rfl rfl rfl rfl rfl (by kernel_rfl) Try.func4 (by kernel_rfl)
    (of_decide_eq_true (by kernel_rfl)) (by unfold Func.isWrapper; first | (rw [if_pos (by decide +kernel)]; kernel_rfl) | (rw [if_neg (by decide +kernel)]; exact ⟨rfl, rfl⟩))
    (fun os started H enc _ => sumsSigned_lifted os started H enc)
#print axioms sumsSigned_proved
end Go.Proofs.Ytmlpgpopaakjbaa
