/- WireFrame holds: for every argument the law answers true, and its arguments read afterwards as before. No condition. -/
import Derived.Test.YtlckgnemmffdkaaOpen
import Derived.Test.YtlckgnemmffdkaaLawWFrame
namespace Go.Proofs.Ytlckgnemmffdkaa
open Go.ChangeShapes Go.WideShapes Go.ChangeAt Go.RowKit
set_option maxRecDepth 100000

set_option maxRecDepth 100000 in
theorem wireFrame_lifted (os : Os) (started : os.Started) (H : Type) (enc : TypeId × Value → H) :
    ReturnsInHanded {} Try.checked os 3 .any (Rows.wireFrameSpec.pre6 enc Try.prog Try.f3 Rows.wireFrameRow.domain false) (Rows.wireFrameSpec.post enc Try.prog Try.f3 false true false false) := by
  refine law_lifted (C := Try.checked) own started (by kernel_rfl) Try.func3
    (ChangeSpec.witness6 (enc := enc) (C := Try.checked) false ⟨#[], #[.slice none 0 0], []⟩ 8 (by kernel_rfl) (by kernel_rfl) (by kernel_rfl) (by kernel_rfl))
    rfl rfl Try.underlying4 laidOut (by kernel_rfl) ?_ ?_
  · intro ds h
    rw [Try.params3] at h
    match ds, h with
    | [d1], _ => rfl
  · intro W vs h
    rw [Try.params3] at h
    obtain ⟨v0, vs0, rfl, h0, r0⟩ := h
    obtain rfl := r0
    obtain ⟨a0, len0, cap0, rfl, q0⟩ := h0.slice Try.underlying22
    obtain ⟨l0, n0, m0, x0, y0, z0, w0⟩ := q0.bytes Try.underlying22 Try.underlying5 (by kernel_rfl)
    exact law_frame a0 l0 len0 cap0 W n0 m0 w0

/-- The statement. -/
theorem wireFrame_proved : Rows.WireFrameSaid :=
  OpenClaim.holds_of_wide 3 Try.f3 rfl rfl rfl rfl rfl rfl rfl ⟨rfl, rfl, rfl, rfl, rfl⟩ rfl rfl rfl rfl rfl (by kernel_rfl) Try.func3 (by kernel_rfl)
    (of_decide_eq_true (by kernel_rfl)) (by unfold Func.isWrapper; first | (rw [if_pos (by decide +kernel)]; kernel_rfl) | (rw [if_neg (by decide +kernel)]; exact ⟨rfl, rfl⟩))
    (fun os started H enc _ => wireFrame_lifted os started H enc)
#print axioms wireFrame_proved
end Go.Proofs.Ytlckgnemmffdkaa
