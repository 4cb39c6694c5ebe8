/- SessionsTell holds: for every argument the law answers true, and its arguments read afterwards as before. No condition. -/
import Derived.Test.YtnebibflmlgbbaaOpen
import Derived.Test.YtnebibflmlgbbaaOpenSes
import Derived.Test.YtnebibflmlgbbaaSesLaws
namespace Go.Proofs.Ytnebibflmlgbbaa
open Go.ChangeShapes Go.WideShapes Go.ChangeAt Go.RowKit

set_option maxRecDepth 100000 in
theorem sessionsTell_lifted (os : Os) (started : os.Started) (H : Type) (enc : TypeId × Value → H) :
    ReturnsInHanded {} Try.checked os 3 .any (Rows.sessionsTellSpec.pre6 enc Try.prog Try.f3 Rows.sessionsTellRow.domain false) (Rows.sessionsTellSpec.post enc Try.prog Try.f3 false true false false) := by
  refine law_lifted (C := Try.checked) own started (by kernel_rfl) Try.func3
    (ChangeSpec.witness6 (enc := enc) (C := Try.checked) false ⟨#[], #[.slice none 0 0, .int .i64 0, .int .i64 0], []⟩ 8 (by kernel_rfl) (by kernel_rfl) (by kernel_rfl) (by kernel_rfl))
    rfl rfl Try.underlying4 laidOut (by kernel_rfl) ?_ ?_
  · intro ds h
    rw [Try.params3] at h
    match ds, h with
    | [d1, d2, d3], _ => rfl
  · intro W vs h
    rw [Try.params3] at h
    obtain ⟨v0, vs0, rfl, h0, r0⟩ := h
    obtain ⟨v1, vs1, rfl, h1, r1⟩ := r0
    obtain ⟨v2, vs2, rfl, h2, r2⟩ := r1
    obtain rfl := r2
    obtain ⟨a0, len0, cap0, rfl, q0⟩ := h0.slice Try.underlying22
    obtain ⟨l0, n0, m0, k0, x0, w0⟩ := open_sess q0
    obtain ⟨a1, rfl, wf1⟩ := h1.int Try.underlying3
    obtain ⟨a2, rfl, -⟩ := h2.int Try.underlying3
    exact law_tell a0 l0 len0 cap0 a1 a2 W n0 wf1 w0

/-- The statement. -/
theorem sessionsTell_proved : Rows.SessionsTellSaid :=
  OpenClaim.holds_of_wide 3 Try.f3 rfl rfl rfl rfl rfl rfl rfl ⟨rfl, rfl, rfl, rfl, rfl⟩ rfl rfl rfl rfl rfl (by kernel_rfl) Try.func3 (by kernel_rfl)
    (of_decide_eq_true (by kernel_rfl)) (by unfold Func.isWrapper; first | (rw [if_pos (by decide +kernel)]; kernel_rfl) | (rw [if_neg (by decide +kernel)]; exact ⟨rfl, rfl⟩))
    (fun os started H enc _ => sessionsTell_lifted os started H enc)
#print axioms sessionsTell_proved
end Go.Proofs.Ytnebibflmlgbbaa
