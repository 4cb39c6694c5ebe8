/- SessionsApart holds: for every argument the law answers true, and its arguments read afterwards as before. No condition. -/
import Derived.Test.YtnebibflmlgbbaaOpen
import Derived.Test.YtnebibflmlgbbaaOpenSes
import Derived.Test.YtnebibflmlgbbaaSesApart
namespace Go.Proofs.Ytnebibflmlgbbaa
open Go.ChangeShapes Go.WideShapes Go.ChangeAt Go.RowKit

set_option maxRecDepth 100000 in
theorem sessionsApart_lifted (os : Os) (started : os.Started) (H : Type) (enc : TypeId × Value → H) :
    ReturnsInHanded {} Try.checked os 6 .any (Rows.sessionsApartSpec.pre6 enc Try.prog Try.f6 Rows.sessionsApartRow.domain false) (Rows.sessionsApartSpec.post enc Try.prog Try.f6 false true false false) := by
  refine law_lifted (C := Try.checked) own started (by kernel_rfl) Try.func6
    (ChangeSpec.witness6 (enc := enc) (C := Try.checked) false ⟨#[], #[.slice none 0 0, .int .i64 0, .int .i64 0, .agg #[.int .i64 0, .int .i64 0, .int .i64 0, .int .i64 0, .int .i64 0], .int .i64 0, .int .i64 0], []⟩ 8 (by kernel_rfl) (by kernel_rfl) (by kernel_rfl) (by kernel_rfl))
    rfl rfl Try.underlying4 laidOut (by kernel_rfl) ?_ ?_
  · intro ds h
    rw [Try.params6] at h
    match ds, h with
    | [d1, d2, d3, d4, d5, d6], _ => rfl
  · intro W vs h
    rw [Try.params6] at h
    obtain ⟨v0, vs0, rfl, h0, r0⟩ := h
    obtain ⟨v1, vs1, rfl, h1, r1⟩ := r0
    obtain ⟨v2, vs2, rfl, h2, r2⟩ := r1
    obtain ⟨v3, vs3, rfl, h3, r3⟩ := r2
    obtain ⟨v4, vs4, rfl, h4, r4⟩ := r3
    obtain ⟨v5, vs5, rfl, h5, r5⟩ := r4
    obtain rfl := r5
    obtain ⟨a0, len0, cap0, rfl, q0⟩ := h0.slice Try.underlying22
    obtain ⟨l0, n0, m0, k0, x0, w0⟩ := open_sess q0
    obtain ⟨a1, rfl, -⟩ := h1.int Try.underlying3
    obtain ⟨a2, rfl, -⟩ := h2.int Try.underlying3
    obtain ⟨cs3, rfl, q3⟩ := h3.struct Try.underlying26
    obtain ⟨t3, rfl⟩ := open_ans q3
    obtain ⟨a4, rfl, wf4⟩ := h4.int Try.underlying3
    obtain ⟨a5, rfl, -⟩ := h5.int Try.underlying3
    exact law_apart a0 l0 len0 cap0 a1 a2 t3 a4 a5 W n0 wf4 x0 m0 w0

/-- The statement. -/
theorem sessionsApart_proved : Rows.SessionsApartSaid :=
  OpenClaim.holds_of_wide 6 Try.f6 rfl rfl rfl rfl rfl rfl rfl ⟨rfl, rfl, rfl, rfl, rfl⟩ rfl rfl rfl rfl rfl (by kernel_rfl) Try.func6 (by kernel_rfl)
    (of_decide_eq_true (by kernel_rfl)) (by unfold Func.isWrapper; first | (rw [if_pos (by decide +kernel)]; kernel_rfl) | (rw [if_neg (by decide +kernel)]; exact ⟨rfl, rfl⟩))
    (fun os started H enc _ => sessionsApart_lifted os started H enc)
#print axioms sessionsApart_proved
end Go.Proofs.Ytnebibflmlgbbaa
