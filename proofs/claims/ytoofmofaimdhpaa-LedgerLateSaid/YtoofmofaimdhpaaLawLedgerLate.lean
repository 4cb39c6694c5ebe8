import Derived.Test.YtoofmofaimdhpaaPackLedgerLate1
import Derived.Test.YtoofmofaimdhpaaPackLedgerLate2
set_option linter.unusedVariables false
set_option linter.unusedSimpArgs false
/- LedgerLate holds: for every argument the law answers true, and its arguments read afterwards as before. No condition. -/
namespace Go.Proofs.Ytoofmofaimdhpaa
open Go.ChangeShapes Go.WideShapes Go.ChangeAt Go.RowKit
set_option maxRecDepth 100000

set_option maxRecDepth 100000 in
theorem ledgerLate_lifted (os : Os) (started : os.Started) (H : Type) (enc : TypeId × Value → H) :
    ReturnsInHanded {} Try.checked os 6 .any (Rows.ledgerLateSpec.pre6 enc Try.prog Try.f6 Rows.ledgerLateRow.domain false) (Rows.ledgerLateSpec.post enc Try.prog Try.f6 false true false false) := by
  refine law_lifted (C := Try.checked) own started (by kernel_rfl) Try.func6
    (ChangeSpec.witness6 (enc := enc) (C := Try.checked) false ⟨#[], #[.agg #[.int .i64 0, .int .i64 0, .int .i64 0, .slice none 0 0, .slice none 0 0, .slice none 0 0, .slice none 0 0], .int .i64 0, .slice none 0 0], []⟩ 8 (by kernel_rfl) (by kernel_rfl) (by kernel_rfl) (by kernel_rfl))
    rfl rfl Try.underlying4 laidOut (by kernel_rfl) ?_ ?_
  · intro ds h
    rw [Try.params6] at h
    match ds, h with
    | [d1, d2, d3], _ => rfl
  · intro W vs h
    rw [Try.params6] at h
    obtain ⟨v0, vs0, rfl, h0, r0⟩ := h
    obtain ⟨v1, vs1, rfl, h1, r1⟩ := r0
    obtain ⟨v2, vs2, rfl, h2, r2⟩ := r1
    obtain rfl := r2
    obtain ⟨cs0, rfl, q0⟩ := h0.struct Try.underlying27
    obtain ⟨raw0, st0, rfl, at0⟩ := open_state q0
    obtain ⟨a1, rfl, -⟩ := h1.int Try.underlying3
    obtain ⟨a2, len2, cap2, rfl, q2⟩ := h2.slice Try.underlying45
    obtain ⟨l2, n2, m2, -, -, -, x2, w2⟩ := q2.ints Try.underlying45 Try.underlying3 (by kernel_rfl)
    exact law_llate st0 raw0 a1 a2 l2 len2 cap2 W at0 n2 w2

/-- The statement. -/
theorem ledgerLate_proved : Rows.LedgerLateSaid :=
  OpenClaim.holds_of_wide 6 Try.f6 rfl rfl rfl rfl rfl rfl rfl ⟨rfl, rfl, rfl, rfl, rfl⟩ rfl rfl rfl rfl rfl (by kernel_rfl) Try.func6 (by kernel_rfl)
    (of_decide_eq_true (by kernel_rfl)) (by unfold Func.isWrapper; first | (rw [if_pos (by decide +kernel)]; kernel_rfl) | (rw [if_neg (by decide +kernel)]; exact ⟨rfl, rfl⟩))
    (fun os started H enc _ => ledgerLate_lifted os started H enc)
#print axioms ledgerLate_proved
end Go.Proofs.Ytoofmofaimdhpaa
