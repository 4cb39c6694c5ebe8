import Derived.Test.YtoofmofaimdhpaaPackLedgerCredits1
import Derived.Test.YtoofmofaimdhpaaPackLedgerCredits2
set_option linter.unusedVariables false
set_option linter.unusedSimpArgs false
/- LedgerCredits holds: for every argument the law answers true, and its arguments read afterwards as before. No condition. -/
namespace Go.Proofs.Ytoofmofaimdhpaa
open Go.ChangeShapes Go.WideShapes Go.ChangeAt Go.RowKit
set_option maxRecDepth 100000

set_option maxRecDepth 100000 in
theorem ledgerCredits_lifted (os : Os) (started : os.Started) (H : Type) (enc : TypeId × Value → H) :
    ReturnsInHanded {} Try.checked os 5 .any (Rows.ledgerCreditsSpec.pre6 enc Try.prog Try.f5 Rows.ledgerCreditsRow.domain false) (Rows.ledgerCreditsSpec.post enc Try.prog Try.f5 false true false false) := by
  refine law_lifted (C := Try.checked) own started (by kernel_rfl) Try.func5
    (ChangeSpec.witness6 (enc := enc) (C := Try.checked) false ⟨#[], #[.agg #[.int .i64 0, .int .i64 0, .int .i64 0, .slice none 0 0, .slice none 0 0, .slice none 0 0, .slice none 0 0], .int .i64 0], []⟩ 8 (by kernel_rfl) (by kernel_rfl) (by kernel_rfl) (by kernel_rfl))
    rfl rfl Try.underlying4 laidOut (by kernel_rfl) ?_ ?_
  · intro ds h
    rw [Try.params5] at h
    match ds, h with
    | [d1, d2], _ => rfl
  · intro W vs h
    rw [Try.params5] at h
    obtain ⟨v0, vs0, rfl, h0, r0⟩ := h
    obtain ⟨v1, vs1, rfl, h1, r1⟩ := r0
    obtain rfl := r1
    obtain ⟨cs0, rfl, q0⟩ := h0.struct Try.underlying27
    obtain ⟨raw0, st0, rfl, at0⟩ := open_state q0
    obtain ⟨a1, rfl, -⟩ := h1.int Try.underlying3
    exact law_lcredits st0 raw0 a1 W at0

/-- The statement. -/
theorem ledgerCredits_proved : Rows.LedgerCreditsSaid :=
  OpenClaim.holds_of_wide 5 Try.f5 rfl rfl rfl rfl rfl rfl rfl ⟨rfl, rfl, rfl, rfl, rfl⟩ rfl rfl rfl rfl rfl (by kernel_rfl) Try.func5 (by kernel_rfl)
    (of_decide_eq_true (by kernel_rfl)) (by unfold Func.isWrapper; first | (rw [if_pos (by decide +kernel)]; kernel_rfl) | (rw [if_neg (by decide +kernel)]; exact ⟨rfl, rfl⟩))
    (fun os started H enc _ => ledgerCredits_lifted os started H enc)
#print axioms ledgerCredits_proved
end Go.Proofs.Ytoofmofaimdhpaa
