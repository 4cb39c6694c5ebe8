import Derived.Test.YtoofmofaimdhpaaPackLedgerCap1
import Derived.Test.YtoofmofaimdhpaaLawLGrants
set_option linter.unusedVariables false
set_option linter.unusedSimpArgs false
/- LedgerGrants holds: for every argument the law answers true, and its arguments read afterwards as before. No condition. -/
namespace Go.Proofs.Ytoofmofaimdhpaa
open Go.ChangeShapes Go.WideShapes Go.ChangeAt Go.RowKit
set_option maxRecDepth 100000

set_option maxRecDepth 100000 in
theorem ledgerGrants_lifted (os : Os) (started : os.Started) (H : Type) (enc : TypeId × Value → H) :
    ReturnsInHanded {} Try.checked os 3 .any (Rows.ledgerGrantsSpec.pre6 enc Try.prog Try.f3 Rows.ledgerGrantsRow.domain false) (Rows.ledgerGrantsSpec.post enc Try.prog Try.f3 false true false false) := by
  refine law_lifted (C := Try.checked) own started (by kernel_rfl) Try.func3
    (ChangeSpec.witness6 (enc := enc) (C := Try.checked) false ⟨#[], #[.agg #[.int .i64 0, .int .i64 0, .int .i64 0, .slice none 0 0, .slice none 0 0, .slice none 0 0, .slice none 0 0], .int .i64 0, .int .i64 0, .int .i64 0, .int .i64 0, .int .i64 0], []⟩ 8 (by kernel_rfl) (by kernel_rfl) (by kernel_rfl) (by kernel_rfl))
    rfl rfl Try.underlying4 laidOut (by kernel_rfl) ?_ ?_
  · intro ds h
    rw [Try.params3] at h
    match ds, h with
    | [d1, d2, d3, d4, d5, d6], _ => rfl
  · intro W vs h
    rw [Try.params3] at h
    obtain ⟨v0, vs0, rfl, h0, r0⟩ := h
    obtain ⟨v1, vs1, rfl, h1, r1⟩ := r0
    obtain ⟨v2, vs2, rfl, h2, r2⟩ := r1
    obtain ⟨v3, vs3, rfl, h3, r3⟩ := r2
    obtain ⟨v4, vs4, rfl, h4, r4⟩ := r3
    obtain ⟨v5, vs5, rfl, h5, r5⟩ := r4
    obtain rfl := r5
    obtain ⟨cs0, rfl, q0⟩ := h0.struct Try.underlying27
    obtain ⟨raw0, st0, rfl, at0⟩ := open_state q0
    obtain ⟨a1, rfl, -⟩ := h1.int Try.underlying3
    obtain ⟨a2, rfl, -⟩ := h2.int Try.underlying3
    obtain ⟨a3, rfl, -⟩ := h3.int Try.underlying3
    obtain ⟨a4, rfl, -⟩ := h4.int Try.underlying3
    obtain ⟨a5, rfl, -⟩ := h5.int Try.underlying3
    exact law_lgrants st0 raw0 a1 a2 a3 a4 a5 W at0

/-- The statement. -/
theorem ledgerGrants_proved : Rows.LedgerGrantsSaid :=
  OpenClaim.holds_of_wide 3 Try.f3 rfl rfl rfl rfl rfl rfl rfl ⟨rfl, rfl, rfl, rfl, rfl⟩ rfl rfl rfl rfl rfl (by kernel_rfl) Try.func3 (by kernel_rfl)
    (of_decide_eq_true (by kernel_rfl)) (by unfold Func.isWrapper; first | (rw [if_pos (by decide +kernel)]; kernel_rfl) | (rw [if_neg (by decide +kernel)]; exact ⟨rfl, rfl⟩))
    (fun os started H enc _ => ledgerGrants_lifted os started H enc)
#print axioms ledgerGrants_proved
end Go.Proofs.Ytoofmofaimdhpaa
