/- PolicyFinds holds: for every argument the law answers true, and its arguments read afterwards as before. No condition. -/
import Derived.Test.YtnpbajmpenpnbaaOpen
import Derived.Test.YtnpbajmpenpnbaaOpenTen
import Derived.Test.YtnpbajmpenpnbaaLawFinds
namespace Go.Proofs.Ytnpbajmpenpnbaa
open Go.ChangeShapes Go.WideShapes Go.ChangeAt Go.RowKit

set_option maxRecDepth 100000 in
theorem policyFinds_lifted (os : Os) (started : os.Started) (H : Type) (enc : TypeId × Value → H) :
    ReturnsInHanded {} Try.checked os 6 .any (Rows.policyFindsSpec.pre6 enc Try.prog Try.f6 Rows.policyFindsRow.domain false) (Rows.policyFindsSpec.post enc Try.prog Try.f6 false true false false) := by
  refine law_lifted (C := Try.checked) own started (by kernel_rfl) Try.func6
    (ChangeSpec.witness6 (enc := enc) (C := Try.checked) false ⟨#[], #[.slice none 0 0, .agg #[.int .i64 0, .int .i64 0, .int .i64 0, .int .i64 0, .bool false], .slice none 0 0], []⟩ 8 (by kernel_rfl) (by kernel_rfl) (by kernel_rfl) (by kernel_rfl))
    rfl rfl Try.underlying4 laidOut (by kernel_rfl) ?_ ?_
  · intro ds h
    rw [Try.params6] at h
    match ds, h with
    | [d1, d2, d3], _ => rfl
  · intro W vs h
    rw [Try.params6] at h
    obtain ⟨v0, vs0, rfl, h0, r0⟩ := h
    obtain ⟨v1, vs1, rfl, h1, r1⟩ := r0
    obtain ⟨v2, vs2, rfl, h2, r2⟩ := r1
    obtain rfl := r2
    obtain ⟨a0, len0, cap0, rfl, q0⟩ := h0.slice Try.underlying22
    obtain ⟨l0, n0, m0, x0, w0⟩ := open_tenants q0
    obtain ⟨cs1, rfl, q1⟩ := h1.struct Try.underlying38
    obtain ⟨t1, rfl⟩ := open_tenant q1
    obtain ⟨a2, len2, cap2, rfl, q2⟩ := h2.slice Try.underlying39
    obtain ⟨l2, n2, m2, -, -, -, x2, w2⟩ := q2.ints Try.underlying39 Try.underlying3 (by kernel_rfl)
    exact law_finds a0 a2 l0 t1 l2 len0 cap0 len2 cap2 W n0 n2 x0 m0 w0 w2

/-- The statement. -/
theorem policyFinds_proved : Rows.PolicyFindsSaid :=
  OpenClaim.holds_of_wide 6 Try.f6 rfl rfl rfl rfl rfl rfl rfl ⟨rfl, rfl, rfl, rfl, rfl⟩ rfl rfl rfl rfl rfl (by kernel_rfl) Try.func6 (by kernel_rfl)
    (of_decide_eq_true (by kernel_rfl)) (by unfold Func.isWrapper; first | (rw [if_pos (by decide +kernel)]; kernel_rfl) | (rw [if_neg (by decide +kernel)]; exact ⟨rfl, rfl⟩))
    (fun os started H enc _ => policyFinds_lifted os started H enc)
#print axioms policyFinds_proved
end Go.Proofs.Ytnpbajmpenpnbaa
