import Derived.Test.YtmihgdjnjfjjcaaPackFollowAsks1
import Derived.Test.YtmihgdjnjfjjcaaPackFollowAsks6
import Derived.Test.YtmihgdjnjfjjcaaLawFAsks
set_option linter.unusedVariables false
set_option linter.unusedSimpArgs false
/- FollowAsks holds: for every argument the law answers true, and its arguments read afterwards as before. No condition. -/
namespace Go.Proofs.Ytmihgdjnjfjjcaa
open Go.ChangeShapes Go.WideShapes Go.ChangeAt Go.RowKit
set_option maxRecDepth 100000

set_option maxRecDepth 100000 in
theorem followAsks_lifted (os : Os) (started : os.Started) (H : Type) (enc : TypeId × Value → H) :
    ReturnsInHanded {} Try.checked os 7 .any (Rows.followAsksSpec.pre6 enc Try.prog Try.f7 Rows.followAsksRow.domain false) (Rows.followAsksSpec.post enc Try.prog Try.f7 false true false false) := by
  refine law_lifted (C := Try.checked) own started (by kernel_rfl) Try.func7
    (ChangeSpec.witness6 (enc := enc) (C := Try.checked) false ⟨#[], #[.agg #[.int .i64 0, .int .i64 0, .slice none 0 0], .agg #[.int .i64 0, .int .i64 0, .int .i64 0], .int .i64 0], []⟩ 8 (by kernel_rfl) (by kernel_rfl) (by kernel_rfl) (by kernel_rfl))
    rfl rfl Try.underlying4 laidOut (by kernel_rfl) ?_ ?_
  · intro ds h
    rw [Try.params7] at h
    match ds, h with
    | [d1, d2, d3], _ => rfl
  · intro W vs h
    rw [Try.params7] at h
    obtain ⟨v0, vs0, rfl, h0, r0⟩ := h
    obtain ⟨v1, vs1, rfl, h1, r1⟩ := r0
    obtain ⟨v2, vs2, rfl, h2, r2⟩ := r1
    obtain rfl := r2
    obtain ⟨cs0, rfl, q0⟩ := h0.struct Try.underlying24
    obtain ⟨rb0, rt0, ra0, rn0, rc0, es0, rfl, re0, rm0, rg0, rn0c, rc0m, rc0z, rr0⟩ := open_rowsc q0
    obtain ⟨cs1, rfl, q1⟩ := h1.struct Try.underlying39
    obtain ⟨t1, rfl, ti1⟩ := open_prgb q1
    obtain ⟨a2, rfl, -⟩ := h2.int Try.underlying3
    exact law_asks es0 rb0 rt0 ra0 rn0 rc0 t1 a2 W re0 rm0 rc0z rn0c rc0m rg0 rr0 ti1

/-- The statement. -/
theorem followAsks_proved : Rows.FollowAsksSaid :=
  OpenClaim.holds_of_wide 7 Try.f7 rfl rfl rfl rfl rfl rfl rfl ⟨rfl, rfl, rfl, rfl, rfl⟩ rfl rfl rfl rfl rfl (by kernel_rfl) Try.func7 (by kernel_rfl)
    (of_decide_eq_true (by kernel_rfl)) (by unfold Func.isWrapper; first | (rw [if_pos (by decide +kernel)]; kernel_rfl) | (rw [if_neg (by decide +kernel)]; exact ⟨rfl, rfl⟩))
    (fun os started H enc _ => followAsks_lifted os started H enc)
#print axioms followAsks_proved
end Go.Proofs.Ytmihgdjnjfjjcaa
