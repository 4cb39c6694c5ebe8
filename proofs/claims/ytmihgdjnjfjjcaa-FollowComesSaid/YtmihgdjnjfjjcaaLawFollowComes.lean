import Derived.Test.YtmihgdjnjfjjcaaPackFollowComes1
import Derived.Test.YtmihgdjnjfjjcaaFolOpen
import Derived.Test.YtmihgdjnjfjjcaaLawFComes
set_option linter.unusedVariables false
set_option linter.unusedSimpArgs false
/- FollowComes holds: for every argument the law answers true, and its arguments read afterwards as before. No condition. -/
namespace Go.Proofs.Ytmihgdjnjfjjcaa
open Go.ChangeShapes Go.WideShapes Go.ChangeAt Go.RowKit
set_option maxRecDepth 100000

set_option maxRecDepth 100000 in
theorem followComes_lifted (os : Os) (started : os.Started) (H : Type) (enc : TypeId × Value → H) :
    ReturnsInHanded {} Try.checked os 5 .any (Rows.followComesSpec.pre6 enc Try.prog Try.f5 Rows.followComesRow.domain false) (Rows.followComesSpec.post enc Try.prog Try.f5 false true false false) := by
  refine law_lifted (C := Try.checked) own started (by kernel_rfl) Try.func5
    (ChangeSpec.witness6 (enc := enc) (C := Try.checked) false ⟨#[], #[.agg #[.int .i64 0, .int .i64 0, .int .i64 0], .slice none 0 0, .slice none 0 0], []⟩ 8 (by kernel_rfl) (by kernel_rfl) (by kernel_rfl) (by kernel_rfl))
    rfl rfl Try.underlying4 laidOut (by kernel_rfl) ?_ ?_
  · intro ds h
    rw [Try.params5] at h
    match ds, h with
    | [d1, d2, d3], _ => rfl
  · intro W vs h
    rw [Try.params5] at h
    obtain ⟨v0, vs0, rfl, h0, r0⟩ := h
    obtain ⟨v1, vs1, rfl, h1, r1⟩ := r0
    obtain ⟨v2, vs2, rfl, h2, r2⟩ := r1
    obtain rfl := r2
    obtain ⟨cs0, rfl, q0⟩ := h0.struct Try.underlying39
    obtain ⟨t0, rfl⟩ := open_prg q0
    obtain ⟨a1, len1, cap1, rfl, q1⟩ := h1.slice Try.underlying42
    obtain ⟨l1, n1, m1, k1, -, x1, w1⟩ := q1.bools Try.underlying42 Try.underlying4 (by kernel_rfl)
    obtain ⟨a2, len2, cap2, rfl, q2⟩ := h2.slice Try.underlying43
    obtain ⟨l2, n2, m2, k2, -, -, x2, w2⟩ := q2.ints Try.underlying43 Try.underlying3 (by kernel_rfl)
    exact law_comes t0 l1 a1 len1 cap1 l2 a2 len2 cap2 W n1 w1 (Nat.le_trans m1 k1) n2 w2 (Nat.le_trans m2 k2)

/-- The statement. -/
theorem followComes_proved : Rows.FollowComesSaid :=
  OpenClaim.holds_of_wide 5 Try.f5 rfl rfl rfl rfl rfl rfl rfl ⟨rfl, rfl, rfl, rfl, rfl⟩ rfl rfl rfl rfl rfl (by kernel_rfl) Try.func5 (by kernel_rfl)
    (of_decide_eq_true (by kernel_rfl)) (by unfold Func.isWrapper; first | (rw [if_pos (by decide +kernel)]; kernel_rfl) | (rw [if_neg (by decide +kernel)]; exact ⟨rfl, rfl⟩))
    (fun os started H enc _ => followComes_lifted os started H enc)
#print axioms followComes_proved
end Go.Proofs.Ytmihgdjnjfjjcaa
