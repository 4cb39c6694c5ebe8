import Derived.Test.YtmihgdjnjfjjcaaPackFollowComes1
import Derived.Test.YtmihgdjnjfjjcaaPackFollowCommits1
import Derived.Test.YtmihgdjnjfjjcaaLawFTells
set_option linter.unusedVariables false
set_option linter.unusedSimpArgs false
/- FollowTells holds: for every argument the law answers true, and its arguments read afterwards as before. No condition. -/
namespace Go.Proofs.Ytmihgdjnjfjjcaa
open Go.ChangeShapes Go.WideShapes Go.ChangeAt Go.RowKit
set_option maxRecDepth 100000

set_option maxRecDepth 100000 in
theorem followTells_lifted (os : Os) (started : os.Started) (H : Type) (enc : TypeId × Value → H) :
    ReturnsInHanded {} Try.checked os 6 .any (Rows.followTellsSpec.pre6 enc Try.prog Try.f6 Rows.followTellsRow.domain false) (Rows.followTellsSpec.post enc Try.prog Try.f6 false true false false) := by
  refine law_lifted (C := Try.checked) own started (by kernel_rfl) Try.func6
    (ChangeSpec.witness6 (enc := enc) (C := Try.checked) false ⟨#[], #[.agg #[.int .i64 0, .int .i64 0, .slice none 0 0], .int .u8 0, .int .i64 0, .agg #[.int .i64 0, .int .i64 0, .int .i64 0], .bool false, .int .i64 0, .slice none 0 0], []⟩ 8 (by kernel_rfl) (by kernel_rfl) (by kernel_rfl) (by kernel_rfl))
    rfl rfl Try.underlying4 laidOut (by kernel_rfl) ?_ ?_
  · intro ds h
    rw [Try.params6] at h
    match ds, h with
    | [d1, d2, d3, d4, d5, d6, d7], _ => rfl
  · intro W vs h
    rw [Try.params6] at h
    obtain ⟨v0, vs0, rfl, h0, r0⟩ := h
    obtain ⟨v1, vs1, rfl, h1, r1⟩ := r0
    obtain ⟨v2, vs2, rfl, h2, r2⟩ := r1
    obtain ⟨v3, vs3, rfl, h3, r3⟩ := r2
    obtain ⟨v4, vs4, rfl, h4, r4⟩ := r3
    obtain ⟨v5, vs5, rfl, h5, r5⟩ := r4
    obtain ⟨v6, vs6, rfl, h6, r6⟩ := r5
    obtain rfl := r6
    obtain ⟨cs0, rfl, q0⟩ := h0.struct Try.underlying24
    obtain ⟨rb0, rt0, ra0, rn0, rc0, es0, rfl, re0, rm0, rg0, rr0⟩ := open_rows q0
    obtain ⟨u1, rfl, w1⟩ := h1.int Try.underlying5
    obtain ⟨s1, rfl⟩ : ∃ s : UInt8, u1 = (s.toNat : Int) := ⟨UInt8.ofNat u1.toNat, by have := bounds_u8 w1; rw [UInt8.toNat_ofNat']; omega⟩
    obtain ⟨a2, rfl, -⟩ := h2.int Try.underlying3
    obtain ⟨cs3, rfl, q3⟩ := h3.struct Try.underlying39
    obtain ⟨t3, rfl⟩ := open_prg q3
    obtain ⟨a4, rfl⟩ := h4.bool Try.underlying4
    obtain ⟨a5, rfl, -⟩ := h5.int Try.underlying3
    obtain ⟨a6, len6, cap6, rfl, q6⟩ := h6.slice Try.underlying25
    obtain ⟨l6, n6, m6, k6, x6, w6⟩ := open_prgs q6
    exact law_tells es0 rb0 rt0 ra0 rn0 rc0 s1 a2 t3 a4 a5 l6 a6 len6 cap6 W re0 rm0 (fun y hy => (rg0 y hy).2.2) rr0 n6 (Nat.le_trans m6 k6) x6 m6 w6

/-- The statement. -/
theorem followTells_proved : Rows.FollowTellsSaid :=
  OpenClaim.holds_of_wide 6 Try.f6 rfl rfl rfl rfl rfl rfl rfl ⟨rfl, rfl, rfl, rfl, rfl⟩ rfl rfl rfl rfl rfl (by kernel_rfl) Try.func6 (by kernel_rfl)
    (of_decide_eq_true (by kernel_rfl)) (by unfold Func.isWrapper; first | (rw [if_pos (by decide +kernel)]; kernel_rfl) | (rw [if_neg (by decide +kernel)]; exact ⟨rfl, rfl⟩))
    (fun os started H enc _ => followTells_lifted os started H enc)
#print axioms followTells_proved
end Go.Proofs.Ytmihgdjnjfjjcaa
