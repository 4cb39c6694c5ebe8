/- WireCommand holds: for every argument the law answers true, and its arguments read afterwards as before. No condition. -/
import Derived.Test.YtlckgnemmffdkaaOpen
import Derived.Test.YtlckgnemmffdkaaWOpenCmd
import Derived.Test.YtlckgnemmffdkaaWOpenAns
import Derived.Test.YtlckgnemmffdkaaLawWCommand
namespace Go.Proofs.Ytlckgnemmffdkaa
open Go.ChangeShapes Go.WideShapes Go.ChangeAt Go.RowKit
set_option maxRecDepth 100000

set_option maxRecDepth 100000 in
theorem wireCommand_lifted (os : Os) (started : os.Started) (H : Type) (enc : TypeId × Value → H) :
    ReturnsInHanded {} Try.checked os 5 .any (Rows.wireCommandSpec.pre6 enc Try.prog Try.f5 Rows.wireCommandRow.domain false) (Rows.wireCommandSpec.post enc Try.prog Try.f5 false true false false) := by
  refine law_lifted (C := Try.checked) own started (by kernel_rfl) Try.func5
    (ChangeSpec.witness6 (enc := enc) (C := Try.checked) false ⟨#[], #[.agg #[.int .i8 0, .int .i64 0, .int .i64 0, .int .i64 0, .int .i64 0, .int .i64 0, .int .i64 0, .int .i64 0, .int .i64 0, .int .i64 0, .int .i64 0, .bool false, .slice none 0 0], .agg #[.int .i64 0, .int .i64 0, .int .i64 0, .int .i64 0, .int .i64 0], .slice none 0 0], []⟩ 8 (by kernel_rfl) (by kernel_rfl) (by kernel_rfl) (by kernel_rfl))
    rfl rfl Try.underlying4 laidOut (by kernel_rfl) ?_ ?_
  · intro ds h
    rw [Try.params5] at h
    match ds, h with
    | [d1, d2, d3], _ => rfl
  · intro W vs h
    rw [Try.params5] at h
    obtain ⟨v0, vs0, rfl, h0, r0⟩ := h
    obtain ⟨v1, vs1, rfl, h1, r1⟩ := r0
    obtain ⟨v2, vs2, rfl, h2, r2⟩ := r1
    obtain rfl := r2
    obtain ⟨cs0, rfl, q0⟩ := h0.struct Try.underlying40
    obtain ⟨t0, pp0, rfl, gg0, ss0, -⟩ := open_wcmd q0
    obtain ⟨cs1, rfl, q1⟩ := h1.struct Try.underlying42
    obtain ⟨t1, rfl, -⟩ := open_wans q1
    obtain ⟨a2, len2, cap2, rfl, q2⟩ := h2.slice Try.underlying22
    obtain ⟨l2, n2, m2, x2, y2, z2, w2⟩ := q2.bytes Try.underlying22 Try.underlying5 (by kernel_rfl)
    exact law_command t0 pp0 t1 a2 l2 len2 cap2 W gg0 ss0 n2 m2 w2

/-- The statement. -/
theorem wireCommand_proved : Rows.WireCommandSaid :=
  OpenClaim.holds_of_wide 5 Try.f5 rfl rfl rfl rfl rfl rfl rfl ⟨rfl, rfl, rfl, rfl, rfl⟩ rfl rfl rfl rfl rfl (by kernel_rfl) Try.func5 (by kernel_rfl)
    (of_decide_eq_true (by kernel_rfl)) (by unfold Func.isWrapper; first | (rw [if_pos (by decide +kernel)]; kernel_rfl) | (rw [if_neg (by decide +kernel)]; exact ⟨rfl, rfl⟩))
    (fun os started H enc _ => wireCommand_lifted os started H enc)
#print axioms wireCommand_proved
end Go.Proofs.Ytlckgnemmffdkaa
