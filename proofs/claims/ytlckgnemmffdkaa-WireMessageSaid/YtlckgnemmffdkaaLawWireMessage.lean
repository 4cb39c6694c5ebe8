import Derived.Test.YtlckgnemmffdkaaPackWireMessage1
import Derived.Test.YtlckgnemmffdkaaWOpenMsg
import Derived.Test.YtlckgnemmffdkaaLawWMessage
set_option linter.unusedVariables false
set_option linter.unusedSimpArgs false
/- WireMessage holds: for every argument the law answers true, and its arguments read afterwards as before. No condition. -/
namespace Go.Proofs.Ytlckgnemmffdkaa
open Go.ChangeShapes Go.WideShapes Go.ChangeAt Go.RowKit
set_option maxRecDepth 100000

set_option maxRecDepth 100000 in
theorem wireMessage_lifted (os : Os) (started : os.Started) (H : Type) (enc : TypeId × Value → H) :
    ReturnsInHanded {} Try.checked os 7 .any (Rows.wireMessageSpec.pre6 enc Try.prog Try.f7 Rows.wireMessageRow.domain false) (Rows.wireMessageSpec.post enc Try.prog Try.f7 false true false false) := by
  refine law_lifted (C := Try.checked) own started (by kernel_rfl) Try.func7
    (ChangeSpec.witness6 (enc := enc) (C := Try.checked) false ⟨#[], #[.agg #[.int .i8 0, .int .i64 0, .int .i64 0, .int .i64 0, .int .i64 0, .int .i64 0, .int .i64 0, .bool false, .slice none 0 0, .int .i64 0, .int .i64 0, .int .u8 0, .slice none 0 0, .slice none 0 0], .slice none 0 0], []⟩ 8 (by kernel_rfl) (by kernel_rfl) (by kernel_rfl) (by kernel_rfl))
    rfl rfl Try.underlying4 laidOut (by kernel_rfl) ?_ ?_
  · intro ds h
    rw [Try.params7] at h
    match ds, h with
    | [d1, d2], _ => rfl
  · intro W vs h
    rw [Try.params7] at h
    obtain ⟨v0, vs0, rfl, h0, r0⟩ := h
    obtain ⟨v1, vs1, rfl, h1, r1⟩ := r0
    obtain rfl := r1
    obtain ⟨cs0, rfl, q0⟩ := h0.struct Try.underlying67
    obtain ⟨t0, pp0, rfl, gg0, ss0, zz0, yy0⟩ := open_wmsg q0
    obtain ⟨a1, len1, cap1, rfl, q1⟩ := h1.slice Try.underlying22
    obtain ⟨l1, n1, m1, x1, y1, z1, w1⟩ := q1.bytes Try.underlying22 Try.underlying5 (by kernel_rfl)
    exact law_message t0 pp0 a1 l1 len1 cap1 W gg0 zz0 yy0 ss0 n1 m1 w1

/-- The statement. -/
theorem wireMessage_proved : Rows.WireMessageSaid :=
  OpenClaim.holds_of_wide 7 Try.f7 rfl rfl rfl rfl rfl rfl rfl ⟨rfl, rfl, rfl, rfl, rfl⟩ rfl rfl rfl rfl rfl (by kernel_rfl) Try.func7 (by kernel_rfl)
    (of_decide_eq_true (by kernel_rfl)) (by unfold Func.isWrapper; first | (rw [if_pos (by decide +kernel)]; kernel_rfl) | (rw [if_neg (by decide +kernel)]; exact ⟨rfl, rfl⟩))
    (fun os started H enc _ => wireMessage_lifted os started H enc)
#print axioms wireMessage_proved
end Go.Proofs.Ytlckgnemmffdkaa
