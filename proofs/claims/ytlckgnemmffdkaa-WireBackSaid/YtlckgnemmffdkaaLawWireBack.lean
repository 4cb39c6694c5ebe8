import Derived.Test.YtlckgnemmffdkaaPackWireMessage1
import Derived.Test.YtlckgnemmffdkaaWOpenMsg
import Derived.Test.YtlckgnemmffdkaaPackWireBack1
import Derived.Test.YtlckgnemmffdkaaLawWBack
set_option linter.unusedVariables false
set_option linter.unusedSimpArgs false
/- WireBack holds: for every argument the law answers true, and its arguments read afterwards as before. No condition. -/
namespace Go.Proofs.Ytlckgnemmffdkaa
open Go.ChangeShapes Go.WideShapes Go.ChangeAt Go.RowKit
set_option maxRecDepth 100000

set_option maxRecDepth 100000 in
theorem wireBack_lifted (os : Os) (started : os.Started) (H : Type) (enc : TypeId × Value → H) :
    ReturnsInHanded {} Try.checked os 8 .any (Rows.wireBackSpec.pre6 enc Try.prog Try.f8 Rows.wireBackRow.domain false) (Rows.wireBackSpec.post enc Try.prog Try.f8 false true false false) := by
  refine law_lifted (C := Try.checked) own started (by kernel_rfl) Try.func8
    (ChangeSpec.witness6 (enc := enc) (C := Try.checked) false ⟨#[], #[.agg #[.int .i8 0, .int .i64 0, .int .i64 0, .int .i64 0, .int .i64 0, .int .i64 0, .int .i64 0, .bool false, .slice none 0 0, .int .i64 0, .int .i64 0, .int .u8 0, .slice none 0 0, .slice none 0 0], .agg #[.int .i8 0, .int .i64 0, .int .i64 0, .int .i64 0, .int .i64 0, .int .i64 0, .int .i64 0, .int .i64 0, .int .i64 0, .int .i64 0, .int .i64 0, .bool false, .slice none 0 0], .agg #[.int .i64 0, .int .i64 0, .int .i64 0, .slice none 0 0, .slice none 0 0, .slice none 0 0, .slice none 0 0], .slice none 0 0, .slice none 0 0], []⟩ 8 (by kernel_rfl) (by kernel_rfl) (by kernel_rfl) (by kernel_rfl))
    rfl rfl Try.underlying4 laidOut (by kernel_rfl) ?_ ?_
  · intro ds h
    rw [Try.params8] at h
    match ds, h with
    | [d1, d2, d3, d4, d5], _ => rfl
  · intro W vs h
    rw [Try.params8] at h
    obtain ⟨v0, vs0, rfl, h0, r0⟩ := h
    obtain ⟨v1, vs1, rfl, h1, r1⟩ := r0
    obtain ⟨v2, vs2, rfl, h2, r2⟩ := r1
    obtain ⟨v3, vs3, rfl, h3, r3⟩ := r2
    obtain ⟨v4, vs4, rfl, h4, r4⟩ := r3
    obtain rfl := r4
    obtain ⟨cs0, rfl, q0⟩ := h0.struct Try.underlying67
    obtain ⟨t0, pp0, rfl, gg0, ss0, zz0, yy0⟩ := open_wmsg q0
    obtain ⟨cs1, rfl, q1⟩ := h1.struct Try.underlying40
    obtain ⟨t1, pp1, rfl, gg1, ss1, -⟩ := open_wcmd q1
    obtain ⟨cs2, rfl, q2⟩ := h2.struct Try.underlying56
    obtain ⟨t2, pp2, rfl, gg2, ss2, zz2⟩ := open_wst q2
    obtain ⟨a3, len3, cap3, rfl, q3⟩ := h3.slice Try.underlying22
    obtain ⟨l3, n3, m3, x3, y3, z3, w3⟩ := q3.bytes Try.underlying22 Try.underlying5 (by kernel_rfl)
    obtain ⟨a4, len4, cap4, rfl, q4⟩ := h4.slice Try.underlying22
    obtain ⟨l4, n4, m4, x4, y4, z4, w4⟩ := q4.bytes Try.underlying22 Try.underlying5 (by kernel_rfl)
    exact law_back t0 pp0 t1 pp1 t2 pp2 a3 l3 len3 cap3 a4 l4 len4 cap4 W gg0 zz0 yy0 ss0 gg1 ss1 gg2 zz2 ss2 n3 m3 w3 n4 m4 w4

/-- The statement. -/
theorem wireBack_proved : Rows.WireBackSaid :=
  OpenClaim.holds_of_wide 8 Try.f8 rfl rfl rfl rfl rfl rfl rfl ⟨rfl, rfl, rfl, rfl, rfl⟩ rfl rfl rfl rfl rfl (by kernel_rfl) Try.func8 (by kernel_rfl)
    (of_decide_eq_true (by kernel_rfl)) (by unfold Func.isWrapper; first | (rw [if_pos (by decide +kernel)]; kernel_rfl) | (rw [if_neg (by decide +kernel)]; exact ⟨rfl, rfl⟩))
    (fun os started H enc _ => wireBack_lifted os started H enc)
#print axioms wireBack_proved
end Go.Proofs.Ytlckgnemmffdkaa
