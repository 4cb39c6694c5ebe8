/- SumsBurst holds: for every byte slice, 32 bits and place the law answers true, and its arguments read afterwards as before. No condition. -/
import Derived.Test.YtmlpgpopaakjbaaOpen
import Derived.Test.YtmlpgpopaakjbaaPieces
namespace Go.Proofs.Ytmlpgpopaakjbaa
open Go.ChangeShapes Go.WideShapes Go.ChangeAt Go.RowKit

set_option maxRecDepth 100000 in
theorem sumsBurst_lifted (os : Os) (started : os.Started) (H : Type) (enc : TypeId × Value → H) :
    ReturnsInHanded {} Try.checked os 6 .any (Rows.sumsBurstSpec.pre6 enc Try.prog Try.f6 Rows.sumsBurstRow.domain false) (Rows.sumsBurstSpec.post enc Try.prog Try.f6 false true false false) := by
  refine law_lifted (C := Try.checked) own started (by kernel_rfl) Try.func6
    (ChangeSpec.witness6 (enc := enc) (C := Try.checked) false ⟨#[], #[.slice none 0 0, .int .u32 0, .int .i64 0], []⟩ 8 (by kernel_rfl) (by kernel_rfl) (by kernel_rfl) (by kernel_rfl))
    rfl rfl Try.underlying4 laidOut (by kernel_rfl) ?_ ?_
  · intro ds h
    rw [Try.params6] at h
    match ds, h with
    | [d1, d2, d3], _ => rfl
  · intro W vs h
    rw [Try.params6] at h
    obtain ⟨v0, vs0, rfl, h0, r0⟩ := h
    obtain ⟨v1, vs1, rfl, h1, r1⟩ := r0
    obtain ⟨v2, vs2, rfl, h2, r2⟩ := r1
    obtain rfl := r2
    obtain ⟨a0, len0, cap0, rfl, q0⟩ := h0.slice Try.underlying22
    obtain ⟨l0, n0, m0, x0, y0, z0, w0⟩ := q0.bytes Try.underlying22 Try.underlying5 (by kernel_rfl)
    obtain ⟨a1, rfl, w1⟩ := h1.int Try.underlying23
    obtain ⟨b1, c1⟩ := bounds_u32 w1
    obtain ⟨a2, rfl, w2⟩ := h2.int Try.underlying3
    obtain ⟨b2, c2⟩ := bounds_i64 w2
    exact law_burst a0 l0 len0 cap0 a1 a2 W n0 (by omega) w0 b1 (by omega)

/-- The statement. -/
theorem sumsBurst_proved : Rows.SumsBurstSaid :=
  OpenClaim.holds_of_wide 6 Try.f6 rfl rfl rfl rfl rfl rfl rfl ⟨rfl, rfl, rfl, rfl, rfl⟩ rfl rfl rfl rfl rfl (by kernel_rfl) Try.func6 (by kernel_rfl)
    (of_decide_eq_true (by kernel_rfl)) (by unfold Func.isWrapper; first | (rw [if_pos (by decide +kernel)]; kernel_rfl) | (rw [if_neg (by decide +kernel)]; exact ⟨rfl, rfl⟩))
    (fun os started H enc _ => sumsBurst_lifted os started H enc)
#print axioms sumsBurst_proved
end Go.Proofs.Ytmlpgpopaakjbaa
