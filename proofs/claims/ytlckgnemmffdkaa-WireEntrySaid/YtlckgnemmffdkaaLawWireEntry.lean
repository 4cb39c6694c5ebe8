/- WireEntry holds: for every argument the law answers true, and its arguments read afterwards as before. No condition. -/
import Derived.Test.YtlckgnemmffdkaaOpen
import Derived.Test.YtlckgnemmffdkaaWOpenEnt
import Derived.Test.YtlckgnemmffdkaaLawWEntry
namespace Go.Proofs.Ytlckgnemmffdkaa
open Go.ChangeShapes Go.WideShapes Go.ChangeAt Go.RowKit
set_option maxRecDepth 100000

set_option maxRecDepth 100000 in
theorem wireEntry_lifted (os : Os) (started : os.Started) (H : Type) (enc : TypeId × Value → H) :
    ReturnsInHanded {} Try.checked os 4 .any (Rows.wireEntrySpec.pre6 enc Try.prog Try.f4 Rows.wireEntryRow.domain false) (Rows.wireEntrySpec.post enc Try.prog Try.f4 false true false false) := by
  refine law_lifted (C := Try.checked) own started (by kernel_rfl) Try.func4
    (ChangeSpec.witness6 (enc := enc) (C := Try.checked) false ⟨#[], #[.agg #[.int .i64 0, .int .i8 0, .int .i64 0, .int .u8 0, .slice none 0 0], .slice none 0 0], []⟩ 8 (by kernel_rfl) (by kernel_rfl) (by kernel_rfl) (by kernel_rfl))
    rfl rfl Try.underlying4 laidOut (by kernel_rfl) ?_ ?_
  · intro ds h
    rw [Try.params4] at h
    match ds, h with
    | [d1, d2], _ => rfl
  · intro W vs h
    rw [Try.params4] at h
    obtain ⟨v0, vs0, rfl, h0, r0⟩ := h
    obtain ⟨v1, vs1, rfl, h1, r1⟩ := r0
    obtain rfl := r1
    obtain ⟨cs0, rfl, q0⟩ := h0.struct Try.underlying32
    obtain ⟨t0, pp0, rfl, gg0, ss0, -⟩ := open_went q0
    obtain ⟨a1, len1, cap1, rfl, q1⟩ := h1.slice Try.underlying22
    obtain ⟨l1, n1, m1, x1, y1, z1, w1⟩ := q1.bytes Try.underlying22 Try.underlying5 (by kernel_rfl)
    exact law_entry t0 pp0 a1 l1 len1 cap1 W gg0 ss0 n1 m1 w1

/-- The statement. -/
theorem wireEntry_proved : Rows.WireEntrySaid :=
  OpenClaim.holds_of_wide 4 Try.f4 rfl rfl rfl rfl rfl rfl rfl ⟨rfl, rfl, rfl, rfl, rfl⟩ rfl rfl rfl rfl rfl (by kernel_rfl) Try.func4 (by kernel_rfl)
    (of_decide_eq_true (by kernel_rfl)) (by unfold Func.isWrapper; first | (rw [if_pos (by decide +kernel)]; kernel_rfl) | (rw [if_neg (by decide +kernel)]; exact ⟨rfl, rfl⟩))
    (fun os started H enc _ => wireEntry_lifted os started H enc)
#print axioms wireEntry_proved
end Go.Proofs.Ytlckgnemmffdkaa
