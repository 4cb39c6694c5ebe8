/- SumsPieces holds: for every slice of byte slices the law answers true, and its argument reads afterwards as before. No condition. -/
import Derived.Test.YtmlpgpopaakjbaaOpen
import Derived.Test.YtmlpgpopaakjbaaPieces
namespace Go.Proofs.Ytmlpgpopaakjbaa
open Go.ChangeShapes Go.WideShapes Go.ChangeAt Go.RowKit

set_option maxRecDepth 100000 in
theorem sumsPieces_lifted (os : Os) (started : os.Started) (H : Type) (enc : TypeId × Value → H) :
    ReturnsInHanded {} Try.checked os 5 .any (Rows.sumsPiecesSpec.pre6 enc Try.prog Try.f5 Rows.sumsPiecesRow.domain false) (Rows.sumsPiecesSpec.post enc Try.prog Try.f5 false true false false) := by
  refine law_lifted (C := Try.checked) own started (by kernel_rfl) Try.func5
    (ChangeSpec.witness6 (enc := enc) (C := Try.checked) false ⟨#[], #[.slice none 0 0], []⟩ 8 (by kernel_rfl) (by kernel_rfl) (by kernel_rfl) (by kernel_rfl))
    rfl rfl Try.underlying4 laidOut (by kernel_rfl) ?_ ?_
  · intro ds h
    rw [Try.params5] at h
    match ds, h with
    | [d1], _ => rfl
  · intro W vs h
    rw [Try.params5] at h
    obtain ⟨v0, vs0, rfl, h0, r0⟩ := h
    obtain rfl := r0
    obtain ⟨a0, len0, cap0, rfl, q0⟩ := h0.slice Try.underlying31
    obtain ⟨ls, n0, m0, x0, w0⟩ := open_pieces q0
    exact law_pieces a0 ls len0 cap0 W n0 (by omega) w0

/-- The statement. -/
theorem sumsPieces_proved : Rows.SumsPiecesSaid :=
  OpenClaim.holds_of_wide 5 Try.f5 rfl rfl rfl rfl rfl rfl rfl ⟨rfl, rfl, rfl, rfl, rfl⟩ rfl rfl rfl rfl rfl (by kernel_rfl) Try.func5 (by kernel_rfl)
    (of_decide_eq_true (by kernel_rfl)) (by unfold Func.isWrapper; first | (rw [if_pos (by decide +kernel)]; kernel_rfl) | (rw [if_neg (by decide +kernel)]; exact ⟨rfl, rfl⟩))
    (fun os started H enc _ => sumsPieces_lifted os started H enc)
#print axioms sumsPieces_proved
end Go.Proofs.Ytmlpgpopaakjbaa
