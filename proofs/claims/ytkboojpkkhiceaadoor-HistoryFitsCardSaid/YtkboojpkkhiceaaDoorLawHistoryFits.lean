import Derived.Test.YtkboojpkkhiceaaDoorHisFrame
import Derived.Test.YtkboojpkkhiceaaDoorCards
import Derived.Test.YtkboojpkkhiceaaDoorTie
import Derived.SevenTiedAt
import Derived.Test.YtkboojpkkhiceaaDoorLawHFits
import Derived.Test.YtkboojpkkhiceaaDoorPackHistoryDoes1
set_option linter.unusedVariables false
set_option linter.unusedSimpArgs false
/- HistoryFits holds: for every argument the law answers true, and its arguments read afterwards as before. The row's listed tables of the library are as the program's text lays them (the tied card). -/
namespace Go.Proofs.YtkboojpkkhiceaaDoor
open Go.ChangeShapes Go.WideShapes Go.ChangeAt Go.RowKit
set_option maxRecDepth 100000

set_option maxRecDepth 100000 in
theorem historyFits_lifted (os : Os) (started : os.Started) (H : Type) (enc : TypeId × Value → H) :
    ReturnsInHanded {} Tryd.checked os 4 .any (fun w args => (Rows.historyFitsSpec.pre enc Tryd.prog Tryd.f4 Rows.historyFitsRow.domain false w args ∧ laidMetH Tryd.prog Rows.historyFitsRow.laid w) ∧ sizedMet enc Tryd.prog Tryd.f4 (OpenSpec.ofChange Rows.historyFitsSpec) false w args) (Rows.historyFitsSpec.post enc Tryd.prog Tryd.f4 false true false false) := by
  refine law_laid started (by kernel_rfl) Tryd.func4
    (ChangeSpec.witness_shaped (enc := enc) (C := Tryd.checked) (os := os) (X := fun w _ => laidMetH Tryd.prog laidL w) false (World.doorLaid Tryd.prog 2000 os) #[.slice none 0 0] 8 rfl (World.shaped_of_RefB (by kernel_rfl) (by kernel_rfl)) (by kernel_rfl) (by kernel_rfl) (by kernel_rfl) (door_met os _))
    rfl rfl Tryd.underlying4 (by kernel_rfl) ?_ ?_
  · intro ds h
    rw [Tryd.params4] at h
    match ds, h with
    | [d1], _ => rfl
  · intro W vs h htab
    rw [Tryd.params4] at h
    obtain ⟨v0, vs0, rfl, h0, r0⟩ := h
    obtain rfl := r0
    obtain ⟨a0, len0, cap0, rfl, q0⟩ := h0.slice Tryd.underlying27
    obtain ⟨l0, n0, m0, k0, x0, g0, w0⟩ := open_hcals q0
    exact law_hfits a0 l0 len0 cap0 W n0 w0 (by omega) htab
theorem historyFits_said : Rows.HistoryFitsSaid :=
  OpenClaim.holds_of_wide 4 Tryd.f4 rfl rfl rfl rfl rfl rfl rfl ⟨rfl, rfl, rfl, rfl, rfl⟩ rfl rfl rfl rfl rfl (by kernel_rfl) Tryd.func4 (by kernel_rfl)
    (of_decide_eq_true (by kernel_rfl)) (by unfold Func.isWrapper; first | (rw [if_pos (by decide +kernel)]; kernel_rfl) | (rw [if_neg (by decide +kernel)]; exact ⟨rfl, rfl⟩))
    (fun os started H enc _ => historyFits_lifted os started H enc)
/-- The statement: the tied card. -/
theorem historyFits_proved : Rows.HistoryFitsCardSaid :=
  Claim7.holds_tied_plain_at .later [] [.data, .data, .data] true Rows.historyFitsCard.stood.harness false
    historyFits_said (fun _ h => by cases h) (by kernel_rfl) (fun _ h => by cases h) historyFits_row_tie rfl ⟨rfl, rfl⟩ (by kernel_rfl) rfl
    (fun f fn hf hfn => by
      obtain rfl : f = 4 := Option.some.inj ((show Tryd.prog.funcNamed Rows.historyFitsRow.func = some 4 by kernel_rfl).symm.trans hf) |>.symm
      obtain rfl : fn = Tryd.f4 := (Option.some.inj (Tryd.func4.symm.trans hfn)).symm
      exact ⟨by kernel_rfl, fun j t ht => by
        rw [Tryd.params4] at ht
        have hm : t ∈ [27] := by simpa using Array.mem_of_getElem? ht
        have hall : ([27].all fun u => !Tryd.prog.wantsStandIn u) = true := by kernel_rfl
        exact (show Tryd.prog.wantsStandIn t = false by simpa using List.all_eq_true.1 hall t hm)⟩)
    (by kernel_rfl)
#print axioms historyFits_proved
end Go.Proofs.YtkboojpkkhiceaaDoor
