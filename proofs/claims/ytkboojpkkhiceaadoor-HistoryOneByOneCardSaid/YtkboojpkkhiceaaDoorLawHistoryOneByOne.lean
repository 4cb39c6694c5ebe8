import Derived.Test.YtkboojpkkhiceaaDoorHisFrame
import Derived.Test.YtkboojpkkhiceaaDoorCards
import Derived.Test.YtkboojpkkhiceaaDoorTie
import Derived.SevenTiedAt
import Derived.Test.YtkboojpkkhiceaaDoorLawHOne
import Derived.Test.YtkboojpkkhiceaaDoorPackHistoryDoes1
set_option linter.unusedVariables false
set_option linter.unusedSimpArgs false
/- HistoryOneByOne holds: for every argument the law answers true, and its arguments read afterwards as before. The row's listed tables of the library are as the program's text lays them (the tied card). -/
namespace Go.Proofs.YtkboojpkkhiceaaDoor
open Go.ChangeShapes Go.WideShapes Go.ChangeAt Go.RowKit
set_option maxRecDepth 100000

set_option maxRecDepth 100000 in
theorem historyOneByOne_lifted (os : Os) (started : os.Started) (H : Type) (enc : TypeId × Value → H) :
    ReturnsInHanded {} Tryd.checked os 5 .any (fun w args => (Rows.historyOneByOneSpec.pre enc Tryd.prog Tryd.f5 Rows.historyOneByOneRow.domain false w args ∧ laidMetH Tryd.prog Rows.historyOneByOneRow.laid w) ∧ sizedMet enc Tryd.prog Tryd.f5 (OpenSpec.ofChange Rows.historyOneByOneSpec) false w args) (Rows.historyOneByOneSpec.post enc Tryd.prog Tryd.f5 false true false false) := by
  refine law_laid started (by kernel_rfl) Tryd.func5
    (ChangeSpec.witness_shaped (enc := enc) (C := Tryd.checked) (os := os) (X := fun w _ => laidMetH Tryd.prog laidL w) false (World.doorLaid Tryd.prog 2000 os) #[.slice none 0 0, .int .i64 0] 8 rfl (World.shaped_of_RefB (by kernel_rfl) (by kernel_rfl)) (by kernel_rfl) (by kernel_rfl) (by kernel_rfl) (door_met os _))
    rfl rfl Tryd.underlying4 (by kernel_rfl) ?_ ?_
  · intro ds h
    rw [Tryd.params5] at h
    match ds, h with
    | [d1, d2], _ => rfl
  · intro W vs h htab
    rw [Tryd.params5] at h
    obtain ⟨v0, vs0, rfl, h0, r0⟩ := h
    obtain ⟨v1, vs1, rfl, h1, r1⟩ := r0
    obtain rfl := r1
    obtain ⟨a0, len0, cap0, rfl, q0⟩ := h0.slice Tryd.underlying39
    obtain ⟨l0, n0, m0, k0, x0, g0, w0⟩ := open_hcmds q0
    obtain ⟨a1, rfl, -⟩ := h1.int Tryd.underlying3
    exact law_hone a0 l0 len0 cap0 a1 W n0 g0 w0 (by omega) htab
theorem historyOneByOne_said : Rows.HistoryOneByOneSaid :=
  OpenClaim.holds_of_wide 5 Tryd.f5 rfl rfl rfl rfl rfl rfl rfl ⟨rfl, rfl, rfl, rfl, rfl⟩ rfl rfl rfl rfl rfl (by kernel_rfl) Tryd.func5 (by kernel_rfl)
    (of_decide_eq_true (by kernel_rfl)) (by unfold Func.isWrapper; first | (rw [if_pos (by decide +kernel)]; kernel_rfl) | (rw [if_neg (by decide +kernel)]; exact ⟨rfl, rfl⟩))
    (fun os started H enc _ => historyOneByOne_lifted os started H enc)
/-- The statement: the tied card. -/
theorem historyOneByOne_proved : Rows.HistoryOneByOneCardSaid :=
  Claim7.holds_tied_plain_at .later [] [.data, .data, .data] true Rows.historyOneByOneCard.stood.harness false
    historyOneByOne_said (fun _ h => by cases h) (by kernel_rfl) (fun _ h => by cases h) historyOneByOne_row_tie rfl ⟨rfl, rfl⟩ (by kernel_rfl) rfl
    (fun f fn hf hfn => by
      obtain rfl : f = 5 := Option.some.inj ((show Tryd.prog.funcNamed Rows.historyOneByOneRow.func = some 5 by kernel_rfl).symm.trans hf) |>.symm
      obtain rfl : fn = Tryd.f5 := (Option.some.inj (Tryd.func5.symm.trans hfn)).symm
      exact ⟨by kernel_rfl, fun j t ht => by
        rw [Tryd.params5] at ht
        have hm : t ∈ [39, 3] := by simpa using Array.mem_of_getElem? ht
        have hall : ([39, 3].all fun u => !Tryd.prog.wantsStandIn u) = true := by kernel_rfl
        exact (show Tryd.prog.wantsStandIn t = false by simpa using List.all_eq_true.1 hall t hm)⟩)
    (by kernel_rfl)
#print axioms historyOneByOne_proved
end Go.Proofs.YtkboojpkkhiceaaDoor
