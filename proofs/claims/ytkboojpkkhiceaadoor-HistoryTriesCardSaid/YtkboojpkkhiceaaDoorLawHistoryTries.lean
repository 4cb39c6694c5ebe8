import Derived.Test.YtkboojpkkhiceaaDoorHisFrame
import Derived.Test.YtkboojpkkhiceaaDoorCards
import Derived.Test.YtkboojpkkhiceaaDoorTie
import Derived.SevenTiedAt
import Derived.Test.YtkboojpkkhiceaaDoorLawHTries
import Derived.Test.YtkboojpkkhiceaaDoorPackHistoryDoes1
set_option linter.unusedVariables false
set_option linter.unusedSimpArgs false
/- HistoryTries holds: for every argument the law answers true, and its arguments read afterwards as before. The row's listed tables of the library are as the program's text lays them (the tied card). -/
namespace Go.Proofs.YtkboojpkkhiceaaDoor
open Go.ChangeShapes Go.WideShapes Go.ChangeAt Go.RowKit
set_option maxRecDepth 100000

set_option maxRecDepth 100000 in
theorem historyTries_lifted (os : Os) (started : os.Started) (H : Type) (enc : TypeId × Value → H) :
    ReturnsInHanded {} Tryd.checked os 6 .any (fun w args => (Rows.historyTriesSpec.pre enc Tryd.prog Tryd.f6 Rows.historyTriesRow.domain false w args ∧ laidMetH Tryd.prog Rows.historyTriesRow.laid w) ∧ sizedMet enc Tryd.prog Tryd.f6 (OpenSpec.ofChange Rows.historyTriesSpec) false w args) (Rows.historyTriesSpec.post enc Tryd.prog Tryd.f6 false true false false) := by
  refine law_laid started (by kernel_rfl) Tryd.func6
    (ChangeSpec.witness_shaped (enc := enc) (C := Tryd.checked) (os := os) (X := fun w _ => laidMetH Tryd.prog laidL w) false (World.doorLaid Tryd.prog 2000 os) #[.slice none 0 0, .slice none 0 0] 8 rfl (World.shaped_of_RefB (by kernel_rfl) (by kernel_rfl)) (by kernel_rfl) (by kernel_rfl) (by kernel_rfl) (door_met os _))
    rfl rfl Tryd.underlying4 (by kernel_rfl) ?_ ?_
  · intro ds h
    rw [Tryd.params6] at h
    match ds, h with
    | [d1, d2], _ => rfl
  · intro W vs h htab
    rw [Tryd.params6] at h
    obtain ⟨v0, vs0, rfl, h0, r0⟩ := h
    obtain ⟨v1, vs1, rfl, h1, r1⟩ := r0
    obtain rfl := r1
    obtain ⟨a0, len0, cap0, rfl, q0⟩ := h0.slice Tryd.underlying27
    obtain ⟨l0, n0, m0, k0, x0, g0, w0⟩ := open_hcals q0
    obtain ⟨a1, len1, cap1, rfl, q1⟩ := h1.slice Tryd.underlying24
    obtain ⟨l1, n1, m1, k1, -, -, x1, w1⟩ := q1.ints Tryd.underlying24 Tryd.underlying3 (by kernel_rfl)
    exact law_htries a0 a1 l0 l1 len0 cap0 len1 cap1 W n0 n1 w0 w1 (by omega) (by omega) htab
theorem historyTries_said : Rows.HistoryTriesSaid :=
  OpenClaim.holds_of_wide 6 Tryd.f6 rfl rfl rfl rfl rfl rfl rfl ⟨rfl, rfl, rfl, rfl, rfl⟩ rfl rfl rfl rfl rfl (by kernel_rfl) Tryd.func6 (by kernel_rfl)
    (of_decide_eq_true (by kernel_rfl)) (by unfold Func.isWrapper; first | (rw [if_pos (by decide +kernel)]; kernel_rfl) | (rw [if_neg (by decide +kernel)]; exact ⟨rfl, rfl⟩))
    (fun os started H enc _ => historyTries_lifted os started H enc)
/-- The statement: the tied card. -/
theorem historyTries_proved : Rows.HistoryTriesCardSaid :=
  Claim7.holds_tied_plain_at .later [] [.data, .data, .data] true Rows.historyTriesCard.stood.harness false
    historyTries_said (fun _ h => by cases h) (by kernel_rfl) (fun _ h => by cases h) historyTries_row_tie rfl ⟨rfl, rfl⟩ (by kernel_rfl) rfl
    (fun f fn hf hfn => by
      obtain rfl : f = 6 := Option.some.inj ((show Tryd.prog.funcNamed Rows.historyTriesRow.func = some 6 by kernel_rfl).symm.trans hf) |>.symm
      obtain rfl : fn = Tryd.f6 := (Option.some.inj (Tryd.func6.symm.trans hfn)).symm
      exact ⟨by kernel_rfl, fun j t ht => by
        rw [Tryd.params6] at ht
        have hm : t ∈ [27, 24] := by simpa using Array.mem_of_getElem? ht
        have hall : ([27, 24].all fun u => !Tryd.prog.wantsStandIn u) = true := by kernel_rfl
        exact (show Tryd.prog.wantsStandIn t = false by simpa using List.all_eq_true.1 hall t hm)⟩)
    (by kernel_rfl)
#print axioms historyTries_proved
end Go.Proofs.YtkboojpkkhiceaaDoor
