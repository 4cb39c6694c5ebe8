import Derived.Test.YtkboojpkkhiceaaDoorHisFrame
import Derived.Test.YtkboojpkkhiceaaDoorCards
import Derived.Test.YtkboojpkkhiceaaDoorTie
import Derived.SevenTiedAt
import Derived.Test.YtkboojpkkhiceaaDoorLawHDoes
import Derived.Test.YtkboojpkkhiceaaDoorPackHistoryDoes1
set_option linter.unusedVariables false
set_option linter.unusedSimpArgs false
/- HistoryDoes holds: for every argument the law answers true, and its arguments read afterwards as before. The row's listed tables of the library are as the program's text lays them (the tied card). -/
namespace Go.Proofs.YtkboojpkkhiceaaDoor
open Go.ChangeShapes Go.WideShapes Go.ChangeAt Go.RowKit
set_option maxRecDepth 100000

set_option maxRecDepth 100000 in
theorem historyDoes_lifted (os : Os) (started : os.Started) (H : Type) (enc : TypeId × Value → H) :
    ReturnsInHanded {} Tryd.checked os 3 .any (fun w args => (Rows.historyDoesSpec.pre enc Tryd.prog Tryd.f3 Rows.historyDoesRow.domain false w args ∧ laidMetH Tryd.prog Rows.historyDoesRow.laid w) ∧ sizedMet enc Tryd.prog Tryd.f3 (OpenSpec.ofChange Rows.historyDoesSpec) false w args) (Rows.historyDoesSpec.post enc Tryd.prog Tryd.f3 false true false false) := by
  refine law_laid started (by kernel_rfl) Tryd.func3
    (ChangeSpec.witness_shaped (enc := enc) (C := Tryd.checked) (os := os) (X := fun w _ => laidMetH Tryd.prog laidL w) false (World.doorLaid Tryd.prog 2000 os) #[.slice none 0 0, .agg #[.int .i8 0, .int .i64 0, .int .i64 0, .int .i64 0, .int .i64 0, .int .i64 0, .int .i64 0, .int .i64 0, .int .i64 0, .int .i64 0, .int .i64 0, .bool false, .slice none 0 0], .slice none 0 0] 8 rfl (World.shaped_of_RefB (by kernel_rfl) (by kernel_rfl)) (by kernel_rfl) (by kernel_rfl) (by kernel_rfl) (door_met os _))
    rfl rfl Tryd.underlying4 (by kernel_rfl) ?_ ?_
  · intro ds h
    rw [Tryd.params3] at h
    match ds, h with
    | [d1, d2, d3], _ => rfl
  · intro W vs h htab
    rw [Tryd.params3] at h
    obtain ⟨v0, vs0, rfl, h0, r0⟩ := h
    obtain ⟨v1, vs1, rfl, h1, r1⟩ := r0
    obtain ⟨v2, vs2, rfl, h2, r2⟩ := r1
    obtain rfl := r2
    obtain ⟨a0, len0, cap0, rfl, q0⟩ := h0.slice Tryd.underlying22
    obtain ⟨l0, n0, m0, k0, x0, g0, w0⟩ := open_hfces q0
    obtain ⟨cs1, rfl, q1⟩ := h1.struct Tryd.underlying26
    obtain ⟨t1, rfl, g1⟩ := open_hcmd q1
    obtain ⟨a2, len2, cap2, rfl, q2⟩ := h2.slice Tryd.underlying27
    obtain ⟨l2, n2, m2, k2, x2, g2, w2⟩ := open_hcals q2
    exact law_hdoes a0 a2 l0 t1 l2 len0 cap0 len2 cap2 W n0 x0 m0 w0 n2 w2 (by omega) (by omega) htab
theorem historyDoes_said : Rows.HistoryDoesSaid :=
  OpenClaim.holds_of_wide 3 Tryd.f3 rfl rfl rfl rfl rfl rfl rfl ⟨rfl, rfl, rfl, rfl, rfl⟩ rfl rfl rfl rfl rfl (by kernel_rfl) Tryd.func3 (by kernel_rfl)
    (of_decide_eq_true (by kernel_rfl)) (by unfold Func.isWrapper; first | (rw [if_pos (by decide +kernel)]; kernel_rfl) | (rw [if_neg (by decide +kernel)]; exact ⟨rfl, rfl⟩))
    (fun os started H enc _ => historyDoes_lifted os started H enc)
/-- The statement: the tied card. -/
theorem historyDoes_proved : Rows.HistoryDoesCardSaid :=
  Claim7.holds_tied_plain_at .later [] [.data, .data, .data] true Rows.historyDoesCard.stood.harness false
    historyDoes_said (fun _ h => by cases h) (by kernel_rfl) (fun _ h => by cases h) historyDoes_row_tie rfl ⟨rfl, rfl⟩ (by kernel_rfl) rfl
    (fun f fn hf hfn => by
      obtain rfl : f = 3 := Option.some.inj ((show Tryd.prog.funcNamed Rows.historyDoesRow.func = some 3 by kernel_rfl).symm.trans hf) |>.symm
      obtain rfl : fn = Tryd.f3 := (Option.some.inj (Tryd.func3.symm.trans hfn)).symm
      exact ⟨by kernel_rfl, fun j t ht => by
        rw [Tryd.params3] at ht
        have hm : t ∈ [22, 26, 27] := by simpa using Array.mem_of_getElem? ht
        have hall : ([22, 26, 27].all fun u => !Tryd.prog.wantsStandIn u) = true := by kernel_rfl
        exact (show Tryd.prog.wantsStandIn t = false by simpa using List.all_eq_true.1 hall t hm)⟩)
    (by kernel_rfl)
#print axioms historyDoes_proved
end Go.Proofs.YtkboojpkkhiceaaDoor
