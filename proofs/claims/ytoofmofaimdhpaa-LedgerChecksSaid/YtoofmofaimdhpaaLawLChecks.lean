import Derived.Test.YtoofmofaimdhpaaLedWakes
import Derived.Test.YtoofmofaimdhpaaPackLedgerCredits1
import Derived.Test.YtoofmofaimdhpaaLawLChecksYes
import Derived.Deep.Cut
import Derived.Deep.RegionHeld3
import Derived.StillTailTactics
set_option linter.unusedVariables false
set_option linter.unusedSimpArgs false
/- LedgerChecks: the walk. -/
namespace Go.Proofs.Ytoofmofaimdhpaa
open Go.ChangeShapes Go.WideShapes Go.ChangeAt Go.RowKit
set_option maxRecDepth 100000

set_option maxHeartbeats 4000000 in
theorem law_lchecks (s : St) (r : Raw) (te le : Int) (w : World) (h : StAt w 0 r s) (hte : (Lit.int .i64 te).wf = true) :
    Calls Try.prog 4 #[r.agg, .int .i64 te, .int .i64 le] w fun e w' => e = .returned (.bool true) ∧ Below w.heap.size w w' := by
  cases hg : greatB s with
  | true =>
    have HG := Lib.hid (fun w' (hb : Below w.heap.size w w') => great_st s r 0 w' (h.below hb))
    have HGG := Lib.hid hg
    obtain ⟨term, stamp, next, ⟨a1, n1, c1⟩, ⟨a2, n2, c2⟩, ⟨a3, n3, c3⟩, ⟨a4, n4, c4⟩⟩ := r
    clear h hg
    go_enter Try.func4, Try.ntmps4
    go_wp2_with (first
      | (go_at_call 9; ((with_reducible refine (HG.out _ (by repeat' (first | (with_reducible exact Below.refl _ _) | (with_reducible assumption) | (with_reducible refine Below.drew ?_) | (with_reducible refine Below.more ?_ _) | (with_reducible refine Below.put ?_ ?_ _) | (with_reducible refine Below.next ?_ (by with_reducible assumption)) | (with_reducible exact Nat.le_refl _) | (with_reducible refine Below.size' ?_) | omega))).mono ?_); rw [HGG.out]; rintro e w2 ⟨rfl, hb2⟩))
      | (go_at_call 10; ((with_reducible refine (wakes_true _).mono ?_); rintro e w3 ⟨rfl, hb3⟩)))
    go_returns
    exact ⟨rfl, (by repeat' (first | (with_reducible exact Below.refl _ _) | (with_reducible assumption) | (with_reducible refine Below.drew ?_) | (with_reducible refine Below.more ?_ _) | (with_reducible refine Below.put ?_ ?_ _) | (with_reducible refine Below.next ?_ (by with_reducible assumption)) | (with_reducible exact Nat.le_refl _) | (with_reducible refine Below.size' ?_) | omega))⟩
  | false =>
    cases hok : stOk s with
    | true => exact lchecks_yes s r te le w h hte hg hok
    | false => exact lchecks_not s r te le w h hte hg hok
end Go.Proofs.Ytoofmofaimdhpaa
