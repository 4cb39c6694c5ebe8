import Derived.Test.YtkboojpkkhiceaaDoorHisWakes
import Derived.Test.YtkboojpkkhiceaaDoorHisRefTry
set_option linter.unusedVariables false
set_option linter.unusedSimpArgs false
/- Whether a row is an order that fits: the walk of HistoryTries. (printed by gen_histries.py) -/
namespace Go.Proofs.YtkboojpkkhiceaaDoor
open Go.ChangeShapes Go.WideShapes Go.ChangeAt Go.RowKit
set_option maxRecDepth 100000

set_option maxHeartbeats 8000000 in
theorem law_htries (a1 a2 : Option Addr) (l : List HCall) (os : List Int) (n1 c1 n2 c2 : Nat) (w : World) (h1 : l.length = n1) (h2 : os.length = n2) (r1 : LRow layCal w a1 l) (r2 : Row w a2 (os.map (Value.int .i64)))
    (z1 : n1 ≤ maxLen) (z2 : n2 ≤ maxLen) (htab : Lib.TabIs Tryd.prog w "internal/strconv.uint64pow10" .u64 Lib.pow10Tab) :
    Calls Tryd.prog 6 #[.slice a1 n1 c1, .slice a2 n2 c2] w fun e w' => e = .returned (.bool true) ∧ Below w.heap.size w w' := by
  subst h1 h2
  have hz1 := lt_maxLen z1
  have hz2 := lt_maxLen z2
  have WK := Lib.hid (fun w' (hb : Below w.heap.size w w') => wakes_any w' ((Lib.tabBelow_of_tabIs htab).on hb).here)
  have HB0 : Hid (Below w.heap.size w w) := Below.refl _ _
  have HT := Lib.hid (fun w' (hb : Below w.heap.size w w') => htry_any l os a1 a2 l.length c1 os.length c2 w' rfl rfl z1 z2 (LRow.below r1 hb) (Row.below r2 hb))
  have HU := Lib.hid (fun w' (hb : Below w.heap.size w w') => reftry_any l os a1 a2 l.length c1 os.length c2 w' rfl rfl z1 z2 (LRow.below r1 hb) (Row.below r2 hb))
  clear r1 r2 htab
  generalize tryF l os = res at HT HU
  obtain ⟨b, e⟩ := res
  by_cases hs1 : 60 < l.length
  · have d1 : decide ((60 : Int) < (l.length : Int)) = true := decide_eq_true (by omega)
    go_enter Tryd.func6, Tryd.ntmps6
    go_wp2_with (go_at_call 8; ((with_reducible refine (WK.out _ HB0.out).mono ?_); rintro e w9 ⟨rfl, hb⟩; have HB9 := Lib.hid (HB0.out.trans (hb.mono HB0.out.size)); clear hb))
    go_returns
    exact ⟨rfl, HB9.out⟩
  have d1 : decide ((60 : Int) < (l.length : Int)) = false := decide_eq_false (by omega)
  by_cases hs2 : 60 < os.length
  · have d2 : decide ((60 : Int) < (os.length : Int)) = true := decide_eq_true (by omega)
    go_enter Tryd.func6, Tryd.ntmps6
    go_wp2_with (go_at_call 8; ((with_reducible refine (WK.out _ HB0.out).mono ?_); rintro e w9 ⟨rfl, hb⟩; have HB9 := Lib.hid (HB0.out.trans (hb.mono HB0.out.size)); clear hb))
    go_returns
    exact ⟨rfl, HB9.out⟩
  have d2 : decide ((60 : Int) < (os.length : Int)) = false := decide_eq_false (by omega)
  go_enter Tryd.func6, Tryd.ntmps6
  go_wp2_with (first
    | (go_at_call 16; ((with_reducible refine (HT.out _ HB0.out).mono ?_); rintro e' w1 ⟨rfl, hb⟩; have HB1 := Lib.hid (HB0.out.trans (hb.mono HB0.out.size)); clear hb))
    | (go_at_call 17; ((with_reducible refine (HU.out _ HB1.out).mono ?_); rintro e' w2 ⟨rfl, hb⟩; have HB2 := Lib.hid (HB1.out.trans (hb.mono HB1.out.size)); clear hb))
    | (go_at_call 8; ((with_reducible refine (WK.out _ HB2.out).mono ?_); rintro e w9 ⟨rfl, hb⟩; have HB9 := Lib.hid (HB2.out.trans (hb.mono HB2.out.size)); clear hb)))
  go_returns
  exact ⟨rfl, HB9.out⟩
end Go.Proofs.YtkboojpkkhiceaaDoor
