import Derived.Test.YtoofmofaimdhpaaLawLCapYes
set_option linter.unusedVariables false
set_option linter.unusedSimpArgs false
/- LedgerCap: the walk. -/
namespace Go.Proofs.Ytoofmofaimdhpaa
open Go.ChangeShapes Go.WideShapes Go.ChangeAt Go.RowKit
set_option maxRecDepth 100000

theorem law_lcap (s : St) (r : Raw) (c : Cmd) (zs : List Int) (ti : Int) (w : World) (h : StAt w 0 r s) (hzn : zs.length = c.leases.n) (hz : Row w c.leases.a (zs.map (Value.int .i64))) :
    Calls Try.prog 8 #[r.agg, c.agg, .int .i64 ti] w fun e w' => e = .returned (.bool true) ∧ Below w.heap.size w w' := by
  cases hg : greatB s with
  | true => exact lcap_great s r c zs ti w h hzn hz hg
  | false =>
    by_cases hl : 100 < c.leases.n
    · exact lcap_long s r c zs ti w h hzn hz hg hl
    cases hok : stOk s with
    | false => exact lcap_bad s r c zs ti w h hzn hz hg (by omega) hok
    | true => exact lcap_yes s r c zs ti w h hzn hz hg (by omega) hok
end Go.Proofs.Ytoofmofaimdhpaa
