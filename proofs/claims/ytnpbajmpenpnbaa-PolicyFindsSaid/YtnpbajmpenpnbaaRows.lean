/-
  No cell of these rows narrows 'for every input' (looked for: loops, veiled, ifaces, maps, wideKeys, modest, calm, conditions, laid).
  DERIVED. THE GIVEN ROWS OF THIS SEAT. 4 by the template 'for every input the law returns true; each argument reads behind the call as it read before'; 0 by the template 'total and deterministic' (their statements: YtnpbajmpenpnbaaTotals.lean).
  GIVEN WITH THE SEED: the statements are not yours to turn. If you find one false, say at which input.
  Laid BY PROGRAM, IN A SANDBOX (cutbox-rows.mjs): the forced cells as the released guide's own fill.sh prints them over the translation 03ca1fca16db2e3c… (all of the seat's roots in one cut). By AI agents, Wed Nov 11 2026. No macro, syntax, notation, axiom, sorry.
-/
import Derived.Test.YtnpbajmpenpnbaaChecked
import GoSem.Claim
import GoSem.ClaimJoined
import GoSem.ClaimMapViews
import Derived.JoinedTies
import Derived.KernelRfl
namespace Go.Proofs.Ytnpbajmpenpnbaa
/- THE CELL 'sum', in the pinned program and in every row, IS THE sha256 OF THE DUMP (.gsa) THAT YtnpbajmpenpnbaaProg.lean LOADS. Nothing in Lean hashes anything: it is a label: what it is worth is what the hold of that sum in a sandbox is worth. -/
noncomputable def Try.pinned : Pinned := { name := "ytnpbajmpenpnbaa", sum := "03ca1fca16db2e3c507c7abb4701f554ea5211f3ec4d85abfdd9fe1dfca635e8", checked := Try.checked }
namespace Rows
def none {H : Type} : Left H := { results := [], args := [] }

/-- 'weirlaw17.PolicyPuts': WHATEVER THE INPUT: true; the input reads as it did. -/
def policyPutsSpec : ChangeSpec := { name := "policyPuts", fn := fun _ => fun
  | [d1, d2, d3, d4, d5] => { results := [.lit (.bool true)], args := [d1, d2, d3, d4, d5] }
  | _ => none }
def policyPutsRow : OpenClaim := { program := "ytnpbajmpenpnbaa", sum := "03ca1fca16db2e3c507c7abb4701f554ea5211f3ec4d85abfdd9fe1dfca635e8", func := "weir/weirlaw17.PolicyPuts", spec := "policyPuts", unfollowed := true, recurses := true, apart := false }
def PolicyPutsSaid : Prop := policyPutsRow.holds Try.pinned (OpenSpec.ofChange policyPutsSpec)

/-- ITS FALSE NEIGHBOUR: 'it returns false'. Refute it at one input. -/
def policyPutsWrong : ChangeSpec := { name := "policyPuts", fn := fun _ => fun
  | [d1, d2, d3, d4, d5] => { results := [.lit (.bool false)], args := [d1, d2, d3, d4, d5] }
  | _ => none }
def PolicyPutsWrongFalsely : Prop := policyPutsRow.holds Try.pinned (OpenSpec.ofChange policyPutsWrong)

/-- 'weirlaw17.PolicyDeletes': WHATEVER THE INPUT: true; the input reads as it did. -/
def policyDeletesSpec : ChangeSpec := { name := "policyDeletes", fn := fun _ => fun
  | [d1, d2, d3] => { results := [.lit (.bool true)], args := [d1, d2, d3] }
  | _ => none }
def policyDeletesRow : OpenClaim := { program := "ytnpbajmpenpnbaa", sum := "03ca1fca16db2e3c507c7abb4701f554ea5211f3ec4d85abfdd9fe1dfca635e8", func := "weir/weirlaw17.PolicyDeletes", spec := "policyDeletes", unfollowed := true, recurses := true, apart := false }
def PolicyDeletesSaid : Prop := policyDeletesRow.holds Try.pinned (OpenSpec.ofChange policyDeletesSpec)

/-- ITS FALSE NEIGHBOUR: 'it returns false'. Refute it at one input. -/
def policyDeletesWrong : ChangeSpec := { name := "policyDeletes", fn := fun _ => fun
  | [d1, d2, d3] => { results := [.lit (.bool false)], args := [d1, d2, d3] }
  | _ => none }
def PolicyDeletesWrongFalsely : Prop := policyDeletesRow.holds Try.pinned (OpenSpec.ofChange policyDeletesWrong)

/-- 'weirlaw17.PolicyNever': WHATEVER THE INPUT: true; the input reads as it did. -/
def policyNeverSpec : ChangeSpec := { name := "policyNever", fn := fun _ => fun
  | [d1, d2, d3, d4, d5, d6] => { results := [.lit (.bool true)], args := [d1, d2, d3, d4, d5, d6] }
  | _ => none }
def policyNeverRow : OpenClaim := { program := "ytnpbajmpenpnbaa", sum := "03ca1fca16db2e3c507c7abb4701f554ea5211f3ec4d85abfdd9fe1dfca635e8", func := "weir/weirlaw17.PolicyNever", spec := "policyNever", unfollowed := true, recurses := true, apart := false }
def PolicyNeverSaid : Prop := policyNeverRow.holds Try.pinned (OpenSpec.ofChange policyNeverSpec)

/-- ITS FALSE NEIGHBOUR: 'it returns false'. Refute it at one input. -/
def policyNeverWrong : ChangeSpec := { name := "policyNever", fn := fun _ => fun
  | [d1, d2, d3, d4, d5, d6] => { results := [.lit (.bool false)], args := [d1, d2, d3, d4, d5, d6] }
  | _ => none }
def PolicyNeverWrongFalsely : Prop := policyNeverRow.holds Try.pinned (OpenSpec.ofChange policyNeverWrong)

/-- 'weirlaw17.PolicyFinds': WHATEVER THE INPUT: true; the input reads as it did. -/
def policyFindsSpec : ChangeSpec := { name := "policyFinds", fn := fun _ => fun
  | [d1, d2, d3] => { results := [.lit (.bool true)], args := [d1, d2, d3] }
  | _ => none }
def policyFindsRow : OpenClaim := { program := "ytnpbajmpenpnbaa", sum := "03ca1fca16db2e3c507c7abb4701f554ea5211f3ec4d85abfdd9fe1dfca635e8", func := "weir/weirlaw17.PolicyFinds", spec := "policyFinds", unfollowed := true, recurses := true, apart := false }
def PolicyFindsSaid : Prop := policyFindsRow.holds Try.pinned (OpenSpec.ofChange policyFindsSpec)

/-- ITS FALSE NEIGHBOUR: 'it returns false'. Refute it at one input. -/
def policyFindsWrong : ChangeSpec := { name := "policyFinds", fn := fun _ => fun
  | [d1, d2, d3] => { results := [.lit (.bool false)], args := [d1, d2, d3] }
  | _ => none }
def PolicyFindsWrongFalsely : Prop := policyFindsRow.holds Try.pinned (OpenSpec.ofChange policyFindsWrong)

/- THE SECOND FORM. 'bulk': how many values and letters a reading holds, each counted each time it is reached (what is shared counts as often as it is met; a slice's spare places count too). A statement '..UptoSaid' is the law's where the arguments, and the package variables that the reading takes, are together of bulk at most 1048576: NARROWER than '..Said'. Prove '..Said' where nothing that the law and all that it calls make is longer than what came in: it says more and counts as full. Else prove '..UptoSaid'. A law counts once. -/
mutual
def uptoBulk {H : Type} : DataW H → Nat
  | .lit (.string bytes) => bytes.length + 1
  | .lit _ => 1
  | .nil => 1
  | .ptr d => uptoBulk d + 1
  | .slice elems spare => uptoBulkAll elems + uptoBulkAll spare + 1
  | .agg parts => uptoBulkAll parts + 1
  | .iface _ d => uptoBulk d + 1
  | .map entries => uptoBulkEntries entries + 1
  | .held _ => 1
def uptoBulkAll {H : Type} : List (DataW H) → Nat
  | [] => 0
  | d :: r => uptoBulk d + uptoBulkAll r
def uptoBulkEntries {H : Type} : List (Lit × DataW H) → Nat
  | [] => 0
  | x :: r => uptoBulkEntry x + uptoBulkEntries r
def uptoBulkEntry {H : Type} : Lit × DataW H → Nat
  | (.string bytes, d) => bytes.length + uptoBulk d + 1
  | (_, d) => uptoBulk d + 1
 end
def uptoSmall : (H : Type) → List (DataW H) → Bool := fun _ ds => decide (uptoBulkAll ds ≤ 1048576)
def OpenSpec.upto (s : _root_.Go.ChangeSpec) : _root_.Go.OpenSpec := { _root_.Go.OpenSpec.ofChange s with cond := some uptoSmall }

/-- 'weirlaw17.PolicyPuts', WHERE WHAT IT READS IS OF BULK AT MOST 1048576: true; the input reads as it did. -/
def policyPutsUptoRow : OpenClaim := { program := "ytnpbajmpenpnbaa", sum := "03ca1fca16db2e3c507c7abb4701f554ea5211f3ec4d85abfdd9fe1dfca635e8", func := "weir/weirlaw17.PolicyPuts", spec := "policyPuts", unfollowed := true, recurses := true, apart := false, narrowed := true }
def PolicyPutsUptoSaid : Prop := policyPutsUptoRow.holds Try.pinned (OpenSpec.upto policyPutsSpec)

/-- 'weirlaw17.PolicyDeletes', WHERE WHAT IT READS IS OF BULK AT MOST 1048576: true; the input reads as it did. -/
def policyDeletesUptoRow : OpenClaim := { program := "ytnpbajmpenpnbaa", sum := "03ca1fca16db2e3c507c7abb4701f554ea5211f3ec4d85abfdd9fe1dfca635e8", func := "weir/weirlaw17.PolicyDeletes", spec := "policyDeletes", unfollowed := true, recurses := true, apart := false, narrowed := true }
def PolicyDeletesUptoSaid : Prop := policyDeletesUptoRow.holds Try.pinned (OpenSpec.upto policyDeletesSpec)

/-- 'weirlaw17.PolicyNever', WHERE WHAT IT READS IS OF BULK AT MOST 1048576: true; the input reads as it did. -/
def policyNeverUptoRow : OpenClaim := { program := "ytnpbajmpenpnbaa", sum := "03ca1fca16db2e3c507c7abb4701f554ea5211f3ec4d85abfdd9fe1dfca635e8", func := "weir/weirlaw17.PolicyNever", spec := "policyNever", unfollowed := true, recurses := true, apart := false, narrowed := true }
def PolicyNeverUptoSaid : Prop := policyNeverUptoRow.holds Try.pinned (OpenSpec.upto policyNeverSpec)

/-- 'weirlaw17.PolicyFinds', WHERE WHAT IT READS IS OF BULK AT MOST 1048576: true; the input reads as it did. -/
def policyFindsUptoRow : OpenClaim := { program := "ytnpbajmpenpnbaa", sum := "03ca1fca16db2e3c507c7abb4701f554ea5211f3ec4d85abfdd9fe1dfca635e8", func := "weir/weirlaw17.PolicyFinds", spec := "policyFinds", unfollowed := true, recurses := true, apart := false, narrowed := true }
def PolicyFindsUptoSaid : Prop := policyFindsUptoRow.holds Try.pinned (OpenSpec.upto policyFindsSpec)

end Rows
end Go.Proofs.Ytnpbajmpenpnbaa
