/-
  No cell of these rows narrows 'for every input' (looked for: loops, veiled, ifaces, maps, wideKeys, modest, calm, conditions, laid).
  DERIVED. THE GIVEN ROWS OF THIS SEAT. 4 by the template 'for every input the law returns true; each argument reads behind the call as it read before'; 0 by the template 'total and deterministic' (their statements: YtfdmhpohfjbpfaaGreatTotals.lean).
  GIVEN WITH THE SEED: the statements are not yours to turn. If you find one false, say at which input.
  Laid BY PROGRAM, IN A SANDBOX (cutbox-rows.mjs): the forced cells as the released guide's own fill.sh prints them over the translation 71cfafa5cdefe6c0… (all of the seat's roots in one cut). By AI agents, Wed Nov 11 2026. No macro, syntax, notation, axiom, sorry.
-/
import Derived.Test.YtfdmhpohfjbpfaaGreatChecked
import GoSem.Claim
import GoSem.ClaimJoined
import GoSem.ClaimMapViews
import Derived.JoinedTies
import Derived.KernelRfl
namespace Go.Proofs.YtfdmhpohfjbpfaaGreat
/- THE CELL 'sum', in the pinned program and in every row, IS THE sha256 OF THE DUMP (.gsa) THAT YtfdmhpohfjbpfaaGreatProg.lean LOADS. Nothing in Lean hashes anything: it is a label: what it is worth is what the hold of that sum in a sandbox is worth. -/
noncomputable def Tryz.pinned : Pinned := { name := "ytfdmhpohfjbpfaagreat", sum := "71cfafa5cdefe6c0cf4667ce30e2cf10d5fb034590d2f994d06d25ab353aff19", checked := Tryz.checked }
namespace Rows
def none {H : Type} : Left H := { results := [], args := [] }

/-- 'weirlaw19.StateAll': WHATEVER THE INPUT: true; the input reads as it did. -/
def stateAllSpec : ChangeSpec := { name := "stateAll", fn := fun _ => fun
  | [d1, d2] => { results := [.lit (.bool true)], args := [d1, d2] }
  | _ => none }
def stateAllRow : OpenClaim := { program := "ytfdmhpohfjbpfaagreat", sum := "71cfafa5cdefe6c0cf4667ce30e2cf10d5fb034590d2f994d06d25ab353aff19", func := "weir/weirlaw19.StateAll", spec := "stateAll", inPlace := ["slices.overlaps[weir/api.Session]", "slices.overlaps[weir/api.Desk]"], unfollowed := true, recurses := true, plainKeys := false, apart := false }
def StateAllSaid : Prop := stateAllRow.holds Tryz.pinned (OpenSpec.ofChange stateAllSpec)

/-- ITS FALSE NEIGHBOUR: 'it returns false'. Refute it at one input. -/
def stateAllWrong : ChangeSpec := { name := "stateAll", fn := fun _ => fun
  | [d1, d2] => { results := [.lit (.bool false)], args := [d1, d2] }
  | _ => none }
def StateAllWrongFalsely : Prop := stateAllRow.holds Tryz.pinned (OpenSpec.ofChange stateAllWrong)

/-- 'weirlaw19.StateCap': WHATEVER THE INPUT: true; the input reads as it did. -/
def stateCapSpec : ChangeSpec := { name := "stateCap", fn := fun _ => fun
  | [d1, d2, d3] => { results := [.lit (.bool true)], args := [d1, d2, d3] }
  | _ => none }
def stateCapRow : OpenClaim := { program := "ytfdmhpohfjbpfaagreat", sum := "71cfafa5cdefe6c0cf4667ce30e2cf10d5fb034590d2f994d06d25ab353aff19", func := "weir/weirlaw19.StateCap", spec := "stateCap", inPlace := ["slices.overlaps[weir/api.Session]", "slices.overlaps[weir/api.Desk]"], unfollowed := true, recurses := true, plainKeys := false, apart := false }
def StateCapSaid : Prop := stateCapRow.holds Tryz.pinned (OpenSpec.ofChange stateCapSpec)

/-- ITS FALSE NEIGHBOUR: 'it returns false'. Refute it at one input. -/
def stateCapWrong : ChangeSpec := { name := "stateCap", fn := fun _ => fun
  | [d1, d2, d3] => { results := [.lit (.bool false)], args := [d1, d2, d3] }
  | _ => none }
def StateCapWrongFalsely : Prop := stateCapRow.holds Tryz.pinned (OpenSpec.ofChange stateCapWrong)

/-- 'weirlaw19.StateOnce': WHATEVER THE INPUT: true; the input reads as it did. -/
def stateOnceSpec : ChangeSpec := { name := "stateOnce", fn := fun _ => fun
  | [d1, d2] => { results := [.lit (.bool true)], args := [d1, d2] }
  | _ => none }
def stateOnceRow : OpenClaim := { program := "ytfdmhpohfjbpfaagreat", sum := "71cfafa5cdefe6c0cf4667ce30e2cf10d5fb034590d2f994d06d25ab353aff19", func := "weir/weirlaw19.StateOnce", spec := "stateOnce", inPlace := ["slices.overlaps[weir/api.Session]", "slices.overlaps[weir/api.Desk]"], unfollowed := true, recurses := true, plainKeys := false, apart := false }
def StateOnceSaid : Prop := stateOnceRow.holds Tryz.pinned (OpenSpec.ofChange stateOnceSpec)

/-- ITS FALSE NEIGHBOUR: 'it returns false'. Refute it at one input. -/
def stateOnceWrong : ChangeSpec := { name := "stateOnce", fn := fun _ => fun
  | [d1, d2] => { results := [.lit (.bool false)], args := [d1, d2] }
  | _ => none }
def StateOnceWrongFalsely : Prop := stateOnceRow.holds Tryz.pinned (OpenSpec.ofChange stateOnceWrong)

/-- 'weirlaw19.StateFlow': WHATEVER THE INPUT: true; the input reads as it did. -/
def stateFlowSpec : ChangeSpec := { name := "stateFlow", fn := fun _ => fun
  | [d1, d2, d3] => { results := [.lit (.bool true)], args := [d1, d2, d3] }
  | _ => none }
def stateFlowRow : OpenClaim := { program := "ytfdmhpohfjbpfaagreat", sum := "71cfafa5cdefe6c0cf4667ce30e2cf10d5fb034590d2f994d06d25ab353aff19", func := "weir/weirlaw19.StateFlow", spec := "stateFlow", inPlace := ["slices.overlaps[weir/api.Session]", "slices.overlaps[weir/api.Desk]"], unfollowed := true, recurses := true, plainKeys := false, apart := false }
def StateFlowSaid : Prop := stateFlowRow.holds Tryz.pinned (OpenSpec.ofChange stateFlowSpec)

/-- ITS FALSE NEIGHBOUR: 'it returns false'. Refute it at one input. -/
def stateFlowWrong : ChangeSpec := { name := "stateFlow", fn := fun _ => fun
  | [d1, d2, d3] => { results := [.lit (.bool false)], args := [d1, d2, d3] }
  | _ => none }
def StateFlowWrongFalsely : Prop := stateFlowRow.holds Tryz.pinned (OpenSpec.ofChange stateFlowWrong)

/- THE SECOND FORM. 'bulk': how many values and letters a reading holds, each counted each time it is reached (what is shared counts as often as it is met; a slice's spare places count too). A statement '..UptoSaid' is the law's where the arguments, and the package variables that the reading takes, are together of bulk at most 1048576: NARROWER than '..Said'. Prove '..Said' where nothing that the law and all that it calls make is longer than what came in: it says more and counts as full. Else prove '..UptoSaid'. A law counts once. -/
mutual
def uptoBulk {H : Type} : DataW H → Nat
  | .lit (.string bytes) => bytes.length + 1
  | .lit _ => 1
  | .nil => 1
  | .ptr d => uptoBulk d + 1
  | .slice elems spare => uptoBulkAll elems + uptoBulkAll spare + 1
  | .agg parts => uptoBulkAll parts + 1
  | .iface _ d => uptoBulk d + 1
  | .map entries => uptoBulkEntries entries + 1
  | .held _ => 1
def uptoBulkAll {H : Type} : List (DataW H) → Nat
  | [] => 0
  | d :: r => uptoBulk d + uptoBulkAll r
def uptoBulkEntries {H : Type} : List (Lit × DataW H) → Nat
  | [] => 0
  | x :: r => uptoBulkEntry x + uptoBulkEntries r
def uptoBulkEntry {H : Type} : Lit × DataW H → Nat
  | (.string bytes, d) => bytes.length + uptoBulk d + 1
  | (_, d) => uptoBulk d + 1
 end
def uptoSmall : (H : Type) → List (DataW H) → Bool := fun _ ds => decide (uptoBulkAll ds ≤ 1048576)
def OpenSpec.upto (s : _root_.Go.ChangeSpec) : _root_.Go.OpenSpec := { _root_.Go.OpenSpec.ofChange s with cond := some uptoSmall }

/-- 'weirlaw19.StateAll', WHERE WHAT IT READS IS OF BULK AT MOST 1048576: true; the input reads as it did. -/
def stateAllUptoRow : OpenClaim := { program := "ytfdmhpohfjbpfaagreat", sum := "71cfafa5cdefe6c0cf4667ce30e2cf10d5fb034590d2f994d06d25ab353aff19", func := "weir/weirlaw19.StateAll", spec := "stateAll", inPlace := ["slices.overlaps[weir/api.Session]", "slices.overlaps[weir/api.Desk]"], unfollowed := true, recurses := true, plainKeys := false, apart := false, narrowed := true }
def StateAllUptoSaid : Prop := stateAllUptoRow.holds Tryz.pinned (OpenSpec.upto stateAllSpec)

/-- 'weirlaw19.StateCap', WHERE WHAT IT READS IS OF BULK AT MOST 1048576: true; the input reads as it did. -/
def stateCapUptoRow : OpenClaim := { program := "ytfdmhpohfjbpfaagreat", sum := "71cfafa5cdefe6c0cf4667ce30e2cf10d5fb034590d2f994d06d25ab353aff19", func := "weir/weirlaw19.StateCap", spec := "stateCap", inPlace := ["slices.overlaps[weir/api.Session]", "slices.overlaps[weir/api.Desk]"], unfollowed := true, recurses := true, plainKeys := false, apart := false, narrowed := true }
def StateCapUptoSaid : Prop := stateCapUptoRow.holds Tryz.pinned (OpenSpec.upto stateCapSpec)

/-- 'weirlaw19.StateOnce', WHERE WHAT IT READS IS OF BULK AT MOST 1048576: true; the input reads as it did. -/
def stateOnceUptoRow : OpenClaim := { program := "ytfdmhpohfjbpfaagreat", sum := "71cfafa5cdefe6c0cf4667ce30e2cf10d5fb034590d2f994d06d25ab353aff19", func := "weir/weirlaw19.StateOnce", spec := "stateOnce", inPlace := ["slices.overlaps[weir/api.Session]", "slices.overlaps[weir/api.Desk]"], unfollowed := true, recurses := true, plainKeys := false, apart := false, narrowed := true }
def StateOnceUptoSaid : Prop := stateOnceUptoRow.holds Tryz.pinned (OpenSpec.upto stateOnceSpec)

/-- 'weirlaw19.StateFlow', WHERE WHAT IT READS IS OF BULK AT MOST 1048576: true; the input reads as it did. -/
def stateFlowUptoRow : OpenClaim := { program := "ytfdmhpohfjbpfaagreat", sum := "71cfafa5cdefe6c0cf4667ce30e2cf10d5fb034590d2f994d06d25ab353aff19", func := "weir/weirlaw19.StateFlow", spec := "stateFlow", inPlace := ["slices.overlaps[weir/api.Session]", "slices.overlaps[weir/api.Desk]"], unfollowed := true, recurses := true, plainKeys := false, apart := false, narrowed := true }
def StateFlowUptoSaid : Prop := stateFlowUptoRow.holds Tryz.pinned (OpenSpec.upto stateFlowSpec)

end Rows
end Go.Proofs.YtfdmhpohfjbpfaaGreat
