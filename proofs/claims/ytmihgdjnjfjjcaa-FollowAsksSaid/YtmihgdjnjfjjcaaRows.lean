/-
  No cell of these rows narrows 'for every input' (looked for: loops, veiled, ifaces, maps, wideKeys, modest, calm, conditions, laid).
  DERIVED. THE GIVEN ROWS OF THIS SEAT. 5 by the template 'for every input the law returns true; each argument reads behind the call as it read before'; 0 by the template 'total and deterministic' (their statements: YtmihgdjnjfjjcaaTotals.lean).
  GIVEN WITH THE SEED: the statements are not yours to turn. If you find one false, say at which input.
  Laid BY PROGRAM, IN A SANDBOX (cutbox-rows.mjs): the forced cells as the released guide's own fill.sh prints them over the translation a7d4ae30d2a7548a… (all of the seat's roots in one cut). By AI agents, Wed Nov 11 2026. No macro, syntax, notation, axiom, sorry.
-/
import Derived.Test.YtmihgdjnjfjjcaaChecked
import GoSem.Claim
import GoSem.ClaimJoined
import GoSem.ClaimMapViews
import Derived.JoinedTies
import Derived.KernelRfl
namespace Go.Proofs.Ytmihgdjnjfjjcaa
/- THE CELL 'sum', in the pinned program and in every row, IS THE sha256 OF THE DUMP (.gsa) THAT YtmihgdjnjfjjcaaProg.lean LOADS. Nothing in Lean hashes anything: it is a label: what it is worth is what the hold of that sum in a sandbox is worth. -/
noncomputable def Try.pinned : Pinned := { name := "ytmihgdjnjfjjcaa", sum := "a7d4ae30d2a7548a496679b4ea27cd3249a6aa06518d94ac0bf1cb66f0195c0e", checked := Try.checked }
namespace Rows
def none {H : Type} : Left H := { results := [], args := [] }

/-- 'weirlaw11.FollowCommits': WHATEVER THE INPUT: true; the input reads as it did. -/
def followCommitsSpec : ChangeSpec := { name := "followCommits", fn := fun _ => fun
  | [d1, d2, d3, d4, d5, d6] => { results := [.lit (.bool true)], args := [d1, d2, d3, d4, d5, d6] }
  | _ => none }
def followCommitsRow : OpenClaim := { program := "ytmihgdjnjfjjcaa", sum := "a7d4ae30d2a7548a496679b4ea27cd3249a6aa06518d94ac0bf1cb66f0195c0e", func := "weir/weirlaw11.FollowCommits", spec := "followCommits", unfollowed := true, recurses := true, apart := false }
def FollowCommitsSaid : Prop := followCommitsRow.holds Try.pinned (OpenSpec.ofChange followCommitsSpec)

/-- ITS FALSE NEIGHBOUR: 'it returns false'. Refute it at one input. -/
def followCommitsWrong : ChangeSpec := { name := "followCommits", fn := fun _ => fun
  | [d1, d2, d3, d4, d5, d6] => { results := [.lit (.bool false)], args := [d1, d2, d3, d4, d5, d6] }
  | _ => none }
def FollowCommitsWrongFalsely : Prop := followCommitsRow.holds Try.pinned (OpenSpec.ofChange followCommitsWrong)

/-- 'weirlaw11.FollowCounts': WHATEVER THE INPUT: true; the input reads as it did. -/
def followCountsSpec : ChangeSpec := { name := "followCounts", fn := fun _ => fun
  | [d1, d2, d3, d4, d5, d6] => { results := [.lit (.bool true)], args := [d1, d2, d3, d4, d5, d6] }
  | _ => none }
def followCountsRow : OpenClaim := { program := "ytmihgdjnjfjjcaa", sum := "a7d4ae30d2a7548a496679b4ea27cd3249a6aa06518d94ac0bf1cb66f0195c0e", func := "weir/weirlaw11.FollowCounts", spec := "followCounts", unfollowed := true, recurses := true, apart := false }
def FollowCountsSaid : Prop := followCountsRow.holds Try.pinned (OpenSpec.ofChange followCountsSpec)

/-- ITS FALSE NEIGHBOUR: 'it returns false'. Refute it at one input. -/
def followCountsWrong : ChangeSpec := { name := "followCounts", fn := fun _ => fun
  | [d1, d2, d3, d4, d5, d6] => { results := [.lit (.bool false)], args := [d1, d2, d3, d4, d5, d6] }
  | _ => none }
def FollowCountsWrongFalsely : Prop := followCountsRow.holds Try.pinned (OpenSpec.ofChange followCountsWrong)

/-- 'weirlaw11.FollowComes': WHATEVER THE INPUT: true; the input reads as it did. -/
def followComesSpec : ChangeSpec := { name := "followComes", fn := fun _ => fun
  | [d1, d2, d3] => { results := [.lit (.bool true)], args := [d1, d2, d3] }
  | _ => none }
def followComesRow : OpenClaim := { program := "ytmihgdjnjfjjcaa", sum := "a7d4ae30d2a7548a496679b4ea27cd3249a6aa06518d94ac0bf1cb66f0195c0e", func := "weir/weirlaw11.FollowComes", spec := "followComes", unfollowed := true, recurses := true, apart := false }
def FollowComesSaid : Prop := followComesRow.holds Try.pinned (OpenSpec.ofChange followComesSpec)

/-- ITS FALSE NEIGHBOUR: 'it returns false'. Refute it at one input. -/
def followComesWrong : ChangeSpec := { name := "followComes", fn := fun _ => fun
  | [d1, d2, d3] => { results := [.lit (.bool false)], args := [d1, d2, d3] }
  | _ => none }
def FollowComesWrongFalsely : Prop := followComesRow.holds Try.pinned (OpenSpec.ofChange followComesWrong)

/-- 'weirlaw11.FollowTells': WHATEVER THE INPUT: true; the input reads as it did. -/
def followTellsSpec : ChangeSpec := { name := "followTells", fn := fun _ => fun
  | [d1, d2, d3, d4, d5, d6, d7] => { results := [.lit (.bool true)], args := [d1, d2, d3, d4, d5, d6, d7] }
  | _ => none }
def followTellsRow : OpenClaim := { program := "ytmihgdjnjfjjcaa", sum := "a7d4ae30d2a7548a496679b4ea27cd3249a6aa06518d94ac0bf1cb66f0195c0e", func := "weir/weirlaw11.FollowTells", spec := "followTells", unfollowed := true, recurses := true, apart := false }
def FollowTellsSaid : Prop := followTellsRow.holds Try.pinned (OpenSpec.ofChange followTellsSpec)

/-- ITS FALSE NEIGHBOUR: 'it returns false'. Refute it at one input. -/
def followTellsWrong : ChangeSpec := { name := "followTells", fn := fun _ => fun
  | [d1, d2, d3, d4, d5, d6, d7] => { results := [.lit (.bool false)], args := [d1, d2, d3, d4, d5, d6, d7] }
  | _ => none }
def FollowTellsWrongFalsely : Prop := followTellsRow.holds Try.pinned (OpenSpec.ofChange followTellsWrong)

/-- 'weirlaw11.FollowAsks': WHATEVER THE INPUT: true; the input reads as it did. -/
def followAsksSpec : ChangeSpec := { name := "followAsks", fn := fun _ => fun
  | [d1, d2, d3] => { results := [.lit (.bool true)], args := [d1, d2, d3] }
  | _ => none }
def followAsksRow : OpenClaim := { program := "ytmihgdjnjfjjcaa", sum := "a7d4ae30d2a7548a496679b4ea27cd3249a6aa06518d94ac0bf1cb66f0195c0e", func := "weir/weirlaw11.FollowAsks", spec := "followAsks", unfollowed := true, recurses := true, apart := false }
def FollowAsksSaid : Prop := followAsksRow.holds Try.pinned (OpenSpec.ofChange followAsksSpec)

/-- ITS FALSE NEIGHBOUR: 'it returns false'. Refute it at one input. -/
def followAsksWrong : ChangeSpec := { name := "followAsks", fn := fun _ => fun
  | [d1, d2, d3] => { results := [.lit (.bool false)], args := [d1, d2, d3] }
  | _ => none }
def FollowAsksWrongFalsely : Prop := followAsksRow.holds Try.pinned (OpenSpec.ofChange followAsksWrong)

/- THE SECOND FORM. 'bulk': how many values and letters a reading holds, each counted each time it is reached (what is shared counts as often as it is met; a slice's spare places count too). A statement '..UptoSaid' is the law's where the arguments, and the package variables that the reading takes, are together of bulk at most 1048576: NARROWER than '..Said'. Prove '..Said' where nothing that the law and all that it calls make is longer than what came in: it says more and counts as full. Else prove '..UptoSaid'. A law counts once. -/
mutual
def uptoBulk {H : Type} : DataW H → Nat
  | .lit (.string bytes) => bytes.length + 1
  | .lit _ => 1
  | .nil => 1
  | .ptr d => uptoBulk d + 1
  | .slice elems spare => uptoBulkAll elems + uptoBulkAll spare + 1
  | .agg parts => uptoBulkAll parts + 1
  | .iface _ d => uptoBulk d + 1
  | .map entries => uptoBulkEntries entries + 1
  | .held _ => 1
def uptoBulkAll {H : Type} : List (DataW H) → Nat
  | [] => 0
  | d :: r => uptoBulk d + uptoBulkAll r
def uptoBulkEntries {H : Type} : List (Lit × DataW H) → Nat
  | [] => 0
  | x :: r => uptoBulkEntry x + uptoBulkEntries r
def uptoBulkEntry {H : Type} : Lit × DataW H → Nat
  | (.string bytes, d) => bytes.length + uptoBulk d + 1
  | (_, d) => uptoBulk d + 1
 end
def uptoSmall : (H : Type) → List (DataW H) → Bool := fun _ ds => decide (uptoBulkAll ds ≤ 1048576)
def OpenSpec.upto (s : _root_.Go.ChangeSpec) : _root_.Go.OpenSpec := { _root_.Go.OpenSpec.ofChange s with cond := some uptoSmall }

/-- 'weirlaw11.FollowCommits', WHERE WHAT IT READS IS OF BULK AT MOST 1048576: true; the input reads as it did. -/
def followCommitsUptoRow : OpenClaim := { program := "ytmihgdjnjfjjcaa", sum := "a7d4ae30d2a7548a496679b4ea27cd3249a6aa06518d94ac0bf1cb66f0195c0e", func := "weir/weirlaw11.FollowCommits", spec := "followCommits", unfollowed := true, recurses := true, apart := false, narrowed := true }
def FollowCommitsUptoSaid : Prop := followCommitsUptoRow.holds Try.pinned (OpenSpec.upto followCommitsSpec)

/-- 'weirlaw11.FollowCounts', WHERE WHAT IT READS IS OF BULK AT MOST 1048576: true; the input reads as it did. -/
def followCountsUptoRow : OpenClaim := { program := "ytmihgdjnjfjjcaa", sum := "a7d4ae30d2a7548a496679b4ea27cd3249a6aa06518d94ac0bf1cb66f0195c0e", func := "weir/weirlaw11.FollowCounts", spec := "followCounts", unfollowed := true, recurses := true, apart := false, narrowed := true }
def FollowCountsUptoSaid : Prop := followCountsUptoRow.holds Try.pinned (OpenSpec.upto followCountsSpec)

/-- 'weirlaw11.FollowComes', WHERE WHAT IT READS IS OF BULK AT MOST 1048576: true; the input reads as it did. -/
def followComesUptoRow : OpenClaim := { program := "ytmihgdjnjfjjcaa", sum := "a7d4ae30d2a7548a496679b4ea27cd3249a6aa06518d94ac0bf1cb66f0195c0e", func := "weir/weirlaw11.FollowComes", spec := "followComes", unfollowed := true, recurses := true, apart := false, narrowed := true }
def FollowComesUptoSaid : Prop := followComesUptoRow.holds Try.pinned (OpenSpec.upto followComesSpec)

/-- 'weirlaw11.FollowTells', WHERE WHAT IT READS IS OF BULK AT MOST 1048576: true; the input reads as it did. -/
def followTellsUptoRow : OpenClaim := { program := "ytmihgdjnjfjjcaa", sum := "a7d4ae30d2a7548a496679b4ea27cd3249a6aa06518d94ac0bf1cb66f0195c0e", func := "weir/weirlaw11.FollowTells", spec := "followTells", unfollowed := true, recurses := true, apart := false, narrowed := true }
def FollowTellsUptoSaid : Prop := followTellsUptoRow.holds Try.pinned (OpenSpec.upto followTellsSpec)

/-- 'weirlaw11.FollowAsks', WHERE WHAT IT READS IS OF BULK AT MOST 1048576: true; the input reads as it did. -/
def followAsksUptoRow : OpenClaim := { program := "ytmihgdjnjfjjcaa", sum := "a7d4ae30d2a7548a496679b4ea27cd3249a6aa06518d94ac0bf1cb66f0195c0e", func := "weir/weirlaw11.FollowAsks", spec := "followAsks", unfollowed := true, recurses := true, apart := false, narrowed := true }
def FollowAsksUptoSaid : Prop := followAsksUptoRow.holds Try.pinned (OpenSpec.upto followAsksSpec)

end Rows
end Go.Proofs.Ytmihgdjnjfjjcaa
