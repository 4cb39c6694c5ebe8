/-
  No cell of these rows narrows 'for every input' (looked for: loops, veiled, ifaces, maps, wideKeys, modest, calm, conditions, laid).
  DERIVED. THE GIVEN ROWS OF THIS SEAT. 4 by the template 'for every input the law returns true; each argument reads behind the call as it read before'; 0 by the template 'total and deterministic' (their statements: YtnebibflmlgbbaaTotals.lean).
  GIVEN WITH THE SEED: the statements are not yours to turn. If you find one false, say at which input.
  Laid BY PROGRAM, IN A SANDBOX (cutbox-rows.mjs): the forced cells as the released guide's own fill.sh prints them over the translation 856d4f45ab27853e… (all of the seat's roots in one cut). By AI agents, Wed Nov 11 2026. No macro, syntax, notation, axiom, sorry.
-/
import Derived.Test.YtnebibflmlgbbaaChecked
import GoSem.Claim
import GoSem.ClaimJoined
import GoSem.ClaimMapViews
import Derived.JoinedTies
import Derived.KernelRfl
namespace Go.Proofs.Ytnebibflmlgbbaa
/- THE CELL 'sum', in the pinned program and in every row, IS THE sha256 OF THE DUMP (.gsa) THAT YtnebibflmlgbbaaProg.lean LOADS. Nothing in Lean hashes anything: it is a label: what it is worth is what the hold of that sum in a sandbox is worth. -/
noncomputable def Try.pinned : Pinned := { name := "ytnebibflmlgbbaa", sum := "856d4f45ab27853ed57096da5a107eb2d3cf30ffa89d9b30013a229fb531196d", checked := Try.checked }
namespace Rows
def none {H : Type} : Left H := { results := [], args := [] }

/-- 'weirlaw15.SessionsTell': WHATEVER THE INPUT: true; the input reads as it did. -/
def sessionsTellSpec : ChangeSpec := { name := "sessionsTell", fn := fun _ => fun
  | [d1, d2, d3] => { results := [.lit (.bool true)], args := [d1, d2, d3] }
  | _ => none }
def sessionsTellRow : OpenClaim := { program := "ytnebibflmlgbbaa", sum := "856d4f45ab27853ed57096da5a107eb2d3cf30ffa89d9b30013a229fb531196d", func := "weir/weirlaw15.SessionsTell", spec := "sessionsTell", inPlace := ["slices.overlaps[weir/api.Session]"], unfollowed := true, recurses := true, plainKeys := false, apart := false }
def SessionsTellSaid : Prop := sessionsTellRow.holds Try.pinned (OpenSpec.ofChange sessionsTellSpec)

/-- ITS FALSE NEIGHBOUR: 'it returns false'. Refute it at one input. -/
def sessionsTellWrong : ChangeSpec := { name := "sessionsTell", fn := fun _ => fun
  | [d1, d2, d3] => { results := [.lit (.bool false)], args := [d1, d2, d3] }
  | _ => none }
def SessionsTellWrongFalsely : Prop := sessionsTellRow.holds Try.pinned (OpenSpec.ofChange sessionsTellWrong)

/-- 'weirlaw15.SessionsKeep': WHATEVER THE INPUT: true; the input reads as it did. -/
def sessionsKeepSpec : ChangeSpec := { name := "sessionsKeep", fn := fun _ => fun
  | [d1, d2, d3, d4] => { results := [.lit (.bool true)], args := [d1, d2, d3, d4] }
  | _ => none }
def sessionsKeepRow : OpenClaim := { program := "ytnebibflmlgbbaa", sum := "856d4f45ab27853ed57096da5a107eb2d3cf30ffa89d9b30013a229fb531196d", func := "weir/weirlaw15.SessionsKeep", spec := "sessionsKeep", inPlace := ["slices.overlaps[weir/api.Session]"], unfollowed := true, recurses := true, plainKeys := false, apart := false }
def SessionsKeepSaid : Prop := sessionsKeepRow.holds Try.pinned (OpenSpec.ofChange sessionsKeepSpec)

/-- ITS FALSE NEIGHBOUR: 'it returns false'. Refute it at one input. -/
def sessionsKeepWrong : ChangeSpec := { name := "sessionsKeep", fn := fun _ => fun
  | [d1, d2, d3, d4] => { results := [.lit (.bool false)], args := [d1, d2, d3, d4] }
  | _ => none }
def SessionsKeepWrongFalsely : Prop := sessionsKeepRow.holds Try.pinned (OpenSpec.ofChange sessionsKeepWrong)

/-- 'weirlaw15.SessionsOnce': WHATEVER THE INPUT: true; the input reads as it did. -/
def sessionsOnceSpec : ChangeSpec := { name := "sessionsOnce", fn := fun _ => fun
  | [d1, d2] => { results := [.lit (.bool true)], args := [d1, d2] }
  | _ => none }
def sessionsOnceRow : OpenClaim := { program := "ytnebibflmlgbbaa", sum := "856d4f45ab27853ed57096da5a107eb2d3cf30ffa89d9b30013a229fb531196d", func := "weir/weirlaw15.SessionsOnce", spec := "sessionsOnce", inPlace := ["slices.overlaps[weir/api.Session]"], unfollowed := true, recurses := true, plainKeys := false, apart := false }
def SessionsOnceSaid : Prop := sessionsOnceRow.holds Try.pinned (OpenSpec.ofChange sessionsOnceSpec)

/-- ITS FALSE NEIGHBOUR: 'it returns false'. Refute it at one input. -/
def sessionsOnceWrong : ChangeSpec := { name := "sessionsOnce", fn := fun _ => fun
  | [d1, d2] => { results := [.lit (.bool false)], args := [d1, d2] }
  | _ => none }
def SessionsOnceWrongFalsely : Prop := sessionsOnceRow.holds Try.pinned (OpenSpec.ofChange sessionsOnceWrong)

/-- 'weirlaw15.SessionsApart': WHATEVER THE INPUT: true; the input reads as it did. -/
def sessionsApartSpec : ChangeSpec := { name := "sessionsApart", fn := fun _ => fun
  | [d1, d2, d3, d4, d5, d6] => { results := [.lit (.bool true)], args := [d1, d2, d3, d4, d5, d6] }
  | _ => none }
def sessionsApartRow : OpenClaim := { program := "ytnebibflmlgbbaa", sum := "856d4f45ab27853ed57096da5a107eb2d3cf30ffa89d9b30013a229fb531196d", func := "weir/weirlaw15.SessionsApart", spec := "sessionsApart", inPlace := ["slices.overlaps[weir/api.Session]"], unfollowed := true, recurses := true, plainKeys := false, apart := false }
def SessionsApartSaid : Prop := sessionsApartRow.holds Try.pinned (OpenSpec.ofChange sessionsApartSpec)

/-- ITS FALSE NEIGHBOUR: 'it returns false'. Refute it at one input. -/
def sessionsApartWrong : ChangeSpec := { name := "sessionsApart", fn := fun _ => fun
  | [d1, d2, d3, d4, d5, d6] => { results := [.lit (.bool false)], args := [d1, d2, d3, d4, d5, d6] }
  | _ => none }
def SessionsApartWrongFalsely : Prop := sessionsApartRow.holds Try.pinned (OpenSpec.ofChange sessionsApartWrong)

/- THE SECOND FORM. 'bulk': how many values and letters a reading holds, each counted each time it is reached (what is shared counts as often as it is met; a slice's spare places count too). A statement '..UptoSaid' is the law's where the arguments, and the package variables that the reading takes, are together of bulk at most 1048576: NARROWER than '..Said'. Prove '..Said' where nothing that the law and all that it calls make is longer than what came in: it says more and counts as full. Else prove '..UptoSaid'. A law counts once. -/
mutual
def uptoBulk {H : Type} : DataW H → Nat
  | .lit (.string bytes) => bytes.length + 1
  | .lit _ => 1
  | .nil => 1
  | .ptr d => uptoBulk d + 1
  | .slice elems spare => uptoBulkAll elems + uptoBulkAll spare + 1
  | .agg parts => uptoBulkAll parts + 1
  | .iface _ d => uptoBulk d + 1
  | .map entries => uptoBulkEntries entries + 1
  | .held _ => 1
def uptoBulkAll {H : Type} : List (DataW H) → Nat
  | [] => 0
  | d :: r => uptoBulk d + uptoBulkAll r
def uptoBulkEntries {H : Type} : List (Lit × DataW H) → Nat
  | [] => 0
  | x :: r => uptoBulkEntry x + uptoBulkEntries r
def uptoBulkEntry {H : Type} : Lit × DataW H → Nat
  | (.string bytes, d) => bytes.length + uptoBulk d + 1
  | (_, d) => uptoBulk d + 1
 end
def uptoSmall : (H : Type) → List (DataW H) → Bool := fun _ ds => decide (uptoBulkAll ds ≤ 1048576)
def OpenSpec.upto (s : _root_.Go.ChangeSpec) : _root_.Go.OpenSpec := { _root_.Go.OpenSpec.ofChange s with cond := some uptoSmall }

/-- 'weirlaw15.SessionsTell', WHERE WHAT IT READS IS OF BULK AT MOST 1048576: true; the input reads as it did. -/
def sessionsTellUptoRow : OpenClaim := { program := "ytnebibflmlgbbaa", sum := "856d4f45ab27853ed57096da5a107eb2d3cf30ffa89d9b30013a229fb531196d", func := "weir/weirlaw15.SessionsTell", spec := "sessionsTell", inPlace := ["slices.overlaps[weir/api.Session]"], unfollowed := true, recurses := true, plainKeys := false, apart := false, narrowed := true }
def SessionsTellUptoSaid : Prop := sessionsTellUptoRow.holds Try.pinned (OpenSpec.upto sessionsTellSpec)

/-- 'weirlaw15.SessionsKeep', WHERE WHAT IT READS IS OF BULK AT MOST 1048576: true; the input reads as it did. -/
def sessionsKeepUptoRow : OpenClaim := { program := "ytnebibflmlgbbaa", sum := "856d4f45ab27853ed57096da5a107eb2d3cf30ffa89d9b30013a229fb531196d", func := "weir/weirlaw15.SessionsKeep", spec := "sessionsKeep", inPlace := ["slices.overlaps[weir/api.Session]"], unfollowed := true, recurses := true, plainKeys := false, apart := false, narrowed := true }
def SessionsKeepUptoSaid : Prop := sessionsKeepUptoRow.holds Try.pinned (OpenSpec.upto sessionsKeepSpec)

/-- 'weirlaw15.SessionsOnce', WHERE WHAT IT READS IS OF BULK AT MOST 1048576: true; the input reads as it did. -/
def sessionsOnceUptoRow : OpenClaim := { program := "ytnebibflmlgbbaa", sum := "856d4f45ab27853ed57096da5a107eb2d3cf30ffa89d9b30013a229fb531196d", func := "weir/weirlaw15.SessionsOnce", spec := "sessionsOnce", inPlace := ["slices.overlaps[weir/api.Session]"], unfollowed := true, recurses := true, plainKeys := false, apart := false, narrowed := true }
def SessionsOnceUptoSaid : Prop := sessionsOnceUptoRow.holds Try.pinned (OpenSpec.upto sessionsOnceSpec)

/-- 'weirlaw15.SessionsApart', WHERE WHAT IT READS IS OF BULK AT MOST 1048576: true; the input reads as it did. -/
def sessionsApartUptoRow : OpenClaim := { program := "ytnebibflmlgbbaa", sum := "856d4f45ab27853ed57096da5a107eb2d3cf30ffa89d9b30013a229fb531196d", func := "weir/weirlaw15.SessionsApart", spec := "sessionsApart", inPlace := ["slices.overlaps[weir/api.Session]"], unfollowed := true, recurses := true, plainKeys := false, apart := false, narrowed := true }
def SessionsApartUptoSaid : Prop := sessionsApartUptoRow.holds Try.pinned (OpenSpec.upto sessionsApartSpec)

end Rows
end Go.Proofs.Ytnebibflmlgbbaa
