/-
  DERIVED. GIVEN WITH THE SEED: THE CARDS: each row of YtkboojpkkhiceaaDoorRows.lean that lists a variable, with what it lists TIED to the program's text (the seventh form; the later family's looks); each row that meets fmt, with fmt's text TOLD by the authors' own Lean function (tested against real Go, not proved from fmt's source: count such statements apart). THE CARD IS WHAT COUNTS. Prove the row's statement (the work); the ties are given (YtkboojpkkhiceaaDoorTie.lean); close each card by the builder's one call (the guide's Derived/Test/ToyasCard.lean, 'card_holds'). Laid BY PROGRAM, IN A SANDBOX (cutbox-door.mjs). By AI agents, Wed Nov 11 2026. No macro, syntax, notation, axiom, sorry.
-/
import Derived.Test.YtkboojpkkhiceaaDoorRows
import GoSem.ClaimSeven
namespace Go.Proofs.YtkboojpkkhiceaaDoor
namespace Rows

/-- THE TIED CARD OF 'weirlaw29.HistoryDoes'. -/
def historyDoesCard : Claim7 := { stood := { row := historyDoesRow, standIns := [], harness := (true, "6d583f09387256797392ea162909d5429df8392ed1cf3cb29b7a71cf7ef467cb"), looks := false }, kinds := [], alts := [], laidByText := true, laidKinds := [.data, .data, .data], laidTests := true, laidLooks := .later }
def HistoryDoesCardSaid : Prop := Claim7.holds Tryd.pinned (.plain (OpenSpec.ofChange historyDoesSpec)) historyDoesCard

/-- THE TIED CARD OF 'weirlaw29.HistoryFits'. -/
def historyFitsCard : Claim7 := { stood := { row := historyFitsRow, standIns := [], harness := (true, "6d583f09387256797392ea162909d5429df8392ed1cf3cb29b7a71cf7ef467cb"), looks := false }, kinds := [], alts := [], laidByText := true, laidKinds := [.data, .data, .data], laidTests := true, laidLooks := .later }
def HistoryFitsCardSaid : Prop := Claim7.holds Tryd.pinned (.plain (OpenSpec.ofChange historyFitsSpec)) historyFitsCard

/-- THE TIED CARD OF 'weirlaw29.HistoryOneByOne'. -/
def historyOneByOneCard : Claim7 := { stood := { row := historyOneByOneRow, standIns := [], harness := (true, "6d583f09387256797392ea162909d5429df8392ed1cf3cb29b7a71cf7ef467cb"), looks := false }, kinds := [], alts := [], laidByText := true, laidKinds := [.data, .data, .data], laidTests := true, laidLooks := .later }
def HistoryOneByOneCardSaid : Prop := Claim7.holds Tryd.pinned (.plain (OpenSpec.ofChange historyOneByOneSpec)) historyOneByOneCard

/-- THE TIED CARD OF 'weirlaw29.HistoryTries'. -/
def historyTriesCard : Claim7 := { stood := { row := historyTriesRow, standIns := [], harness := (true, "6d583f09387256797392ea162909d5429df8392ed1cf3cb29b7a71cf7ef467cb"), looks := false }, kinds := [], alts := [], laidByText := true, laidKinds := [.data, .data, .data], laidTests := true, laidLooks := .later }
def HistoryTriesCardSaid : Prop := Claim7.holds Tryd.pinned (.plain (OpenSpec.ofChange historyTriesSpec)) historyTriesCard

/-- THE TIED CARD OF 'weirlaw29.HistoryFound'. -/
def historyFoundCard : Claim7 := { stood := { row := historyFoundRow, standIns := [], harness := (true, "6d583f09387256797392ea162909d5429df8392ed1cf3cb29b7a71cf7ef467cb"), looks := false }, kinds := [], alts := [], laidByText := true, laidKinds := [.data, .data, .data], laidTests := true, laidLooks := .later }
def HistoryFoundCardSaid : Prop := Claim7.holds Tryd.pinned (.plain (OpenSpec.ofChange historyFoundSpec)) historyFoundCard

/-- THE SECOND FORM's CARD OF 'weirlaw29.HistoryDoes'. -/
def historyDoesUptoCard : Claim7 := { stood := { row := historyDoesUptoRow, standIns := [], harness := (true, "6d583f09387256797392ea162909d5429df8392ed1cf3cb29b7a71cf7ef467cb"), looks := false }, kinds := [], alts := [], laidByText := true, laidKinds := [.data, .data, .data], laidTests := true, laidLooks := .later }
def HistoryDoesUptoCardSaid : Prop := Claim7.holds Tryd.pinned (.plain (OpenSpec.upto historyDoesSpec)) historyDoesUptoCard

/-- THE SECOND FORM's CARD OF 'weirlaw29.HistoryFits'. -/
def historyFitsUptoCard : Claim7 := { stood := { row := historyFitsUptoRow, standIns := [], harness := (true, "6d583f09387256797392ea162909d5429df8392ed1cf3cb29b7a71cf7ef467cb"), looks := false }, kinds := [], alts := [], laidByText := true, laidKinds := [.data, .data, .data], laidTests := true, laidLooks := .later }
def HistoryFitsUptoCardSaid : Prop := Claim7.holds Tryd.pinned (.plain (OpenSpec.upto historyFitsSpec)) historyFitsUptoCard

/-- THE SECOND FORM's CARD OF 'weirlaw29.HistoryOneByOne'. -/
def historyOneByOneUptoCard : Claim7 := { stood := { row := historyOneByOneUptoRow, standIns := [], harness := (true, "6d583f09387256797392ea162909d5429df8392ed1cf3cb29b7a71cf7ef467cb"), looks := false }, kinds := [], alts := [], laidByText := true, laidKinds := [.data, .data, .data], laidTests := true, laidLooks := .later }
def HistoryOneByOneUptoCardSaid : Prop := Claim7.holds Tryd.pinned (.plain (OpenSpec.upto historyOneByOneSpec)) historyOneByOneUptoCard

/-- THE SECOND FORM's CARD OF 'weirlaw29.HistoryTries'. -/
def historyTriesUptoCard : Claim7 := { stood := { row := historyTriesUptoRow, standIns := [], harness := (true, "6d583f09387256797392ea162909d5429df8392ed1cf3cb29b7a71cf7ef467cb"), looks := false }, kinds := [], alts := [], laidByText := true, laidKinds := [.data, .data, .data], laidTests := true, laidLooks := .later }
def HistoryTriesUptoCardSaid : Prop := Claim7.holds Tryd.pinned (.plain (OpenSpec.upto historyTriesSpec)) historyTriesUptoCard

/-- THE SECOND FORM's CARD OF 'weirlaw29.HistoryFound'. -/
def historyFoundUptoCard : Claim7 := { stood := { row := historyFoundUptoRow, standIns := [], harness := (true, "6d583f09387256797392ea162909d5429df8392ed1cf3cb29b7a71cf7ef467cb"), looks := false }, kinds := [], alts := [], laidByText := true, laidKinds := [.data, .data, .data], laidTests := true, laidLooks := .later }
def HistoryFoundUptoCardSaid : Prop := Claim7.holds Tryd.pinned (.plain (OpenSpec.upto historyFoundSpec)) historyFoundUptoCard
end Rows
end Go.Proofs.YtkboojpkkhiceaaDoor
