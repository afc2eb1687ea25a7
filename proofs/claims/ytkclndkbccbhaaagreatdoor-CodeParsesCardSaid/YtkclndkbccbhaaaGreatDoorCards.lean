/-
  DERIVED. GIVEN WITH THE SEED: THE CARDS: each row of YtkclndkbccbhaaaGreatDoorRows.lean that lists a variable, with what it lists TIED to the program's text (the seventh form; the later family's looks); each row that meets fmt, with fmt's text TOLD by the authors' own Lean function (tested against real Go, not proved from fmt's source: count such statements apart). THE CARD IS WHAT COUNTS. Prove the row's statement (the work); the ties are given (YtkclndkbccbhaaaGreatDoorTie.lean); close each card by the builder's one call (the guide's Derived/Test/ToyasCard.lean, 'card_holds'). Laid BY PROGRAM, IN A SANDBOX (cutbox-door.mjs). By AI agents, Wed Nov 11 2026. No macro, syntax, notation, axiom, sorry.
-/
import Derived.Test.YtkclndkbccbhaaaGreatDoorRows
import GoSem.ClaimSeven
namespace Go.Proofs.YtkclndkbccbhaaaGreatDoor
namespace Rows

/-- THE TIED CARD OF 'lockstitchlaw04.CodePrints'. -/
def codePrintsCard : Claim7 := { stood := { row := codePrintsRow, standIns := [], harness := (true, "765cf7540ba3f2f4c66cad1973933607f44ce62670c408daccb273a6a28cb151"), looks := true }, kinds := [], alts := [], laidByText := true, laidKinds := [.data, .data, .data, .data, .sentinel, .sentinel, .data, .pinned], laidTests := true, laidLooks := .later }
def CodePrintsCardSaid : Prop := Claim7.holds Tryz.pinned (.plain (OpenSpec.ofChange codePrintsSpec)) codePrintsCard

/-- THE TIED CARD OF 'lockstitchlaw04.CodeParses'. -/
def codeParsesCard : Claim7 := { stood := { row := codeParsesRow, standIns := [], harness := (true, "765cf7540ba3f2f4c66cad1973933607f44ce62670c408daccb273a6a28cb151"), looks := true }, kinds := [], alts := [], laidByText := true, laidKinds := [.data, .data, .data, .data, .sentinel, .sentinel, .data, .pinned], laidTests := true, laidLooks := .later }
def CodeParsesCardSaid : Prop := Claim7.holds Tryz.pinned (.plain (OpenSpec.ofChange codeParsesSpec)) codeParsesCard

/-- THE TIED CARD OF 'lockstitchlaw04.CodeAgain'. -/
def codeAgainCard : Claim7 := { stood := { row := codeAgainRow, standIns := [], harness := (true, "765cf7540ba3f2f4c66cad1973933607f44ce62670c408daccb273a6a28cb151"), looks := true }, kinds := [], alts := [], laidByText := true, laidKinds := [.data, .data, .data, .data, .sentinel, .sentinel, .data, .pinned], laidTests := true, laidLooks := .later }
def CodeAgainCardSaid : Prop := Claim7.holds Tryz.pinned (.plain (OpenSpec.ofChange codeAgainSpec)) codeAgainCard

/-- THE TIED CARD OF 'lockstitchlaw04.CodeCounts'. -/
def codeCountsCard : Claim7 := { stood := { row := codeCountsRow, standIns := [], harness := (true, "765cf7540ba3f2f4c66cad1973933607f44ce62670c408daccb273a6a28cb151"), looks := true }, kinds := [], alts := [], laidByText := true, laidKinds := [.data, .data, .data, .data, .sentinel, .sentinel, .data, .pinned], laidTests := true, laidLooks := .later }
def CodeCountsCardSaid : Prop := Claim7.holds Tryz.pinned (.plain (OpenSpec.ofChange codeCountsSpec)) codeCountsCard

/-- THE SECOND FORM's CARD OF 'lockstitchlaw04.CodePrints'. -/
def codePrintsUptoCard : Claim7 := { stood := { row := codePrintsUptoRow, standIns := [], harness := (true, "765cf7540ba3f2f4c66cad1973933607f44ce62670c408daccb273a6a28cb151"), looks := true }, kinds := [], alts := [], laidByText := true, laidKinds := [.data, .data, .data, .data, .sentinel, .sentinel, .data, .pinned], laidTests := true, laidLooks := .later }
def CodePrintsUptoCardSaid : Prop := Claim7.holds Tryz.pinned (.plain (OpenSpec.upto codePrintsSpec)) codePrintsUptoCard

/-- THE SECOND FORM's CARD OF 'lockstitchlaw04.CodeParses'. -/
def codeParsesUptoCard : Claim7 := { stood := { row := codeParsesUptoRow, standIns := [], harness := (true, "765cf7540ba3f2f4c66cad1973933607f44ce62670c408daccb273a6a28cb151"), looks := true }, kinds := [], alts := [], laidByText := true, laidKinds := [.data, .data, .data, .data, .sentinel, .sentinel, .data, .pinned], laidTests := true, laidLooks := .later }
def CodeParsesUptoCardSaid : Prop := Claim7.holds Tryz.pinned (.plain (OpenSpec.upto codeParsesSpec)) codeParsesUptoCard

/-- THE SECOND FORM's CARD OF 'lockstitchlaw04.CodeAgain'. -/
def codeAgainUptoCard : Claim7 := { stood := { row := codeAgainUptoRow, standIns := [], harness := (true, "765cf7540ba3f2f4c66cad1973933607f44ce62670c408daccb273a6a28cb151"), looks := true }, kinds := [], alts := [], laidByText := true, laidKinds := [.data, .data, .data, .data, .sentinel, .sentinel, .data, .pinned], laidTests := true, laidLooks := .later }
def CodeAgainUptoCardSaid : Prop := Claim7.holds Tryz.pinned (.plain (OpenSpec.upto codeAgainSpec)) codeAgainUptoCard

/-- THE SECOND FORM's CARD OF 'lockstitchlaw04.CodeCounts'. -/
def codeCountsUptoCard : Claim7 := { stood := { row := codeCountsUptoRow, standIns := [], harness := (true, "765cf7540ba3f2f4c66cad1973933607f44ce62670c408daccb273a6a28cb151"), looks := true }, kinds := [], alts := [], laidByText := true, laidKinds := [.data, .data, .data, .data, .sentinel, .sentinel, .data, .pinned], laidTests := true, laidLooks := .later }
def CodeCountsUptoCardSaid : Prop := Claim7.holds Tryz.pinned (.plain (OpenSpec.upto codeCountsSpec)) codeCountsUptoCard
end Rows
end Go.Proofs.YtkclndkbccbhaaaGreatDoor
