/-
  DERIVED. GIVEN WITH THE SEED: THE CARDS: each row of YtkhdcihjlobhfaaDoorRows.lean that lists a variable, with what it lists TIED to the program's text (the seventh form; the later family's looks); each row that meets fmt, with fmt's text TOLD by the authors' own Lean function (tested against real Go, not proved from fmt's source: count such statements apart). THE CARD IS WHAT COUNTS. Prove the row's statement (the work); the ties are given (YtkhdcihjlobhfaaDoorTie.lean); close each card by the builder's one call (the guide's Derived/Test/ToyasCard.lean, 'card_holds'). Laid BY PROGRAM, IN A SANDBOX (cutbox-door.mjs). By AI agents, Wed Nov 11 2026. No macro, syntax, notation, axiom, sorry.
-/
import Derived.Test.YtkhdcihjlobhfaaDoorRows
import GoSem.ClaimSeven
namespace Go.Proofs.YtkhdcihjlobhfaaDoor
namespace Rows

/-- THE TIED CARD OF 'lockstitchlaw02.WordLines'. -/
def wordLinesCard : Claim7 := { stood := { row := wordLinesRow, standIns := [], harness := (true, "75d5eff19c1509c1eda1d8573eb906844fa0ad0c2d5a8586642585742349d703"), looks := true }, kinds := [], alts := [], laidByText := true, laidKinds := [.data, .data, .data, .data, .sentinel, .sentinel, .pinned], laidTests := true, laidLooks := .later }
def WordLinesCardSaid : Prop := Claim7.holds Tryd.pinned (.plain (OpenSpec.ofChange wordLinesSpec)) wordLinesCard

/-- THE TIED CARD OF 'lockstitchlaw02.WordJoins'. -/
def wordJoinsCard : Claim7 := { stood := { row := wordJoinsRow, standIns := [], harness := (true, "75d5eff19c1509c1eda1d8573eb906844fa0ad0c2d5a8586642585742349d703"), looks := true }, kinds := [], alts := [], laidByText := true, laidKinds := [.data, .data, .data, .data, .sentinel, .sentinel, .pinned], laidTests := true, laidLooks := .later }
def WordJoinsCardSaid : Prop := Claim7.holds Tryd.pinned (.plain (OpenSpec.ofChange wordJoinsSpec)) wordJoinsCard

/-- THE TIED CARD OF 'lockstitchlaw02.WordSpaces'. -/
def wordSpacesCard : Claim7 := { stood := { row := wordSpacesRow, standIns := [], harness := (true, "75d5eff19c1509c1eda1d8573eb906844fa0ad0c2d5a8586642585742349d703"), looks := true }, kinds := [], alts := [], laidByText := true, laidKinds := [.data, .data, .data, .data, .sentinel, .sentinel, .pinned], laidTests := true, laidLooks := .later }
def WordSpacesCardSaid : Prop := Claim7.holds Tryd.pinned (.plain (OpenSpec.ofChange wordSpacesSpec)) wordSpacesCard

/-- THE TIED CARD OF 'lockstitchlaw02.WordErrors'. -/
def wordErrorsCard : Claim7 := { stood := { row := wordErrorsRow, standIns := [], harness := (true, "75d5eff19c1509c1eda1d8573eb906844fa0ad0c2d5a8586642585742349d703"), looks := true }, kinds := [], alts := [], laidByText := true, laidKinds := [.data, .data, .data, .data, .sentinel, .sentinel, .pinned], laidTests := true, laidLooks := .later }
def WordErrorsCardSaid : Prop := Claim7.holds Tryd.pinned (.plain (OpenSpec.ofChange wordErrorsSpec)) wordErrorsCard

/-- THE TIED CARD OF 'lockstitchlaw02.WordAgain'. -/
def wordAgainCard : Claim7 := { stood := { row := wordAgainRow, standIns := [], harness := (true, "75d5eff19c1509c1eda1d8573eb906844fa0ad0c2d5a8586642585742349d703"), looks := true }, kinds := [], alts := [], laidByText := true, laidKinds := [.data, .data, .data, .data, .sentinel, .sentinel, .pinned], laidTests := true, laidLooks := .later }
def WordAgainCardSaid : Prop := Claim7.holds Tryd.pinned (.plain (OpenSpec.ofChange wordAgainSpec)) wordAgainCard

/-- THE TIED CARD OF 'lockstitchlaw02.WordTwo'. -/
def wordTwoCard : Claim7 := { stood := { row := wordTwoRow, standIns := [], harness := (true, "75d5eff19c1509c1eda1d8573eb906844fa0ad0c2d5a8586642585742349d703"), looks := true }, kinds := [], alts := [], laidByText := true, laidKinds := [.data, .data, .data, .data, .sentinel, .sentinel, .pinned], laidTests := true, laidLooks := .later }
def WordTwoCardSaid : Prop := Claim7.holds Tryd.pinned (.plain (OpenSpec.ofChange wordTwoSpec)) wordTwoCard

/-- THE TIED CARD OF 'lockstitchlaw02.WordNumbers'. -/
def wordNumbersCard : Claim7 := { stood := { row := wordNumbersRow, standIns := [], harness := (true, "75d5eff19c1509c1eda1d8573eb906844fa0ad0c2d5a8586642585742349d703"), looks := true }, kinds := [], alts := [], laidByText := true, laidKinds := [.data, .data, .data, .data, .sentinel, .sentinel, .pinned], laidTests := true, laidLooks := .later }
def WordNumbersCardSaid : Prop := Claim7.holds Tryd.pinned (.plain (OpenSpec.ofChange wordNumbersSpec)) wordNumbersCard

/-- THE SECOND FORM's CARD OF 'lockstitchlaw02.WordLines'. -/
def wordLinesUptoCard : Claim7 := { stood := { row := wordLinesUptoRow, standIns := [], harness := (true, "75d5eff19c1509c1eda1d8573eb906844fa0ad0c2d5a8586642585742349d703"), looks := true }, kinds := [], alts := [], laidByText := true, laidKinds := [.data, .data, .data, .data, .sentinel, .sentinel, .pinned], laidTests := true, laidLooks := .later }
def WordLinesUptoCardSaid : Prop := Claim7.holds Tryd.pinned (.plain (OpenSpec.upto wordLinesSpec)) wordLinesUptoCard

/-- THE SECOND FORM's CARD OF 'lockstitchlaw02.WordJoins'. -/
def wordJoinsUptoCard : Claim7 := { stood := { row := wordJoinsUptoRow, standIns := [], harness := (true, "75d5eff19c1509c1eda1d8573eb906844fa0ad0c2d5a8586642585742349d703"), looks := true }, kinds := [], alts := [], laidByText := true, laidKinds := [.data, .data, .data, .data, .sentinel, .sentinel, .pinned], laidTests := true, laidLooks := .later }
def WordJoinsUptoCardSaid : Prop := Claim7.holds Tryd.pinned (.plain (OpenSpec.upto wordJoinsSpec)) wordJoinsUptoCard

/-- THE SECOND FORM's CARD OF 'lockstitchlaw02.WordSpaces'. -/
def wordSpacesUptoCard : Claim7 := { stood := { row := wordSpacesUptoRow, standIns := [], harness := (true, "75d5eff19c1509c1eda1d8573eb906844fa0ad0c2d5a8586642585742349d703"), looks := true }, kinds := [], alts := [], laidByText := true, laidKinds := [.data, .data, .data, .data, .sentinel, .sentinel, .pinned], laidTests := true, laidLooks := .later }
def WordSpacesUptoCardSaid : Prop := Claim7.holds Tryd.pinned (.plain (OpenSpec.upto wordSpacesSpec)) wordSpacesUptoCard

/-- THE SECOND FORM's CARD OF 'lockstitchlaw02.WordErrors'. -/
def wordErrorsUptoCard : Claim7 := { stood := { row := wordErrorsUptoRow, standIns := [], harness := (true, "75d5eff19c1509c1eda1d8573eb906844fa0ad0c2d5a8586642585742349d703"), looks := true }, kinds := [], alts := [], laidByText := true, laidKinds := [.data, .data, .data, .data, .sentinel, .sentinel, .pinned], laidTests := true, laidLooks := .later }
def WordErrorsUptoCardSaid : Prop := Claim7.holds Tryd.pinned (.plain (OpenSpec.upto wordErrorsSpec)) wordErrorsUptoCard

/-- THE SECOND FORM's CARD OF 'lockstitchlaw02.WordAgain'. -/
def wordAgainUptoCard : Claim7 := { stood := { row := wordAgainUptoRow, standIns := [], harness := (true, "75d5eff19c1509c1eda1d8573eb906844fa0ad0c2d5a8586642585742349d703"), looks := true }, kinds := [], alts := [], laidByText := true, laidKinds := [.data, .data, .data, .data, .sentinel, .sentinel, .pinned], laidTests := true, laidLooks := .later }
def WordAgainUptoCardSaid : Prop := Claim7.holds Tryd.pinned (.plain (OpenSpec.upto wordAgainSpec)) wordAgainUptoCard

/-- THE SECOND FORM's CARD OF 'lockstitchlaw02.WordTwo'. -/
def wordTwoUptoCard : Claim7 := { stood := { row := wordTwoUptoRow, standIns := [], harness := (true, "75d5eff19c1509c1eda1d8573eb906844fa0ad0c2d5a8586642585742349d703"), looks := true }, kinds := [], alts := [], laidByText := true, laidKinds := [.data, .data, .data, .data, .sentinel, .sentinel, .pinned], laidTests := true, laidLooks := .later }
def WordTwoUptoCardSaid : Prop := Claim7.holds Tryd.pinned (.plain (OpenSpec.upto wordTwoSpec)) wordTwoUptoCard

/-- THE SECOND FORM's CARD OF 'lockstitchlaw02.WordNumbers'. -/
def wordNumbersUptoCard : Claim7 := { stood := { row := wordNumbersUptoRow, standIns := [], harness := (true, "75d5eff19c1509c1eda1d8573eb906844fa0ad0c2d5a8586642585742349d703"), looks := true }, kinds := [], alts := [], laidByText := true, laidKinds := [.data, .data, .data, .data, .sentinel, .sentinel, .pinned], laidTests := true, laidLooks := .later }
def WordNumbersUptoCardSaid : Prop := Claim7.holds Tryd.pinned (.plain (OpenSpec.upto wordNumbersSpec)) wordNumbersUptoCard
end Rows
end Go.Proofs.YtkhdcihjlobhfaaDoor
