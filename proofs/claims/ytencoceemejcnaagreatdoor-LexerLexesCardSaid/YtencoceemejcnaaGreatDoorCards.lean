/-
  DERIVED. GIVEN WITH THE SEED: THE CARDS: each row of YtencoceemejcnaaGreatDoorRows.lean that lists a variable, with what it lists TIED to the program's text (the seventh form; the later family's looks); each row that meets fmt, with fmt's text TOLD by the authors' own Lean function (tested against real Go, not proved from fmt's source: count such statements apart). THE CARD IS WHAT COUNTS. Prove the row's statement (the work); the ties are given (YtencoceemejcnaaGreatDoorTie.lean); close each card by the builder's one call (the guide's Derived/Test/ToyasCard.lean, 'card_holds'). Laid BY PROGRAM, IN A SANDBOX (cutbox-door.mjs). By AI agents, Wed Nov 11 2026. No macro, syntax, notation, axiom, sorry.
-/
import Derived.Test.YtencoceemejcnaaGreatDoorRows
import GoSem.ClaimSeven
namespace Go.Proofs.YtencoceemejcnaaGreatDoor
namespace Rows

/-- THE TIED CARD OF 'lazyclaw02.LexerLexes'. -/
def lexerLexesCard : Claim7 := { stood := { row := lexerLexesRow, standIns := [], harness := (true, "641a6eedb85e9fcdfc4a04b463ac295cc2ee5868a244e0a5b5af0ed3d49ea37c"), looks := true }, kinds := [], alts := [], laidByText := true, laidKinds := [.data, .data, .data, .data, .sentinel, .sentinel, .pinned], laidTests := true, laidLooks := .later }
def LexerLexesCardSaid : Prop := Claim7.holds Tryz.pinned (.plain (OpenSpec.ofChange lexerLexesSpec)) lexerLexesCard

/-- THE TIED CARD OF 'lazyclaw02.LexerLimits'. -/
def lexerLimitsCard : Claim7 := { stood := { row := lexerLimitsRow, standIns := [], harness := (true, "641a6eedb85e9fcdfc4a04b463ac295cc2ee5868a244e0a5b5af0ed3d49ea37c"), looks := true }, kinds := [], alts := [], laidByText := true, laidKinds := [.data, .data, .data, .data, .sentinel, .sentinel, .pinned], laidTests := true, laidLooks := .later }
def LexerLimitsCardSaid : Prop := Claim7.holds Tryz.pinned (.plain (OpenSpec.ofChange lexerLimitsSpec)) lexerLimitsCard

/-- THE TIED CARD OF 'lazyclaw02.LexerRenders'. -/
def lexerRendersCard : Claim7 := { stood := { row := lexerRendersRow, standIns := [], harness := (true, "641a6eedb85e9fcdfc4a04b463ac295cc2ee5868a244e0a5b5af0ed3d49ea37c"), looks := true }, kinds := [], alts := [], laidByText := true, laidKinds := [.data, .data, .data, .data, .sentinel, .sentinel, .pinned], laidTests := true, laidLooks := .later }
def LexerRendersCardSaid : Prop := Claim7.holds Tryz.pinned (.plain (OpenSpec.ofChange lexerRendersSpec)) lexerRendersCard

/-- THE TIED CARD OF 'lazyclaw02.LexerRoundTrip'. -/
def lexerRoundTripCard : Claim7 := { stood := { row := lexerRoundTripRow, standIns := [], harness := (true, "641a6eedb85e9fcdfc4a04b463ac295cc2ee5868a244e0a5b5af0ed3d49ea37c"), looks := true }, kinds := [], alts := [], laidByText := true, laidKinds := [.data, .data, .data, .data, .sentinel, .sentinel, .pinned], laidTests := true, laidLooks := .later }
def LexerRoundTripCardSaid : Prop := Claim7.holds Tryz.pinned (.plain (OpenSpec.ofChange lexerRoundTripSpec)) lexerRoundTripCard

/-- THE TIED CARD OF 'lazyclaw02.LexerSame'. -/
def lexerSameCard : Claim7 := { stood := { row := lexerSameRow, standIns := [], harness := (true, "641a6eedb85e9fcdfc4a04b463ac295cc2ee5868a244e0a5b5af0ed3d49ea37c"), looks := true }, kinds := [], alts := [], laidByText := true, laidKinds := [.data, .data, .data, .data, .sentinel, .sentinel, .pinned], laidTests := true, laidLooks := .later }
def LexerSameCardSaid : Prop := Claim7.holds Tryz.pinned (.plain (OpenSpec.ofChange lexerSameSpec)) lexerSameCard

/-- THE TIED CARD OF 'lazyclaw02.LexerQuotes'. -/
def lexerQuotesCard : Claim7 := { stood := { row := lexerQuotesRow, standIns := [], harness := (true, "641a6eedb85e9fcdfc4a04b463ac295cc2ee5868a244e0a5b5af0ed3d49ea37c"), looks := true }, kinds := [], alts := [], laidByText := true, laidKinds := [.data, .data, .data, .data, .sentinel, .sentinel, .pinned], laidTests := true, laidLooks := .later }
def LexerQuotesCardSaid : Prop := Claim7.holds Tryz.pinned (.plain (OpenSpec.ofChange lexerQuotesSpec)) lexerQuotesCard

/-- THE TIED CARD OF 'lazyclaw02.LexerBlanks'. -/
def lexerBlanksCard : Claim7 := { stood := { row := lexerBlanksRow, standIns := [], harness := (true, "641a6eedb85e9fcdfc4a04b463ac295cc2ee5868a244e0a5b5af0ed3d49ea37c"), looks := true }, kinds := [], alts := [], laidByText := true, laidKinds := [.data, .data, .data, .data, .sentinel, .sentinel, .pinned], laidTests := true, laidLooks := .later }
def LexerBlanksCardSaid : Prop := Claim7.holds Tryz.pinned (.plain (OpenSpec.ofChange lexerBlanksSpec)) lexerBlanksCard

/-- THE SECOND FORM's CARD OF 'lazyclaw02.LexerLexes'. -/
def lexerLexesUptoCard : Claim7 := { stood := { row := lexerLexesUptoRow, standIns := [], harness := (true, "641a6eedb85e9fcdfc4a04b463ac295cc2ee5868a244e0a5b5af0ed3d49ea37c"), looks := true }, kinds := [], alts := [], laidByText := true, laidKinds := [.data, .data, .data, .data, .sentinel, .sentinel, .pinned], laidTests := true, laidLooks := .later }
def LexerLexesUptoCardSaid : Prop := Claim7.holds Tryz.pinned (.plain (OpenSpec.upto lexerLexesSpec)) lexerLexesUptoCard

/-- THE SECOND FORM's CARD OF 'lazyclaw02.LexerLimits'. -/
def lexerLimitsUptoCard : Claim7 := { stood := { row := lexerLimitsUptoRow, standIns := [], harness := (true, "641a6eedb85e9fcdfc4a04b463ac295cc2ee5868a244e0a5b5af0ed3d49ea37c"), looks := true }, kinds := [], alts := [], laidByText := true, laidKinds := [.data, .data, .data, .data, .sentinel, .sentinel, .pinned], laidTests := true, laidLooks := .later }
def LexerLimitsUptoCardSaid : Prop := Claim7.holds Tryz.pinned (.plain (OpenSpec.upto lexerLimitsSpec)) lexerLimitsUptoCard

/-- THE SECOND FORM's CARD OF 'lazyclaw02.LexerRenders'. -/
def lexerRendersUptoCard : Claim7 := { stood := { row := lexerRendersUptoRow, standIns := [], harness := (true, "641a6eedb85e9fcdfc4a04b463ac295cc2ee5868a244e0a5b5af0ed3d49ea37c"), looks := true }, kinds := [], alts := [], laidByText := true, laidKinds := [.data, .data, .data, .data, .sentinel, .sentinel, .pinned], laidTests := true, laidLooks := .later }
def LexerRendersUptoCardSaid : Prop := Claim7.holds Tryz.pinned (.plain (OpenSpec.upto lexerRendersSpec)) lexerRendersUptoCard

/-- THE SECOND FORM's CARD OF 'lazyclaw02.LexerRoundTrip'. -/
def lexerRoundTripUptoCard : Claim7 := { stood := { row := lexerRoundTripUptoRow, standIns := [], harness := (true, "641a6eedb85e9fcdfc4a04b463ac295cc2ee5868a244e0a5b5af0ed3d49ea37c"), looks := true }, kinds := [], alts := [], laidByText := true, laidKinds := [.data, .data, .data, .data, .sentinel, .sentinel, .pinned], laidTests := true, laidLooks := .later }
def LexerRoundTripUptoCardSaid : Prop := Claim7.holds Tryz.pinned (.plain (OpenSpec.upto lexerRoundTripSpec)) lexerRoundTripUptoCard

/-- THE SECOND FORM's CARD OF 'lazyclaw02.LexerSame'. -/
def lexerSameUptoCard : Claim7 := { stood := { row := lexerSameUptoRow, standIns := [], harness := (true, "641a6eedb85e9fcdfc4a04b463ac295cc2ee5868a244e0a5b5af0ed3d49ea37c"), looks := true }, kinds := [], alts := [], laidByText := true, laidKinds := [.data, .data, .data, .data, .sentinel, .sentinel, .pinned], laidTests := true, laidLooks := .later }
def LexerSameUptoCardSaid : Prop := Claim7.holds Tryz.pinned (.plain (OpenSpec.upto lexerSameSpec)) lexerSameUptoCard

/-- THE SECOND FORM's CARD OF 'lazyclaw02.LexerQuotes'. -/
def lexerQuotesUptoCard : Claim7 := { stood := { row := lexerQuotesUptoRow, standIns := [], harness := (true, "641a6eedb85e9fcdfc4a04b463ac295cc2ee5868a244e0a5b5af0ed3d49ea37c"), looks := true }, kinds := [], alts := [], laidByText := true, laidKinds := [.data, .data, .data, .data, .sentinel, .sentinel, .pinned], laidTests := true, laidLooks := .later }
def LexerQuotesUptoCardSaid : Prop := Claim7.holds Tryz.pinned (.plain (OpenSpec.upto lexerQuotesSpec)) lexerQuotesUptoCard

/-- THE SECOND FORM's CARD OF 'lazyclaw02.LexerBlanks'. -/
def lexerBlanksUptoCard : Claim7 := { stood := { row := lexerBlanksUptoRow, standIns := [], harness := (true, "641a6eedb85e9fcdfc4a04b463ac295cc2ee5868a244e0a5b5af0ed3d49ea37c"), looks := true }, kinds := [], alts := [], laidByText := true, laidKinds := [.data, .data, .data, .data, .sentinel, .sentinel, .pinned], laidTests := true, laidLooks := .later }
def LexerBlanksUptoCardSaid : Prop := Claim7.holds Tryz.pinned (.plain (OpenSpec.upto lexerBlanksSpec)) lexerBlanksUptoCard
end Rows
end Go.Proofs.YtencoceemejcnaaGreatDoor
