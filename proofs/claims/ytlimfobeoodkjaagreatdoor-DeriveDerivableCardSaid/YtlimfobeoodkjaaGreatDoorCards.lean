/-
  DERIVED. GIVEN WITH THE SEED: THE CARDS: each row of YtlimfobeoodkjaaGreatDoorRows.lean that lists a variable, with what it lists TIED to the program's text (the seventh form; the later family's looks); each row that meets fmt, with fmt's text TOLD by the authors' own Lean function (tested against real Go, not proved from fmt's source: count such statements apart). THE CARD IS WHAT COUNTS. Prove the row's statement (the work); the ties are given (YtlimfobeoodkjaaGreatDoorTie.lean); close each card by the builder's one call (the guide's Derived/Test/ToyasCard.lean, 'card_holds'). Laid BY PROGRAM, IN A SANDBOX (cutbox-door.mjs). By AI agents, Wed Nov 11 2026. No macro, syntax, notation, axiom, sorry.
-/
import Derived.Test.YtlimfobeoodkjaaGreatDoorRows
import GoSem.ClaimSeven
namespace Go.Proofs.YtlimfobeoodkjaaGreatDoor
namespace Rows

/-- THE TIED CARD OF 'lazyclaw12.DeriveDerivable'. -/
def deriveDerivableCard : Claim7 := { stood := { row := deriveDerivableRow, standIns := [], harness := (true, "691f5a3685a4a4fada95bf88e70b22f4ce790a4134e2c41f54ce0f5bb4d559dc"), looks := true }, kinds := [], alts := [], laidByText := true, laidKinds := [.data, .data, .data, .sentinel, .sentinel], laidTests := true, laidLooks := .later }
def DeriveDerivableCardSaid : Prop := Claim7.holds Tryz.pinned (.plain (OpenSpec.ofChange deriveDerivableSpec)) deriveDerivableCard

/-- THE SECOND FORM's CARD OF 'lazyclaw12.DeriveDerivable'. -/
def deriveDerivableUptoCard : Claim7 := { stood := { row := deriveDerivableUptoRow, standIns := [], harness := (true, "691f5a3685a4a4fada95bf88e70b22f4ce790a4134e2c41f54ce0f5bb4d559dc"), looks := true }, kinds := [], alts := [], laidByText := true, laidKinds := [.data, .data, .data, .sentinel, .sentinel], laidTests := true, laidLooks := .later }
def DeriveDerivableUptoCardSaid : Prop := Claim7.holds Tryz.pinned (.plain (OpenSpec.upto deriveDerivableSpec)) deriveDerivableUptoCard
end Rows
end Go.Proofs.YtlimfobeoodkjaaGreatDoor
