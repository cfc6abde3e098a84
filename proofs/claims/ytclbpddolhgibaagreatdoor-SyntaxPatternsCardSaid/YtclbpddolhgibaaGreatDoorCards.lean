/-
  DERIVED. GIVEN WITH THE SEED: THE CARDS: each row of YtclbpddolhgibaaGreatDoorRows.lean that lists a variable, with what it lists TIED to the program's text (the seventh form; the later family's looks); each row that meets fmt, with fmt's text TOLD by the authors' own Lean function (tested against real Go, not proved from fmt's source: count such statements apart). THE CARD IS WHAT COUNTS. Prove the row's statement (the work); the ties are given (YtclbpddolhgibaaGreatDoorTie.lean); close each card by the builder's one call (the guide's Derived/Test/ToyasCard.lean, 'card_holds'). Laid BY PROGRAM, IN A SANDBOX (cutbox-door.mjs). By AI agents, Wed Nov 11 2026. No macro, syntax, notation, axiom, sorry.
-/
import Derived.Test.YtclbpddolhgibaaGreatDoorRows
import GoSem.ClaimSeven
namespace Go.Proofs.YtclbpddolhgibaaGreatDoor
namespace Rows

/-- THE TIED CARD OF 'lazyclaw06.SyntaxPatterns'. -/
def syntaxPatternsCard : Claim7 := { stood := { row := syntaxPatternsRow, standIns := [], harness := (true, "7deb44dde9ca637f84d99526c43d9ed19b9971dd2c3ea0f18224c51dc950c63e"), looks := true }, kinds := [], alts := [], laidByText := true, laidKinds := [.data, .data, .data, .sentinel, .sentinel], laidTests := true, laidLooks := .later }
def SyntaxPatternsCardSaid : Prop := Claim7.holds Tryz.pinned (.plain (OpenSpec.ofChange syntaxPatternsSpec)) syntaxPatternsCard

/-- THE SECOND FORM's CARD OF 'lazyclaw06.SyntaxPatterns'. -/
def syntaxPatternsUptoCard : Claim7 := { stood := { row := syntaxPatternsUptoRow, standIns := [], harness := (true, "7deb44dde9ca637f84d99526c43d9ed19b9971dd2c3ea0f18224c51dc950c63e"), looks := true }, kinds := [], alts := [], laidByText := true, laidKinds := [.data, .data, .data, .sentinel, .sentinel], laidTests := true, laidLooks := .later }
def SyntaxPatternsUptoCardSaid : Prop := Claim7.holds Tryz.pinned (.plain (OpenSpec.upto syntaxPatternsSpec)) syntaxPatternsUptoCard
end Rows
end Go.Proofs.YtclbpddolhgibaaGreatDoor
