/-
  DERIVED. GIVEN WITH THE SEED: THE CARDS: each row of YtpmaoblgedacfaaGreatDoorRows.lean that lists a variable, with what it lists TIED to the program's text (the seventh form; the later family's looks); each row that meets fmt, with fmt's text TOLD by the authors' own Lean function (tested against real Go, not proved from fmt's source: count such statements apart). THE CARD IS WHAT COUNTS. Prove the row's statement (the work); the ties are given (YtpmaoblgedacfaaGreatDoorTie.lean); close each card by the builder's one call (the guide's Derived/Test/ToyasCard.lean, 'card_holds'). Laid BY PROGRAM, IN A SANDBOX (cutbox-door.mjs). By AI agents, Wed Nov 11 2026. No macro, syntax, notation, axiom, sorry.
-/
import Derived.Test.YtpmaoblgedacfaaGreatDoorRows
import GoSem.ClaimSeven
namespace Go.Proofs.YtpmaoblgedacfaaGreatDoor
namespace Rows

/-- THE TIED CARD OF 'latticelaw07.ExprRange'. -/
def exprRangeCard : Claim7 := { stood := { row := exprRangeRow, standIns := [], harness := (true, "e7598d885394b12a3b0fda4b96e1c25395abf200ea46c07071439f46bf31c7ed"), looks := true }, kinds := [], alts := [], laidByText := true, laidKinds := [.data, .data, .data, .data, .sentinel, .sentinel, .pinned, .pinned], laidTests := true, laidLooks := .later }
def ExprRangeCardSaid : Prop := Claim7.holds Tryz.pinned (.plain (OpenSpec.ofChange exprRangeSpec)) exprRangeCard

/-- THE SECOND FORM's CARD OF 'latticelaw07.ExprRange'. -/
def exprRangeUptoCard : Claim7 := { stood := { row := exprRangeUptoRow, standIns := [], harness := (true, "e7598d885394b12a3b0fda4b96e1c25395abf200ea46c07071439f46bf31c7ed"), looks := true }, kinds := [], alts := [], laidByText := true, laidKinds := [.data, .data, .data, .data, .sentinel, .sentinel, .pinned, .pinned], laidTests := true, laidLooks := .later }
def ExprRangeUptoCardSaid : Prop := Claim7.holds Tryz.pinned (.plain (OpenSpec.upto exprRangeSpec)) exprRangeUptoCard
end Rows
end Go.Proofs.YtpmaoblgedacfaaGreatDoor
