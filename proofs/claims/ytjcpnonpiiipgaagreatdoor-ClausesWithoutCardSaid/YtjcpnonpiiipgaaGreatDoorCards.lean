/-
  DERIVED. GIVEN WITH THE SEED: THE CARDS: each row of YtjcpnonpiiipgaaGreatDoorRows.lean that lists a variable, with what it lists TIED to the program's text (the seventh form; the later family's looks); each row that meets fmt, with fmt's text TOLD by the authors' own Lean function (tested against real Go, not proved from fmt's source: count such statements apart). THE CARD IS WHAT COUNTS. Prove the row's statement (the work); the ties are given (YtjcpnonpiiipgaaGreatDoorTie.lean); close each card by the builder's one call (the guide's Derived/Test/ToyasCard.lean, 'card_holds'). Laid BY PROGRAM, IN A SANDBOX (cutbox-door.mjs). By AI agents, Wed Nov 11 2026. No macro, syntax, notation, axiom, sorry.
-/
import Derived.Test.YtjcpnonpiiipgaaGreatDoorRows
import GoSem.ClaimSeven
namespace Go.Proofs.YtjcpnonpiiipgaaGreatDoor
namespace Rows

/-- THE TIED CARD OF 'latticelaw09.ClausesWithout'. -/
def clausesWithoutCard : Claim7 := { stood := { row := clausesWithoutRow, standIns := [], harness := (true, "eca74a5a4783896caf8aaa9928a178af5c706c8119e53cdfb54fccadea7a2c9f"), looks := true }, kinds := [], alts := [], laidByText := true, laidKinds := [.pinned, .data, .pinned, .sentinel, .sentinel, .data, .data, .data], laidTests := true, laidLooks := .later }
def ClausesWithoutCardSaid : Prop := Claim7.holds Tryz.pinned (.plain (OpenSpec.ofChange clausesWithoutSpec)) clausesWithoutCard

/-- THE SECOND FORM's CARD OF 'latticelaw09.ClausesWithout'. -/
def clausesWithoutUptoCard : Claim7 := { stood := { row := clausesWithoutUptoRow, standIns := [], harness := (true, "eca74a5a4783896caf8aaa9928a178af5c706c8119e53cdfb54fccadea7a2c9f"), looks := true }, kinds := [], alts := [], laidByText := true, laidKinds := [.pinned, .data, .pinned, .sentinel, .sentinel, .data, .data, .data], laidTests := true, laidLooks := .later }
def ClausesWithoutUptoCardSaid : Prop := Claim7.holds Tryz.pinned (.plain (OpenSpec.upto clausesWithoutSpec)) clausesWithoutUptoCard
end Rows
end Go.Proofs.YtjcpnonpiiipgaaGreatDoor
