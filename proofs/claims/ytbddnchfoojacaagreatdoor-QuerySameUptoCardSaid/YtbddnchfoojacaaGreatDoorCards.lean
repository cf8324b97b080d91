/-
  DERIVED. GIVEN WITH THE SEED: THE CARDS: each row of YtbddnchfoojacaaGreatDoorRows.lean that lists a variable, with what it lists TIED to the program's text (the seventh form; the later family's looks); each row that meets fmt, with fmt's text TOLD by the authors' own Lean function (tested against real Go, not proved from fmt's source: count such statements apart). THE CARD IS WHAT COUNTS. Prove the row's statement (the work); the ties are given (YtbddnchfoojacaaGreatDoorTie.lean); close each card by the builder's one call (the guide's Derived/Test/ToyasCard.lean, 'card_holds'). Laid BY PROGRAM, IN A SANDBOX (cutbox-door.mjs). By AI agents, Wed Nov 11 2026. No macro, syntax, notation, axiom, sorry.
-/
import Derived.Test.YtbddnchfoojacaaGreatDoorRows
import GoSem.ClaimSeven
namespace Go.Proofs.YtbddnchfoojacaaGreatDoor
namespace Rows

/-- THE TIED CARD OF 'latticelaw10.QuerySame'. -/
def querySameCard : Claim7 := { stood := { row := querySameRow, standIns := [], harness := (true, "19becedcc07d6ef472e4e12dd8f2f89e9cebd307e27e2c343da894573db2f260"), looks := true }, kinds := [], alts := [], laidByText := true, laidKinds := [.pinned, .data, .pinned, .sentinel, .sentinel, .data, .data, .data], laidTests := true, laidLooks := .later }
def QuerySameCardSaid : Prop := Claim7.holds Tryz.pinned (.plain (OpenSpec.ofChange querySameSpec)) querySameCard

/-- THE SECOND FORM's CARD OF 'latticelaw10.QuerySame'. -/
def querySameUptoCard : Claim7 := { stood := { row := querySameUptoRow, standIns := [], harness := (true, "19becedcc07d6ef472e4e12dd8f2f89e9cebd307e27e2c343da894573db2f260"), looks := true }, kinds := [], alts := [], laidByText := true, laidKinds := [.pinned, .data, .pinned, .sentinel, .sentinel, .data, .data, .data], laidTests := true, laidLooks := .later }
def QuerySameUptoCardSaid : Prop := Claim7.holds Tryz.pinned (.plain (OpenSpec.upto querySameSpec)) querySameUptoCard
end Rows
end Go.Proofs.YtbddnchfoojacaaGreatDoor
