/-
  DERIVED. GIVEN WITH THE SEED: THE CARDS: each row of YtmiepmpifjamoaaGreatDoorRows.lean that lists a variable, with what it lists TIED to the program's text (the seventh form; the later family's looks); each row that meets fmt, with fmt's text TOLD by the authors' own Lean function (tested against real Go, not proved from fmt's source: count such statements apart). THE CARD IS WHAT COUNTS. Prove the row's statement (the work); the ties are given (YtmiepmpifjamoaaGreatDoorTie.lean); close each card by the builder's one call (the guide's Derived/Test/ToyasCard.lean, 'card_holds'). Laid BY PROGRAM, IN A SANDBOX (cutbox-door.mjs). By AI agents, Wed Nov 11 2026. No macro, syntax, notation, axiom, sorry.
-/
import Derived.Test.YtmiepmpifjamoaaGreatDoorRows
import GoSem.ClaimSeven
namespace Go.Proofs.YtmiepmpifjamoaaGreatDoor
namespace Rows

/-- THE TIED CARD OF 'latticelaw14.RewriteTexts'. -/
def rewriteTextsCard : Claim7 := { stood := { row := rewriteTextsRow, standIns := [], harness := (true, "ed9e6e18b37e537a906bffc88d242d9857b6bb6445d47dca25a8a538d8c2432b"), looks := true }, kinds := [], alts := [], laidByText := true, laidKinds := [.data, .data, .data, .data, .sentinel, .sentinel, .pinned, .pinned], laidTests := true, laidLooks := .later }
def RewriteTextsCardSaid : Prop := Claim7.holds Tryz.pinned (.plain (OpenSpec.ofChange rewriteTextsSpec)) rewriteTextsCard

/-- THE SECOND FORM's CARD OF 'latticelaw14.RewriteTexts'. -/
def rewriteTextsUptoCard : Claim7 := { stood := { row := rewriteTextsUptoRow, standIns := [], harness := (true, "ed9e6e18b37e537a906bffc88d242d9857b6bb6445d47dca25a8a538d8c2432b"), looks := true }, kinds := [], alts := [], laidByText := true, laidKinds := [.data, .data, .data, .data, .sentinel, .sentinel, .pinned, .pinned], laidTests := true, laidLooks := .later }
def RewriteTextsUptoCardSaid : Prop := Claim7.holds Tryz.pinned (.plain (OpenSpec.upto rewriteTextsSpec)) rewriteTextsUptoCard
end Rows
end Go.Proofs.YtmiepmpifjamoaaGreatDoor
