/-
  The closed facts of the row and of the card of RewriteTexts, one by one. Own text, written by program.
-/
import Derived.Test.YtmiepmpifjamoaaGreatDoorRows
import Derived.Test.YtmiepmpifjamoaaGreatDoorCards
import Derived.JoinedOf
import Derived.SevenTiedAt
import Derived.KernelRfl
set_option linter.all false
namespace Go.Proofs.YtmiepmpifjamoaaGreatDoor.rewriteTexts
set_option maxRecDepth 100000
theorem k_wf : Rows.rewriteTextsRow.wf (OpenSpec.ofChange Rows.rewriteTextsSpec) = true := by kernel_rfl
theorem k_laid : laidOutB Tryz.prog = true := by kernel_rfl
theorem k_maps : mapsRowed Tryz.prog = true := by kernel_rfl
theorem k_read : Tryz.f3.params.all (Tryz.prog.readableRec ·) = true := by kernel_rfl
theorem k_tie : namedTie Tryz.prog Rows.rewriteTextsRow.named Rows.rewriteTextsSpec.vars = true := by kernel_rfl
theorem k_inPlace : (Rows.rewriteTextsRow.inPlace == Tryz.prog.inPlace 3) = true := by kernel_rfl
theorem k_unf : (Rows.rewriteTextsRow.unfollowed == Tryz.prog.unfollowed 3) = true := by kernel_rfl
theorem k_rec : (Rows.rewriteTextsRow.recurses == Tryz.prog.recurses 3) = true := by kernel_rfl
theorem k_named : (Rows.rewriteTextsRow.named == Tryz.prog.varsNamed 3) = true := by kernel_rfl
theorem k_pk : (Rows.rewriteTextsRow.plainKeys == Tryz.prog.plainKeys) = true := by kernel_rfl
theorem k_sh : Tryz.prog.stopsHeard = true := by kernel_rfl
theorem k_me : Tryz.prog.mayEnter = true := by kernel_rfl
theorem k_lf : (Rows.rewriteTextsRow.lifted == Tryz.prog.liftsFinal) = true := by kernel_rfl
theorem k_mk : (Tryz.prog.make == some Rows.rewriteTextsRow.make) = true := by kernel_rfl
theorem k_stops : (Tryz.prog.stops == []) = true := by kernel_rfl
theorem k_knobs : (Tryz.prog.stopKnobs == []) = true := by kernel_rfl
theorem k_own : ownKnob Tryz.prog.godebug = none := by kernel_rfl
theorem k_mainIs : Tryz.prog.mainIs = some (Rows.rewriteTextsCard.stood.harness.1, Rows.rewriteTextsCard.stood.harness.2.toList) := by kernel_rfl
theorem k_looks : true = Tryz.prog.looks [] := by kernel_rfl
theorem k_goes : false = Rows.rewriteTextsRow.goesBy Tryz.prog := by kernel_rfl
theorem k_fnamed : Tryz.prog.funcNamed Rows.rewriteTextsRow.func = some 3 := by kernel_rfl
theorem k_wft : Rows.rewriteTextsRow.wfByText (OpenSpec.ofChange Rows.rewriteTextsSpec) = true := by kernel_rfl
theorem k_inst : Tryz.f3.isInstance Tryz.prog Rows.rewriteTextsRow.origin Rows.rewriteTextsRow.targs := of_decide_eq_true (by kernel_rfl)
theorem closed : joinedFacts Tryz.prog 3 Tryz.f3 Rows.rewriteTextsSpec Rows.rewriteTextsRow = true := by
  unfold joinedFacts
  simp only [Bool.and_eq_true]
  repeat' apply And.intro
  · exact k_wf
  · exact k_laid
  · exact k_maps
  · exact k_read
  · exact k_tie
  · kernel_rfl
  · exact k_stops
  · kernel_rfl
  · exact k_knobs
  · exact k_inPlace
  · exact k_unf
  · exact k_rec
  · exact k_named
  · kernel_rfl
  · kernel_rfl
  · kernel_rfl
  · kernel_rfl
  · kernel_rfl
  · kernel_rfl
  · kernel_rfl
  · kernel_rfl
  · kernel_rfl
  · exact k_pk
  · kernel_rfl
  · exact k_sh
  · exact k_me
  · exact k_lf
  · exact k_mk
  · kernel_rfl
  · kernel_rfl
  · kernel_rfl
  · kernel_rfl
end Go.Proofs.YtmiepmpifjamoaaGreatDoor.rewriteTexts
