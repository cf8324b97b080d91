/-
  The chapter's rows stand: works() of layer 14 answers true. Own text, written by mk14.py.
-/
import Derived.Test.YtmiepmpifjamoaaGreatDoorW14R0
import Derived.Test.YtmiepmpifjamoaaGreatDoorW14R1
import Derived.Test.YtmiepmpifjamoaaGreatDoorW14R2
import Derived.Test.YtmiepmpifjamoaaGreatDoorW14R3
import Derived.Test.YtmiepmpifjamoaaGreatDoorW14R4
import Derived.Test.YtmiepmpifjamoaaGreatDoorW14Base
set_option linter.all false
namespace Go.Proofs.Tk
open Go.Exo
set_option maxRecDepth 1000000
theorem hooks_cutLex : Hooks Tryz.prog 9 Base (hkCut cutLex hk14) := Hooks.cut base_gd hooks14 hooks14 ok_cutLex run_cutLex
theorem hooks_cutSample : Hooks Tryz.prog 9 Base (hkCut cutSample hk14) := Hooks.cut base_gd hooks_cutLex hooks14 ok_cutSample run_cutSample
theorem hooks_cutApply : Hooks Tryz.prog 9 Base (hkCut cutApply (hkCut cutSample hk14)) := Hooks.cut base_gd hooks_cutSample hooks_cutSample ok_cutApply run_cutApply
theorem hooks_cutEarly : Hooks Tryz.prog 9 Base (hkCut cutEarly (hkCut cutApply (hkCut cutSample hk14))) := Hooks.cut base_gd hooks_cutApply hooks_cutApply ok_cutEarly run_cutEarly
theorem hooks_cutSharp : Hooks Tryz.prog 9 Base (hkCut cutSharp (hkCut cutEarly (hkCut cutApply (hkCut cutSample hk14)))) := Hooks.cut base_gd hooks_cutEarly hooks_cutEarly ok_cutSharp run_cutSharp
theorem run_works : comesTo Tryz.prog (hkCut cutSharp (hkCut cutEarly (hkCut cutApply (hkCut cutSample hk14)))) 4 [] 16 1000000 (.bool true) = true := by kernel_rfl
/-- works() answers true -/
theorem works : Answers Tryz.prog Base 4 [] (.bool true) :=
  answers run_works hooks_cutSharp base_gd (by rw [globals9]; decide) (by rw [globals9]; decide) (by kernel_rfl) (by kernel_rfl)
end Go.Proofs.Tk
