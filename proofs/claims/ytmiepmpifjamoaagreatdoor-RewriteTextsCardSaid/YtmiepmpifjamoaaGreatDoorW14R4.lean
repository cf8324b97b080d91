/-
  A call of works() of layer 14: the run (cutSharp). Own text, written by mk14.py.
-/
import Derived.Test.YtmiepmpifjamoaaGreatDoorW14D4
import Derived.Test.YtmiepmpifjamoaaGreatDoorW14Def
set_option linter.all false
namespace Go.Proofs.Tk
open Go.Exo
set_option maxRecDepth 1000000
theorem ok_cutSharp : cutB Tryz.prog.globals.size cutSharp = true := by rw [globals9]; kernel_rfl
theorem run_cutSharp : cutRun Tryz.prog (hkCut cutEarly (hkCut cutApply (hkCut cutSample hk14))) 1000000 cutSharp = true := by kernel_rfl
end Go.Proofs.Tk
