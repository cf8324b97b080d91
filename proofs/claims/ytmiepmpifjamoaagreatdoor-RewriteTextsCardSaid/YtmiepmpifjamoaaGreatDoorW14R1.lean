/-
  A call of works() of layer 14: the run (cutSample). Own text, written by mk14.py.
-/
import Derived.Test.YtmiepmpifjamoaaGreatDoorW14D1
import Derived.Test.YtmiepmpifjamoaaGreatDoorW14Def
set_option linter.all false
namespace Go.Proofs.Tk
open Go.Exo
set_option maxRecDepth 1000000
theorem ok_cutSample : cutB Tryz.prog.globals.size cutSample = true := by rw [globals9]; kernel_rfl
theorem run_cutSample : cutRun Tryz.prog (hkCut cutLex hk14) 1000000 cutSample = true := by kernel_rfl
end Go.Proofs.Tk
