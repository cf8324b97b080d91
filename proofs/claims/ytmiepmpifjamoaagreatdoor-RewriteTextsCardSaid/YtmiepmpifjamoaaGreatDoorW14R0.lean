/-
  A call of works() of layer 14: the run (cutLex). Own text, written by mk14.py.
-/
import Derived.Test.YtmiepmpifjamoaaGreatDoorW14D0
import Derived.Test.YtmiepmpifjamoaaGreatDoorW14Def
set_option linter.all false
namespace Go.Proofs.Tk
open Go.Exo
set_option maxRecDepth 1000000
theorem ok_cutLex : cutB Tryz.prog.globals.size cutLex = true := by rw [globals9]; kernel_rfl
theorem run_cutLex : cutRun Tryz.prog (hk14) 1000000 cutLex = true := by kernel_rfl
end Go.Proofs.Tk
