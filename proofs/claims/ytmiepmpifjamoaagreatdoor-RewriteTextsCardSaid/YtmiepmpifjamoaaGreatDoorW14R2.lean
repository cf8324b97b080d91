/-
  A call of works() of layer 14: the run (cutApply). Own text, written by mk14.py.
-/
import Derived.Test.YtmiepmpifjamoaaGreatDoorW14D2
import Derived.Test.YtmiepmpifjamoaaGreatDoorW14Def
set_option linter.all false
namespace Go.Proofs.Tk
open Go.Exo
set_option maxRecDepth 1000000
theorem ok_cutApply : cutB Tryz.prog.globals.size cutApply = true := by rw [globals9]; kernel_rfl
theorem run_cutApply : cutRun Tryz.prog (hkCut cutSample hk14) 1000000 cutApply = true := by kernel_rfl
end Go.Proofs.Tk
