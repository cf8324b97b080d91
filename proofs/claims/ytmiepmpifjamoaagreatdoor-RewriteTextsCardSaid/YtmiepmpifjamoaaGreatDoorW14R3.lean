/-
  A call of works() of layer 14: the run (cutEarly). Own text, written by mk14.py.
-/
import Derived.Test.YtmiepmpifjamoaaGreatDoorW14D3
import Derived.Test.YtmiepmpifjamoaaGreatDoorW14Def
set_option linter.all false
namespace Go.Proofs.Tk
open Go.Exo
set_option maxRecDepth 1000000
theorem ok_cutEarly : cutB Tryz.prog.globals.size cutEarly = true := by rw [globals9]; kernel_rfl
theorem run_cutEarly : cutRun Tryz.prog (hkCut cutApply (hkCut cutSample hk14)) 1000000 cutEarly = true := by kernel_rfl
end Go.Proofs.Tk
