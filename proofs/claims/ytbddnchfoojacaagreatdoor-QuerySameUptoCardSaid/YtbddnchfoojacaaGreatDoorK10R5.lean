/-
  A run of a call in known() of layer 10. Own text, written by mk10.py.
-/
import Derived.Test.YtbddnchfoojacaaGreatDoorK91
set_option linter.all false
namespace Go.Proofs.K9
open Go.Exo
set_option maxRecDepth 1000000
theorem ok_do3a:cutB Tryz.prog.globals.size do3a=true:=by rw[globals9];kernel_rfl
theorem run_do3a:cutRun Tryz.prog hkI 1000000 do3a=true:=by kernel_rfl
end Go.Proofs.K9
