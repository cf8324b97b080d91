/-
  Runs of calls in known() of layer 9. Own text, written by mkk9.py.
-/
import Derived.Test.YtjcpnonpiiipgaaGreatDoorK91
set_option linter.all false
namespace Go.Proofs.K9
open Go.Exo
set_option maxRecDepth 1000000
theorem ok_do5b:cutB Tryz.prog.globals.size do5b=true:=by rw[globals9];kernel_rfl
theorem run_do5b:cutRun Tryz.prog hkI 1000000 do5b=true:=by kernel_rfl
theorem ok_done5:cutB Tryz.prog.globals.size done5=true:=by rw[globals9];kernel_rfl
theorem run_done5:cutRun Tryz.prog (hkCut do5b (hkCut do5a (hkCut parse5 hkI))) 1000000 done5=true:=by kernel_rfl
end Go.Proofs.K9
