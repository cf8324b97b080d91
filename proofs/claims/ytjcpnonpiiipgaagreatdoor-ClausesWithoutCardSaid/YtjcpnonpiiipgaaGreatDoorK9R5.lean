/-
  Runs of calls in known() of layer 9. Own text, written by mkk9.py.
-/
import Derived.Test.YtjcpnonpiiipgaaGreatDoorK91
set_option linter.all false
namespace Go.Proofs.K9
open Go.Exo
set_option maxRecDepth 1000000
theorem ok_do4c:cutB Tryz.prog.globals.size do4c=true:=by rw[globals9];kernel_rfl
theorem run_do4c:cutRun Tryz.prog hkI 1000000 do4c=true:=by kernel_rfl
theorem ok_done4:cutB Tryz.prog.globals.size done4=true:=by rw[globals9];kernel_rfl
theorem run_done4:cutRun Tryz.prog (hkCut do4c (hkCut do4b (hkCut do4a (hkCut parse4 hkI)))) 1000000 done4=true:=by kernel_rfl
theorem ok_parse5:cutB Tryz.prog.globals.size parse5=true:=by rw[globals9];kernel_rfl
theorem run_parse5:cutRun Tryz.prog hkI 1000000 parse5=true:=by kernel_rfl
theorem ok_do5a:cutB Tryz.prog.globals.size do5a=true:=by rw[globals9];kernel_rfl
theorem run_do5a:cutRun Tryz.prog hkI 1000000 do5a=true:=by kernel_rfl
end Go.Proofs.K9
