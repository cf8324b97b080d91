/-
  Runs of calls in known() of layer 9. Own text, written by mkk9.py.
-/
import Derived.Test.YtjcpnonpiiipgaaGreatDoorK91
set_option linter.all false
namespace Go.Proofs.K9
open Go.Exo
set_option maxRecDepth 1000000
theorem ok_do2a:cutB Tryz.prog.globals.size do2a=true:=by rw[globals9];kernel_rfl
theorem run_do2a:cutRun Tryz.prog hkI0 1000000 do2a=true:=by kernel_rfl
theorem ok_do2b:cutB Tryz.prog.globals.size do2b=true:=by rw[globals9];kernel_rfl
theorem run_do2b:cutRun Tryz.prog hkI 1000000 do2b=true:=by kernel_rfl
theorem ok_done2:cutB Tryz.prog.globals.size done2=true:=by rw[globals9];kernel_rfl
theorem run_done2:cutRun Tryz.prog (hkCut do2b (hkCut do2a (hkCut parse2 hkI))) 1000000 done2=true:=by kernel_rfl
theorem ok_parse3:cutB Tryz.prog.globals.size parse3=true:=by rw[globals9];kernel_rfl
theorem run_parse3:cutRun Tryz.prog hkI 1000000 parse3=true:=by kernel_rfl
end Go.Proofs.K9
