/-
  Runs of calls in known() of layer 9. Own text, written by mkk9.py.
-/
import Derived.Test.YtjcpnonpiiipgaaGreatDoorK91
set_option linter.all false
namespace Go.Proofs.K9
open Go.Exo
set_option maxRecDepth 1000000
theorem ok_do1a:cutB Tryz.prog.globals.size do1a=true:=by rw[globals9];kernel_rfl
theorem run_do1a:cutRun Tryz.prog hkI0 1000000 do1a=true:=by kernel_rfl
theorem ok_do1b:cutB Tryz.prog.globals.size do1b=true:=by rw[globals9];kernel_rfl
theorem run_do1b:cutRun Tryz.prog hkI0 1000000 do1b=true:=by kernel_rfl
theorem ok_done1:cutB Tryz.prog.globals.size done1=true:=by rw[globals9];kernel_rfl
theorem run_done1:cutRun Tryz.prog (hkCut do1b (hkCut do1a (hkCut parse1 hkI0))) 1000000 done1=true:=by kernel_rfl
theorem ok_parse2:cutB Tryz.prog.globals.size parse2=true:=by rw[globals9];kernel_rfl
theorem run_parse2:cutRun Tryz.prog hkI 1000000 parse2=true:=by kernel_rfl
end Go.Proofs.K9
