/-
  Runs of calls in known() of layer 9. Own text, written by mkk9.py.
-/
import Derived.Test.YtjcpnonpiiipgaaGreatDoorK91
set_option linter.all false
namespace Go.Proofs.K9
open Go.Exo
set_option maxRecDepth 1000000
theorem ok_tell4:cutB Tryz.prog.globals.size tell4=true:=by rw[globals9];kernel_rfl
theorem run_tell4:cutRun Tryz.prog hkI 1000000 tell4=true:=by kernel_rfl
theorem ok_parse4:cutB Tryz.prog.globals.size parse4=true:=by rw[globals9];kernel_rfl
theorem run_parse4:cutRun Tryz.prog (hkCut tell4 (hkCut lex4 hkI)) 1000000 parse4=true:=by kernel_rfl
theorem ok_do4a:cutB Tryz.prog.globals.size do4a=true:=by rw[globals9];kernel_rfl
theorem run_do4a:cutRun Tryz.prog hkI 1000000 do4a=true:=by kernel_rfl
theorem ok_do4b:cutB Tryz.prog.globals.size do4b=true:=by rw[globals9];kernel_rfl
theorem run_do4b:cutRun Tryz.prog hkI 1000000 do4b=true:=by kernel_rfl
end Go.Proofs.K9
