/-
  Runs of calls in known() of layer 9. Own text, written by mkk9.py.
-/
import Derived.Test.YtjcpnonpiiipgaaGreatDoorK91
set_option linter.all false
namespace Go.Proofs.K9
open Go.Exo
set_option maxRecDepth 1000000
theorem ok_do3a:cutB Tryz.prog.globals.size do3a=true:=by rw[globals9];kernel_rfl
theorem run_do3a:cutRun Tryz.prog hkI 1000000 do3a=true:=by kernel_rfl
theorem ok_do3b:cutB Tryz.prog.globals.size do3b=true:=by rw[globals9];kernel_rfl
theorem run_do3b:cutRun Tryz.prog hkI 1000000 do3b=true:=by kernel_rfl
theorem ok_done3:cutB Tryz.prog.globals.size done3=true:=by rw[globals9];kernel_rfl
theorem run_done3:cutRun Tryz.prog (hkCut do3b (hkCut do3a (hkCut parse3 hkI))) 1000000 done3=true:=by kernel_rfl
theorem ok_lex4:cutB Tryz.prog.globals.size lex4=true:=by rw[globals9];kernel_rfl
theorem run_lex4:cutRun Tryz.prog hkI 1000000 lex4=true:=by kernel_rfl
end Go.Proofs.K9
