/-
  Runs of calls in known() of layer 9. Own text, written by mkk9.py.
-/
import Derived.Test.YtjcpnonpiiipgaaGreatDoorK91
set_option linter.all false
namespace Go.Proofs.K9
open Go.Exo
set_option maxRecDepth 1000000
theorem ok_lex1:cutB Tryz.prog.globals.size lex1=true:=by rw[globals9];kernel_rfl
theorem run_lex1:cutRun Tryz.prog hkI 1000000 lex1=true:=by kernel_rfl
theorem ok_unw1:cutB Tryz.prog.globals.size unw1=true:=by rw[globals9];kernel_rfl
theorem run_unw1:cutRun Tryz.prog hkI 1000000 unw1=true:=by kernel_rfl
theorem ok_tell1:cutB Tryz.prog.globals.size tell1=true:=by rw[globals9];kernel_rfl
theorem run_tell1:cutRun Tryz.prog hkI 1000000 tell1=true:=by kernel_rfl
theorem ok_parse1:cutB Tryz.prog.globals.size parse1=true:=by rw[globals9];kernel_rfl
theorem run_parse1:cutRun Tryz.prog (hkCut tell1 (hkCut unw1 (hkCut lex1 hkI))) 1000000 parse1=true:=by kernel_rfl
end Go.Proofs.K9
