/-
  known() of layer 10 answers true. Own text, written by mk10.py.
-/
import Derived.Test.YtbddnchfoojacaaGreatDoorK10R0
import Derived.Test.YtbddnchfoojacaaGreatDoorK10R1
import Derived.Test.YtbddnchfoojacaaGreatDoorK10R2
import Derived.Test.YtbddnchfoojacaaGreatDoorK10R3
import Derived.Test.YtbddnchfoojacaaGreatDoorK10R4
import Derived.Test.YtbddnchfoojacaaGreatDoorK10R5
import Derived.Test.YtbddnchfoojacaaGreatDoorK10R6
import Derived.Test.YtbddnchfoojacaaGreatDoorK10R7
import Derived.Test.YtbddnchfoojacaaGreatDoorK10R8
import Derived.Test.YtbddnchfoojacaaGreatDoorK92
set_option linter.all false
namespace Go.Proofs.K9
open Go.Exo
set_option maxRecDepth 1000000
theorem hook_t1 {R:Hook}(h:Hooks Tryz.prog 9 Base R):Hooks Tryz.prog 9 Base (hkCut t1 R):=Hooks.cut base_gd hooksI h ok_t1 run_t1
theorem hook_p2 {R:Hook}(h:Hooks Tryz.prog 9 Base R):Hooks Tryz.prog 9 Base (hkCut p2 R):=Hooks.cut base_gd hooksI h ok_p2 run_p2
theorem hook_r2 {R:Hook}(h:Hooks Tryz.prog 9 Base R):Hooks Tryz.prog 9 Base (hkCut r2 R):=Hooks.cut base_gd hooksI h ok_r2 run_r2
theorem hook_t2 {R:Hook}(h:Hooks Tryz.prog 9 Base R):Hooks Tryz.prog 9 Base (hkCut t2 R):=Hooks.cut base_gd (hook_p2 (hook_r2 hooksI)) h ok_t2 run_t2
theorem hook_p3 {R:Hook}(h:Hooks Tryz.prog 9 Base R):Hooks Tryz.prog 9 Base (hkCut p3 R):=Hooks.cut base_gd hooksI h ok_p3 run_p3
theorem hook_do3a {R:Hook}(h:Hooks Tryz.prog 9 Base R):Hooks Tryz.prog 9 Base (hkCut do3a R):=Hooks.cut base_gd hooksI h ok_do3a run_do3a
theorem hook_t3 {R:Hook}(h:Hooks Tryz.prog 9 Base R):Hooks Tryz.prog 9 Base (hkCut t3 R):=Hooks.cut base_gd (hook_p3 (hook_do3a hooksI)) h ok_t3 run_t3
theorem hook_t4 {R:Hook}(h:Hooks Tryz.prog 9 Base R):Hooks Tryz.prog 9 Base (hkCut t4 R):=Hooks.cut base_gd hooksI h ok_t4 run_t4
theorem hook_t5 {R:Hook}(h:Hooks Tryz.prog 9 Base R):Hooks Tryz.prog 9 Base (hkCut t5 R):=Hooks.cut base_gd hooksI h ok_t5 run_t5
theorem run_known:comesTo Tryz.prog (hkCut t5 (hkCut t4 (hkCut t3 (hkCut t2 (hkCut t1 hkI))))) 4 [] 16 1000000 (.bool true)=true:=by kernel_rfl
theorem known:Answers Tryz.prog Base 4 [] (.bool true):=
 answers run_known (hook_t5 (hook_t4 (hook_t3 (hook_t2 (hook_t1 hooksI))))) base_gd (by rw[globals9];decide) (by rw[globals9];decide) (by kernel_rfl) (by kernel_rfl) (fun _=>rfl) rfl
end Go.Proofs.K9
