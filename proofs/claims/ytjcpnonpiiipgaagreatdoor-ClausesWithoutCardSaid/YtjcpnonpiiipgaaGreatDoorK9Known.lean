/-
  known() of layer 9 answers true. Own text, written by mkk9.py.
-/
import Derived.Test.YtjcpnonpiiipgaaGreatDoorK9R0
import Derived.Test.YtjcpnonpiiipgaaGreatDoorK9R1
import Derived.Test.YtjcpnonpiiipgaaGreatDoorK9R2
import Derived.Test.YtjcpnonpiiipgaaGreatDoorK9R3
import Derived.Test.YtjcpnonpiiipgaaGreatDoorK9R4
import Derived.Test.YtjcpnonpiiipgaaGreatDoorK9R5
import Derived.Test.YtjcpnonpiiipgaaGreatDoorK9R6
import Derived.Test.YtjcpnonpiiipgaaGreatDoorK92
set_option linter.all false
namespace Go.Proofs.K9
open Go.Exo
set_option maxRecDepth 1000000
theorem hook_lex1 {R:Hook}(h:Hooks Tryz.prog 9 Base R):Hooks Tryz.prog 9 Base (hkCut lex1 R):=Hooks.cut base_gd hooksI h ok_lex1 run_lex1
theorem hook_unw1 {R:Hook}(h:Hooks Tryz.prog 9 Base R):Hooks Tryz.prog 9 Base (hkCut unw1 R):=Hooks.cut base_gd hooksI h ok_unw1 run_unw1
theorem hook_tell1 {R:Hook}(h:Hooks Tryz.prog 9 Base R):Hooks Tryz.prog 9 Base (hkCut tell1 R):=Hooks.cut base_gd hooksI h ok_tell1 run_tell1
theorem hook_parse1 {R:Hook}(h:Hooks Tryz.prog 9 Base R):Hooks Tryz.prog 9 Base (hkCut parse1 R):=Hooks.cut base_gd (hook_tell1 (hook_unw1 (hook_lex1 hooksI))) h ok_parse1 run_parse1
theorem hook_do1a {R:Hook}(h:Hooks Tryz.prog 9 Base R):Hooks Tryz.prog 9 Base (hkCut do1a R):=Hooks.cut base_gd hooksI0 h ok_do1a run_do1a
theorem hook_do1b {R:Hook}(h:Hooks Tryz.prog 9 Base R):Hooks Tryz.prog 9 Base (hkCut do1b R):=Hooks.cut base_gd hooksI0 h ok_do1b run_do1b
theorem hook_done1 {R:Hook}(h:Hooks Tryz.prog 9 Base R):Hooks Tryz.prog 9 Base (hkCut done1 R):=Hooks.cut base_gd (hook_do1b (hook_do1a (hook_parse1 hooksI0))) h ok_done1 run_done1
theorem hook_parse2 {R:Hook}(h:Hooks Tryz.prog 9 Base R):Hooks Tryz.prog 9 Base (hkCut parse2 R):=Hooks.cut base_gd hooksI h ok_parse2 run_parse2
theorem hook_do2a {R:Hook}(h:Hooks Tryz.prog 9 Base R):Hooks Tryz.prog 9 Base (hkCut do2a R):=Hooks.cut base_gd hooksI0 h ok_do2a run_do2a
theorem hook_do2b {R:Hook}(h:Hooks Tryz.prog 9 Base R):Hooks Tryz.prog 9 Base (hkCut do2b R):=Hooks.cut base_gd hooksI h ok_do2b run_do2b
theorem hook_done2 {R:Hook}(h:Hooks Tryz.prog 9 Base R):Hooks Tryz.prog 9 Base (hkCut done2 R):=Hooks.cut base_gd (hook_do2b (hook_do2a (hook_parse2 hooksI))) h ok_done2 run_done2
theorem hook_parse3 {R:Hook}(h:Hooks Tryz.prog 9 Base R):Hooks Tryz.prog 9 Base (hkCut parse3 R):=Hooks.cut base_gd hooksI h ok_parse3 run_parse3
theorem hook_do3a {R:Hook}(h:Hooks Tryz.prog 9 Base R):Hooks Tryz.prog 9 Base (hkCut do3a R):=Hooks.cut base_gd hooksI h ok_do3a run_do3a
theorem hook_do3b {R:Hook}(h:Hooks Tryz.prog 9 Base R):Hooks Tryz.prog 9 Base (hkCut do3b R):=Hooks.cut base_gd hooksI h ok_do3b run_do3b
theorem hook_done3 {R:Hook}(h:Hooks Tryz.prog 9 Base R):Hooks Tryz.prog 9 Base (hkCut done3 R):=Hooks.cut base_gd (hook_do3b (hook_do3a (hook_parse3 hooksI))) h ok_done3 run_done3
theorem hook_lex4 {R:Hook}(h:Hooks Tryz.prog 9 Base R):Hooks Tryz.prog 9 Base (hkCut lex4 R):=Hooks.cut base_gd hooksI h ok_lex4 run_lex4
theorem hook_tell4 {R:Hook}(h:Hooks Tryz.prog 9 Base R):Hooks Tryz.prog 9 Base (hkCut tell4 R):=Hooks.cut base_gd hooksI h ok_tell4 run_tell4
theorem hook_parse4 {R:Hook}(h:Hooks Tryz.prog 9 Base R):Hooks Tryz.prog 9 Base (hkCut parse4 R):=Hooks.cut base_gd (hook_tell4 (hook_lex4 hooksI)) h ok_parse4 run_parse4
theorem hook_do4a {R:Hook}(h:Hooks Tryz.prog 9 Base R):Hooks Tryz.prog 9 Base (hkCut do4a R):=Hooks.cut base_gd hooksI h ok_do4a run_do4a
theorem hook_do4b {R:Hook}(h:Hooks Tryz.prog 9 Base R):Hooks Tryz.prog 9 Base (hkCut do4b R):=Hooks.cut base_gd hooksI h ok_do4b run_do4b
theorem hook_do4c {R:Hook}(h:Hooks Tryz.prog 9 Base R):Hooks Tryz.prog 9 Base (hkCut do4c R):=Hooks.cut base_gd hooksI h ok_do4c run_do4c
theorem hook_done4 {R:Hook}(h:Hooks Tryz.prog 9 Base R):Hooks Tryz.prog 9 Base (hkCut done4 R):=Hooks.cut base_gd (hook_do4c (hook_do4b (hook_do4a (hook_parse4 hooksI)))) h ok_done4 run_done4
theorem hook_parse5 {R:Hook}(h:Hooks Tryz.prog 9 Base R):Hooks Tryz.prog 9 Base (hkCut parse5 R):=Hooks.cut base_gd hooksI h ok_parse5 run_parse5
theorem hook_do5a {R:Hook}(h:Hooks Tryz.prog 9 Base R):Hooks Tryz.prog 9 Base (hkCut do5a R):=Hooks.cut base_gd hooksI h ok_do5a run_do5a
theorem hook_do5b {R:Hook}(h:Hooks Tryz.prog 9 Base R):Hooks Tryz.prog 9 Base (hkCut do5b R):=Hooks.cut base_gd hooksI h ok_do5b run_do5b
theorem hook_done5 {R:Hook}(h:Hooks Tryz.prog 9 Base R):Hooks Tryz.prog 9 Base (hkCut done5 R):=Hooks.cut base_gd (hook_do5b (hook_do5a (hook_parse5 hooksI))) h ok_done5 run_done5
theorem run_known:comesTo Tryz.prog (hkCut done5 (hkCut done4 (hkCut done3 (hkCut done2 (hkCut done1 hkI))))) 6 [] 16 1000000 (.bool true)=true:=by kernel_rfl
theorem known:Answers Tryz.prog Base 6 [] (.bool true):=
 answers run_known (hook_done5 (hook_done4 (hook_done3 (hook_done2 (hook_done1 hooksI))))) base_gd (by rw[globals9];decide) (by rw[globals9];decide) (by kernel_rfl) (by kernel_rfl) (fun _=>rfl) rfl
end Go.Proofs.K9
