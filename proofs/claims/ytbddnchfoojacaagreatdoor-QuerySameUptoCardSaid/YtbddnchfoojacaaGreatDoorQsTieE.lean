/-
  The program's tie, each closed fact by itself. Own text.
-/
import Derived.Test.YtbddnchfoojacaaGreatDoorRows
import Derived.LaidByTextLater
import Derived.SevenTiedAt
import Derived.Test.YtbddnchfoojacaaGreatDoorQsTieA
set_option linter.all false
namespace Go.Proofs.YtbddnchfoojacaaGreatDoor
open Go
set_option maxRecDepth 100000
theorem ti9:∀ os tape,(DataW.laidRun Tryz.prog (varsWorld Tryz.prog 400 681 os tape).memory 8 (laidL.map Prod.fst)).map (fun x:List (String×DataW Unit)×List MemPlace=>decide x.2.Nodup&&laidRowsB Tryz.prog (varsWorld Tryz.prog 400 681 os tape).memory x.2)=some true:=fun _ _=>by kernel_rfl
end Go.Proofs.YtbddnchfoojacaaGreatDoor
