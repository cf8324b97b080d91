/-
  The program's tie, each closed fact by itself. Own text.
-/
import Derived.Test.YtihaakenfdkgnaaGreatDoorRows
import Derived.LaidByTextLater
import Derived.SevenTiedAt
import Derived.Test.YtihaakenfdkgnaaGreatDoorMoTieA
set_option linter.all false
noncomputable section
namespace Go.Proofs.YtihaakenfdkgnaaGreatDoor
open Go
set_option maxRecDepth 100000
theorem ti8:∀ os tape,(DataW.laidRun Tryz.prog (varsWorld Tryz.prog 400 566 os tape).memory 8 (laidL.map Prod.fst)).map (fun y:List (String×DataW Unit)×List MemPlace=>y.1)=some laidL:=fun _ _=>by kernel_rfl
end Go.Proofs.YtihaakenfdkgnaaGreatDoor
end
