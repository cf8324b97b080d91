/-
  The program's tie, each closed fact by itself. Own text.
-/
import Derived.Test.YtihaakenfdkgnaaGreatDoorRows
import Derived.LaidByTextLater
import Derived.SevenTiedAt
set_option linter.all false
noncomputable section
namespace Go.Proofs.YtihaakenfdkgnaaGreatDoor
open Go
set_option maxRecDepth 100000
theorem ti7:∀ os tape,varsDone Tryz.prog 400 566 os tape=true:=fun _ _=>by kernel_rfl
end Go.Proofs.YtihaakenfdkgnaaGreatDoor
end
