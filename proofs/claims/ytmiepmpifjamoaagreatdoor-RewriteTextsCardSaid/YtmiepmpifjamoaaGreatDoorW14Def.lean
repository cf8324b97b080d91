/-
  The hook for the place of a text in another. Own text, written by mk14.py.
-/
import Derived.Test.YtmiepmpifjamoaaGreatDoorExo8
import Derived.Test.YtmiepmpifjamoaaGreatDoorProg
import Derived.KernelRfl
set_option linter.all false
namespace Go.Proofs.Tk
open Go.Exo
theorem globals9 : Tryz.prog.globals.size = 9 := by kernel_rfl
noncomputable def hk14 : Hook := hkIndex 312
end Go.Proofs.Tk
