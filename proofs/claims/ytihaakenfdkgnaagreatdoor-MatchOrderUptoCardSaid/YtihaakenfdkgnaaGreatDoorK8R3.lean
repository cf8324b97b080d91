/-
  A run of a call in known() of layer 8. Own text, written by mk10.py.
-/
import Derived.Test.YtihaakenfdkgnaaGreatDoorPart29
set_option linter.all false
noncomputable section
namespace Go.Proofs.K9
open Go.Exo
set_option maxRecDepth 1000000
theorem ok_f2:cutB Tryz.prog.globals.size f2=true:=by rw[bF];kernel_rfl
theorem run_f2:dq Tryz.prog hkI 1000000 f2=true:=by kernel_rfl
end Go.Proofs.K9
end
