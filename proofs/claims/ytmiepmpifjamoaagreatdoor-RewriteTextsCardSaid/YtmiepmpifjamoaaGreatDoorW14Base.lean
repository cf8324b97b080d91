/-
  The world that works() of layer 14 asks for. Own text, written by mk14.py.
-/
import Derived.Test.YtmiepmpifjamoaaGreatDoorExo8
import Derived.Test.YtmiepmpifjamoaaGreatDoorW14Shelf
import Derived.Test.YtmiepmpifjamoaaGreatDoorW14Def
import Derived.Test.YtmiepmpifjamoaaGreatDoorProg
import Derived.KernelRfl
set_option linter.all false
namespace Go.Proofs.Tk
open Go.Exo
/-- the world: all package variables lie, and one of the library's holds some number -/
def Base (w : World) : Prop := 9 ≤ w.heap.size ∧ ∃ m, w.cell? ⟨0, 0, none⟩ = some (.int .i64 m)
theorem base_gd : Gd0 9 Base where
  keep := fun w w' h ⟨h1, m, hm⟩ => by
    refine ⟨?_, m, ?_⟩
    · have := h 8 (by omega)
      have h2 : w.heap[8]? = some w.heap[8] := Array.getElem?_eq_getElem (by omega)
      rw [h2] at this
      have := (Array.getElem?_eq_some_iff.1 this).1
      omega
    · have hb := h 0 (by omega)
      unfold World.cell? at hm ⊢
      rw [hb]; exact hm
  size := fun w h => h.1
theorem hooks14 : Hooks Tryz.prog 9 Base hk14 := Hooks.index base_gd fun s sub w ⟨_, m, hm⟩ hs => Tryz.stringslite_Index s sub m w hs hm
end Go.Proofs.Tk
