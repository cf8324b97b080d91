/-
  A part of the proof. Own text.
-/
import Derived.Test.YtpmaoblgedacfaaGreatDoorExoI1
import Derived.Test.YtpmaoblgedacfaaGreatDoorTryzShelf
import Derived.Test.YtpmaoblgedacfaaGreatDoorProg
import Derived.KernelRfl
set_option linter.all false
namespace Go.Proofs.Tk
open Go.Exo
/-- the world: all package variables lie, and one of the library's holds some number -/
def Base (w : World) : Prop := 9 ≤ w.heap.size ∧ ∃ m, w.cell? ⟨2, 0, none⟩ = some (.int .i64 m)
theorem globals9 : Tryz.prog.globals.size = 9 := by kernel_rfl
theorem base_gd : Gd0 9 Base where
  keep := fun w w' h ⟨h1, m, hm⟩ => by
    refine ⟨?_, m, ?_⟩
    · have := h 8 (by omega)
      have h2 : w.heap[8]? = some w.heap[8] := Array.getElem?_eq_getElem (by omega)
      rw [h2] at this
      have := (Array.getElem?_eq_some_iff.1 this).1
      omega
    · have hb := h 2 (by omega)
      unfold World.cell? at hm ⊢
      rw [hb]; exact hm
  size := fun w h => h.1
theorem hooksIndex : Hooks Tryz.prog 9 Base (hkIndex 223) := Hooks.index base_gd fun s sub w ⟨_, m, hm⟩ hs => Tryz.stringslite_Index s sub m w hs hm
end Go.Proofs.Tk
