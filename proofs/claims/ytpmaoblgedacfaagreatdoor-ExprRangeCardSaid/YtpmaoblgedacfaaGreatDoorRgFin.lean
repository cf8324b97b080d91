/-
  ExprRange answers true for every three numbers: the given card. No condition.
-/
import Derived.Test.YtpmaoblgedacfaaGreatDoorRgWalkU
import Derived.Test.YtpmaoblgedacfaaGreatDoorRgWalkD
import Derived.Test.YtpmaoblgedacfaaGreatDoorTryzKnown
import Derived.Test.YtpmaoblgedacfaaGreatDoorFr07
set_option linter.all false
namespace Go.Proofs.YtpmaoblgedacfaaGreatDoor.exprRange
open Go.RowKit
theorem i64_bounds {a : Int} (h : (Lit.int .i64 a).wf = true) : -9223372036854775808 ≤ a ∧ a ≤ 9223372036854775807 := by
  have h1 : IntKind.i64.min = -9223372036854775808 := rfl
  have h2 : IntKind.i64.max = 9223372036854775807 := rfl
  simp only [Lit.wf, Bool.and_eq_true, decide_eq_true_eq] at h
  omega
theorem walk : Walk := by
  intro x y z hx hy hz w hb
  have bx := i64_bounds hx
  have by' := i64_bounds hy
  have bz := i64_bounds hz
  have hbase : Tk.Base w := ⟨hb.size, hb.max⟩
  have hK : ∀ W, Below w.heap.size w W → Calls Tryz.prog 6 #[] W fun e w' => e = .returned (.bool true) ∧ Below W.heap.size W w' := fun W hW =>
    (Tk.known W [] (Tk.base_gd.keep w W (fun b h9 => hW.block b (Nat.lt_of_lt_of_le h9 hb.size)) hbase) .nil).mono fun e w' ⟨v, he, hv, hx⟩ => by
      cases hv
      exact ⟨he, hx.os, hx.tape, hx.output, hx.size, hx.old⟩
  have key : Calls Tryz.prog 3 #[.int .i64 x, .int .i64 y, .int .i64 z] w fun e w' => e = .returned (.bool true) ∧ Below w.heap.size w w' := by
    by_cases h0 : z = 0
    · subst h0; exact Wk.walk_zero x y w bx by' hb.size hK
    · by_cases h1 : 0 < z
      · exact Wk.walk_up x y z h1 w bx by' bz hb.size hK
      · exact Wk.walk_down x y z (by omega) w bx by' bz hb.size hK
  exact key.mono fun e w' ⟨he, hw⟩ => ⟨he, Exo.Ext.of_below hw⟩
theorem exprRange_holds : Rows.ExprRangeCardSaid := card walk
#print axioms exprRange_holds
end Go.Proofs.YtpmaoblgedacfaaGreatDoor.exprRange
