/-
  RewriteTexts: the statement's function where the kind is none, or the texts are long. Own text.
-/
import Derived.Test.YtmiepmpifjamoaaGreatDoorW14Law
set_option linter.all false
namespace Go.Proofs.Wk
open Go.RowKit
set_option maxRecDepth 100000
theorem lawBig (k0 a k p q : Int) (bk : Bool) (lb ky : ByteArray) (cd : Int) (w : World) (hn : 1000 < lb.size + ky.size) (hs : lb.size + ky.size ≤ 9223372036854775807)
    (hK : ∀ W, Below w.heap.size w W → Calls Tryz.prog 4 #[] W fun e w' => e = .returned (.bool true) ∧ Below W.heap.size W w') :
    Calls Tryz.prog 3 #[.agg (R27 k0 a k p q bk lb ky cd)] w fun e w' => e = .returned (.bool true) ∧ Below w.heap.size w w' := by
  have HK := Lib.hid hK
  clear hK
  have hB : Below w.heap.size w (w.alloc (.cells (R27 k0 a k p q bk lb ky cd) 27)) := below_alloc (Below.refl _ w) _
  have HB := Lib.hid hB
  clear hB
  go_enter Tryz.func3, Tryz.ntmps3
  go_wp2_with (go_at_call 4; refine (HK.out _ HB.out).mono ?_; rintro e W7 ⟨rfl, hb7⟩)
  go_ret
  exact ⟨rfl, below_call HB.out hb7⟩
theorem lawN (k0 a k p q : Int) (bk : Bool) (lb ky : ByteArray) (cd : Int) (w : World) (h : k0 < 0) (hn : lb.size + ky.size ≤ 1000)
    (hK : ∀ W, Below w.heap.size w W → Calls Tryz.prog 4 #[] W fun e w' => e = .returned (.bool true) ∧ Below W.heap.size W w') :
    Calls Tryz.prog 3 #[.agg (R27 k0 a k p q bk lb ky cd)] w fun e w' => e = .returned (.bool true) ∧ Below w.heap.size w w' := by
  have HK := Lib.hid hK
  clear hK
  have hB : Below w.heap.size w (V3 k0 a k p q bk lb ky cd w) := below_alloc (below_alloc (Below.refl _ w) _) _
  have HB := Lib.hid hB
  clear hB
  have q0 : (k0 == 0) = false := by rw [beq_eq_false_iff_ne]; omega
  have q4 : (k0 == 4) = false := by rw [beq_eq_false_iff_ne]; omega
  go_enter Tryz.func3, Tryz.ntmps3
  go_wp2_with (first
    | (go_at_call 8; refine (rtextN k0 a k p q bk lb ky cd _ h).mono ?_; rintro e W6 ⟨rfl, hb6⟩)
    | (go_at_call 4; refine (HK.out _ (below_call HB.out hb6)).mono ?_; rintro e W7 ⟨rfl, hb7⟩))
  all_goals go_ret
  all_goals exact ⟨rfl, below_call (below_call HB.out hb6) hb7⟩
theorem lawG (k0 a k p q : Int) (bk : Bool) (lb ky : ByteArray) (cd : Int) (w : World) (h0 : ¬ k0 < 0) (h : 4 < k0) (hn : lb.size + ky.size ≤ 1000)
    (hK : ∀ W, Below w.heap.size w W → Calls Tryz.prog 4 #[] W fun e w' => e = .returned (.bool true) ∧ Below W.heap.size W w') :
    Calls Tryz.prog 3 #[.agg (R27 k0 a k p q bk lb ky cd)] w fun e w' => e = .returned (.bool true) ∧ Below w.heap.size w w' := by
  have HK := Lib.hid hK
  clear hK
  have hB : Below w.heap.size w (V3 k0 a k p q bk lb ky cd w) := below_alloc (below_alloc (Below.refl _ w) _) _
  have HB := Lib.hid hB
  clear hB
  have q0 : (k0 == 0) = false := by rw [beq_eq_false_iff_ne]; omega
  have q4 : (k0 == 4) = false := by rw [beq_eq_false_iff_ne]; omega
  go_enter Tryz.func3, Tryz.ntmps3
  go_wp2_with (first
    | (go_at_call 8; refine (rtextG k0 a k p q bk lb ky cd _ h0 h).mono ?_; rintro e W6 ⟨rfl, hb6⟩)
    | (go_at_call 4; refine (HK.out _ (below_call HB.out hb6)).mono ?_; rintro e W7 ⟨rfl, hb7⟩))
  all_goals go_ret
  all_goals exact ⟨rfl, below_call (below_call HB.out hb6) hb7⟩
end Go.Proofs.Wk
