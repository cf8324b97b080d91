/-
  ExprRange: the walk of the statement's function, for steps of one sign. Own text, written by mkwalk.py.
-/
import Derived.Test.YtpmaoblgedacfaaGreatDoorRgWalk
set_option linter.all false
namespace Go.Proofs.Wk
open Go.RowKit
set_option maxRecDepth 100000
theorem walk_down_q {x z m q : Int} (HM : Hid (m = x + z * q)) : Hid (m + z = x + z * (q + 1)) := by
  unfold Hid; rw [HM.out, Int.mul_add]; omega
set_option maxHeartbeats 8000000 in
theorem walk_down (x y z : Int) (hs : z < 0) (w : World)
    (hx : -9223372036854775808 ≤ x ∧ x ≤ 9223372036854775807) (hy : -9223372036854775808 ≤ y ∧ y ≤ 9223372036854775807) (hzb : -9223372036854775808 ≤ z ∧ z ≤ 9223372036854775807) (h9 : 9 ≤ w.heap.size)
    (hK : ∀ W, Below w.heap.size w W → Calls Tryz.prog 6 #[] W fun e w' => e = .returned (.bool true) ∧ Below W.heap.size W w') :
    Calls Tryz.prog 3 #[.int .i64 x, .int .i64 y, .int .i64 z] w fun e w' => e = .returned (.bool true) ∧ Below w.heap.size w w' := by
  obtain ⟨N, hN, hin, hout⟩ := nThere x y z
  have HC := const_call hN hin hout hx hy hzb
  have HI : Hid (∀ q : Int, 0 ≤ q → q < (N : Int) → y ≤ x + z * q) := fun q hq0 hq1 => by
    have e : ((q.toNat : Nat) : Int) = q := by omega
    have hin' := hin q.toNat (by omega)
    unfold Exo.InR at hin'
    rw [e] at hin'
    rcases hin' with h | h
    · omega
    · exact h.2
  have HO : Hid (N ≤ 65536 → x + z * (N : Int) < y) := fun h => by
    have := hout h
    unfold Exo.InR at this
    omega
  have HX : Hid (-9223372036854775808 ≤ x ∧ x ≤ 9223372036854775807) := hx
  have HY : Hid (-9223372036854775808 ≤ y ∧ y ≤ 9223372036854775807) := hy
  have HZ : Hid (-9223372036854775808 ≤ z ∧ z ≤ 9223372036854775807) := hzb
  have HK : Hid (∀ W, Below w.heap.size w W → Calls Tryz.prog 6 #[] W fun e w' => e = .returned (.bool true) ∧ Below W.heap.size W w') := hK
  have HB : Below w.heap.size w w := Below.refl _ _
  clear hx hy hzb hin hout hK
  have hz : ¬ z = 0 := by omega
  go_enter Tryz.func3, Tryz.ntmps3
  go_wp2_with (go_at_call 4; refine (lit_any _ _).mono ?_; rintro e w1 ⟨rfl, hb1⟩; replace HB := HB.trans (hb1.mono HB.size); clear hb1)
  refine (HC w1 (by have := HB.size; omega)).mono ?_
  rintro e W3 ⟨hB3, ⟨h, _⟩ | ⟨_, h0, rfl⟩ | ⟨_, hp, hN2, g, cap, rfl, hg, hat⟩ | ⟨_, h5, rfl⟩⟩
  · exact absurd h hz
  · have HB3 : Below w.heap.size w W3 := (HB.alloc HB.size _).trans (hB3.mono (by have := HB.size; simp; omega))
    have hyx : x < y := by have := HO.out (by omega); rw [h0] at this; simpa using this
    clear hB3 h0
    go_wp2
    refine wp_loop_rounds 1 ?_
    rw [rounds_succ]
    go_wp2_with (go_at_call 6; refine (HK.out _ (HB3.alloc HB3.size _)).mono ?_; rintro e w9 ⟨rfl, hb9⟩)
    go_ret
    exact ⟨rfl, (HB3.alloc HB3.size _).trans (hb9.mono (by have := HB3.size; simp; omega))⟩
  · have HB3 : Below w.heap.size w W3 := (HB.alloc HB.size _).trans (hB3.mono (by have := HB.size; simp; omega))
    have hat4 := hat.below ((Below.refl W3.heap.size W3).alloc (Nat.le_refl _) (.cells #[.int .i64 4, .bool false, .int .i64 0, .string { data := #[] }, .slice none 0 0, .slice (some ⟨g, 0, none⟩) N cap] 27)) hg
    clear hB3 hat
    go_wp2
    go_loop [10, 11] (fun n at' => ∃ (q m : Int), 0 ≤ q ∧ q ≤ (N : Int) ∧ n = .int .i64 q ∧ at' = .int .i64 m ∧ Hid (m = x + z * q) ∧ m ≤ x) (fun n _ => N - (intOf n).toNat)
    case atStart => exact ⟨0, x, Int.le_refl _, by omega, rfl, rfl, by unfold Hid; simp, Int.le_refl _⟩
    case round =>
      obtain ⟨q, m, hq0, hq1, rfl, rfl, HM, hm1⟩ := hrel
      by_cases hlt : q < (N : Int)
      · have hmy : y ≤ m := by rw [HM.out]; exact HI.out q hq0 hlt
        obtain ⟨e0, _, e2, _, _, _⟩ := hat4.cell (rng_get x z N q.toNat (by omega))
        have eq : ((q.toNat : Nat) : Int) = q := by omega
        rw [eq, ← HM.out] at e2
        clear eq
        have hz1 := HZ.out.1
        have hmb := HY.out.1
        by_cases hov : m < -9223372036854775808 - z
        · have hkN : (N : Int) ≤ q + 1 := by
            by_cases h : q + 1 < (N : Int)
            · have h1 := HI.out (q + 1) (by omega) h
              have h2 := (walk_down_q HM).out
              omega
            · omega
          go_wp2_with (go_at_call 6; refine (HK.out _ (HB3.alloc HB3.size _)).mono ?_; rintro e w9 ⟨rfl, hb9⟩)
          go_ret
          exact ⟨rfl, (HB3.alloc HB3.size _).trans (hb9.mono (by have := HB3.size; simp; omega))⟩
        · have hov2 : m + z ≤ 9223372036854775807 := by have := HX.out; omega
          have hov3 : -9223372036854775808 ≤ m + z := by have := HX.out; omega
          go_wp2
          exact ⟨⟨_, _, _, ⟨q + 1, by omega, by omega, rfl, m + z, rfl, walk_down_q HM, by omega⟩, rfl, rfl, rfl⟩, by simp [intOf]; omega⟩
      · have hym : m < y := by
          have e : q = (N : Int) := by omega
          rw [HM.out, e]; exact HO.out hN2
        go_wp2_with (go_at_call 6; refine (HK.out _ (HB3.alloc HB3.size _)).mono ?_; rintro e w9 ⟨rfl, hb9⟩)
        go_ret
        exact ⟨rfl, (HB3.alloc HB3.size _).trans (hb9.mono (by have := HB3.size; simp; omega))⟩
  · have HB3 : Below w.heap.size w W3 := (HB.alloc HB.size _).trans (hB3.mono (by have := HB.size; simp; omega))
    have H5 : Hid (N = 65537) := h5
    clear hB3 h5
    go_wp2
    go_loop [10, 11] (fun n at' => ∃ (q m : Int), 0 ≤ q ∧ q ≤ 65537 ∧ n = .int .i64 q ∧ at' = .int .i64 m ∧ Hid (m = x + z * q) ∧ m ≤ x) (fun n _ => 65537 - (intOf n).toNat)
    case atStart => exact ⟨0, x, Int.le_refl _, by omega, rfl, rfl, by unfold Hid; simp, Int.le_refl _⟩
    case round =>
      obtain ⟨q, m, hq0, hq1, rfl, rfl, HM, hm1⟩ := hrel
      by_cases hlt : q < 65537
      · have hmy : y ≤ m := by rw [HM.out]; exact HI.out q hq0 (by have := H5.out; omega)
        have hz1 := HZ.out.1
        have hmb := HY.out.1
        by_cases hov : m < -9223372036854775808 - z
        · have hkN : 65537 ≤ q + 1 := by
            by_cases h : q + 1 < 65537
            · have h1 := HI.out (q + 1) (by omega) (by have := H5.out; omega)
              have h2 := (walk_down_q HM).out
              omega
            · omega
          go_wp2_with (go_at_call 6; refine (HK.out _ (HB3.alloc HB3.size _)).mono ?_; rintro e w9 ⟨rfl, hb9⟩)
          go_ret
          exact ⟨rfl, (HB3.alloc HB3.size _).trans (hb9.mono (by have := HB3.size; simp; omega))⟩
        · have hov2 : m + z ≤ 9223372036854775807 := by have := HX.out; omega
          have hov3 : -9223372036854775808 ≤ m + z := by have := HX.out; omega
          go_wp2
          exact ⟨⟨_, _, _, ⟨q + 1, by omega, by omega, rfl, m + z, rfl, walk_down_q HM, by omega⟩, rfl, rfl, rfl⟩, by simp [intOf]; omega⟩
      · go_wp2_with (go_at_call 6; refine (HK.out _ (HB3.alloc HB3.size _)).mono ?_; rintro e w9 ⟨rfl, hb9⟩)
        go_ret
        exact ⟨rfl, (HB3.alloc HB3.size _).trans (hb9.mono (by have := HB3.size; simp; omega))⟩
end Go.Proofs.Wk
