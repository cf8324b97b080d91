/-
  range by negative steps. Own text, written by program out of WkSpread.
-/
import Derived.Test.YtpmaoblgedacfaaGreatDoorWkSpread
set_option linter.all false
namespace Go.Proofs.Wk
open Go.RowKit
set_option maxRecDepth 100000
set_option maxHeartbeats 2000000 in
theorem spread_down (pg : Option Addr) (b o c : Nat) (x y z : Int) (hs : z < 0) (N : Nat) (hN : N ≤ 65537) (hin : ∀ k : Nat, k < N → y ≤ x + z * (k : Int)) (hout : N ≤ 65536 → x + z * (N : Int) < y)
    (hx : -9223372036854775808 ≤ x ∧ x ≤ 9223372036854775807) (hy : -9223372036854775808 ≤ y ∧ y ≤ 9223372036854775807) (hzb : -9223372036854775808 ≤ z ∧ z ≤ 9223372036854775807)
    (w : World) (hb : b < w.heap.size) (h0 : NumAt w b o x) (h1 : NumAt w b (o + 6) y) (h2 : NumAt w b (o + 12) z) (hc : 3 ≤ c) :
    Calls Tryz.prog 57 #[.pointer pg, .slice (some ⟨b, o, none⟩) 3 c] w (SpreadPost x z N w) := by
  have hz : ¬ z = 0 := by omega
  obtain ⟨HX, hx'⟩ : Hid (-9223372036854775808 ≤ x ∧ x ≤ 9223372036854775807) ∧ True := ⟨hx, trivial⟩
  obtain ⟨HY, hy'⟩ : Hid (-9223372036854775808 ≤ y ∧ y ≤ 9223372036854775807) ∧ True := ⟨hy, trivial⟩
  obtain ⟨HZ, hz'⟩ : Hid (-9223372036854775808 ≤ z ∧ z ≤ 9223372036854775807) ∧ True := ⟨hzb, trivial⟩
  clear hx hy hzb hx' hy' hz'
  obtain ⟨HI, hi'⟩ : Hid (∀ k : Nat, k < N → y ≤ x + z * (k : Int)) ∧ True := ⟨hin, trivial⟩
  obtain ⟨HO, ho'⟩ : Hid (N ≤ 65536 → x + z * (N : Int) < y) ∧ True := ⟨hout, trivial⟩
  clear hin hout hi' ho'
  obtain ⟨W0, hW0⟩ : ∃ W0, w.alloc (.cells #[.int .i64 0, .bool false, .int .i64 0, .string { data := #[] }, .slice none 0 0, .slice none 0 0] 27) = W0 := ⟨_, rfl⟩
  have hB0 : Below (w.heap.size) w W0 := by rw [← hW0]; exact (Below.refl _ w).alloc (Nat.le_refl _) _
  have hs0 : W0.heap.size = w.heap.size + 1 := by rw [← hW0]; simp
  have hr0 : W0.heap[w.heap.size]? = some (.cells #[.int .i64 0, .bool false, .int .i64 0, .string { data := #[] }, .slice none 0 0, .slice none 0 0] 27 (0, 0)) := by rw [← hW0]; exact cells_new w _ 27
  have k0 := h0.below hB0 hb
  have k1 := h1.below hB0 hb
  have k2 := h2.below hB0 hb
  have a00 := k0.c0; have a01 := k0.c1; have a02 := k0.c2; have a03 := k0.c3; have a04 := k0.c4; have a05 := k0.c5
  clear h0 h1 h2
  go_enter Tryz.func57, Tryz.ntmps57
  go_wp2
  refine wp_loop_rounds 4 ?_
  rw [rounds_succ]
  go_wp2_with (go_at_call 100; refine (is_int _ _).mono ?_; rintro e w1 ⟨rfl, hb1⟩; obtain ⟨hc1, hf1⟩ := bcell hb1)
  have B1 : Below (w.heap.size + 1) W0 w1 := ((Below.refl _ W0).alloc (by omega) _).trans (hb1.mono (by simp; omega))
  have a10 := (k1.below B1 (by omega)).c0; have a11 := (k1.below B1 (by omega)).c1; have a12 := (k1.below B1 (by omega)).c2; have a13 := (k1.below B1 (by omega)).c3; have a14 := (k1.below B1 (by omega)).c4; have a15 := (k1.below B1 (by omega)).c5
  clear hb1 hc1 hf1 a00 a01 a02 a03 a04 a05
  have hs1 := B1.size
  rw [rounds_succ]
  go_wp2_with (go_at_call 100; refine (is_int _ _).mono ?_; rintro e w2 ⟨rfl, hb2⟩; obtain ⟨hc2, hf2⟩ := bcell hb2)
  have B2 : Below (w.heap.size + 1) W0 w2 := (B1.alloc (by omega) _).trans (hb2.mono (by simp; omega))
  have a20 := (k2.below B2 (by omega)).c0; have a21 := (k2.below B2 (by omega)).c1; have a22 := (k2.below B2 (by omega)).c2; have a23 := (k2.below B2 (by omega)).c3; have a24 := (k2.below B2 (by omega)).c4; have a25 := (k2.below B2 (by omega)).c5
  clear hb2 hc2 hf2 a10 a11 a12 a13 a14 a15
  have hs2 := B2.size
  rw [rounds_succ]
  go_wp2_with (go_at_call 100; refine (is_int _ _).mono ?_; rintro e w3 ⟨rfl, hb3⟩; obtain ⟨hc3, hf3⟩ := bcell hb3)
  have B3 : Below (w.heap.size + 1) W0 w3 := (B2.alloc (by omega) _).trans (hb3.mono (by simp; omega))
  have a02 := (k0.below B3 (by omega)).c2; have a12 := (k1.below B3 (by omega)).c2; have a22' := (k2.below B3 (by omega)).c2
  clear hb3 hc3 hf3 a20 a21 a22 a23 a24 a25
  have hs3 := B3.size
  rw [rounds_succ]
  have hz1 : (z != 0) = true := by simpa using hz
  go_wp2_with (go_at_call 16; ((with_reducible refine (must_yes _ _).mono ?_)); rintro e w4 ⟨rfl, rfl⟩)
  clear hW0 hz1 a22'
  obtain ⟨i0, hi, hz0, hz1, hz2⟩ := info_parts info27
  go_loopw [8, 9] (fun v n wr => ∃ (k : Nat) (m : Int), k ≤ N ∧ k ≤ 65536 ∧ n = .int .i64 m ∧ Hid (m = x + z * (k : Int)) ∧ Hid (k = 0 → v = .slice none 0 0) ∧ m ≤ x ∧ wr.ownsRow (w.heap.size + 1) 27 6 v k (cellsL (rng x z k)) ∧ Below (w.heap.size + 1) W0 wr)
    (fun _ n _ => (intOf n - y + 1).toNat)
  case atStart => exact ⟨0, x, Nat.zero_le _, by omega, rfl, by unfold Hid; simp, fun _ => rfl, Int.le_refl _, World.ownsRow_nil _ _ _ _, B3⟩
  case round =>
    obtain ⟨k, m, hk, hk2, rfl, HM, HV, hm1, hown, hB⟩ := hrel
    have y2 := (k1.below hB (by omega)).c2
    have hsB := hB.size
    by_cases hlt : k < N
    · have hmy : y ≤ m := by rw [HM.out]; exact HI.out k hlt
      by_cases hk3 : k < 65536
      · by_cases hov : -9223372036854775808 ≤ m + z
        · have HA := add_ok m z (by have := HX.out; have := HY.out; omega) HZ.out hov (by have := HX.out; omega)
          clear hov
          go_wp2_with (first
            | (go_at_call 71; refine (whole_any _ _).mono ?_; rintro e w4 ⟨rfl, hb4⟩; obtain ⟨hc4, hf4⟩ := bcell hb4; have hown4 := own_below hown hb4; have hsz4 := hb4.size)
            | (at_builtin; refine wpList_append_own _ rfl _ _ 25 rfl (w.heap.size + 1) 27 i0 (.agg #[.int .i64 0, .bool false, .int .i64 0, .string { data := #[] }, .slice none 0 0, .slice none 0 0]) 6 88 Tryz.underlying25 hi hz0 hz1 hz2 rfl (by decide) _ _ _ rfl (hown4.alloc _) ⟨w4.heap.size, 0, none⟩ 1 1 (cells1 m) rfl rfl new_cells (by intro u hu; simp [cells1] at hu; rcases hu with rfl | rfl | rfl | rfl | rfl <;> rfl) (by unfold maxLen; omega) (by omega) (by simp; omega) ?_; intro v' w5 hown5 hgrow5 _; obtain ⟨g5, cap5, rfl⟩ := own_succ hown5; have hd1 : decide ((k : Int) + 1 ≤ 65536) = true := decide_eq_true (by omega))
            | (go_at_call 16; ((with_reducible refine (must_yes _ _).mono ?_)); rintro e w6 ⟨rfl, rfl⟩)
            | (go_at_call 109; refine (HA _).mono ?_; rintro e w7 ⟨rfl, rfl⟩))
          go_roundw
          case rel => exact ⟨k + 1, m + z, by omega, by omega, rfl, step_num HM, fun h => by omega, by omega, step_own HM hown5, step_below hB hb4 (by omega) hgrow5 (own_ge hown4)⟩
          case measure => simp [intOf]; omega
        · have HA := add_over m z (by have := HX.out; have := HY.out; omega) HZ.out (.inl (by omega))
          have hkN : k + 1 = N := by
            by_cases h : k + 1 < N
            · have h1 := HI.out (k + 1) h
              have h2 := (step_num HM).out
              have := HY.out
              omega
            · omega
          clear hov
          have HK : Hid (k + 1 = N) := hkN
          clear hkN
          go_wp2_with (first
            | (go_at_call 71; refine (whole_any _ _).mono ?_; rintro e w4 ⟨rfl, hb4⟩; obtain ⟨hc4, hf4⟩ := bcell hb4; have hown4 := own_below hown hb4; have hsz4 := hb4.size)
            | (at_builtin; refine wpList_append_own _ rfl _ _ 25 rfl (w.heap.size + 1) 27 i0 (.agg #[.int .i64 0, .bool false, .int .i64 0, .string { data := #[] }, .slice none 0 0, .slice none 0 0]) 6 88 Tryz.underlying25 hi hz0 hz1 hz2 rfl (by decide) _ _ _ rfl (hown4.alloc _) ⟨w4.heap.size, 0, none⟩ 1 1 (cells1 m) rfl rfl new_cells (by intro u hu; simp [cells1] at hu; rcases hu with rfl | rfl | rfl | rfl | rfl <;> rfl) (by unfold maxLen; omega) (by omega) (by simp; omega) ?_; intro v' w5 hown5 hgrow5 _; obtain ⟨g5, cap5, rfl⟩ := own_succ hown5; have hd1 : decide ((k : Int) + 1 ≤ 65536) = true := decide_eq_true (by omega))
            | (go_at_call 16; ((with_reducible refine (must_yes _ _).mono ?_)); rintro e w6 ⟨rfl, rfl⟩)
            | (go_at_call 109; refine (HA _).mono ?_; rintro e w7 ⟨rfl, rfl⟩)
            | (go_at_call 64; refine (list_some ⟨g5, 0, none⟩ (k + 1) cap5 (by omega) _).mono ?_; rintro e w8 ⟨rfl, hb8⟩; have hB8 := (step_below hB hb4 (by omega) hgrow5 (own_ge hown4)).trans (hb8.mono (by have := (step_below hB hb4 (by omega) hgrow5 (own_ge hown4)).size; omega)); have hr8 := res_cells hr0 hB8; have q0 := cells_cell (o := 0) hr8 rfl; have q1 := cells_cell (o := 1) hr8 rfl; have q2 := cells_cell (o := 2) hr8 rfl; have q3 := cells_cell (o := 3) hr8 rfl; have q4 := cells_cell (o := 4) hr8 rfl; have q5 := cells_cell (o := 5) hr8 rfl; have qf := fun o => cells_frozen (o := o) hr8))
          have hown8 := own_below (step_own HM hown5) hb8
          rw [HK.out] at hown8
          have hE := spread_end hB0 hB8 (by have := hB8.size; omega) hown8 (fun h => by have := HK.out; omega) (by have := HK.out; omega)
          exact bodyPost_ret (fin6_results hr8 rfl) rfl (by rw [HK.out]; exact hE)
      · have hN5 : Hid (N = 65537) := by unfold Hid; omega
        go_wp2_with (first
            | (go_at_call 71; refine (whole_any _ _).mono ?_; rintro e w4 ⟨rfl, hb4⟩; obtain ⟨hc4, hf4⟩ := bcell hb4; have hown4 := own_below hown hb4; have hsz4 := hb4.size)
            | (at_builtin; refine wpList_append_own _ rfl _ _ 25 rfl (w.heap.size + 1) 27 i0 (.agg #[.int .i64 0, .bool false, .int .i64 0, .string { data := #[] }, .slice none 0 0, .slice none 0 0]) 6 88 Tryz.underlying25 hi hz0 hz1 hz2 rfl (by decide) _ _ _ rfl (hown4.alloc _) ⟨w4.heap.size, 0, none⟩ 1 1 (cells1 m) rfl rfl new_cells (by intro u hu; simp [cells1] at hu; rcases hu with rfl | rfl | rfl | rfl | rfl <;> rfl) (by unfold maxLen; omega) (by omega) (by simp; omega) ?_; intro v' w5 hown5 hgrow5 _; obtain ⟨g5, cap5, rfl⟩ := own_succ hown5; have hd1 : decide ((k : Int) + 1 ≤ 65536) = false := decide_eq_false (by omega))
            | (go_at_call 16; ((with_reducible refine (must_no _ _).mono ?_)); rintro e w6 ⟨rfl, rfl⟩))
        exact ⟨rfl, hB0.trans ((step_below hB hb4 (by omega) hgrow5 (own_ge hown4)).mono (by omega)), .inr (.inr ⟨hN5, rfl⟩)⟩
    · have HK : Hid (k = N) := by unfold Hid; omega
      have hym : m < y := by
        have := HO.out (by have := HK.out; omega)
        rw [HM.out, HK.out]; exact this
      by_cases hk0 : k = 0
      · obtain rfl : u8 = .slice none 0 0 := HV.out hk0
        have HK0 : Hid (k = 0) := hk0
        clear hk0
        go_wp2_with (go_at_call 64; refine (list_nil _).mono ?_; rintro e w8 ⟨rfl, hb8⟩; have hB8 := hB.trans (hb8.mono (by omega)); have hr8 := res_cells hr0 hB8; have q0 := cells_cell (o := 0) hr8 rfl; have q1 := cells_cell (o := 1) hr8 rfl; have q2 := cells_cell (o := 2) hr8 rfl; have q3 := cells_cell (o := 3) hr8 rfl; have q4 := cells_cell (o := 4) hr8 rfl; have q5 := cells_cell (o := 5) hr8 rfl; have qf := fun o => cells_frozen (o := o) hr8)
        have hown8 := own_below hown hb8
        rw [HK.out] at hown8
        exact bodyPost_ret (fin6_results hr8 rfl) rfl (spread_end hB0 hB8 (by have := hB8.size; omega) hown8 (fun _ => rfl) (by have := HK.out; omega))
      · obtain ⟨j, hj⟩ : ∃ j, k = j + 1 := ⟨k - 1, by omega⟩
        have hown' := hown
        rw [hj] at hown'
        obtain ⟨g5, cap5, rfl⟩ := own_succ hown'
        have HK1 : Hid (k ≠ 0) := hk0
        rw [← hj] at *
        clear hj hk0
        go_wp2_with (go_at_call 64; refine (list_some ⟨g5, 0, none⟩ k cap5 (by omega) _).mono ?_; rintro e w8 ⟨rfl, hb8⟩; have hB8 := hB.trans (hb8.mono (by omega)); have hr8 := res_cells hr0 hB8; have q0 := cells_cell (o := 0) hr8 rfl; have q1 := cells_cell (o := 1) hr8 rfl; have q2 := cells_cell (o := 2) hr8 rfl; have q3 := cells_cell (o := 3) hr8 rfl; have q4 := cells_cell (o := 4) hr8 rfl; have q5 := cells_cell (o := 5) hr8 rfl; have qf := fun o => cells_frozen (o := o) hr8)
        have hown8 := own_below hown hb8
        rw [HK.out] at hown8
        have hE := spread_end hB0 hB8 (by have := hB8.size; omega) hown8 (fun h => absurd (HK.out.trans h) HK1.out) (by have := HK.out; omega)
        exact bodyPost_ret (fin6_results hr8 rfl) rfl (by rw [HK.out]; exact hE)
end Go.Proofs.Wk
