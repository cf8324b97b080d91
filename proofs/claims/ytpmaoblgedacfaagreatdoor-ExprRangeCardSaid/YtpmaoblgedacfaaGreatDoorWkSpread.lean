/-
  range, as package expr does it. Own text.
-/
import Derived.Test.YtpmaoblgedacfaaGreatDoorWkSmall
import Derived.Test.YtpmaoblgedacfaaGreatDoorWkRow
import Derived.LoopN
import Derived.OwnWalk
set_option linter.all false
namespace Go.Proofs.Wk
open Go.RowKit
set_option maxRecDepth 100000
/-- a number lies at o in block b -/
structure NumAt (w : World) (b o : Nat) (z : Int) : Prop where
  c0 : w.cell? ⟨b, o, none⟩ = some (.int .i64 2)
  c1 : w.cell? ⟨b, o + 1, none⟩ = some (.bool false)
  c2 : w.cell? ⟨b, o + 2, none⟩ = some (.int .i64 z)
  c3 : w.cell? ⟨b, o + 3, none⟩ = some (.string { data := #[] })
  c4 : w.cell? ⟨b, o + 4, none⟩ = some (.slice none 0 0)
  c5 : w.cell? ⟨b, o + 5, none⟩ = some (.slice none 0 0)
theorem NumAt.below {w w' : World} {b o : Nat} {z : Int} (h : NumAt w b o z) {B : Nat} (hb : Below B w w') (hlt : b < B) : NumAt w' b o z :=
  ⟨(hb.cell (p := ⟨b, o, none⟩) hlt).trans h.c0, (hb.cell (p := ⟨b, o + 1, none⟩) hlt).trans h.c1, (hb.cell (p := ⟨b, o + 2, none⟩) hlt).trans h.c2, (hb.cell (p := ⟨b, o + 3, none⟩) hlt).trans h.c3, (hb.cell (p := ⟨b, o + 4, none⟩) hlt).trans h.c4, (hb.cell (p := ⟨b, o + 5, none⟩) hlt).trans h.c5⟩
theorem info27 : (Tryz.prog.info? 27).map (fun i => (i.zero, i.size, i.bytes)) = some (some (.agg #[.int .i64 0, .bool false, .int .i64 0, .string { data := #[] }, .slice none 0 0, .slice none 0 0]), 6, 88) := by kernel_rfl
theorem own_below {w w' : World} {base : Nat} {e : TypeId} {v : Value} {n : Nat} {xs : List Value} (h : w.ownsRow base e 6 v n xs) (hb : Below w.heap.size w w') : w'.ownsRow base e 6 v n xs := by
  refine ⟨h.1, ?_⟩
  rcases h.2 with h0 | ⟨g, cap, cur, h1, h2, h3, h4⟩
  · exact .inl h0
  · exact .inr ⟨g, cap, cur, h1, h2, (hb.block g (Array.getElem?_eq_some_iff.1 h3).1).trans h3, h4⟩
theorem own_succ {w : World} {base : Nat} {e : TypeId} {v : Value} {n : Nat} {xs : List Value} (h : w.ownsRow base e 6 v (n + 1) xs) : ∃ g cap, v = .slice (some ⟨g, 0, none⟩) (n + 1) cap := by
  rcases h.2 with ⟨_, h0⟩ | ⟨g, cap, cur, h1, _⟩
  · omega
  · exact ⟨g, cap, h1⟩
theorem new_cells {w : World} {cs : Array Value} {t : TypeId} : ∀ (j : Nat) (u : Value), cs.toList[j]? = some u → (w.alloc (.cells cs t)).cell? ((⟨w.heap.size, 0, none⟩ : Addr).add j) = some u := fun j u h => by
  have : ((⟨w.heap.size, 0, none⟩ : Addr).add j) = ⟨w.heap.size, j, none⟩ := by
    cases j with
    | zero => rfl
    | succ j => simp [Addr.add]
  rw [this]
  exact cells_cell (cells_new w cs t) (by simpa using h)
/-- what range comes to -/
def SpreadPost (x z : Int) (N : Nat) (w : World) (e : Ending) (w' : World) : Prop :=
  Below w.heap.size w w' ∧
  ((N = 0 ∧ e = .returned (.agg #[.int .i64 4, .bool false, .int .i64 0, .string { data := #[] }, .slice none 0 0, .slice none 0 0])) ∨
   (0 < N ∧ N ≤ 65536 ∧ ∃ g cap c, e = .returned (.agg #[.int .i64 4, .bool false, .int .i64 0, .string { data := #[] }, .slice none 0 0, .slice (some ⟨g, 0, none⟩) N cap]) ∧ w.heap.size ≤ g ∧ g < w'.heap.size ∧ N ≤ cap ∧ ListAt w' g (rng x z N) ∧ w'.heap[g]? = some (.cells c 27 (0, 0))) ∨
   (N = 65537 ∧ e = .panicked [{ v := .iface 82 (.agg #[.int .i64 172]), recovered := false }]))
theorem step_own {w5 : World} {base : Nat} {e : TypeId} {v : Value} {x z m : Int} {k : Nat} (HM : Hid (m = x + z * (k : Int))) (h : w5.ownsRow base e 6 v (k + 1) (cellsL (rng x z k) ++ cells1 m)) : w5.ownsRow base e 6 v (k + 1) (cellsL (rng x z (k + 1))) := by
  rw [rng_succ, cellsL_snoc, ← HM.out]; exact h
theorem step_num {x z m : Int} {k : Nat} (HM : Hid (m = x + z * (k : Int))) : Hid (m + z = x + z * ((k + 1 : Nat) : Int)) := by
  unfold Hid; rw [HM.out]; push_cast; rw [Int.mul_add]; omega
theorem step_below {W0 wr w4 w5 : World} {B : Nat} {o : Obj} {v : Value} (hB : Below B W0 wr) (hb4 : Below wr.heap.size wr w4) (hs : B ≤ W0.heap.size) (hg : (w4.alloc o).grownBy w5 v.ownBlock) (hr : ∀ k, v.ownBlock = some k → B ≤ k) : Below B W0 w5 := by
  have h1 := hB.trans (hb4.mono (Nat.le_trans hs hB.size))
  exact (h1.alloc (Nat.le_trans hs h1.size) o).grown hg (by have := h1.size; simp; omega) hr
/-- the cells of the result's variable -/
theorem res_cells {W0 w' : World} {B : Nat} (hr0 : W0.heap[B]? = some (.cells #[.int .i64 0, .bool false, .int .i64 0, .string { data := #[] }, .slice none 0 0, .slice none 0 0] 27 (0, 0))) (hB : Below (B + 1) W0 w') :
    w'.heap[B]? = some (.cells #[.int .i64 0, .bool false, .int .i64 0, .string { data := #[] }, .slice none 0 0, .slice none 0 0] 27 (0, 0)) := (hB.block B (by omega)).trans hr0
theorem set_cells {W : World} {B : Nat} {c : Array Value} {t : TypeId} {fr : Nat × Nat} (o : Nat) (v : Value) (h : W.heap[B]? = some (.cells c t fr)) : (W.setCell ⟨B, o, none⟩ v).heap[B]? = some (.cells (c.setIfInBounds o v) t fr) := by
  obtain ⟨hlt, hk⟩ := Array.getElem?_eq_some_iff.1 h
  show (W.heap.modify B _)[B]? = _
  rw [Array.getElem?_eq_getElem (by rw [Array.size_modify]; exact hlt), Array.getElem_modify_self, hk]
  rfl
/-- a result's six cells are written -/
def fin6 (w8 : World) (B : Nat) (sv : Value) : World :=
  ((((((w8.setCell ⟨B, 0, none⟩ (.int .i64 4)).setCell ⟨B, 1, none⟩ (.bool false)).setCell ⟨B, 2, none⟩ (.int .i64 0)).setCell ⟨B, 3, none⟩ (.string { data := #[] })).setCell ⟨B, 4, none⟩ (.slice none 0 0)).setCell ⟨B, 5, none⟩ sv)
theorem fin6_at {w8 : World} {B : Nat} {sv : Value} (h : w8.heap[B]? = some (.cells #[.int .i64 0, .bool false, .int .i64 0, .string { data := #[] }, .slice none 0 0, .slice none 0 0] 27 (0, 0))) :
    (fin6 w8 B sv).heap[B]? = some (.cells #[.int .i64 4, .bool false, .int .i64 0, .string { data := #[] }, .slice none 0 0, sv] 27 (0, 0)) := by
  have := set_cells 5 sv (set_cells 4 (.slice none 0 0) (set_cells 3 (.string { data := #[] }) (set_cells 2 (.int .i64 0) (set_cells 1 (.bool false) (set_cells 0 (.int .i64 4) h)))))
  simpa [fin6] using this
theorem fin6_other {w8 : World} {B : Nat} {sv : Value} (k : Nat) (h : k ≠ B) : (fin6 w8 B sv).heap[k]? = w8.heap[k]? := by
  unfold fin6
  rw [Below.heap_setCell _ _ _ _ h, Below.heap_setCell _ _ _ _ h, Below.heap_setCell _ _ _ _ h, Below.heap_setCell _ _ _ _ h, Below.heap_setCell _ _ _ _ h, Below.heap_setCell _ _ _ _ h]
theorem fin6_below {w w8 : World} {B : Nat} {sv : Value} (h : Below B w w8) : Below B w (fin6 w8 B sv) := by
  unfold fin6
  exact (((((h.setCell (p := ⟨B, 0, none⟩) (Nat.le_refl _) _).setCell (p := ⟨B, 1, none⟩) (Nat.le_refl _) _).setCell (p := ⟨B, 2, none⟩) (Nat.le_refl _) _).setCell (p := ⟨B, 3, none⟩) (Nat.le_refl _) _).setCell (p := ⟨B, 4, none⟩) (Nat.le_refl _) _).setCell (p := ⟨B, 5, none⟩) (Nat.le_refl _) _
theorem fin6_results {w8 : World} {B : Nat} {sv : Value} {tmps : Array Value} (h : w8.heap[B]? = some (.cells #[.int .i64 0, .bool false, .int .i64 0, .string { data := #[] }, .slice none 0 0, .slice none 0 0] 27 (0, 0))) (ht : tmps[4]? = some (.pointer (some ⟨B, 0, none⟩))) :
    (results Tryz.f57 tmps).run Tryz.prog (fin6 w8 B sv) = .ok (.agg #[.int .i64 4, .bool false, .int .i64 0, .string { data := #[] }, .slice none 0 0, sv]) (fin6 w8 B sv) := by
  have h6 := fin6_at (sv := sv) h
  have q0 := cells_cell (o := 0) h6 rfl
  have q1 := cells_cell (o := 1) h6 rfl
  have q2 := cells_cell (o := 2) h6 rfl
  have q3 := cells_cell (o := 3) h6 rfl
  have q4 := cells_cell (o := 4) h6 rfl
  have q5 := cells_cell (o := 5) h6 rfl
  have hg : tmps.getD 4 undef = .pointer (some ⟨B, 0, none⟩) := by simp [Array.getD_eq_getD_getElem?, ht]
  simp [results, Tryz.results57, go_sem, hg, ht, q0, q1, q2, q3, q4, q5]
theorem spread_end {x z : Int} {w W0 w8 : World} {N : Nat} {sv : Value} (hB0 : Below w.heap.size w W0) (hB8 : Below (w.heap.size + 1) W0 w8) (hlt : w.heap.size < w8.heap.size) (hown : w8.ownsRow (w.heap.size + 1) 27 6 sv N (cellsL (rng x z N))) (hnil : N = 0 → sv = .slice none 0 0) (hN : N ≤ 65536) :
    SpreadPost x z N w (.returned (.agg #[.int .i64 4, .bool false, .int .i64 0, .string { data := #[] }, .slice none 0 0, sv])) (fin6 w8 w.heap.size sv) := by
  refine ⟨fin6_below (hB0.trans (hB8.mono (by omega))), ?_⟩
  by_cases h0 : N = 0
  · subst h0; rw [hnil rfl]; exact .inl ⟨rfl, rfl⟩
  · right; left
    have hl := rng_length x z N
    have hown' : w8.ownsRow (w.heap.size + 1) 27 6 sv (rng x z N).length (cellsL (rng x z N)) := by rw [hl]; exact hown
    obtain ⟨g, cap, rfl, h1, h2, h3, ⟨c, t, fr, h4, h4'⟩, c', h5⟩ := own_some hown' (by rw [hl]; omega)
    rw [hl] at h3 ⊢
    have hgo := fin6_other (w8 := w8) (B := w.heap.size) (sv := .slice (some ⟨g, 0, none⟩) N cap) g (by omega)
    exact ⟨by omega, hN, g, cap, c', rfl, by omega, (Array.getElem?_eq_some_iff.1 (hgo.trans h5)).1, h3, ⟨c, t, fr, hgo.trans h4, h4'⟩, hgo.trans h5⟩
set_option maxHeartbeats 2000000 in
theorem spread_up (pg : Option Addr) (b o c : Nat) (x y z : Int) (hs : 0 < z) (N : Nat) (hN : N ≤ 65537) (hin : ∀ k : Nat, k < N → x + z * (k : Int) ≤ y) (hout : N ≤ 65536 → y < x + z * (N : Int))
    (hx : -9223372036854775808 ≤ x ∧ x ≤ 9223372036854775807) (hy : -9223372036854775808 ≤ y ∧ y ≤ 9223372036854775807) (hzb : -9223372036854775808 ≤ z ∧ z ≤ 9223372036854775807)
    (w : World) (hb : b < w.heap.size) (h0 : NumAt w b o x) (h1 : NumAt w b (o + 6) y) (h2 : NumAt w b (o + 12) z) (hc : 3 ≤ c) :
    Calls Tryz.prog 57 #[.pointer pg, .slice (some ⟨b, o, none⟩) 3 c] w (SpreadPost x z N w) := by
  have hz : ¬ z = 0 := by omega
  obtain ⟨HX, hx'⟩ : Hid (-9223372036854775808 ≤ x ∧ x ≤ 9223372036854775807) ∧ True := ⟨hx, trivial⟩
  obtain ⟨HY, hy'⟩ : Hid (-9223372036854775808 ≤ y ∧ y ≤ 9223372036854775807) ∧ True := ⟨hy, trivial⟩
  obtain ⟨HZ, hz'⟩ : Hid (-9223372036854775808 ≤ z ∧ z ≤ 9223372036854775807) ∧ True := ⟨hzb, trivial⟩
  clear hx hy hzb hx' hy' hz'
  obtain ⟨HI, hi'⟩ : Hid (∀ k : Nat, k < N → x + z * (k : Int) ≤ y) ∧ True := ⟨hin, trivial⟩
  obtain ⟨HO, ho'⟩ : Hid (N ≤ 65536 → y < x + z * (N : Int)) ∧ True := ⟨hout, trivial⟩
  clear hin hout hi' ho'
  obtain ⟨W0, hW0⟩ : ∃ W0, w.alloc (.cells #[.int .i64 0, .bool false, .int .i64 0, .string { data := #[] }, .slice none 0 0, .slice none 0 0] 27) = W0 := ⟨_, rfl⟩
  have hB0 : Below (w.heap.size) w W0 := by rw [← hW0]; exact (Below.refl _ w).alloc (Nat.le_refl _) _
  have hs0 : W0.heap.size = w.heap.size + 1 := by rw [← hW0]; simp
  have hr0 : W0.heap[w.heap.size]? = some (.cells #[.int .i64 0, .bool false, .int .i64 0, .string { data := #[] }, .slice none 0 0, .slice none 0 0] 27 (0, 0)) := by rw [← hW0]; exact cells_new w _ 27
  have k0 := h0.below hB0 hb
  have k1 := h1.below hB0 hb
  have k2 := h2.below hB0 hb
  have a00 := k0.c0; have a01 := k0.c1; have a02 := k0.c2; have a03 := k0.c3; have a04 := k0.c4; have a05 := k0.c5
  clear h0 h1 h2
  go_enter Tryz.func57, Tryz.ntmps57
  go_wp2
  refine wp_loop_rounds 4 ?_
  rw [rounds_succ]
  go_wp2_with (go_at_call 100; refine (is_int _ _).mono ?_; rintro e w1 ⟨rfl, hb1⟩; obtain ⟨hc1, hf1⟩ := bcell hb1)
  have B1 : Below (w.heap.size + 1) W0 w1 := ((Below.refl _ W0).alloc (by omega) _).trans (hb1.mono (by simp; omega))
  have a10 := (k1.below B1 (by omega)).c0; have a11 := (k1.below B1 (by omega)).c1; have a12 := (k1.below B1 (by omega)).c2; have a13 := (k1.below B1 (by omega)).c3; have a14 := (k1.below B1 (by omega)).c4; have a15 := (k1.below B1 (by omega)).c5
  clear hb1 hc1 hf1 a00 a01 a02 a03 a04 a05
  have hs1 := B1.size
  rw [rounds_succ]
  go_wp2_with (go_at_call 100; refine (is_int _ _).mono ?_; rintro e w2 ⟨rfl, hb2⟩; obtain ⟨hc2, hf2⟩ := bcell hb2)
  have B2 : Below (w.heap.size + 1) W0 w2 := (B1.alloc (by omega) _).trans (hb2.mono (by simp; omega))
  have a20 := (k2.below B2 (by omega)).c0; have a21 := (k2.below B2 (by omega)).c1; have a22 := (k2.below B2 (by omega)).c2; have a23 := (k2.below B2 (by omega)).c3; have a24 := (k2.below B2 (by omega)).c4; have a25 := (k2.below B2 (by omega)).c5
  clear hb2 hc2 hf2 a10 a11 a12 a13 a14 a15
  have hs2 := B2.size
  rw [rounds_succ]
  go_wp2_with (go_at_call 100; refine (is_int _ _).mono ?_; rintro e w3 ⟨rfl, hb3⟩; obtain ⟨hc3, hf3⟩ := bcell hb3)
  have B3 : Below (w.heap.size + 1) W0 w3 := (B2.alloc (by omega) _).trans (hb3.mono (by simp; omega))
  have a02 := (k0.below B3 (by omega)).c2; have a12 := (k1.below B3 (by omega)).c2; have a22' := (k2.below B3 (by omega)).c2
  clear hb3 hc3 hf3 a20 a21 a22 a23 a24 a25
  have hs3 := B3.size
  rw [rounds_succ]
  have hz1 : (z != 0) = true := by simpa using hz
  go_wp2_with (go_at_call 16; ((with_reducible refine (must_yes _ _).mono ?_)); rintro e w4 ⟨rfl, rfl⟩)
  clear hW0 hz1 a22'
  obtain ⟨i0, hi, hz0, hz1, hz2⟩ := info_parts info27
  go_loopw [8, 9] (fun v n wr => ∃ (k : Nat) (m : Int), k ≤ N ∧ k ≤ 65536 ∧ n = .int .i64 m ∧ Hid (m = x + z * (k : Int)) ∧ Hid (k = 0 → v = .slice none 0 0) ∧ x ≤ m ∧ wr.ownsRow (w.heap.size + 1) 27 6 v k (cellsL (rng x z k)) ∧ Below (w.heap.size + 1) W0 wr)
    (fun _ n _ => (y - intOf n + 1).toNat)
  case atStart => exact ⟨0, x, Nat.zero_le _, by omega, rfl, by unfold Hid; simp, fun _ => rfl, Int.le_refl _, World.ownsRow_nil _ _ _ _, B3⟩
  case round =>
    obtain ⟨k, m, hk, hk2, rfl, HM, HV, hm1, hown, hB⟩ := hrel
    have y2 := (k1.below hB (by omega)).c2
    have hsB := hB.size
    by_cases hlt : k < N
    · have hmy : m ≤ y := by rw [HM.out]; exact HI.out k hlt
      by_cases hk3 : k < 65536
      · by_cases hov : m + z ≤ 9223372036854775807
        · have HA := add_ok m z (by have := HX.out; have := HY.out; omega) HZ.out (by have := HX.out; omega) hov
          clear hov
          have hd1 : decide ((k : Int) + 1 ≤ 65536) = true := decide_eq_true (by omega)
          go_wp2_with (first
            | (go_at_call 71; refine (whole_any _ _).mono ?_; rintro e w4 ⟨rfl, hb4⟩; obtain ⟨hc4, hf4⟩ := bcell hb4; have hown4 := own_below hown hb4; have hsz4 := hb4.size)
            | (at_builtin; refine wpList_append_own _ rfl _ _ 25 rfl (w.heap.size + 1) 27 i0 (.agg #[.int .i64 0, .bool false, .int .i64 0, .string { data := #[] }, .slice none 0 0, .slice none 0 0]) 6 88 Tryz.underlying25 hi hz0 hz1 hz2 rfl (by decide) _ _ _ rfl (hown4.alloc _) ⟨w4.heap.size, 0, none⟩ 1 1 (cells1 m) rfl rfl new_cells (by intro u hu; simp [cells1] at hu; rcases hu with rfl | rfl | rfl | rfl | rfl <;> rfl) (by unfold maxLen; omega) (by omega) (by simp; omega) ?_; intro v' w5 hown5 hgrow5 _; obtain ⟨g5, cap5, rfl⟩ := own_succ hown5)
            | (go_at_call 16; ((with_reducible refine (must_yes _ _).mono ?_)); rintro e w6 ⟨rfl, rfl⟩)
            | (go_at_call 109; refine (HA _).mono ?_; rintro e w7 ⟨rfl, rfl⟩))
          go_roundw
          case rel => exact ⟨k + 1, m + z, by omega, by omega, rfl, step_num HM, fun h => by omega, by omega, step_own HM hown5, step_below hB hb4 (by omega) hgrow5 (own_ge hown4)⟩
          case measure => simp [intOf]; omega
        · have HA := add_over m z (by have := HX.out; have := HY.out; omega) HZ.out (.inr (by omega))
          have hkN : k + 1 = N := by
            by_cases h : k + 1 < N
            · have h1 := HI.out (k + 1) h
              have h2 := (step_num HM).out
              have := HY.out
              omega
            · omega
          clear hov
          have hd1 : decide ((k : Int) + 1 ≤ 65536) = true := decide_eq_true (by omega)
          have HK : Hid (k + 1 = N) := hkN
          clear hkN
          go_wp2_with (first
            | (go_at_call 71; refine (whole_any _ _).mono ?_; rintro e w4 ⟨rfl, hb4⟩; obtain ⟨hc4, hf4⟩ := bcell hb4; have hown4 := own_below hown hb4; have hsz4 := hb4.size)
            | (at_builtin; refine wpList_append_own _ rfl _ _ 25 rfl (w.heap.size + 1) 27 i0 (.agg #[.int .i64 0, .bool false, .int .i64 0, .string { data := #[] }, .slice none 0 0, .slice none 0 0]) 6 88 Tryz.underlying25 hi hz0 hz1 hz2 rfl (by decide) _ _ _ rfl (hown4.alloc _) ⟨w4.heap.size, 0, none⟩ 1 1 (cells1 m) rfl rfl new_cells (by intro u hu; simp [cells1] at hu; rcases hu with rfl | rfl | rfl | rfl | rfl <;> rfl) (by unfold maxLen; omega) (by omega) (by simp; omega) ?_; intro v' w5 hown5 hgrow5 _; obtain ⟨g5, cap5, rfl⟩ := own_succ hown5)
            | (go_at_call 16; ((with_reducible refine (must_yes _ _).mono ?_)); rintro e w6 ⟨rfl, rfl⟩)
            | (go_at_call 109; refine (HA _).mono ?_; rintro e w7 ⟨rfl, rfl⟩)
            | (go_at_call 64; refine (list_some ⟨g5, 0, none⟩ (k + 1) cap5 (by omega) _).mono ?_; rintro e w8 ⟨rfl, hb8⟩; have hB8 := (step_below hB hb4 (by omega) hgrow5 (own_ge hown4)).trans (hb8.mono (by have := (step_below hB hb4 (by omega) hgrow5 (own_ge hown4)).size; omega)); have hr8 := res_cells hr0 hB8; have q0 := cells_cell (o := 0) hr8 rfl; have q1 := cells_cell (o := 1) hr8 rfl; have q2 := cells_cell (o := 2) hr8 rfl; have q3 := cells_cell (o := 3) hr8 rfl; have q4 := cells_cell (o := 4) hr8 rfl; have q5 := cells_cell (o := 5) hr8 rfl; have qf := fun o => cells_frozen (o := o) hr8))
          have hown8 := own_below (step_own HM hown5) hb8
          rw [HK.out] at hown8
          have hE := spread_end hB0 hB8 (by have := hB8.size; omega) hown8 (fun h => by have := HK.out; omega) (by have := HK.out; omega)
          exact bodyPost_ret (fin6_results hr8 rfl) rfl (by rw [HK.out]; exact hE)
      · have hN5 : Hid (N = 65537) := by unfold Hid; omega
        have hd1 : decide ((k : Int) + 1 ≤ 65536) = false := decide_eq_false (by omega)
        go_wp2_with (first
            | (go_at_call 71; refine (whole_any _ _).mono ?_; rintro e w4 ⟨rfl, hb4⟩; obtain ⟨hc4, hf4⟩ := bcell hb4; have hown4 := own_below hown hb4; have hsz4 := hb4.size)
            | (at_builtin; refine wpList_append_own _ rfl _ _ 25 rfl (w.heap.size + 1) 27 i0 (.agg #[.int .i64 0, .bool false, .int .i64 0, .string { data := #[] }, .slice none 0 0, .slice none 0 0]) 6 88 Tryz.underlying25 hi hz0 hz1 hz2 rfl (by decide) _ _ _ rfl (hown4.alloc _) ⟨w4.heap.size, 0, none⟩ 1 1 (cells1 m) rfl rfl new_cells (by intro u hu; simp [cells1] at hu; rcases hu with rfl | rfl | rfl | rfl | rfl <;> rfl) (by unfold maxLen; omega) (by omega) (by simp; omega) ?_; intro v' w5 hown5 hgrow5 _; obtain ⟨g5, cap5, rfl⟩ := own_succ hown5)
            | (go_at_call 16; ((with_reducible refine (must_no _ _).mono ?_)); rintro e w6 ⟨rfl, rfl⟩))
        exact ⟨rfl, hB0.trans ((step_below hB hb4 (by omega) hgrow5 (own_ge hown4)).mono (by omega)), .inr (.inr ⟨hN5, rfl⟩)⟩
    · have HK : Hid (k = N) := by unfold Hid; omega
      have hym : y < m := by
        have := HO.out (by have := HK.out; omega)
        rw [HM.out, HK.out]; exact this
      by_cases hk0 : k = 0
      · obtain rfl : u8 = .slice none 0 0 := HV.out hk0
        have HK0 : Hid (k = 0) := hk0
        clear hk0
        go_wp2_with (go_at_call 64; refine (list_nil _).mono ?_; rintro e w8 ⟨rfl, hb8⟩; have hB8 := hB.trans (hb8.mono (by omega)); have hr8 := res_cells hr0 hB8; have q0 := cells_cell (o := 0) hr8 rfl; have q1 := cells_cell (o := 1) hr8 rfl; have q2 := cells_cell (o := 2) hr8 rfl; have q3 := cells_cell (o := 3) hr8 rfl; have q4 := cells_cell (o := 4) hr8 rfl; have q5 := cells_cell (o := 5) hr8 rfl; have qf := fun o => cells_frozen (o := o) hr8)
        have hown8 := own_below hown hb8
        rw [HK.out] at hown8
        exact bodyPost_ret (fin6_results hr8 rfl) rfl (spread_end hB0 hB8 (by have := hB8.size; omega) hown8 (fun _ => rfl) (by have := HK.out; omega))
      · obtain ⟨j, hj⟩ : ∃ j, k = j + 1 := ⟨k - 1, by omega⟩
        have hown' := hown
        rw [hj] at hown'
        obtain ⟨g5, cap5, rfl⟩ := own_succ hown'
        have HK1 : Hid (k ≠ 0) := hk0
        rw [← hj] at *
        clear hj hk0
        go_wp2_with (go_at_call 64; refine (list_some ⟨g5, 0, none⟩ k cap5 (by omega) _).mono ?_; rintro e w8 ⟨rfl, hb8⟩; have hB8 := hB.trans (hb8.mono (by omega)); have hr8 := res_cells hr0 hB8; have q0 := cells_cell (o := 0) hr8 rfl; have q1 := cells_cell (o := 1) hr8 rfl; have q2 := cells_cell (o := 2) hr8 rfl; have q3 := cells_cell (o := 3) hr8 rfl; have q4 := cells_cell (o := 4) hr8 rfl; have q5 := cells_cell (o := 5) hr8 rfl; have qf := fun o => cells_frozen (o := o) hr8)
        have hown8 := own_below hown hb8
        rw [HK.out] at hown8
        have hE := spread_end hB0 hB8 (by have := hB8.size; omega) hown8 (fun h => absurd (HK.out.trans h) HK1.out) (by have := HK.out; omega)
        exact bodyPost_ret (fin6_results hr8 rfl) rfl (by rw [HK.out]; exact hE)
end Go.Proofs.Wk
