/-
  value.Copy at a list of numbers. Own text.
-/
import Derived.Test.YtpmaoblgedacfaaGreatDoorWkSpread
set_option linter.all false
namespace Go.Proofs.Wk
open Go.RowKit
set_option maxRecDepth 100000
theorem take_own {w5 : World} {base : Nat} {e : TypeId} {v : Value} {zs : List Int} {z : Int} {k : Nat} (hz : Hid (zs[k]? = some z)) (h : w5.ownsRow base e 6 v (k + 1) (cellsL (zs.take k) ++ cells1 z)) : w5.ownsRow base e 6 v (k + 1) (cellsL (zs.take (k + 1))) := by
  rw [List.take_add_one, hz.out]
  show w5.ownsRow base e 6 v (k + 1) (cellsL (zs.take k ++ [z]))
  rw [cellsL_snoc]; exact h
theorem ListAt.below {w w' : World} {b : Nat} {zs : List Int} (h : ListAt w b zs) {B : Nat} (hb : Below B w w') (hlt : b < B) : ListAt w' b zs := by
  obtain ⟨c, t, fr, h1, h2⟩ := h
  exact ⟨c, t, fr, (hb.block b hlt).trans h1, h2⟩
/-- a list that lies anew -/
def NewList (zs : List Int) (w w' : World) (v : Value) : Prop :=
  ∃ g cap c, v = .slice (some ⟨g, 0, none⟩) zs.length cap ∧ w.heap.size ≤ g ∧ g < w'.heap.size ∧ zs.length ≤ cap ∧ ListAt w' g zs ∧ w'.heap[g]? = some (.cells c 27 (0, 0))
def CopiesPost (zs : List Int) (w : World) (e : Ending) (w' : World) : Prop := Below w.heap.size w w' ∧ ∃ v, e = .returned v ∧ NewList zs w w' v
set_option maxHeartbeats 2000000 in
theorem copies_list (b cap : Nat) (zs : List Int) (hpos : 0 < zs.length) (hmax : zs.length ≤ 65536) (w : World) (hb : b < w.heap.size) (hL : ListAt w b zs) :
    Calls Tryz.prog 32 #[.slice (some ⟨b, 0, none⟩) zs.length cap] w (CopiesPost zs w) := by
  obtain ⟨i0, hi, hz0, hz1, hz2⟩ := info_parts info27
  go_enter Tryz.func32, Tryz.ntmps32
  go_wp2
  go_loopw [3, 8] (fun v i wr => ∃ k : Nat, k ≤ zs.length ∧ i = .int .i64 k ∧ wr.ownsRow w.heap.size 27 6 v k (cellsL (zs.take k)) ∧ Below w.heap.size w wr) (fun _ i _ => zs.length - (intOf i).toNat)
  case atStart => exact ⟨0, Nat.zero_le _, rfl, World.ownsRow_nil _ _ _ _, Below.refl _ _⟩
  case round =>
    obtain ⟨k, hk, rfl, hown, hB⟩ := hrel
    have hsB := hB.size
    by_cases hlt : k < zs.length
    · obtain ⟨z, hz⟩ : ∃ z, zs[k]? = some z := ⟨zs[k], by simp [hlt]⟩
      obtain ⟨e0, e1, e2, e3, e4, e5⟩ := (hL.below hB hb).cell hz
      have HZ : Hid (zs[k]? = some z) := hz
      clear hz
      go_wp2_with (first
        | (go_at_call 18; refine (copy_int _ _).mono ?_; rintro e w4 ⟨rfl, hb4⟩; obtain ⟨hc4, hf4⟩ := bcell hb4; have hown4 := own_below (hown.alloc _) hb4; have hsz4 := hb4.size)
        | (at_builtin; refine wpList_append_own _ rfl _ _ 25 rfl w.heap.size 27 i0 (.agg #[.int .i64 0, .bool false, .int .i64 0, .string { data := #[] }, .slice none 0 0, .slice none 0 0]) 6 88 Tryz.underlying25 hi hz0 hz1 hz2 rfl (by decide) _ _ _ rfl (hown4.alloc _) ⟨w4.heap.size, 0, none⟩ 1 1 (cells1 z) rfl rfl new_cells (by intro u hu; simp [cells1] at hu; rcases hu with rfl | rfl | rfl | rfl | rfl <;> rfl) (by unfold maxLen; omega) (by omega) (by simp at hsz4; simp; omega) ?_; intro v' w5 hown5 hgrow5 _))
      go_roundw
      case rel => exact ⟨k + 1, by omega, by go_num, take_own HZ hown5, step_below (hB.alloc hsB _) hb4 (Nat.le_refl _) hgrow5 (own_ge hown4)⟩
      case measure => simp [intOf]; omega
    · have HK : Hid (k = zs.length) := by unfold Hid; omega
      go_wp2
      go_ret
      have h := hown
      rw [HK.out, List.take_length] at h
      obtain ⟨g, cap', hv, h1, h2, h3, h4, c, h5⟩ := own_some h hpos
      exact ⟨hB, u3, rfl, g, cap', c, hv, h1, h2, h3, h4, h5⟩
/-- Copy of a list of numbers -/
def CopyPost (zs : List Int) (w : World) (e : Ending) (w' : World) : Prop := Below w.heap.size w w' ∧ ∃ v, e = .returned (.agg #[.int .i64 4, .bool false, .int .i64 0, .string { data := #[] }, .slice none 0 0, v]) ∧ NewList zs w w' v
theorem NewList.later {zs : List Int} {w w1 w' w'' : World} {v : Value} (h : NewList zs w1 w' v) (hs : w.heap.size ≤ w1.heap.size) (hb : ∀ k, w1.heap.size ≤ k → k < w'.heap.size → w''.heap[k]? = w'.heap[k]?) : NewList zs w w'' v := by
  obtain ⟨g, cap, c, hv, h1, h2, h3, ⟨c', t, fr, h4, h4'⟩, h5⟩ := h
  have hk := hb g h1 h2
  exact ⟨g, cap, c, hv, by omega, (Array.getElem?_eq_some_iff.1 (hk.trans h5)).1, h3, ⟨c', t, fr, hk.trans h4, h4'⟩, hk.trans h5⟩
theorem fin6_results18 {w8 : World} {B : Nat} {sv : Value} {tmps : Array Value} (h : w8.heap[B]? = some (.cells #[.int .i64 0, .bool false, .int .i64 0, .string { data := #[] }, .slice none 0 0, .slice none 0 0] 27 (0, 0))) (ht : tmps[2]? = some (.pointer (some ⟨B, 0, none⟩))) :
    (results Tryz.f18 tmps).run Tryz.prog (fin6 w8 B sv) = .ok (.agg #[.int .i64 4, .bool false, .int .i64 0, .string { data := #[] }, .slice none 0 0, sv]) (fin6 w8 B sv) := by
  have h6 := fin6_at (sv := sv) h
  have q0 := cells_cell (o := 0) h6 rfl
  have q1 := cells_cell (o := 1) h6 rfl
  have q2 := cells_cell (o := 2) h6 rfl
  have q3 := cells_cell (o := 3) h6 rfl
  have q4 := cells_cell (o := 4) h6 rfl
  have q5 := cells_cell (o := 5) h6 rfl
  simp [results, Tryz.results18, go_sem, ht, q0, q1, q2, q3, q4, q5]
theorem fin6_below' {w w8 : World} {B B0 : Nat} {sv : Value} (h : Below B0 w w8) (hle : B0 ≤ B) : Below B0 w (fin6 w8 B sv) := by
  unfold fin6
  exact (((((h.setCell (p := ⟨B, 0, none⟩) hle _).setCell (p := ⟨B, 1, none⟩) hle _).setCell (p := ⟨B, 2, none⟩) hle _).setCell (p := ⟨B, 3, none⟩) hle _).setCell (p := ⟨B, 4, none⟩) hle _).setCell (p := ⟨B, 5, none⟩) hle _
theorem copy_end {zs : List Int} {B0 W2 w3 : World} {sv : Value} (HN : NewList zs W2 w3 sv) (hB0 : Below B0.heap.size B0 W2) (hb3 : Below W2.heap.size W2 w3) (hsz : W2.heap.size = B0.heap.size + 2) :
    CopyPost zs B0 (.returned (.agg #[.int .i64 4, .bool false, .int .i64 0, .string { data := #[] }, .slice none 0 0, sv])) (fin6 (w3.setCell ⟨B0.heap.size, 5, none⟩ sv) (B0.heap.size + 1) sv) := by
  have hB3 : Below B0.heap.size B0 w3 := hB0.trans (hb3.mono (by omega))
  refine ⟨fin6_below' (hB3.setCell (p := ⟨B0.heap.size, 5, none⟩) (Nat.le_refl _) _) (by omega), _, rfl, HN.later (by omega) fun k hk1 hk2 => ?_⟩
  rw [fin6_other k (by omega), Below.heap_setCell _ _ _ _ (by show k ≠ B0.heap.size; omega)]
set_option maxHeartbeats 2000000 in
theorem copy_list (b cap : Nat) (zs : List Int) (hpos : 0 < zs.length) (hmax : zs.length ≤ 65536) (w : World) (hb : b < w.heap.size) (hL : ListAt w b zs) :
    Calls Tryz.prog 18 #[.agg #[.int .i64 4, .bool false, .int .i64 0, .string { data := #[] }, .slice none 0 0, .slice (some ⟨b, 0, none⟩) zs.length cap]] w (CopyPost zs w) := by
  have hC := fun W hW hLW => copies_list b cap zs hpos hmax W hW hLW
  have hB0 : Below w.heap.size w ((w.alloc (.cells #[.int .i64 4, .bool false, .int .i64 0, .string { data := #[] }, .slice none 0 0, .slice (some ⟨b, 0, none⟩) zs.length cap] 27)).alloc (.cells #[.int .i64 0, .bool false, .int .i64 0, .string { data := #[] }, .slice none 0 0, .slice none 0 0] 27)) := ((Below.refl _ w).alloc (Nat.le_refl _) _).alloc (by simp) _
  have hL0 := hL.below hB0 hb
  have g0 : ((w.alloc (.cells #[.int .i64 4, .bool false, .int .i64 0, .string { data := #[] }, .slice none 0 0, .slice (some ⟨b, 0, none⟩) zs.length cap] 27)).alloc (.cells #[.int .i64 0, .bool false, .int .i64 0, .string { data := #[] }, .slice none 0 0, .slice none 0 0] 27)).heap[w.heap.size]? = some (.cells #[.int .i64 4, .bool false, .int .i64 0, .string { data := #[] }, .slice none 0 0, .slice (some ⟨b, 0, none⟩) zs.length cap] 27 (0, 0)) := (Below.heap_alloc _ _ _ (by simp)).trans (cells_new w _ 27)
  have g1 : ((w.alloc (.cells #[.int .i64 4, .bool false, .int .i64 0, .string { data := #[] }, .slice none 0 0, .slice (some ⟨b, 0, none⟩) zs.length cap] 27)).alloc (.cells #[.int .i64 0, .bool false, .int .i64 0, .string { data := #[] }, .slice none 0 0, .slice none 0 0] 27)).heap[w.heap.size + 1]? = some (.cells #[.int .i64 0, .bool false, .int .i64 0, .string { data := #[] }, .slice none 0 0, .slice none 0 0] 27 (0, 0)) := by
    have := cells_new (w.alloc (.cells #[.int .i64 4, .bool false, .int .i64 0, .string { data := #[] }, .slice none 0 0, .slice (some ⟨b, 0, none⟩) zs.length cap] 27)) #[.int .i64 0, .bool false, .int .i64 0, .string { data := #[] }, .slice none 0 0, .slice none 0 0] 27
    rwa [World.size_alloc] at this
  have hsz : ((w.alloc (.cells #[.int .i64 4, .bool false, .int .i64 0, .string { data := #[] }, .slice none 0 0, .slice (some ⟨b, 0, none⟩) zs.length cap] 27)).alloc (.cells #[.int .i64 0, .bool false, .int .i64 0, .string { data := #[] }, .slice none 0 0, .slice none 0 0] 27)).heap.size = w.heap.size + 2 := by simp
  go_enter Tryz.func18, Tryz.ntmps18
  go_wp2_with (first | (go_at_call 24; refine (clone_nil _).mono ?_; rintro e w' ⟨rfl, rfl⟩))
  obtain ⟨W2, hW2⟩ : ∃ W2, (w.alloc (.cells #[.int .i64 4, .bool false, .int .i64 0, .string { data := #[] }, .slice none 0 0, .slice (some ⟨b, 0, none⟩) zs.length cap] 27)).alloc (.cells #[.int .i64 0, .bool false, .int .i64 0, .string { data := #[] }, .slice none 0 0, .slice none 0 0] 27) = W2 := ⟨_, rfl⟩
  rw [hW2] at g0 g1 hsz hL0 hB0 ⊢
  clear hW2
  refine (hC W2 (by omega) hL0).mono ?_
  rintro e w3 ⟨hb3, v, rfl, hnew⟩
  have hnew0 := hnew
  obtain ⟨g, cap', c, rfl, h1, h2, h3, h4, h5⟩ := hnew
  have a0 := (hb3.block (w.heap.size) (by omega)).trans g0
  have a1 := (hb3.block (w.heap.size + 1) (by omega)).trans g1
  have x0 := cells_cell (o := 0) a0 rfl
  have x1 := cells_cell (o := 1) a0 rfl
  have x2 := cells_cell (o := 2) a0 rfl
  have x3 := cells_cell (o := 3) a0 rfl
  have x4 := cells_cell (o := 4) a0 rfl
  have x5 := cells_cell (o := 5) a0 rfl
  have xf := fun o => cells_frozen (o := o) a0
  have r0 := cells_cell (o := 0) a1 rfl
  have r1 := cells_cell (o := 1) a1 rfl
  have r2 := cells_cell (o := 2) a1 rfl
  have r3 := cells_cell (o := 3) a1 rfl
  have r4 := cells_cell (o := 4) a1 rfl
  have r5 := cells_cell (o := 5) a1 rfl
  have rf := fun o => cells_frozen (o := o) a1
  have HN : Hid (NewList zs W2 w3 (.slice (some ⟨g, 0, none⟩) zs.length cap')) := hnew0
  have H1 : Hid (w3.heap[w.heap.size + 1]? = some (.cells #[.int .i64 0, .bool false, .int .i64 0, .string { data := #[] }, .slice none 0 0, .slice none 0 0] 27 (0, 0))) := a1
  clear hnew0 h4 h5 a0 a1 g0 g1 hC hL0
  go_wp2
  have hE := copy_end (B0 := w) HN.out hB0 hb3 hsz
  have a1' : (w3.setCell ⟨w.heap.size, 5, none⟩ (.slice (some ⟨g, 0, none⟩) zs.length cap')).heap[w.heap.size + 1]? = some (.cells #[.int .i64 0, .bool false, .int .i64 0, .string { data := #[] }, .slice none 0 0, .slice none 0 0] 27 (0, 0)) :=
    (Below.heap_setCell w3 ⟨w.heap.size, 5, none⟩ _ (w.heap.size + 1) (by show w.heap.size + 1 ≠ w.heap.size; omega)).trans H1.out
  exact bodyPost_ret (fin6_results18 a1' rfl) rfl hE
end Go.Proofs.Wk
