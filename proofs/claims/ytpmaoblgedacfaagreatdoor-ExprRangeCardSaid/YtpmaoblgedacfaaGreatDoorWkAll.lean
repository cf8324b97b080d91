/-
  The iterator of value.all at a list of numbers. Own text.
-/
import Derived.Test.YtpmaoblgedacfaaGreatDoorWkIter
import Derived.Laws.EntriesVeiled
set_option linter.all false
namespace Go.Proofs.Wk
open Go.RowKit Go.Shelf
attribute [local go_sem] Oper.semAt_some
set_option maxRecDepth 100000 in
set_option maxHeartbeats 2000000 in
theorem all1_in (F : Fence) (hd : F.depth = none) (h95 : F.fn 95) (h96 : F.fn 96) (hro : F.round = none) (l B3 B4 Bv b cap : Nat) (zs : List Int) (hmax : zs.length ≤ 65536) (J Jx : List (Option Int) → World → Prop)
    (hJa : ∀ pre W o, J pre W → J pre (W.alloc o))
    (hY : ∀ m pre x W, J pre W → pre.length < zs.length + 1 → YieldAt F m Tryz.prog l (enc ⟨b, 0, none⟩ zs.length cap x) W fun e W' =>
      (e = .returned (.bool true) ∧ J (pre ++ [x]) W' ∧ KpC B3 B4 W W') ∨ (e = .returned (.bool false) ∧ Jx (pre ++ [x]) W'))
    (n : Nat) (W : World) (hv : W.heap[Bv]? = some (.cells #[.int .i64 4, .bool false, .int .i64 0, .string { data := #[] }, .slice none 0 0, .slice (some ⟨b, 0, none⟩) zs.length cap] 27 (0, 0)))
    (h3 : B3 < W.heap.size) (h4 : B4 < W.heap.size) (hb3 : b ≠ B3) (hb4 : b ≠ B4) (hL : ListAt W b zs) (hJ : J [] W) :
    CallsIn F n Tryz.prog 95 #[.func (.yield l) #[] #[], .pointer (some ⟨Bv, 0, none⟩)] W fun e W' => (∃ v, e = .returned v) ∧
      ((∃ xs, xs = come zs zs.length ∧ J xs W') ∨ (∃ pre, (∃ k, k ≤ zs.length ∧ pre = come zs k) ∧ Jx pre W')) := by
  have hdd : ∀ k : Nat, (F.depth.isSome = true → 1 ≤ k) := fun k h => by rw [hd] at h; cases h
  have hmf : ∀ (fn : Fn) (first cap : Array Value) (w : World), (Instr.makeFunc fn first cap).run Tryz.prog w = .ok (.func fn first cap) w := fun _ _ _ _ => rfl
  obtain ⟨W2, hW2⟩ : ∃ W2, (W.alloc (.cells #[.func (.yield l) #[] #[]] 156)).alloc (.cells #[.func (.func 96) #[] #[.pointer (some ⟨W.heap.size, 0, none⟩), .pointer (some ⟨W.heap.size + 1, 0, none⟩)]] 157) = W2 := ⟨_, rfl⟩
  have hB2 : Below W.heap.size W W2 := by rw [← hW2]; exact ((Below.refl _ W).alloc (Nat.le_refl _) _).alloc (by simp) _
  have hv2 := (hB2.block Bv (Array.getElem?_eq_some_iff.1 hv).1).trans hv
  have hy2 : W2.heap[W.heap.size]? = some (.cells #[.func (.yield l) #[] #[]] 156 (0, 0)) := by
    rw [← hW2]; exact (Below.heap_alloc _ _ _ (by simp)).trans (cells_new W _ 156)
  have hg2 : W2.heap[W.heap.size + 1]? = some (.cells #[.func (.func 96) #[] #[.pointer (some ⟨W.heap.size, 0, none⟩), .pointer (some ⟨W.heap.size + 1, 0, none⟩)]] 157 (0, 0)) := by
    rw [← hW2]; have := cells_new (W.alloc (.cells #[.func (.yield l) #[] #[]] 156)) #[.func (.func 96) #[] #[.pointer (some ⟨W.heap.size, 0, none⟩), .pointer (some ⟨W.heap.size + 1, 0, none⟩)]] 157; rwa [World.size_alloc] at this
  have hs2 := hB2.size
  have G := goes_list F hd h96 hro l B3 B4 b cap zs hmax J Jx hJa hY (n - 1) W2 W.heap.size (W.heap.size + 1) hy2 hg2 (by omega) (by omega) (by omega) (by omega) (by omega) (by omega) hb3 hb4 (hL.keep (KpC.of_below hB2) hb3 hb4) (by rw [← hW2]; exact hJa _ _ _ (hJa _ _ _ hJ))
  have c0 := cells_cell (o := 0) hv2 rfl
  have c1 := cells_cell (o := 1) hv2 rfl
  have c2 := cells_cell (o := 2) hv2 rfl
  have c3 := cells_cell (o := 3) hv2 rfl
  have c4 := cells_cell (o := 4) hv2 rfl
  have c5 := cells_cell (o := 5) hv2 rfl
  have cg := cells_cell (o := 0) hg2 rfl
  rw [← hW2] at c0 c1 c2 c3 c4 c5 cg G
  clear hy2 hg2 hv2 hW2
  refine callsIn_of_wp Tryz.func95 rfl h95 ?_ hro
  simp only [Tryz.ntmps95, List.size_toArray, List.length_cons, List.length_nil, Nat.reduceAdd, Nat.reduceSub, Array.replicate_succ, Array.replicate_zero, List.push_toArray, List.append_toArray, List.nil_append, List.cons_append]
  gi_wp2_with ((try refine ⟨hdd _, ?_⟩); gi_at_call 96; refine G.mono ?_; clear G; rintro e W4 (⟨rfl, hJ4⟩ | ⟨rfl, k, hk, hx4⟩))
  · go_end0
    exact ⟨⟨_, rfl⟩, .inl ⟨_, rfl, hJ4⟩⟩
  · go_end0
    exact ⟨⟨_, rfl⟩, .inr ⟨_, ⟨k, hk, rfl⟩, hx4⟩⟩
/-- value.all: the value is boxed, the function value holds the box -/
theorem all_in (F : Fence) (n : Nat) (h46 : F.fn 46) (hro : F.round = none) (b cap len : Nat) (w : World) :
    CallsIn F n Tryz.prog 46 #[.agg #[.int .i64 4, .bool false, .int .i64 0, .string { data := #[] }, .slice none 0 0, .slice (some ⟨b, 0, none⟩) len cap]] w fun e w' => e = .returned (.func (.func 95) #[] #[.pointer (some ⟨w.heap.size, 0, none⟩)]) ∧ w' = w.alloc (.cells #[.int .i64 4, .bool false, .int .i64 0, .string { data := #[] }, .slice none 0 0, .slice (some ⟨b, 0, none⟩) len cap] 27) := by
  have hmf : ∀ (fn : Fn) (first cap : Array Value) (w : World), (Instr.makeFunc fn first cap).run Tryz.prog w = .ok (.func fn first cap) w := fun _ _ _ _ => rfl
  refine callsIn_of_wp Tryz.func46 rfl h46 ?_ hro
  simp only [Tryz.ntmps46, List.size_toArray, List.length_cons, List.length_nil, Nat.reduceAdd, Nat.reduceSub, Array.replicate_succ, Array.replicate_zero, List.push_toArray, List.append_toArray, List.nil_append, List.cons_append]
  gi_wp2
  go_ret
  exact ⟨rfl, rfl⟩
theorem all_stops (F : Fence) (hd : F.depth = none) (n : Nat) (h95 : F.fn 95) (h96 : F.fn 96) (hro : F.round = none) (B3 B4 Bv b cap : Nat) (zs : List Int) (hmax : zs.length ≤ 65536) (w : World)
    (hv : w.heap[Bv]? = some (.cells #[.int .i64 4, .bool false, .int .i64 0, .string { data := #[] }, .slice none 0 0, .slice (some ⟨b, 0, none⟩) zs.length cap] 27 (0, 0)))
    (h3 : B3 < w.heap.size) (h4 : B4 < w.heap.size) (hb3 : b ≠ B3) (hb4 : b ≠ B4) (hL : ListAt w b zs) :
    SeqStopsK F n Tryz.prog 95 #[.pointer (some ⟨Bv, 0, none⟩)] (enc ⟨b, 0, none⟩ zs.length cap) (KpC B3 B4) (fun xs => xs = come zs zs.length) (fun pre => ∃ k, k ≤ zs.length ∧ pre = come zs k) (zs.length + 1) w := fun l J Jx W hW hJ _ hY h0 =>
  all1_in F hd h95 h96 hro l B3 B4 Bv b cap zs hmax J Jx (fun pre W o hj => hJ pre W _ none hj (World.grownBy_alloc W o none) (fun r e => by cases e)) (fun m pre x W hj hl => YieldAt.anyDepth hd m (hY pre x W hj hl)) n W
    ((hW.block Bv (Array.getElem?_eq_some_iff.1 hv).1).trans hv) (Nat.lt_of_lt_of_le h3 hW.size) (Nat.lt_of_lt_of_le h4 hW.size) hb3 hb4 (hL.keep (KpC.of_below hW) hb3 hb4) h0
end Go.Proofs.Wk
