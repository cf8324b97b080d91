/-
  The values of a list, as value.all goes over them: the list itself, then each number. Own text (after the guide's worked iterators over a tree and a slice).
-/
import Derived.RangeFuncNested
import Derived.RangeFuncBound
import Derived.RangeFuncCalls
import Derived.RangeFuncLeaves
import Derived.Shelf.Abstract
import Derived.Shelf.RegionOpen
import Derived.WalkKit
import Derived.OwnWalkIn
import Derived.TacticsInMore
import Derived.LoopNIn
import Derived.LoopIn
import Derived.Test.YtpmaoblgedacfaaGreatDoorWkBare
set_option linter.all false
namespace Go.Proofs.Wk
open Go.RowKit Go.Shelf
attribute [local go_sem] Oper.semAt_some

theorem room_of_none {F : Fence} (hd : F.depth = none) (k : Nat) : F.room k := fun d h => by rw [hd] at h; cases h
theorem RoundIn.anyDepth {F : Fence} (hd : F.depth = none) {m m' : Nat} {P : Program} {l : Nat} {f : FuncId} {tmps : Array Value} {assign body : Code} {w : World} {R : Ending → World → Prop}
    (h : RoundIn F m P l f tmps assign body w R) : RoundIn F m' P l f tmps assign body w R := ⟨h.1, fun c cs _ => h.2 c cs (room_of_none hd _)⟩
theorem YieldAt.anyDepth {F : Fence} (hd : F.depth = none) {m : Nat} (m' : Nat) {P : Program} {l : Nat} {args : Array Value} {W : World} {R : Ending → World → Prop} (h : YieldAt F m P l args W R) : YieldAt F m' P l args W R := by
  obtain ⟨fn, tmps, assign, body, hy, hR⟩ := h
  exact ⟨fn, tmps, assign, body, hy, RoundIn.anyDepth hd hR⟩

/-- cells lie as they lay, but for two boxes -/
structure KpC (B3 B4 : Nat) (W W' : World) : Prop where
  size : W.heap.size ≤ W'.heap.size
  cells : ∀ k c t fr, k ≠ B3 → k ≠ B4 → W.heap[k]? = some (.cells c t fr) → W'.heap[k]? = some (.cells c t fr)
theorem KpC.refl (B3 B4 : Nat) (W : World) : KpC B3 B4 W W := ⟨Nat.le_refl _, fun _ _ _ _ _ _ h => h⟩
theorem KpC.trans {B3 B4 : Nat} {A B C : World} (h : KpC B3 B4 A B) (h' : KpC B3 B4 B C) : KpC B3 B4 A C := ⟨Nat.le_trans h.size h'.size, fun k c t fr a b e => h'.cells k c t fr a b (h.cells k c t fr a b e)⟩
theorem KpC.alloc {B3 B4 : Nat} {A B : World} (h : KpC B3 B4 A B) (o : Obj) : KpC B3 B4 A (B.alloc o) :=
  h.trans ⟨by simp, fun k c t fr _ _ e => (Below.heap_alloc B o k (Array.getElem?_eq_some_iff.1 e).1).trans e⟩
theorem KpC.of_below {B3 B4 : Nat} {A B : World} (h : Below A.heap.size A B) : KpC B3 B4 A B := ⟨h.size, fun k c t fr _ _ e => (h.block k (Array.getElem?_eq_some_iff.1 e).1).trans e⟩
theorem cells_cell {W : World} {B o : Nat} {c : Array Value} {t : TypeId} {fr : Nat × Nat} {v : Value} (h : W.heap[B]? = some (.cells c t fr)) (hv : c[o]? = some v) : W.cell? ⟨B, o, none⟩ = some v := by simp [World.cell?, h, hv]
theorem cells_frozen {W : World} {B o : Nat} {c : Array Value} {t : TypeId} (h : W.heap[B]? = some (.cells c t (0, 0))) : W.frozen? ⟨B, o, none⟩ = false := by simp [World.frozen?, h]
theorem cells_new (W : World) (c : Array Value) (t : TypeId) : (W.alloc (.cells c t)).heap[W.heap.size]? = some (.cells c t (0, 0)) := World.alloc_heap_new W _

/-- what comes: the list itself, or one of its numbers -/
def enc (a : Addr) (n c : Nat) : Option Int → Array Value
  | none => #[.int .i64 1, .agg #[.int .i64 4, .bool false, .int .i64 0, .string { data := #[] }, .slice none 0 0, .slice (some a) n c]]
  | some z => #[.int .i64 2, .agg #[.int .i64 2, .bool false, .int .i64 z, .string { data := #[] }, .slice none 0 0, .slice none 0 0]]

set_option maxRecDepth 100000 in
set_option maxHeartbeats 2000000 in
theorem goes_int (F : Fence) (hd : F.depth = none) (h96 : F.fn 96) (hro : F.round = none) (l B3 B4 N : Nat) (a : Addr) (len cap : Nat) (J Jx : List (Option Int) → World → Prop)
    (hJa : ∀ pre W o, J pre W → J pre (W.alloc o))
    (hY : ∀ m pre x W, J pre W → pre.length < N → YieldAt F m Tryz.prog l (enc a len cap x) W fun e W' =>
      (e = .returned (.bool true) ∧ J (pre ++ [x]) W' ∧ KpC B3 B4 W W') ∨ (e = .returned (.bool false) ∧ Jx (pre ++ [x]) W'))
    (n : Nat) (z : Int) (pre : List (Option Int)) (W : World) (By Bg : Nat) (hy : W.heap[By]? = some (.cells #[.func (.yield l) #[] #[]] 156 (0, 0))) (h3 : B3 < W.heap.size) (h4 : B4 < W.heap.size) (hJ : J pre W) (hN : pre.length < N) :
    CallsIn F n Tryz.prog 96 #[.agg #[.int .i64 2, .bool false, .int .i64 z, .string { data := #[] }, .slice none 0 0, .slice none 0 0], .int .i64 2, .pointer (some ⟨By, 0, none⟩), .pointer (some ⟨Bg, 0, none⟩)] W fun e W' =>
      (e = .returned (.bool true) ∧ J (pre ++ [some z]) W' ∧ KpC B3 B4 W W') ∨ (e = .returned (.bool false) ∧ Jx (pre ++ [some z]) W') := by
  have hdd : ∀ k : Nat, (F.depth.isSome = true → 1 ≤ k) := fun k h => by rw [hd] at h; cases h
  obtain ⟨W1, hW1⟩ : ∃ W1, W.alloc (.cells #[.int .i64 2, .bool false, .int .i64 z, .string { data := #[] }, .slice none 0 0, .slice none 0 0] 27) = W1 := ⟨_, rfl⟩
  have hyc := cells_cell (o := 0) ((Below.heap_alloc W (.cells #[.int .i64 2, .bool false, .int .i64 z, .string { data := #[] }, .slice none 0 0, .slice none 0 0] 27) By (Array.getElem?_eq_some_iff.1 hy).1).trans hy) rfl
  have hYz : YieldAt F (n - 1) Tryz.prog l (enc a len cap (some z)) (W.alloc (.cells #[.int .i64 2, .bool false, .int .i64 z, .string { data := #[] }, .slice none 0 0, .slice none 0 0] 27)) fun e W' =>
      (e = .returned (.bool true) ∧ J (pre ++ [some z]) W' ∧ KpC B3 B4 W W' ∧ W'.cell? ⟨W.heap.size, 5, none⟩ = some (.slice none 0 0)) ∨ (e = .returned (.bool false) ∧ Jx (pre ++ [some z]) W') :=
    YieldAt.mono (hY (n - 1) pre (some z) _ (hJa _ _ _ hJ) hN) fun e W' h => h.elim (fun ⟨he, hj, hk⟩ => .inl ⟨he, hj, ((KpC.refl B3 B4 W).alloc _).trans hk,
      cells_cell (hk.cells _ _ _ _ (by omega) (by omega) (cells_new W _ 27)) rfl⟩) .inr
  obtain ⟨fn, tmps, assign, body, hyo, hR⟩ := hYz
  dsimp only [enc] at hyo
  clear hW1
  refine callsIn_of_wp Tryz.func96 rfl h96 ?_ hro
  simp only [Tryz.ntmps96, List.size_toArray, List.length_cons, List.length_nil, Nat.reduceAdd, Nat.reduceSub, Array.replicate_succ, Array.replicate_zero, List.push_toArray, List.append_toArray, List.nil_append, List.cons_append]
  gi_wp2_with ((try refine ⟨hdd _, ?_⟩); refine hR.mono ?_; clear hR; rintro e W2 (⟨rfl, hJ2, hk2, hc2⟩ | ⟨rfl, hx2⟩))
  · gi_loopw [17] (fun i wr => i = .int .i64 0 ∧ J (pre ++ [some z]) wr ∧ KpC B3 B4 W wr) (fun _ _ => 0)
    case atStart => exact ⟨rfl, hJ2, hk2⟩
    case round =>
      obtain ⟨rfl, hJ3, hk3⟩ := hrel
      gi_wp2
      go_ret
      exact .inl ⟨rfl, hJ3, hk3⟩
  · go_ret
    exact .inr ⟨rfl, hx2⟩
/-- the numbers of a list lie in block b -/
def ListAt (W : World) (b : Nat) (zs : List Int) : Prop := ∃ c t fr, W.heap[b]? = some (.cells c t fr) ∧ ∀ k z, zs[k]? = some z →
  c[k * 6]? = some (.int .i64 2) ∧ c[k * 6 + 1]? = some (.bool false) ∧ c[k * 6 + 2]? = some (.int .i64 z) ∧ c[k * 6 + 3]? = some (.string { data := #[] }) ∧ c[k * 6 + 4]? = some (.slice none 0 0) ∧ c[k * 6 + 5]? = some (.slice none 0 0)
theorem ListAt.keep {B3 B4 : Nat} {A B : World} {b : Nat} {zs : List Int} (h : ListAt A b zs) (hk : KpC B3 B4 A B) (h3 : b ≠ B3) (h4 : b ≠ B4) : ListAt B b zs := by
  obtain ⟨c, t, fr, h1, h2⟩ := h
  exact ⟨c, t, fr, hk.cells b c t fr h3 h4 h1, h2⟩
theorem ListAt.cell {W : World} {b : Nat} {zs : List Int} (h : ListAt W b zs) {k : Nat} {z : Int} (hz : zs[k]? = some z) :
    W.cell? ⟨b, k * 6, none⟩ = some (.int .i64 2) ∧ W.cell? ⟨b, k * 6 + 1, none⟩ = some (.bool false) ∧ W.cell? ⟨b, k * 6 + 2, none⟩ = some (.int .i64 z) ∧ W.cell? ⟨b, k * 6 + 3, none⟩ = some (.string { data := #[] }) ∧ W.cell? ⟨b, k * 6 + 4, none⟩ = some (.slice none 0 0) ∧ W.cell? ⟨b, k * 6 + 5, none⟩ = some (.slice none 0 0) := by
  obtain ⟨c, t, fr, h1, h2⟩ := h
  obtain ⟨a0, a1, a2, a3, a4, a5⟩ := h2 k z hz
  exact ⟨cells_cell h1 a0, cells_cell h1 a1, cells_cell h1 a2, cells_cell h1 a3, cells_cell h1 a4, cells_cell h1 a5⟩
/-- what has come behind k numbers -/
def come (zs : List Int) (k : Nat) : List (Option Int) := none :: (zs.take k).map some
theorem come_succ {zs : List Int} {k : Nat} {z : Int} (h : zs[k]? = some z) : come zs (k + 1) = come zs k ++ [some z] := by
  obtain ⟨hlt, rfl⟩ := List.getElem?_eq_some_iff.1 h
  unfold come; rw [List.take_add_one, h, List.map_append]; rfl
theorem come_length (zs : List Int) (k : Nat) (h : k ≤ zs.length) : (come zs k).length = k + 1 := by simp [come, h]

set_option maxRecDepth 100000 in
set_option maxHeartbeats 2000000 in
theorem goes_list (F : Fence) (hd : F.depth = none) (h96 : F.fn 96) (hro : F.round = none) (l B3 B4 b cap : Nat) (zs : List Int) (hmax : zs.length ≤ 65536) (J Jx : List (Option Int) → World → Prop)
    (hJa : ∀ pre W o, J pre W → J pre (W.alloc o))
    (hY : ∀ m pre x W, J pre W → pre.length < zs.length + 1 → YieldAt F m Tryz.prog l (enc ⟨b, 0, none⟩ zs.length cap x) W fun e W' =>
      (e = .returned (.bool true) ∧ J (pre ++ [x]) W' ∧ KpC B3 B4 W W') ∨ (e = .returned (.bool false) ∧ Jx (pre ++ [x]) W'))
    (n : Nat) (W : World) (By Bg : Nat) (hy : W.heap[By]? = some (.cells #[.func (.yield l) #[] #[]] 156 (0, 0))) (hg : W.heap[Bg]? = some (.cells #[.func (.func 96) #[] #[.pointer (some ⟨By, 0, none⟩), .pointer (some ⟨Bg, 0, none⟩)]] 157 (0, 0)))
    (h3 : B3 < W.heap.size) (h4 : B4 < W.heap.size) (hy3 : By ≠ B3) (hy4 : By ≠ B4) (hg3 : Bg ≠ B3) (hg4 : Bg ≠ B4) (hb3 : b ≠ B3) (hb4 : b ≠ B4) (hL : ListAt W b zs) (hJ : J [] W) :
    CallsIn F n Tryz.prog 96 #[.agg #[.int .i64 4, .bool false, .int .i64 0, .string { data := #[] }, .slice none 0 0, .slice (some ⟨b, 0, none⟩) zs.length cap], .int .i64 1, .pointer (some ⟨By, 0, none⟩), .pointer (some ⟨Bg, 0, none⟩)] W fun e W' =>
      (e = .returned (.bool true) ∧ J (come zs zs.length) W') ∨ (e = .returned (.bool false) ∧ ∃ k, k ≤ zs.length ∧ Jx (come zs k) W') := by
  have hdd : ∀ k : Nat, (F.depth.isSome = true → 1 ≤ k) := fun k h => by rw [hd] at h; cases h
  have hyc := cells_cell (o := 0) ((Below.heap_alloc W (.cells #[.int .i64 4, .bool false, .int .i64 0, .string { data := #[] }, .slice none 0 0, .slice (some ⟨b, 0, none⟩) zs.length cap] 27) By (Array.getElem?_eq_some_iff.1 hy).1).trans hy) rfl
  have hYz : YieldAt F (n - 1) Tryz.prog l (enc ⟨b, 0, none⟩ zs.length cap none) (W.alloc (.cells #[.int .i64 4, .bool false, .int .i64 0, .string { data := #[] }, .slice none 0 0, .slice (some ⟨b, 0, none⟩) zs.length cap] 27)) fun e W' =>
      (e = .returned (.bool true) ∧ J (come zs 0) W' ∧ KpC B3 B4 W W' ∧ W'.cell? ⟨W.heap.size, 5, none⟩ = some (.slice (some ⟨b, 0, none⟩) zs.length cap)) ∨ (e = .returned (.bool false) ∧ Jx (come zs 0) W') :=
    YieldAt.mono (hY (n - 1) [] none _ (hJa _ _ _ hJ) (by simp)) fun e W' h => h.elim (fun ⟨he, hj, hk⟩ => .inl ⟨he, hj, ((KpC.refl B3 B4 W).alloc _).trans hk,
      cells_cell (hk.cells _ _ _ _ (by omega) (by omega) (cells_new W _ 27)) rfl⟩) .inr
  obtain ⟨fn, tmps, assign, body, hyo, hR⟩ := hYz
  dsimp only [enc] at hyo
  refine callsIn_of_wp Tryz.func96 rfl h96 ?_ hro
  simp only [Tryz.ntmps96, List.size_toArray, List.length_cons, List.length_nil, Nat.reduceAdd, Nat.reduceSub, Array.replicate_succ, Array.replicate_zero, List.push_toArray, List.append_toArray, List.nil_append, List.cons_append]
  gi_wp2_with ((try refine ⟨hdd _, ?_⟩); refine hR.mono ?_; clear hR; rintro e W2 (⟨rfl, hJ2, hk2, hc2⟩ | ⟨rfl, hx2⟩))
  · gi_loopw [17] (fun i wr => ∃ k : Nat, k ≤ zs.length ∧ i = .int .i64 k ∧ J (come zs k) wr ∧ KpC B3 B4 W wr) (fun i _ => zs.length - (intOf i).toNat)
    case atStart => exact ⟨0, Nat.zero_le _, rfl, hJ2, hk2⟩
    case round =>
      obtain ⟨k, hk, rfl, hJ3, hk3⟩ := hrel
      by_cases hlt : k < zs.length
      · obtain ⟨z, hz⟩ : ∃ z, zs[k]? = some z := ⟨zs[k], by simp [hlt]⟩
        obtain ⟨e0, e1, e2, e3, e4, e5⟩ := (hL.keep hk3 hb3 hb4).cell hz
        have hgb := hk3.cells _ _ _ _ hg3 hg4 hg
        have hgc := cells_cell (o := 0) ((Below.heap_alloc wr (.cells #[.int .i64 2, .bool false, .int .i64 z, .string { data := #[] }, .slice none 0 0, .slice none 0 0] 27) Bg (Array.getElem?_eq_some_iff.1 hgb).1).trans hgb) rfl
        have hyb := hk3.cells _ _ _ _ hy3 hy4 hy
        have hyb3 := (Below.heap_alloc wr (.cells #[.int .i64 2, .bool false, .int .i64 z, .string { data := #[] }, .slice none 0 0, .slice none 0 0] 27) By (Array.getElem?_eq_some_iff.1 hyb).1).trans hyb
        have hsz := hk3.size
        have G := goes_int F hd h96 hro l B3 B4 (zs.length + 1) ⟨b, 0, none⟩ zs.length cap J Jx hJa hY (n - 1) z (come zs k) (wr.alloc (.cells #[.int .i64 2, .bool false, .int .i64 z, .string { data := #[] }, .slice none 0 0, .slice none 0 0] 27)) By Bg hyb3 (by simp; omega) (by simp; omega) (hJa _ _ _ hJ3) (by rw [come_length zs k hk]; omega)
        clear hyb hyb3
        gi_wp2_with ((try refine ⟨hdd _, ?_⟩); gi_at_call 96; refine G.mono ?_; clear G; rintro e W4 (⟨rfl, hJ4, hk4⟩ | ⟨rfl, hx4⟩))
        · go_roundw
          case rel => exact ⟨k + 1, by omega, by go_num, by rw [come_succ hz]; exact hJ4, (hk3.alloc _).trans hk4⟩
          case measure => simp [intOf]; omega
        · go_ret
          exact .inr ⟨rfl, k + 1, by omega, by rw [come_succ hz]; exact hx4⟩
      · obtain rfl : k = zs.length := by omega
        gi_wp2
        go_ret
        exact .inl ⟨rfl, hJ3⟩
  · go_ret
    exact .inr ⟨rfl, 0, Nat.zero_le _, hx2⟩
end Go.Proofs.Wk
