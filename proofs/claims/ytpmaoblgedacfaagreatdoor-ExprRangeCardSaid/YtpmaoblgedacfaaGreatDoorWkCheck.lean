/-
  value.Check at a list of numbers. Own text.
-/
import Derived.Test.YtpmaoblgedacfaaGreatDoorWkAll
import Derived.RecoverIn
set_option linter.all false
namespace Go.Proofs.Wk
open Go.RowKit Go.Shelf
attribute [local go_sem] Oper.semAt_some
set_option maxRecDepth 100000 in
theorem check1_idle (F : Fence) (n : Nat) (h45 : F.fn 45) (hro : F.round = none) (p : Addr) (w : World) :
    CallsDIn F n Tryz.prog 45 #[.pointer (some p)] .returning w fun e u' w' => e = .returned (.tuple #[]) ∧ u' = .returning ∧ w' = w := by
  refine callsDIn_of_wpSIn Tryz.func45 rfl h45 fun c₀ cs hu => ?_
  apply wpSIn_seq
  apply wpSIn_region
  simp [wpOpsSIn, go_sem, recoverD, hu, Tryz.ntmps45, Exit.thenS]
  refine wpSIn_of_wpIn hro ?_
  gi_wp2
  cases c₀
  simp_all [bodyPostS, results, Tryz.results45]
theorem KpC_b {B3 B4 : Nat} {w : World} (W : World) (l : Nat) (o o' : Obj) (_ : w.heap.size ≤ l) (hl : W.heap[l]? = some o) (ho : o.isCells = false) (_ : o.isWalk = false) : KpC B3 B4 W (W.putObj l o') := by
  have hg := grownBy_putObj' W l o'
  refine ⟨hg.size, fun k c t fr _ _ h => (hg.block k (Array.getElem?_eq_some_iff.1 h).1 (fun e => ?_)).trans h⟩
  obtain rfl : k = l := Option.some.inj e
  rw [h] at hl; cases hl; cases ho
/-- a box of several cells -/
theorem cellsOwn {β : Type} (B : Nat) (t : TypeId) (cs : Array Value) : Own (fun (_ : β) W => W.heap[B]? = some (.cells cs t (0, 0))) := fun s X Y row hs hg hrow =>
  (hg.block B (Array.getElem?_eq_some_iff.1 hs).1 (fun e' => by obtain ⟨o, ho, hc⟩ := hrow B e'.symm; rw [hs] at ho; cases ho; cases hc)).trans hs
theorem KpC.set3 {B3 B4 : Nat} (W : World) (o : Nat) (v : Value) : KpC B3 B4 W (W.setCell ⟨B3, o, none⟩ v) := ⟨by simp [World.setCell], fun k _ _ _ h _ e => (Below.heap_setCell W _ v k h).trans e⟩
theorem KpC.set4 {B3 B4 : Nat} (W : World) (o : Nat) (v : Value) : KpC B3 B4 W (W.setCell ⟨B4, o, none⟩ v) := ⟨by simp [World.setCell], fun k _ _ _ _ h e => (Below.heap_setCell W _ v k h).trans e⟩
theorem keepsFrom_below {B : Nat} {W W' : World} (h : Below W.heap.size W W') : KeepsFrom B W W' := ⟨h.size, fun i o _ h0 _ => (h.block i (Array.getElem?_eq_some_iff.1 h0).1).trans h0⟩
theorem boxed_below {W W' : World} {B : Nat} {t : TypeId} {v : Value} (h : Below W.heap.size W W') (hb : Boxed W B t v) : Boxed W' B t v := (h.block B hb.lt).trans hb
/-- what a round of Check leaves -/
theorem round_post {w W w1 : World} {B0 : Nat} (hB1 : Below w.heap.size w W) (b31 : Boxed W (w.heap.size + 1 + 1) 3 (.int .i64 0)) (b41 : Boxed W (w.heap.size + 1 + 1 + 1) 4 (.bool false)) (b21 : Boxed W (w.heap.size + 1) 32 (.int .i64 0)) (hb1 : Below W.heap.size W w1) :
    KeepsFrom B0 W ((w1.setCell ⟨w.heap.size + 1 + 1, 0, none⟩ (.int .i64 0)).setCell ⟨w.heap.size + 1 + 1 + 1, 0, none⟩ (.bool false)) ∧
    KpC (w.heap.size + 1 + 1) (w.heap.size + 1 + 1 + 1) W ((w1.setCell ⟨w.heap.size + 1 + 1, 0, none⟩ (.int .i64 0)).setCell ⟨w.heap.size + 1 + 1 + 1, 0, none⟩ (.bool false)) ∧
    ((Boxed ((w1.setCell ⟨w.heap.size + 1 + 1, 0, none⟩ (.int .i64 0)).setCell ⟨w.heap.size + 1 + 1 + 1, 0, none⟩ (.bool false)) (w.heap.size + 1 + 1) 3 (.int .i64 0) ∧
      Boxed ((w1.setCell ⟨w.heap.size + 1 + 1, 0, none⟩ (.int .i64 0)).setCell ⟨w.heap.size + 1 + 1 + 1, 0, none⟩ (.bool false)) (w.heap.size + 1 + 1 + 1) 4 (.bool false)) ∧
      Boxed ((w1.setCell ⟨w.heap.size + 1 + 1, 0, none⟩ (.int .i64 0)).setCell ⟨w.heap.size + 1 + 1 + 1, 0, none⟩ (.bool false)) (w.heap.size + 1) 32 (.int .i64 0)) ∧
    Below w.heap.size w ((w1.setCell ⟨w.heap.size + 1 + 1, 0, none⟩ (.int .i64 0)).setCell ⟨w.heap.size + 1 + 1 + 1, 0, none⟩ (.bool false)) :=
  ⟨(keepsFrom_below hb1).trans (((KeepsOthers.setCell _ _ _).from _).trans ((KeepsOthers.setCell _ _ _).from _)),
   (KpC.of_below hb1).trans ((KpC.set3 _ _ _).trans (KpC.set4 _ _ _)),
   ⟨⟨((boxed_below hb1 b31).set _).other (by omega) _, ((boxed_below hb1 b41).other (by omega) _).set _⟩, ((boxed_below hb1 b21).other (by omega) _).other (by omega) _⟩,
   ((hB1.trans (hb1.mono hB1.size)).setCell (p := ⟨w.heap.size + 1 + 1, 0, none⟩) (by simp; omega) _).setCell (p := ⟨w.heap.size + 1 + 1 + 1, 0, none⟩) (by simp; omega) _⟩
def encV (a : Addr) (n c : Nat) : Option Int → Array Value
  | none => #[.int .i64 4, .bool false, .int .i64 0, .string { data := #[] }, .slice none 0 0, .slice (some a) n c]
  | some z => #[.int .i64 2, .bool false, .int .i64 z, .string { data := #[] }, .slice none 0 0, .slice none 0 0]
def encD : Option Int → Int | none => 1 | some _ => 2
set_option maxRecDepth 100000 in
set_option maxHeartbeats 2000000 in
theorem check_in (F : Fence) (hd : F.depth = none) (hf : ∀ f, F.fn f) (hro : F.round = none) (hw : ∀ {n : Nat} {f : FuncId} {args : Array Value} {w : World} {R : Ending → World → Prop}, Calls Tryz.prog f args w R → CallsIn F n Tryz.prog f args w R) (b cap : Nat) (zs : List Int) (hpos : 0 < zs.length) (hmax : zs.length ≤ 65536) (w : World) (hb : b < w.heap.size) (hL : ListAt w b zs) :
    CallsIn F 6 Tryz.prog 29 #[.agg #[.int .i64 4, .bool false, .int .i64 0, .string { data := #[] }, .slice none 0 0, .slice (some ⟨b, 0, none⟩) zs.length cap]] w fun e w' => e = .returned (.int .i64 0) ∧ Below w.heap.size w w' := by
  have hdd : ∀ k : Nat, (F.depth.isSome = true → 1 ≤ k) := fun k h => by rw [hd] at h; cases h
  have hmf : ∀ (fn : Fn) (first cap : Array Value) (w : World), (Instr.makeFunc fn first cap).run Tryz.prog w = .ok (.func fn first cap) w := fun _ _ _ _ => rfl
  refine callsIn_of_wp_marks Tryz.func29 rfl (hf _) ?_ hro
  simp only [Tryz.ntmps29, List.size_toArray, List.length_cons, List.length_nil, Nat.reduceAdd, Nat.reduceSub, Array.replicate_succ, Array.replicate_zero, List.push_toArray, List.append_toArray, List.nil_append, List.cons_append]
  gi_wp2_with ((try refine ⟨hdd _, ?_⟩); gi_at_call 46; refine (all_in F _ (hf _) hro b cap zs.length _).mono ?_; rintro e w' ⟨rfl, rfl⟩)
  have bx : (((((w.alloc (.cells #[.int .i64 4, .bool false, .int .i64 0, .string { data := #[] }, .slice none 0 0, .slice (some ⟨b, 0, none⟩) zs.length cap] 27)).alloc (.cells #[.int .i64 0] 32)).alloc (.cells #[.int .i64 0] 3)).alloc (.cells #[.bool false] 4)).alloc (.cells #[.int .i64 4, .bool false, .int .i64 0, .string { data := #[] }, .slice none 0 0, .slice (some ⟨b, 0, none⟩) zs.length cap] 27)).heap[w.heap.size + 4]? = some (.cells #[.int .i64 4, .bool false, .int .i64 0, .string { data := #[] }, .slice none 0 0, .slice (some ⟨b, 0, none⟩) zs.length cap] 27 (0, 0)) := by
    have := cells_new ((((w.alloc (.cells #[.int .i64 4, .bool false, .int .i64 0, .string { data := #[] }, .slice none 0 0, .slice (some ⟨b, 0, none⟩) zs.length cap] 27)).alloc (.cells #[.int .i64 0] 32)).alloc (.cells #[.int .i64 0] 3)).alloc (.cells #[.bool false] 4)) #[.int .i64 4, .bool false, .int .i64 0, .string { data := #[] }, .slice none 0 0, .slice (some ⟨b, 0, none⟩) zs.length cap] 27
    simp only [World.size_alloc] at this
    exact this
  have b2 := (((Boxed.new (w.alloc (.cells #[.int .i64 4, .bool false, .int .i64 0, .string { data := #[] }, .slice none 0 0, .slice (some ⟨b, 0, none⟩) zs.length cap] 27)) 32 (.int .i64 0)).alloc (.cells #[.int .i64 0] 3)).alloc (.cells #[.bool false] 4)).alloc (.cells #[.int .i64 4, .bool false, .int .i64 0, .string { data := #[] }, .slice none 0 0, .slice (some ⟨b, 0, none⟩) zs.length cap] 27)
  have b3 := ((Boxed.new ((w.alloc (.cells #[.int .i64 4, .bool false, .int .i64 0, .string { data := #[] }, .slice none 0 0, .slice (some ⟨b, 0, none⟩) zs.length cap] 27)).alloc (.cells #[.int .i64 0] 32)) 3 (.int .i64 0)).alloc (.cells #[.bool false] 4)).alloc (.cells #[.int .i64 4, .bool false, .int .i64 0, .string { data := #[] }, .slice none 0 0, .slice (some ⟨b, 0, none⟩) zs.length cap] 27)
  have b4 := (Boxed.new (((w.alloc (.cells #[.int .i64 4, .bool false, .int .i64 0, .string { data := #[] }, .slice none 0 0, .slice (some ⟨b, 0, none⟩) zs.length cap] 27)).alloc (.cells #[.int .i64 0] 32)).alloc (.cells #[.int .i64 0] 3)) 4 (.bool false)).alloc (.cells #[.int .i64 4, .bool false, .int .i64 0, .string { data := #[] }, .slice none 0 0, .slice (some ⟨b, 0, none⟩) zs.length cap] 27)
  have hB0 : Below w.heap.size w (((((w.alloc (.cells #[.int .i64 4, .bool false, .int .i64 0, .string { data := #[] }, .slice none 0 0, .slice (some ⟨b, 0, none⟩) zs.length cap] 27)).alloc (.cells #[.int .i64 0] 32)).alloc (.cells #[.int .i64 0] 3)).alloc (.cells #[.bool false] 4)).alloc (.cells #[.int .i64 4, .bool false, .int .i64 0, .string { data := #[] }, .slice none 0 0, .slice (some ⟨b, 0, none⟩) zs.length cap] 27)) :=
    (((((Below.refl _ w).alloc (Nat.le_refl _) _).alloc (by simp) _).alloc (by simp; omega) _).alloc (by simp; omega) _).alloc (by simp; omega) _
  have hsz : (((((w.alloc (.cells #[.int .i64 4, .bool false, .int .i64 0, .string { data := #[] }, .slice none 0 0, .slice (some ⟨b, 0, none⟩) zs.length cap] 27)).alloc (.cells #[.int .i64 0] 32)).alloc (.cells #[.int .i64 0] 3)).alloc (.cells #[.bool false] 4)).alloc (.cells #[.int .i64 4, .bool false, .int .i64 0, .string { data := #[] }, .slice none 0 0, .slice (some ⟨b, 0, none⟩) zs.length cap] 27)).heap.size = w.heap.size + 5 := by simp
  simp only [World.size_alloc] at b2 b3 b4
  obtain ⟨W0, hW0⟩ : ∃ W0, ((((w.alloc (.cells #[.int .i64 4, .bool false, .int .i64 0, .string { data := #[] }, .slice none 0 0, .slice (some ⟨b, 0, none⟩) zs.length cap] 27)).alloc (.cells #[.int .i64 0] 32)).alloc (.cells #[.int .i64 0] 3)).alloc (.cells #[.bool false] 4)).alloc (.cells #[.int .i64 4, .bool false, .int .i64 0, .string { data := #[] }, .slice none 0 0, .slice (some ⟨b, 0, none⟩) zs.length cap] 27) = W0 := ⟨_, rfl⟩
  rw [hW0] at bx b2 b3 b4 hB0 hsz
  rw [hW0]
  clear hW0
  have hall := all_stops F hd 5 (hf _) (hf _) hro (w.heap.size + 1 + 1) (w.heap.size + 1 + 1 + 1) (w.heap.size + 1 + 1 + 1 + 1) b cap zs hmax W0 bx (by omega) (by omega) (by omega) (by omega) (hL.keep (KpC.of_below (B3 := w.heap.size + 1 + 1) (B4 := w.heap.size + 1 + 1 + 1) hB0) (by omega) (by omega))
  refine wpIn_rangeFunc_ownH hro (by decide) (gf := 95) (lb := #[.pointer (some ⟨w.heap.size + 1 + 1 + 1 + 1, 0, none⟩)]) rfl (hf _) (enters_of Tryz.func95 (by kernel_rfl) rfl)
    hall (fun h h' => h.trans h') KpC_b (Below.refl _ _) (fun x => by cases x <;> rfl)
    (fun _ W => ((Boxed W (w.heap.size + 1 + 1) 3 (.int .i64 0) ∧ Boxed W (w.heap.size + 1 + 1 + 1) 4 (.bool false)) ∧ Boxed W (w.heap.size + 1) 32 (.int .i64 0)) ∧ Below w.heap.size w W)
    (fun _ _ _ => False)
    (OwnFrom.and (OwnFrom.and (OwnFrom.and (Own.from (boxed_own _ _ _) _) (Own.from (boxed_own _ _ _) _)) (Own.from (boxed_own _ _ _) _)) (ownFrom_below (Nat.le_refl _) (by omega)))
    (fun _ _ _ _ _ hs _ _ => hs)
    ⟨⟨⟨b3, b4⟩, b2⟩, hB0⟩
    (fun x a' W => ∃ Bx, w.heap.size + 1 + 1 + 1 < Bx ∧ W.heap[Bx]? = some (.cells (encV ⟨b, 0, none⟩ zs.length cap x) 27 (0, 0)) ∧ a' = { tmps := #[.agg #[.int .i64 4, .bool false, .int .i64 0, .string { data := #[] }, .slice none 0 0, .slice (some ⟨b, 0, none⟩) zs.length cap],
       .pointer (some ⟨w.heap.size, 0, none⟩), .pointer (some ⟨w.heap.size + 1, 0, none⟩), .pointer (some ⟨w.heap.size + 1 + 1, 0, none⟩), .pointer (some ⟨w.heap.size + 1 + 1 + 1, 0, none⟩), .int .i64 (encD x), .pointer (some ⟨Bx, 0, none⟩), undef, undef,
       .func (.func 45) #[] #[.pointer (some ⟨w.heap.size + 1, 0, none⟩)], .agg #[.int .i64 4, .bool false, .int .i64 0, .string { data := #[] }, .slice none 0 0, .slice (some ⟨b, 0, none⟩) zs.length cap],
       .func (.func 95) #[] #[.pointer (some ⟨w.heap.size + 1 + 1 + 1 + 1, 0, none⟩)], .int .i64 (encD x), .agg (encV ⟨b, 0, none⟩ zs.length cap x),
       undef, undef, undef, undef, undef, undef, undef, undef, undef, undef, undef, undef, undef, undef, undef, undef, undef, undef, undef, undef, undef, undef, undef, undef, undef, undef, undef, undef, undef, undef, undef, undef, undef, undef, undef, undef, undef, undef], defers := [] })
    (fun x a' _ X Y row hs hg hr => by obtain ⟨Bx, h1, h2, h3⟩ := hs; exact ⟨Bx, h1, cellsOwn (β := Unit) Bx 27 _ () X Y row h2 hg (fun r e => (hr r e).2), h3⟩)
    ?assign ?body ?done ?stop
  case assign =>
    rintro l pre x W K ⟨⟨⟨b31, b41⟩, b21⟩, hB1⟩ hK
    have hs1 := hB1.size
    have hs4 := b41.lt
    cases x with
    | none =>
      dsimp only [enc] at hK ⊢
      gi_wp2
      exact hK _ _ ((KeepsOthers.alloc _ _).from _) ((KpC.refl _ _ W).alloc _) ⟨⟨⟨b31.alloc _, b41.alloc _⟩, b21.alloc _⟩, hB1.alloc hB1.size _⟩ ⟨W.heap.size, hs4, cells_new W _ 27, rfl⟩
    | some z =>
      dsimp only [enc] at hK ⊢
      gi_wp2
      exact hK _ _ ((KeepsOthers.alloc _ _).from _) ((KpC.refl _ _ W).alloc _) ⟨⟨⟨b31.alloc _, b41.alloc _⟩, b21.alloc _⟩, hB1.alloc hB1.size _⟩ ⟨W.heap.size, hs4, cells_new W _ 27, rfl⟩
  case body =>
    rintro l pre x a' W hl ⟨r, hr⟩ ⟨⟨⟨b31, b41⟩, b21⟩, hB1⟩ ⟨Bx, hBx, bX, rfl⟩ hlt
    have c3 := b31.cell
    have f3 := b31.frozen
    have c4 := b41.cell
    have f4 := b41.frozen
    have l3 := b31.lt
    have l4 := b41.lt
    have lX := (Array.getElem?_eq_some_iff.1 bX).1
    cases x with
    | none =>
      dsimp only [encV, encD] at bX ⊢
      have x0 := cells_cell (o := 0) bX rfl
      have x1 := cells_cell (o := 1) bX rfl
      have x2 := cells_cell (o := 2) bX rfl
      have x3 := cells_cell (o := 3) bX rfl
      have x4 := cells_cell (o := 4) bX rfl
      have x5 := cells_cell (o := 5) bX rfl
      have hdec : decide ((65536 : Int) < (zs.length : Int)) = false := decide_eq_false (by omega)
      have HD : Hid (decide ((65536 : Int) < (zs.length : Int)) = false) := hdec
      clear hdec
      gi_wp2_with ((try refine ⟨hdd _, ?_⟩); gi_at_call 47; refine (CallsIn.inRound l (hw (may_list ⟨b, 0, none⟩ zs.length cap hpos _))).mono ?_; rintro e w1 ⟨rfl, hb1⟩; obtain ⟨hc1, hf1⟩ := bcell hb1)
      refine wpIn_loop_rounds 1 ?_
      rw [roundsIn_succ]
      gi_wp2
      rw [HD.out]
      exact round_post hB1 b31 b41 b21 hb1
    | some z =>
      dsimp only [encV, encD] at bX ⊢
      have x0 := cells_cell (o := 0) bX rfl
      have x1 := cells_cell (o := 1) bX rfl
      have x2 := cells_cell (o := 2) bX rfl
      have x3 := cells_cell (o := 3) bX rfl
      have x4 := cells_cell (o := 4) bX rfl
      have x5 := cells_cell (o := 5) bX rfl
      gi_wp2_with ((try refine ⟨hdd _, ?_⟩); gi_at_call 47; refine (CallsIn.inRound l (hw (may_int z _))).mono ?_; rintro e w1 ⟨rfl, hb1⟩; obtain ⟨hc1, hf1⟩ := bcell hb1)
      refine wpIn_loop_rounds 1 ?_
      rw [roundsIn_succ]
      gi_wp2
      exact round_post hB1 b31 b41 b21 hb1
  case done =>
    rintro D xs W hD rfl ⟨⟨⟨b31, b41⟩, b21⟩, hB1⟩ hK
    have c4 := b41.cell
    have c2 := b21.cell
    have f2 := b21.frozen
    gi_wp2
    have hK' := (KeepsOthers.setCell W ⟨w.heap.size + 1, 0, none⟩ (.int .i64 0)).same D _ hK rfl
    refine ⟨by simp, .inl ⟨_, _, rfl, run_takeDeferred hK', ?_⟩⟩
    have hc5 := cell_kept (World.cell?_setCell_same' W ⟨w.heap.size + 1, 0, none⟩ (.int .i64 0) (by rw [c2]; rfl)) (grownBy_putObj' _ D (.deferred none)) (fun r e => by cases e; exact ⟨_, hK', rfl⟩)
    have hB2 := (hB1.setCell (p := ⟨w.heap.size + 1, 0, none⟩) (by simp) (.int .i64 0)).trans (belowK_b (w := w) (Nat.le_refl _) _ D _ (.deferred none) (by omega) hK' rfl rfl)
    refine ⟨by simp, .inr ⟨hdd _, _, _, 45, #[.pointer (some ⟨w.heap.size + 1, 0, none⟩)], rfl, by simp [go_sem], fun g _ => hf g, ?_⟩⟩
    refine (check1_idle F _ (hf _) hro _ _).mono ?_
    rintro e u' w' ⟨rfl, rfl, rfl⟩
    refine ⟨.int .i64 0, ?_, rfl, hB2⟩
    simp [results, Tryz.f29, go_sem, hc5]
  case stop =>
    rintro D c pre W _ _ h _
    exact h.elim
theorem check_list (b cap : Nat) (zs : List Int) (hpos : 0 < zs.length) (hmax : zs.length ≤ 65536) (w : World) (hb : b < w.heap.size) (hL : ListAt w b zs) :
    Calls Tryz.prog 29 #[.agg #[.int .i64 4, .bool false, .int .i64 0, .string { data := #[] }, .slice none 0 0, .slice (some ⟨b, 0, none⟩) zs.length cap]] w fun e w' => e = .returned (.int .i64 0) ∧ Below w.heap.size w w' :=
  callsIn_wide.1 (check_in Fence.wide rfl (fun _ => trivial) rfl (fun h => callsIn_wide.2 h) b cap zs hpos hmax w hb hL)
end Go.Proofs.Wk
