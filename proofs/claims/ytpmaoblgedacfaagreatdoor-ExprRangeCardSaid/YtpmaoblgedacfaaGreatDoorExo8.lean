/-
  Hooks for range. Own text.
-/
import Derived.Test.YtpmaoblgedacfaaGreatDoorExo7
import Derived.Test.YtpmaoblgedacfaaGreatDoorExo1
set_option linter.all false
namespace Go.Exo
/-- a number's value that is not known -/
def intSym : V → Bool
  | .agg [.int .i64 n, .bool b, .sym l, .str x _, .nils, .nils] => cond (eqF n 2 && Nat.ble 11 l && Nat.ble l 13) (cond b false (Nat.beq x 0)) false
  | _ => false
noncomputable def hkBare (fn : Nat) : Hook := fun f args H nx =>
  cond (Nat.beq f fn) (match args with | [v] => cond (intSym v) (some (.bool true, H, nx)) none | _ => none) none
/-- a list's value that is kept -/
def listSym : V → Option Nat
  | .agg [.int .i64 n, .bool b, .int .i64 m, .str x _, .nils, .sym s] => cond (eqF n 4 && eqF m 0 && Nat.beq x 0) (cond b none (some s)) none
  | _ => none
def isKeep (g : Nat) : AObj → Bool | .keep s => Nat.beq s g | _ => false
noncomputable def hkCheck (fn g : Nat) : Hook := fun f args H nx =>
  cond (Nat.beq f fn) (match args with | [v] => (match listSym v with | some s => cond (isKeep g (getH H s)) (some (.int .i64 0, H, nx)) none | none => none) | _ => none) none
def listV (s : Nat) : V := .agg [.int .i64 4, .bool false, .int .i64 0, .str 0 0, .nils, .sym s]
noncomputable def hkCopy (fn g : Nat) : Hook := fun f args H nx =>
  cond (Nat.beq f fn) (match args with | [v] => (match listSym v with | some s => cond (isKeep g (getH H s)) (T.setK .no (.keep g) H nx fun H => some (listV nx, H, Nat.succ nx)) none | none => none) | _ => none) none
/-- three numbers, of places x, y, z -/
def syms3 (x y z : Nat) : List V → Bool
  | [.int .i64 a0, .bool b0, .sym x', .str p0 _, .nils, .nils, .int .i64 a1, .bool b1, .sym y', .str p1 _, .nils, .nils, .int .i64 a2, .bool b2, .sym z', .str p2 _, .nils, .nils] =>
    eqF a0 2 && eqF a1 2 && eqF a2 2 && Nat.beq x x' && Nat.beq y y' && Nat.beq z z' && Nat.beq p0 0 && Nat.beq p1 0 && Nat.beq p2 0 && cond b0 false (cond b1 false (cond b2 false true))
  | _ => false
/-- a row of 18 cells from o on -/
noncomputable def row18 (H : T AObj) (l o : Nat) : List V :=
  match rdN l o 18 H (fun cs => .val (.agg cs)) with | .val (.agg cs) => cs | _ => []
noncomputable def hkSpread (fn x y z : Nat) (ans : T AObj → Nat → Option (V × T AObj × Nat)) : Hook := fun f args H nx =>
  cond (Nat.beq f fn) (match args with
    | [.ptr _ _, .slice l o n _ e] => cond (Nat.beq n 3 && Nat.beq e 6 && syms3 x y z (row18 H l o)) (ans H nx) none
    | _ => none) none
end Go.Exo

namespace Go.Exo
/-- the first place from i on, of k that may be, where m bytes of n are those of x -/
noncomputable def findS (n x p : Nat) : Nat → Nat → Int :=
  Nat.rec (motive := fun _ => Nat → Int) (fun _ => Int.negSucc 0) (fun _ ih i => cond (Nat.beq (Nat.mod (Nat.shiftRight n (Nat.mul 8 i)) p) x) (Int.ofNat i) (ih (Nat.succ i)))
noncomputable def idxS (l n m x : Nat) : Int := cond (Nat.ble m l) (findS n x (Nat.pow 256 m) (Nat.succ (Nat.sub l m)) 0) (Int.negSucc 0)
/-- the hook for a function that tells where a text lies in another -/
noncomputable def hkIndex (fn : Nat) : Hook := fun f args H nx =>
  cond (Nat.beq f fn) (match args with
    | [.str l n, .str m x] => cond (Nat.ble l 4294967280) (some (.int .i64 (idxS l n m x), H, nx)) none
    | _ => none) none
end Go.Exo

namespace Go.Exo
section
variable {P : Program} {w0 : Bs}

/-- the world has at most new blocks -/
structure Ext (w w' : World) : Prop where
  old : ∀ b, b < w.heap.size → w'.heap[b]? = w.heap[b]?
  size : w.heap.size ≤ w'.heap.size
  os : w'.os = w.os
  output : w'.output = w.output
  tape : w'.tape = w.tape
theorem Ext.refl (w : World) : Ext w w := ⟨fun _ _ => rfl, Nat.le_refl _, rfl, rfl, rfl⟩
theorem Ext.trans {a b c : World} (h : Ext a b) (h' : Ext b c) : Ext a c :=
  ⟨fun k hk => (h'.old k (Nat.lt_of_lt_of_le hk h.size)).trans (h.old k hk), Nat.le_trans h.size h'.size, h'.os.trans h.os, h'.output.trans h.output, h'.tape.trans h.tape⟩
theorem WR.grow {E : Env} {H : T AObj} {nx : Nat} {w w' : World} (h : WR w0 E H nx w) (he : Ext w w') : WR w0 E H nx w' := by
  refine ⟨fun l p hp => ?_, h.fresh, h.sep, h.cls, fun l p hp => ?_, fun b hb => ?_, Nat.le_trans h.size he.size, he.os.trans h.os, he.output.trans h.output, he.tape.trans h.tape, h.le⟩
  · rw [he.old _ (h.own l p hp).1]; exact h.objs l p hp
  · have := h.own l p hp
    exact ⟨Nat.lt_of_lt_of_le this.1 he.size, this.2⟩
  · rw [he.old b (h.lt_old hb)]; exact h.old b hb

/-- what is asked of the world: a condition on its first k blocks, which no run turns -/
structure Gd0 (k : Nat) (G : World → Prop) : Prop where
  keep : ∀ w w', (∀ b, b < k → w'.heap[b]? = w.heap[b]?) → G w → G w'
  size : ∀ w, G w → k ≤ w.heap.size
def GB (k : Nat) (G : World → Prop) (b : Bs) : Prop := (∀ i, i < k → b.old i) ∧ G b.w
theorem GB.at {k : Nat} {G : World → Prop} (hG : Gd0 k G) (h : GB k G w0) {E : Env} {H : T AObj} {nx : Nat} {w : World} (hw : WR w0 E H nx w) : G w :=
  hG.keep w0.w w (fun b hb => hw.old b (h.1 b hb)) h.2

/-! ### values without places -/
mutual
theorem VR.ofFine {E E' : Env} : ∀ {v : V} {x : Value}, v.fine = true → VR E v x → VR E' v x
  | _, _, _, .bool b => .bool b
  | _, _, _, .int k n => .int k n
  | _, _, _, .str l n s h1 h2 => .str l n s h1 h2
  | _, _, _, .nilp => .nilp
  | _, _, _, .nils => .nils
  | _, _, _, .nilm => .nilm
  | _, _, _, .nilf => .nilf
  | _, _, _, .nili => .nili
  | .ptr _ _, _, h, _ => by simp [V.fine] at h
  | .slice _ _ _ _ _, _, h, _ => by simp [V.fine] at h
  | .map _, _, h, _ => by simp [V.fine] at h
  | .sym _, _, h, _ => by simp [V.fine] at h
  | .func f a b, _, h, .func _ g _ _ c d hf h1 h2 => by
    cases f with
    | func k =>
      simp only [V.fine, Bool.and_eq_true] at h
      exact .func _ g a b c d hf (VRs.ofFine h.1 h1) (VRs.ofFine h.2 h2)
    | _ => simp [V.fine] at h
  | .iface t v, _, h, .iface _ _ x h1 => .iface t v x (VR.ofFine (by simpa only [V.fine] using h) h1)
  | .agg a, _, h, .agg _ b h1 => .agg a b (VRs.ofFine (by simpa only [V.fine] using h) h1)
  | .tup a, _, h, .tup _ b h1 => .tup a b (VRs.ofFine (by simpa only [V.fine] using h) h1)
theorem VRs.ofFine {E E' : Env} : ∀ {vs : List V} {xs : List Value}, V.fineL vs = true → VRs E vs xs → VRs E' vs xs
  | _, _, _, .nil => .nil
  | v :: vs, _, h, .cons _ x _ xs h1 h2 => by
    simp only [V.fineL, Bool.and_eq_true] at h
    exact .cons v x vs xs (VR.ofFine h.1 h1) (VRs.ofFine h.2 h2)
end
def noEnv : Env := fun _ => none
/-- a closed call answers v -/
def Answers (P : Program) (G : World → Prop) (f : Nat) (args : List V) (v : V) : Prop :=
  ∀ w xs, G w → VRs noEnv args xs → Calls P f xs.toArray w fun e w' => ∃ x, e = .returned x ∧ VR noEnv v x ∧ Ext w w'

/-! ### hooks -/
/-- a hook tells what is so, wherever a run begins -/
def Hooks (P : Program) (k : Nat) (G : World → Prop) (hk : Hook) : Prop := ∀ b, GB k G b → HookOk P b hk
variable {k : Nat} {G : World → Prop}
theorem Hooks.nil : Hooks P k G fun _ _ _ _ => none := by
  intro w0 _ E H nx w f args xs v H' nx' _ _ _ h
  cases h
noncomputable def hkAdd (f : Nat) (args : List V) (v : V) (hk : Hook) : Hook := fun g a H nx => cond (Nat.beq g f && V.eqL a args) (some (v, H, nx)) (hk g a H nx)
theorem Hooks.add {f : Nat} {args : List V} {v : V} {hk : Hook} (h : Hooks P k G hk) (hG : Gd0 k G) (ha : Answers P G f args v) (hf : V.fineL args = true) (hv : v.fine = true) : Hooks P k G (hkAdd f args v hk) := by
  intro w0 hw0 E H nx w g a xs v' H' nx' hwr hgl hxs hh
  unfold hkAdd at hh
  cases hc : (Nat.beq g f && V.eqL a args) with
  | false => rw [hc] at hh; exact h w0 hw0 E H nx w g a xs v' H' nx' hwr hgl hxs hh
  | true =>
    rw [hc] at hh
    simp only [cond_true, Option.some.injEq, Prod.mk.injEq] at hh
    obtain ⟨rfl, rfl, rfl⟩ := hh
    simp only [Bool.and_eq_true] at hc
    have e1 := Nat.eq_of_beq_eq_true hc.1
    have e2 := eqL_eq hc.2
    subst e1 e2
    refine (ha w xs (hw0.at hG hwr) (VRs.ofFine hf hxs)).mono fun e w' ⟨x, h1, h2, h3⟩ => ?_
    exact .ret ⟨x, E, h1, Env.le.refl E, VR.ofFine hv h2, hwr.grow h3, Nat.le_refl _, Keep.refl E H nx⟩
/-- a hook for one function, by another -/
noncomputable def hkOr (a b : Hook) : Hook := fun g args H nx => match a g args H nx with | some r => some r | none => b g args H nx
theorem Hooks.or {a b : Hook} (h1 : Hooks P k G a) (h2 : Hooks P k G b) : Hooks P k G (hkOr a b) := by
  intro w0 hw0 E H nx w g args xs v' H' nx' hwr hgl hxs hh
  unfold hkOr at hh
  cases ha : a g args H nx with
  | some r => rw [ha] at hh; cases hh; exact h1 w0 hw0 E H nx w g args xs v' H' nx' hwr hgl hxs ha
  | none => rw [ha] at hh; exact h2 w0 hw0 E H nx w g args xs v' H' nx' hwr hgl hxs hh

/-! ### a closed run -/
def glEnv (P : Program) : Env := fun g => if g < P.globals.size then some ⟨g, 0, 0, undef, noOb, []⟩ else none
def Bs.top (P : Program) (w : World) : Bs := ⟨w, fun b => b < w.heap.size, fun _ h => h, glEnv P⟩
theorem WR.start {nx : Nat} {w : World} (hsz : P.globals.size ≤ w.heap.size) (hnx : P.globals.size ≤ nx) : WR (Bs.top P w) (glEnv P) .e nx w := by
  refine ⟨fun l p _ => ?_, fun l hl => ⟨?_, rfl⟩, fun l l' p p' _ _ _ _ => .inl (.inl rfl), fun l h => absurd rfl h, fun l p hp => ⟨?_, .inl rfl⟩, fun _ _ => rfl, Nat.le_refl _, rfl, rfl, rfl, Env.le.refl _⟩
  · trivial
  · unfold glEnv; rw [if_neg (by omega)]
  · unfold glEnv at hp
    split at hp
    · cases hp; show l < _; omega
    · cases hp
theorem WR.toExt {E : Env} {H : T AObj} {nx : Nat} {w w' : World} (h : WR (Bs.top P w) E H nx w') : Ext w w' := ⟨h.old, h.size, h.os, h.output, h.tape⟩
theorem glEnv_gl : ∀ g, g < P.globals.size → ∃ s, glEnv P g = some ⟨g, 0, s, undef, noOb, []⟩ := fun g hg => ⟨0, by unfold glEnv; rw [if_pos hg]⟩

/-- the abstract run's answer, as the kernel is asked -/
noncomputable def comesTo (P : Program) (hk : Hook) (f : Nat) (args : List V) (nx n : Nat) (v : V) : Bool :=
  match final P f (enterK P f args .normal [] .e nx (run P hk n)) with
  | some (u, _, _) => V.eqB u v
  | none => false
theorem answers {hk : Hook} {f : Nat} {args : List V} {nx n : Nat} {v : V} (h : comesTo P hk f args nx n v = true) (hok : Hooks P k G hk) (hG : Gd0 k G) (hsz : P.globals.size ≤ k) (hnx : P.globals.size ≤ nx) (hf : V.fineL args = true) (hv : v.fine = true) :
    Answers P G f args v := by
  intro w xs he hxs
  have hk := hG.size w he
  unfold comesTo at h
  split at h
  · rename_i u H' nx' hu
    have hq := eqB_eq h
    subst hq
    refine (final_ok (hok (Bs.top P w) ⟨fun i hi => by show i < w.heap.size; omega, he⟩) (WR.start (by omega) hnx) glEnv_gl (VRs.ofFine hf hxs) hu).mono fun e w' ⟨x, E', h1, h2, h3⟩ => ?_
    exact ⟨x, h1, VR.ofFine hv h2, h3.toExt⟩
  · cases h
end
end Go.Exo
