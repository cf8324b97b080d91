/-
  range: where the abstract run of Const begins; places that hooks make. Own text.
-/
import Derived.Test.YtpmaoblgedacfaaGreatDoorExo8
import Derived.Test.YtpmaoblgedacfaaGreatDoorWkRow
set_option linter.all false
namespace Go.Exo
open Go.Proofs.Wk
/-- a list of numbers lies in a block: what its slice is -/
def ListK (zs : List Int) (blk : Nat) (val : Value) (ob : Obj) : Prop :=
  ∃ c cap, ob = .cells c 27 (0, 0) ∧ val = .slice (some ⟨blk, 0, none⟩) zs.length cap ∧ zs.length ≤ cap ∧ ∀ k z, zs[k]? = some z →
    c[k * 6]? = some (.int .i64 2) ∧ c[k * 6 + 1]? = some (.bool false) ∧ c[k * 6 + 2]? = some (.int .i64 z) ∧ c[k * 6 + 3]? = some (.string { data := #[] }) ∧ c[k * 6 + 4]? = some (.slice none 0 0) ∧ c[k * 6 + 5]? = some (.slice none 0 0)
theorem ListK.at {zs : List Int} {blk : Nat} {val : Value} {ob : Obj} {W : World} (h : ListK zs blk val ob) (hw : W.heap[blk]? = some ob) : ListAt W blk zs := by
  obtain ⟨c, cap, rfl, _, _, h⟩ := h
  exact ⟨c, 27, _, hw, h⟩
theorem ListK.of {zs : List Int} {blk cap : Nat} {W : World} {c : Array Value} (h : ListAt W blk zs) (hw : W.heap[blk]? = some (.cells c 27 (0, 0))) (hc : zs.length ≤ cap) : ListK zs blk (.slice (some ⟨blk, 0, none⟩) zs.length cap) (.cells c 27 (0, 0)) := by
  obtain ⟨c', t, fr, h1, h2⟩ := h
  rw [hw] at h1; cases h1
  exact ⟨c, cap, rfl, rfl, hc, h2⟩
section
variable {w0 : Bs} {w w' : World} {E : Env} {H : T AObj} {nx : Nat}
theorem Ext.of_below (h : RowKit.Below w.heap.size w w') : Ext w w' := ⟨h.block, h.size, h.os, h.output, h.tape⟩
/-- a place for a block that a call has made -/
theorem WR.keepNew (h : WR w0 E H nx w) (he : Ext w w') {g : Nat} (hg : w.heap.size ≤ g) (hlt : g < w'.heap.size) {ob : Obj} (hob : w'.heap[g]? = some ob) {val : Value} {kp' : Nat → Value → Obj → Prop} {s : Nat} {q : Pl} (hs : E s = some q) (hkp : q.ob.kp g val ob) :
    WR w0 (E.set nx ⟨g, 0, 0, val, ⟨ob, kp'⟩, []⟩) (put .no H nx (.keep s)) (nx + 1) w' := by
  have h2 := h.grow he
  have hn := h.fresh nx (Nat.le_refl _)
  have hle : E.le (E.set nx ⟨g, 0, 0, val, ⟨ob, kp'⟩, []⟩) := Env.le_set _ hn.1
  have hget : ∀ l, l ≠ nx → getH (put .no H nx (.keep s)) l = getH H l := fun l e => by rw [getH_put, if_neg e]
  have hself : getH (put .no H nx (.keep s)) nx = .keep s := by rw [getH_put, if_pos rfl]
  have hE : ∀ l p, (E.set nx ⟨g, 0, 0, val, ⟨ob, kp'⟩, []⟩) l = some p → (l = nx ∧ p = ⟨g, 0, 0, val, ⟨ob, kp'⟩, []⟩) ∨ (l ≠ nx ∧ E l = some p) := by
    intro l p hl
    by_cases e : l = nx
    · subst e; rw [Env.set_self] at hl; cases hl; exact .inl ⟨rfl, rfl⟩
    · rw [Env.set_other _ _ _ _ e] at hl; exact .inr ⟨e, hl⟩
  have hcn : ∀ k, clsOf (getH H k) ≠ 0 → clsOf (getH H k) ≠ nx := fun k hc0 e => by
    obtain ⟨a, b, m, h1, _⟩ := h.cls k hc0
    rw [e, hn.2] at h1; cases h1
  have hok : ∀ k pos, okAt (put .no H nx (.keep s)) k (clsOf (getH H k)) pos → okAt H k (clsOf (getH H k)) pos :=
    fun k pos ho => ho.same fun hc0 => hget _ (hcn k hc0)
  have hblk : ∀ l p, E l = some p → p.blk ≠ g := fun l p hl e => by have := (h.own l p hl).1; omega
  refine ⟨?_, ?_, ?_, ?_, ?_, h2.old, h2.size, h2.os, h2.output, h2.tape, h2.le.trans hle⟩
  · intro l p hl
    rcases hE l p hl with ⟨rfl, rfl⟩ | ⟨hne, hl⟩
    · rw [hself]
      exact ⟨hob, q, hle _ _ hs, hkp⟩
    · rw [hget l hne]
      exact (h2.objs l p hl).trans hle (hok l)
  · intro l hl
    have := h.fresh l (by omega)
    exact ⟨by rw [Env.set_other _ _ _ _ (by omega)]; exact this.1, by rw [hget l (by omega)]; exact this.2⟩
  · intro l l' p p' hne hl hl' hb
    rcases hE l p hl with ⟨e1, e2⟩ | ⟨hn1, g1⟩ <;> rcases hE l' p' hl' with ⟨e3, e4⟩ | ⟨hn2, g2⟩
    · exact absurd (e1.trans e3.symm) hne
    · rw [e2] at hb; exact absurd hb.symm (hblk _ _ g2)
    · rw [e4] at hb; exact absurd hb (hblk _ _ g1)
    · rw [hget l hn1, hget l' hn2]; exact h.sep l l' p p' hne g1 g2 hb
  · intro l hc0
    by_cases e : l = nx
    · subst e; rw [hself] at hc0; exact absurd rfl hc0
    · rw [hget l e] at hc0 ⊢
      obtain ⟨a, b, m, h1, h2, h3⟩ := h.cls l hc0
      exact ⟨a, b, m, by rw [hget _ (hcn l hc0)]; exact h1, h2, by rw [Env.set_other _ _ _ _ (hcn l hc0)]; exact h3⟩
  · intro l p hl
    rcases hE l p hl with ⟨rfl, rfl⟩ | ⟨hne, hl⟩
    · rw [hself]; exact ⟨hlt, .inr (.inl rfl)⟩
    · rw [hget l hne]
      exact h2.own l p hl
theorem Keep.keepNew (h : WR w0 E H nx w) (p : Pl) (o : AObj) : Keep E (E.set nx p) H (put .no H nx o) nx := fun l hl he _ =>
  ⟨by rw [Env.set_other _ _ _ _ (by omega)]; exact he, by rw [getH_put, if_neg (by omega)]⟩
/-- what a row of cells reads as -/
theorem row18_ok (h : WR w0 E H nx w) {l off : Nat} {p : Pl} (hl : E l = some p) {cs : List V} (hc : row18 H l off = cs) (hne : cs ≠ []) :
    ∃ xs, VRs E cs xs ∧ ∀ j v, xs[j]? = some v → w.cell? ((⟨p.blk, p.base + off, none⟩ : Addr).add j) = some v := by
  unfold row18 at hc
  have := rdN_ok (n := 18) h hl (off := off) (k := fun cs => .val (.agg cs)) (Q := fun r => match r with
    | .val (.agg cs) => ∃ xs, VRs E cs xs ∧ ∀ j v, xs[j]? = some v → w.cell? ((⟨p.blk, p.base + off, none⟩ : Addr).add j) = some v
    | _ => True) (fun m => trivial) (fun vs xs h1 h2 h3 => ⟨xs, h2, h3⟩)
  generalize rdN l off 18 H (fun cs => .val (.agg cs)) = r at hc this
  cases r with
  | val v =>
    cases v with
    | agg cs' => simp only at hc this; subst hc; exact this
    | _ => exact absurd hc.symm hne
  | _ => exact absurd hc.symm hne
end
/-- the places that the run of Const finds -/
def rgEnv (kb : Nat) (a0 a1 a2 : Int) (kp : Nat → Value → Obj → Prop) : Env := fun l =>
  if l < 9 then some ⟨l, 0, 0, undef, noOb, []⟩ else if l = 9 then some ⟨kb, 0, 33, undef, noOb, []⟩ else if l = 10 then some ⟨0, 0, 0, undef, ⟨.deferred none, kp⟩, []⟩
  else if l = 11 then some ⟨0, 0, 0, .int .i64 a0, noOb, []⟩ else if l = 12 then some ⟨0, 0, 0, .int .i64 a1, noOb, []⟩ else if l = 13 then some ⟨0, 0, 0, .int .i64 a2, noOb, []⟩ else none
def rgBs (W : World) (kb : Nat) (a0 a1 a2 : Int) (kp : Nat → Value → Obj → Prop) : Bs := ⟨W, fun b => b < W.heap.size, fun _ h => h, rgEnv kb a0 a1 a2 kp⟩
def kidsV (a b c : V) : List V :=
  [.int .i64 0, .str 0 0, .int .i64 2, .bool false, a, .str 0 0, .nils, .nils, .nils, .nils, .bool false,
   .int .i64 0, .str 0 0, .int .i64 2, .bool false, b, .str 0 0, .nils, .nils, .nils, .nils, .bool false,
   .int .i64 0, .str 0 0, .int .i64 2, .bool false, c, .str 0 0, .nils, .nils, .nils, .nils, .bool false]
def kidsX (a b c : Int) : List Value :=
  [.int .i64 0, .string { data := #[] }, .int .i64 2, .bool false, .int .i64 a, .string { data := #[] }, .slice none 0 0, .slice none 0 0, .slice none 0 0, .slice none 0 0, .bool false,
   .int .i64 0, .string { data := #[] }, .int .i64 2, .bool false, .int .i64 b, .string { data := #[] }, .slice none 0 0, .slice none 0 0, .slice none 0 0, .slice none 0 0, .bool false,
   .int .i64 0, .string { data := #[] }, .int .i64 2, .bool false, .int .i64 c, .string { data := #[] }, .slice none 0 0, .slice none 0 0, .slice none 0 0, .slice none 0 0, .bool false]
noncomputable def rgH (a b c : V) : T AObj := T.ofK .bad (kidsV a b c) 0 .e fun vs => T.setK .no (.cells vs 33 30 0 0 0 true) .e 9 fun H => H
def rgArgs : List V := [.agg [.int .i64 7, .str 5 435526984050, .int .i64 0, .bool false, .int .i64 0, .str 0 0, .nils, .nils, .nils, .slice 9 0 3 (some 3) 11, .bool false], .nils]
theorem VR.str0 (E : Env) : VR E (.str 0 0) (.string { data := #[] }) := .str 0 0 _ rfl (by decide)
theorem kids_vr {E : Env} {a b c : V} {x y z : Int} (ha : VR E a (.int .i64 x)) (hb : VR E b (.int .i64 y)) (hc : VR E c (.int .i64 z)) : VRs E (kidsV a b c) (kidsX x y z) := by
  unfold kidsV kidsX
  have hs := VR.str0 E
  have hn : VR E .nils (.slice none 0 0) := .nils
  have hf : VR E (.bool false) (.bool false) := .bool false
  have h0 : VR E (.int .i64 0) (.int .i64 0) := .int _ _
  have h2 : VR E (.int .i64 2) (.int .i64 2) := .int _ _
  exact .cons _ _ _ _ h0 (.cons _ _ _ _ hs (.cons _ _ _ _ h2 (.cons _ _ _ _ hf (.cons _ _ _ _ ha (.cons _ _ _ _ hs (.cons _ _ _ _ hn (.cons _ _ _ _ hn (.cons _ _ _ _ hn (.cons _ _ _ _ hn (.cons _ _ _ _ hf
    (.cons _ _ _ _ h0 (.cons _ _ _ _ hs (.cons _ _ _ _ h2 (.cons _ _ _ _ hf (.cons _ _ _ _ hb (.cons _ _ _ _ hs (.cons _ _ _ _ hn (.cons _ _ _ _ hn (.cons _ _ _ _ hn (.cons _ _ _ _ hn (.cons _ _ _ _ hf
    (.cons _ _ _ _ h0 (.cons _ _ _ _ hs (.cons _ _ _ _ h2 (.cons _ _ _ _ hf (.cons _ _ _ _ hc (.cons _ _ _ _ hs (.cons _ _ _ _ hn (.cons _ _ _ _ hn (.cons _ _ _ _ hn (.cons _ _ _ _ hn (.cons _ _ _ _ hf .nil))))))))))))))))))))))))))))))))
theorem rg_start {W : World} {kb : Nat} {a0 a1 a2 : Int} {kp : Nat → Value → Obj → Prop} (h9 : 9 ≤ W.heap.size) (hk : W.heap[kb]? = some (.cells (kidsX a0 a1 a2).toArray 30 (0, 0))) {c : V} (hc : VR (rgEnv kb a0 a1 a2 kp) c (.int .i64 a2)) :
    WR (rgBs W kb a0 a1 a2 kp) (rgEnv kb a0 a1 a2 kp) (rgH (.sym 11) (.sym 12) c) 16 W := by
  have hH : rgH (.sym 11) (.sym 12) c = put .no .e 9 (.cells (putL .bad (kidsV (.sym 11) (.sym 12) c) 0 .e) 33 30 0 0 0 true) := by unfold rgH; rw [ofK_eq, setK_eq]
  have hg9 : getH (rgH (.sym 11) (.sym 12) c) 9 = .cells (putL .bad (kidsV (.sym 11) (.sym 12) c) 0 .e) 33 30 0 0 0 true := by rw [hH, getH_put, if_pos rfl]
  have hgo : ∀ l, l ≠ 9 → getH (rgH (.sym 11) (.sym 12) c) l = .no := fun l hl => by rw [hH, getH_put, if_neg hl]; rfl
  have hkb : kb < W.heap.size := (Array.getElem?_eq_some_iff.1 hk).1
  have hvr := kids_vr (E := rgEnv kb a0 a1 a2 kp) (a := .sym 11) (b := .sym 12) (c := c) (x := a0) (y := a1) (z := a2) (.sym 11 _ _ rfl rfl rfl rfl) (.sym 12 _ _ rfl rfl rfl rfl) hc
  have hplace : ∀ l p, rgEnv kb a0 a1 a2 kp l = some p → p.blk < W.heap.size := by
    intro l p hl
    unfold rgEnv at hl
    split at hl
    · cases hl; show l < _; omega
    · repeat' (split at hl)
      all_goals first | (cases hl; first | exact hkb | (show 0 < _; omega)) | cases hl
  refine ⟨fun l p hp => ?_, fun l hl => ⟨?_, hgo l (by omega)⟩, fun l l' p p' hne _ _ _ => ?_, fun l h => ?_, fun l p hp => ⟨hplace l p hp, ?_⟩, fun _ _ => rfl, Nat.le_refl _, rfl, rfl, rfl, Env.le.refl _⟩
  · by_cases e : l = 9
    · subst e
      rw [hg9]
      have hp' : p = ⟨kb, 0, 33, undef, noOb, []⟩ := by
        have : rgEnv kb a0 a1 a2 kp 9 = some ⟨kb, 0, 33, undef, noOb, []⟩ := rfl
        rw [this] at hp; cases hp; rfl
      subst hp'
      refine ⟨_, (0, 0), hk, rfl, Nat.le_refl _, rfl, fun i hi _ => ?_⟩
      have hl33 : (kidsV (.sym 11) (.sym 12) c).length = 33 := rfl
      obtain ⟨v, hv⟩ : ∃ v, (kidsV (.sym 11) (.sym 12) c)[i]? = some v := ⟨_, List.getElem?_eq_getElem (by omega)⟩
      obtain ⟨x, hx, hr⟩ := hvr.get i v hv
      refine ⟨x, by simpa using hx, ?_⟩
      have : getC (putL .bad (kidsV (.sym 11) (.sym 12) c) 0 .e) i = v := by
        rw [getC_eq, get_putL, if_pos (Nat.zero_le _), Nat.sub_zero, hv]; rfl
      rw [this]; exact hr
    · rw [hgo l e]; trivial
  · unfold rgEnv
    rw [if_neg (by omega), if_neg (by omega), if_neg (by omega), if_neg (by omega), if_neg (by omega), if_neg (by omega)]
  · by_cases e : l = 9
    · exact .inl (.inr (.inl (hgo l' (by omega))))
    · exact .inl (.inl (hgo l e))
  · by_cases e : l = 9
    · subst e; rw [hg9] at h; exact absurd rfl h
    · rw [hgo l e] at h; exact absurd rfl h
  · by_cases e : l = 9
    · subst e; rw [hg9]; exact .inr (.inl rfl)
    · exact .inl (hgo l e)
end Go.Exo
