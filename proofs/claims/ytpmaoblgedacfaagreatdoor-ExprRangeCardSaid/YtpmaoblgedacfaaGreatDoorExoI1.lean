/-
  EXO, part I1: the hook for the place of a text in another is right. Own text.
-/
import Derived.Test.YtpmaoblgedacfaaGreatDoorExo8
import Derived.Lib.Index
set_option linter.all false
namespace Go.Exo

theorem index_short (sub : List UInt8) : ∀ (s : List UInt8), s.length < sub.length → Lib.index s sub = -1
  | [], h => by
    cases sub with
    | nil => simp at h
    | cons _ _ => rfl
  | b :: l, h => by
    have hp : sub.isPrefixOf (b :: l) = false := by
      cases hh : sub.isPrefixOf (b :: l) with
      | false => rfl
      | true =>
        have := (List.isPrefixOf_iff_prefix.1 hh).length_le
        omega
    have ih := index_short sub l (by simp at h; omega)
    simp [Lib.index, hp, ih]
theorem match_iff {l n m x i : Nat} (hx : x < 256 ^ m) (hi : i + m ≤ l) : Nat.beq (Nat.mod (Nat.shiftRight n (Nat.mul 8 i)) (Nat.pow 256 m)) x = (sB m x).isPrefixOf ((sB l n).drop i) := by
  have e1 : Nat.mod (Nat.shiftRight n (Nat.mul 8 i)) (Nat.pow 256 m) = n / 256 ^ i % 256 ^ m := by
    show (n >>> (8 * i)) % 256 ^ m = _
    rw [Nat.shiftRight_eq_div_pow, Nat.pow_mul]
  rw [e1]
  obtain ⟨k, rfl⟩ : ∃ k, l = i + k := ⟨l - i, by omega⟩
  rw [sB_drop, Bool.eq_iff_iff, Nat.beq_eq, List.isPrefixOf_iff_prefix, List.prefix_iff_eq_take, sB_length, sB_take m k _ (by omega)]
  constructor
  · intro e; rw [← e, sB_mod]
  · intro e
    have h2 : sB m (n / 256 ^ i % 256 ^ m) = sB m x := by rw [sB_mod]; exact e.symm
    exact sB_inj (Nat.mod_lt _ (Nat.pow_pos (by omega))) hx h2
theorem findS_eq {l n m x : Nat} (hm : 1 ≤ m) (hml : m ≤ l) (hx : x < 256 ^ m) : ∀ (k i : Nat), i + k = l - m + 1 →
    findS n x (Nat.pow 256 m) k i = (if Lib.index ((sB l n).drop i) (sB m x) = -1 then -1 else Lib.index ((sB l n).drop i) (sB m x) + i)
  | 0, i, hi => by
    have : Lib.index ((sB l n).drop i) (sB m x) = -1 := index_short (sB m x) ((sB l n).drop i) (by rw [List.length_drop, sB_length, sB_length]; omega)
    rw [if_pos this]; rfl
  | k + 1, i, hi => by
    have ih := findS_eq (n := n) hm hml hx k (i + 1) (by omega)
    have hlt : i < (sB l n).length := by rw [sB_length]; omega
    have hstep : findS n x (Nat.pow 256 m) (k + 1) i = cond (Nat.beq (Nat.mod (Nat.shiftRight n (Nat.mul 8 i)) (Nat.pow 256 m)) x) (Int.ofNat i) (findS n x (Nat.pow 256 m) k (i + 1)) := rfl
    rw [hstep, match_iff (l := l) hx (by omega), ih]
    have hd : (sB l n).drop i = (sB l n)[i] :: (sB l n).drop (i + 1) := List.drop_eq_getElem_cons hlt
    generalize (sB l n).drop (i + 1) = r at hd ⊢
    rw [hd]
    rcases Bool.eq_false_or_eq_true ((sB m x).isPrefixOf ((sB l n)[i] :: r)) with hp | hp
    · have hv : Lib.index ((sB l n)[i] :: r) (sB m x) = 0 := by simp only [Lib.index, hp, if_true]
      rw [hp, hv]; simp
    · rw [hp]
      simp only [cond_false]
      by_cases h1 : Lib.index r (sB m x) = -1
      · have hv : Lib.index ((sB l n)[i] :: r) (sB m x) = -1 := by simp [Lib.index, hp, h1]
        rw [hv, h1]; simp
      · have hge := Lib.index_ge r (sB m x)
        have hv : Lib.index ((sB l n)[i] :: r) (sB m x) = Lib.index r (sB m x) + 1 := by simp [Lib.index, hp, h1]
        rw [hv, if_neg h1, if_neg (by omega)]
        push_cast
        omega
theorem idxS_eq {l n m x : Nat} (hx : x < 256 ^ m) : idxS l n m x = Lib.index (sB l n) (sB m x) := by
  unfold idxS
  cases hb : Nat.ble m l with
  | false =>
    have : ¬ m ≤ l := fun h => by rw [Nat.ble_eq_true_of_le h] at hb; cases hb
    simp only [cond_false]
    rw [index_short (sB m x) (sB l n) (by rw [sB_length, sB_length]; omega)]
    rfl
  | true =>
    simp only [cond_true]
    have hml := Nat.le_of_ble_eq_true hb
    by_cases hm : 1 ≤ m
    · have := findS_eq (n := n) hm hml hx (l - m + 1) 0 (by omega)
      have e : Nat.succ (Nat.sub l m) = l - m + 1 := rfl
      rw [e, this, List.drop_zero]
      split
      · rename_i h; rw [h]
      · simp
    · have hm0 : m = 0 := by omega
      subst hm0
      have hx0 : x = 0 := by simpa using hx
      subst hx0
      have h1 : findS n 0 (Nat.pow 256 0) (Nat.succ (Nat.sub l 0)) 0 = 0 := by
        show cond (Nat.beq (Nat.mod (Nat.shiftRight n (Nat.mul 8 0)) 1) 0) (Int.ofNat 0) _ = 0
        have : Nat.mod (Nat.shiftRight n (Nat.mul 8 0)) 1 = 0 := Nat.mod_one _
        rw [this]; rfl
      rw [h1]
      have : sB 0 0 = [] := rfl
      rw [this]
      cases sB l n <;> simp [Lib.index]
theorem Hooks.index {P : Program} {k : Nat} {G : World → Prop} {fn : Nat} (hG : Gd0 k G)
    (h : ∀ (s sub : ByteArray) (w : World), G w → s.size < 4294967281 → Calls P fn #[.string s, .string sub] w fun e w' => e = .returned (.int .i64 (Lib.index s.data.toList sub.data.toList)) ∧ w' = w) : Hooks P k G (hkIndex fn) := by
  intro w0 hw0 E H nx w f args xs v H' nx' hwr hgl hxs hh
  unfold hkIndex at hh
  cases hf : Nat.beq f fn with
  | false => rw [hf] at hh; cases hh
  | true =>
    rw [hf] at hh
    have e := Nat.eq_of_beq_eq_true hf
    subst e
    simp only [cond_true] at hh
    split at hh
    · rename_i l n m x
      cases hb : Nat.ble l 4294967280 with
      | false => rw [hb] at hh; cases hh
      | true =>
        rw [hb] at hh
        simp only [cond_true, Option.some.injEq, Prod.mk.injEq] at hh
        obtain ⟨rfl, rfl, rfl⟩ := hh
        cases hxs with
        | cons _ X _ _ hX h2 =>
          cases h2 with
          | cons _ Y _ _ hY h3 =>
            cases h3
            cases hX with
            | str _ _ s hs1 hs2 =>
              cases hY with
              | str _ _ t ht1 ht2 =>
                have hsz : s.size = l := by
                  have := congrArg List.length hs1
                  rw [sB_length] at this; simpa using this
                refine (h s t w (hw0.at hG hwr) (by have := Nat.le_of_ble_eq_true hb; omega)).mono fun e w' ⟨h1, h2⟩ => ?_
                subst h2
                refine .ret ⟨_, E, h1, Env.le.refl E, ?_, hwr, Nat.le_refl _, Keep.refl E H nx⟩
                rw [hs1, ht1, idxS_eq ht2]
                exact .int .i64 _
    · cases hh
end Go.Exo
