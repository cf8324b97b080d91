/-
  range: the hooks are right. Own text.
-/
import Derived.Test.YtpmaoblgedacfaaGreatDoorRgBase
import Derived.Test.YtpmaoblgedacfaaGreatDoorWkCheck
import Derived.Test.YtpmaoblgedacfaaGreatDoorWkCopy
import Derived.Test.YtpmaoblgedacfaaGreatDoorWkSpreadB
set_option linter.all false
namespace Go.Exo
open Go.Proofs Go.Proofs.Wk
theorem str0_inv {E : Env} {y : Nat} {x : Value} (h : VR E (.str 0 y) x) : x = .string { data := #[] } := by
  cases h with
  | str _ _ s h1 h2 =>
    have : s.data.toList = [] := h1
    obtain ⟨d⟩ := s
    obtain ⟨l⟩ := d
    simp at this
    rw [this]
theorem intSym_inv {v : V} (h : intSym v = true) : ∃ l y, v = .agg [.int .i64 2, .bool false, .sym l, .str 0 y, .nils, .nils] ∧ 11 ≤ l ∧ l ≤ 13 := by
  unfold intSym at h
  split at h
  · rename_i n b l x y
    cases hc : (eqF n 2 && Nat.ble 11 l && Nat.ble l 13) with
    | false => rw [hc] at h; cases h
    | true =>
      rw [hc] at h
      simp only [Bool.and_eq_true] at hc
      cases b with
      | true => cases h
      | false =>
        have hx := Nat.eq_of_beq_eq_true h
        have hn : n = 2 := by have := hc.1.1; rw [eqF_eq] at this; exact eq_of_beq this
        subst hx hn
        exact ⟨l, y, rfl, Nat.le_of_ble_eq_true hc.1.2, Nat.le_of_ble_eq_true hc.2⟩
  · cases h
theorem listSym_inv {v : V} {s : Nat} (h : listSym v = some s) : ∃ y, v = .agg [.int .i64 4, .bool false, .int .i64 0, .str 0 y, .nils, .sym s] := by
  unfold listSym at h
  split at h
  · rename_i n b m x y s'
    cases hc : (eqF n 4 && eqF m 0 && Nat.beq x 0) with
    | false => rw [hc] at h; cases h
    | true =>
      rw [hc] at h
      simp only [Bool.and_eq_true] at hc
      cases b with
      | true => cases h
      | false =>
        cases h
        have hx := Nat.eq_of_beq_eq_true hc.2
        have hn : n = 4 := by have := hc.1.1; rw [eqF_eq] at this; exact eq_of_beq this
        have hm : m = 0 := by have := hc.1.2; rw [eqF_eq] at this; exact eq_of_beq this
        subst hx hn hm
        exact ⟨y, rfl⟩
  · cases h
theorem isKeep_inv {g : Nat} {o : AObj} (h : isKeep g o = true) : o = .keep g := by
  cases o <;> first | cases h | skip
  rw [Nat.eq_of_beq_eq_true h]
section
variable {W : World} {kb : Nat} {a0 a1 a2 : Int} {kp : Nat → Value → Obj → Prop}
theorem rg11 {E : Env} (h : (rgBs W kb a0 a1 a2 kp).env.le E) : E 11 = some ⟨0, 0, 0, .int .i64 a0, noOb, []⟩ ∧ E 12 = some ⟨0, 0, 0, .int .i64 a1, noOb, []⟩ ∧ E 13 = some ⟨0, 0, 0, .int .i64 a2, noOb, []⟩ ∧ E 10 = some ⟨0, 0, 0, undef, ⟨.deferred none, kp⟩, []⟩ :=
  ⟨h 11 _ rfl, h 12 _ rfl, h 13 _ rfl, h 10 _ rfl⟩
theorem sym_int {E : Env} (h : (rgBs W kb a0 a1 a2 kp).env.le E) {l : Nat} (h1 : 11 ≤ l) (h2 : l ≤ 13) {x : Value} (hv : VR E (.sym l) x) : ∃ n, x = .int .i64 n := by
  obtain ⟨e1, e2, e3, _⟩ := rg11 h
  cases hv with
  | sym _ p _ hp hx _ _ =>
    have : l = 11 ∨ l = 12 ∨ l = 13 := by omega
    rcases this with rfl | rfl | rfl
    · rw [e1] at hp; cases hp; exact ⟨_, hx⟩
    · rw [e2] at hp; cases hp; exact ⟨_, hx⟩
    · rw [e3] at hp; cases hp; exact ⟨_, hx⟩
theorem bare_ok : HookOk Tryz.prog (rgBs W kb a0 a1 a2 kp) (hkBare 97) := by
  intro E H nx w f args xs v H' nx' hwr hgl hxs hh
  unfold hkBare at hh
  cases hf : Nat.beq f 97 with
  | false => rw [hf] at hh; cases hh
  | true =>
    rw [hf] at hh
    obtain rfl := Nat.eq_of_beq_eq_true hf
    simp only [cond_true] at hh
    split at hh
    · rename_i v0
      cases hi : intSym v0 with
      | false => rw [hi] at hh; cases hh
      | true =>
        rw [hi] at hh
        simp only [cond_true, Option.some.injEq, Prod.mk.injEq] at hh
        obtain ⟨rfl, rfl, rfl⟩ := hh
        obtain ⟨l, y, rfl, h1, h2⟩ := intSym_inv hi
        cases hxs with | cons _ x _ _ hx hnil =>
        cases hnil
        cases hx with
        | agg _ cs hcs =>
          cases hcs with | cons _ c0 _ _ g0 hcs =>
          cases hcs with | cons _ c1 _ _ g1 hcs =>
          cases hcs with | cons _ c2 _ _ g2 hcs =>
          cases hcs with | cons _ c3 _ _ g3 hcs =>
          cases hcs with | cons _ c4 _ _ g4 hcs =>
          cases hcs with | cons _ c5 _ _ g5 hcs =>
          cases hcs
          cases g0; cases g1; cases g4; cases g5
          obtain ⟨n, rfl⟩ := sym_int hwr.le h1 h2 g2
          obtain rfl := str0_inv g3
          exact (bare_int n w).mono fun e w' ⟨he, hb⟩ => .ret ⟨_, E, he, Env.le.refl E, .bool true, hwr.grow (Ext.of_below hb), Nat.le_refl _, Keep.refl E H nx⟩
    · cases hh
/-- a list's value that is kept: what it is -/
theorem list_inv {zs : List Int} (hkp : kp = ListK zs) {E : Env} {H : T AObj} {nx : Nat} {w : World} (hwr : WR (rgBs W kb a0 a1 a2 kp) E H nx w) {s y : Nat} (hk : isKeep 10 (getH H s) = true) {x : Value} (hx : VR E (.agg [.int .i64 4, .bool false, .int .i64 0, .str 0 y, .nils, .sym s]) x) :
    ∃ g cap, x = .agg #[.int .i64 4, .bool false, .int .i64 0, .string { data := #[] }, .slice none 0 0, .slice (some ⟨g, 0, none⟩) zs.length cap] ∧ g < w.heap.size ∧ ListAt w g zs := by
  cases hx with
  | agg _ cs hcs =>
    cases hcs with | cons _ c0 _ _ g0 hcs =>
    cases hcs with | cons _ c1 _ _ g1 hcs =>
    cases hcs with | cons _ c2 _ _ g2 hcs =>
    cases hcs with | cons _ c3 _ _ g3 hcs =>
    cases hcs with | cons _ c4 _ _ g4 hcs =>
    cases hcs with | cons _ c5 _ _ g5 hcs =>
    cases hcs
    cases g0; cases g1; cases g2; cases g4
    obtain rfl := str0_inv g3
    cases g5 with
    | sym _ p _ hp hx _ _ =>
      have hob := hwr.objs s p hp
      rw [isKeep_inv hk] at hob
      obtain ⟨h1, q, h2, h3⟩ := hob
      rw [(rg11 hwr.le).2.2.2] at h2
      cases h2
      have h3' : ListK zs p.blk p.val p.ob.ob := by rw [← hkp]; exact h3
      have hat := h3'.at h1
      obtain ⟨c, cap, _, hv, _, _⟩ := h3'
      rw [hx, hv]
      exact ⟨p.blk, cap, rfl, (hwr.own s p hp).1, hat⟩
theorem check_ok {zs : List Int} (hkp : kp = ListK zs) (hpos : 0 < zs.length) (hmax : zs.length ≤ 65536) : HookOk Tryz.prog (rgBs W kb a0 a1 a2 kp) (hkCheck 29 10) := by
  intro E H nx w f args xs v H' nx' hwr hgl hxs hh
  unfold hkCheck at hh
  cases hf : Nat.beq f 29 with
  | false => rw [hf] at hh; cases hh
  | true =>
    rw [hf] at hh
    obtain rfl := Nat.eq_of_beq_eq_true hf
    simp only [cond_true] at hh
    split at hh
    · rename_i v0
      split at hh
      · rename_i s hs
        cases hk : isKeep 10 (getH H s) with
        | false => rw [hk] at hh; cases hh
        | true =>
          rw [hk] at hh
          simp only [cond_true, Option.some.injEq, Prod.mk.injEq] at hh
          obtain ⟨rfl, rfl, rfl⟩ := hh
          obtain ⟨y, rfl⟩ := listSym_inv hs
          cases hxs with | cons _ x _ _ hx hnil =>
          cases hnil
          obtain ⟨g, cap, rfl, hg, hat⟩ := list_inv hkp hwr hk hx
          exact (check_list g cap zs hpos hmax w hg hat).mono fun e w' ⟨he, hb⟩ => .ret ⟨_, E, he, Env.le.refl E, .int _ _, hwr.grow (Ext.of_below hb), Nat.le_refl _, Keep.refl E H nx⟩
      · cases hh
    · cases hh
theorem listV_vr {E : Env} {s : Nat} {p : Pl} (hp : E s = some p) {a : Option Addr} {n c : Nat} (hv : p.val = .slice a n c) : VR E (listV s) (.agg #[.int .i64 4, .bool false, .int .i64 0, .string { data := #[] }, .slice none 0 0, .slice a n c]) :=
  .agg _ [_, _, _, _, _, _] (.cons _ _ _ _ (.int _ _) (.cons _ _ _ _ (.bool _) (.cons _ _ _ _ (.int _ _) (.cons _ _ _ _ (VR.str0 E) (.cons _ _ _ _ .nils (.cons _ _ _ _ (.sym s p _ hp hv.symm rfl rfl) .nil))))))
theorem newList_post {zs : List Int} (hkp : kp = ListK zs) {E : Env} {H : T AObj} {nx : Nat} {w w' : World} (hwr : WR (rgBs W kb a0 a1 a2 kp) E H nx w) (hb : RowKit.Below w.heap.size w w') {v : Value} (hn : NewList zs w w' v) :
    HookPost (rgBs W kb a0 a1 a2 kp) E H nx (listV nx) (put .no H nx (.keep 10)) (nx + 1) (.returned (.agg #[.int .i64 4, .bool false, .int .i64 0, .string { data := #[] }, .slice none 0 0, v])) w' := by
  obtain ⟨g, cap, c, rfl, h1, h2, h3, h4, h5⟩ := hn
  have hq := (rg11 hwr.le).2.2.2
  have hwr' := hwr.keepNew (Ext.of_below hb) h1 h2 h5 (val := .slice (some ⟨g, 0, none⟩) zs.length cap) (kp' := fun _ _ _ => True) hq (by show kp _ _ _; rw [hkp]; exact ListK.of h4 h5 h3)
  exact .ret ⟨_, _, rfl, Env.le_set _ (hwr.fresh nx (Nat.le_refl _)).1, listV_vr (Env.set_self _ _ _) rfl, hwr', Nat.le_succ _, Keep.keepNew hwr _ _⟩
theorem copy_ok {zs : List Int} (hkp : kp = ListK zs) (hpos : 0 < zs.length) (hmax : zs.length ≤ 65536) : HookOk Tryz.prog (rgBs W kb a0 a1 a2 kp) (hkCopy 18 10) := by
  intro E H nx w f args xs v H' nx' hwr hgl hxs hh
  unfold hkCopy at hh
  cases hf : Nat.beq f 18 with
  | false => rw [hf] at hh; cases hh
  | true =>
    rw [hf] at hh
    obtain rfl := Nat.eq_of_beq_eq_true hf
    simp only [cond_true] at hh
    split at hh
    · rename_i v0
      split at hh
      · rename_i s hs
        cases hk : isKeep 10 (getH H s) with
        | false => rw [hk] at hh; cases hh
        | true =>
          rw [hk] at hh
          simp only [cond_true, setK_eq, Option.some.injEq, Prod.mk.injEq] at hh
          obtain ⟨rfl, rfl, rfl⟩ := hh
          obtain ⟨y, rfl⟩ := listSym_inv hs
          cases hxs with | cons _ x _ _ hx hnil =>
          cases hnil
          obtain ⟨g, cap, rfl, hg, hat⟩ := list_inv hkp hwr hk hx
          refine (copy_list g cap zs hpos hmax w hg hat).mono fun e w' ⟨hb, v, he, hn⟩ => ?_
          subst he
          exact newList_post hkp hwr hb hn
      · cases hh
    · cases hh
end
end Go.Exo
