/-
  range: what Const answers. Own text.
-/
import Derived.Test.YtpmaoblgedacfaaGreatDoorRgSpread
import Derived.KernelRfl
set_option linter.all false
namespace Go.Exo
open Go.Proofs Go.Proofs.Wk
theorem HookOk.or {P : Program} {w0 : Bs} {a b : Hook} (h1 : HookOk P w0 a) (h2 : HookOk P w0 b) : HookOk P w0 (hkOr a b) := by
  intro E H nx w g args xs v' H' nx' hwr hgl hxs hh
  unfold hkOr at hh
  cases ha : a g args H nx with
  | some r => rw [ha] at hh; cases hh; exact h1 E H nx w g args xs v' H' nx' hwr hgl hxs ha
  | none => rw [ha] at hh; exact h2 E H nx w g args xs v' H' nx' hwr hgl hxs hh
theorem rgGlobals : Tryz.prog.globals.size = 9 := by kernel_rfl
noncomputable def rgRun (hk : Hook) (c : V) : Option (V × T AObj × Nat) := final Tryz.prog 5 (enterK Tryz.prog 5 rgArgs .normal [] (rgH (.sym 11) (.sym 12) c) 16 (run Tryz.prog hk 100000))
noncomputable def rgIs (v : V) (o : Option (V × T AObj × Nat)) : Bool := match o with | some (u, _, _) => V.eqB u v | none => false
noncomputable def rgList (o : Option (V × T AObj × Nat)) : Bool := match o with
  | some (.tup [l, e], H, _) => (match listSym l with | some s => isKeep 10 (getH H s) && V.eqB e (.int .i64 0) | none => false)
  | _ => false
def ansZero : T AObj → Nat → Option (V × T AObj × Nat) := fun H nx => some (.agg [.int .i64 4, .bool false, .int .i64 0, .str 0 0, .nils, .nils], H, nx)
def ansGreat : T AObj → Nat → Option (V × T AObj × Nat) := fun H nx => some (.tup [.bad, .iface 82 (.agg [.int .i64 172])], H, nx)
noncomputable def ansSome : T AObj → Nat → Option (V × T AObj × Nat) := fun H nx => T.setK .no (.keep 10) H nx fun H => some (listV nx, H, Nat.succ nx)
theorem run0 : rgIs (.tup [.agg [.int .i64 0, .bool false, .int .i64 0, .str 0 0, .nils, .nils], .int .i64 121]) (rgRun (hkBare 97) (.int .i64 0)) = true := by kernel_rfl
theorem run1 : rgIs (.tup [.agg [.int .i64 4, .bool false, .int .i64 0, .str 0 0, .nils, .nils], .int .i64 0]) (rgRun (hkOr (hkBare 97) (hkSpread 57 11 12 13 ansZero)) (.sym 13)) = true := by kernel_rfl
theorem run2 : rgIs (.tup [.agg [.int .i64 0, .bool false, .int .i64 0, .str 0 0, .nils, .nils], .int .i64 172]) (rgRun (hkOr (hkBare 97) (hkSpread 57 11 12 13 ansGreat)) (.sym 13)) = true := by kernel_rfl
theorem run3 : rgList (rgRun (hkOr (hkBare 97) (hkOr (hkCheck 29 10) (hkOr (hkCopy 18 10) (hkSpread 57 11 12 13 ansSome)))) (.sym 13)) = true := by kernel_rfl
/-- the argument of Const: a call of range, its numbers in block kb -/
def rgX (kb : Nat) : List Value := [.agg #[.int .i64 7, .string { data := #[114, 97, 110, 103, 101] }, .int .i64 0, .bool false, .int .i64 0, .string { data := #[] }, .slice none 0 0, .slice none 0 0, .slice none 0 0, .slice (some ⟨kb, 0, none⟩) 3 3, .bool false], .slice none 0 0]
section
variable {W : World} {kb : Nat} {a0 a1 a2 : Int} {kp : Nat → Value → Obj → Prop}
theorem rg_args : VRs (rgEnv kb a0 a1 a2 kp) rgArgs (rgX kb) := by
  have hs := VR.str0 (rgEnv kb a0 a1 a2 kp)
  have hn : VR (rgEnv kb a0 a1 a2 kp) .nils (.slice none 0 0) := .nils
  refine .cons _ _ _ _ (.agg _ [_, _, _, _, _, _, _, _, _, _, _] (.cons _ _ _ _ (.int _ _) (.cons _ _ _ _ (.str _ _ _ (by decide) (by decide)) (.cons _ _ _ _ (.int _ _) (.cons _ _ _ _ (.bool _) (.cons _ _ _ _ (.int _ _) (.cons _ _ _ _ hs (.cons _ _ _ _ hn (.cons _ _ _ _ hn (.cons _ _ _ _ hn (.cons _ _ _ _ ?_ (.cons _ _ _ _ (.bool _) .nil)))))))))))) (.cons _ _ _ _ .nils .nil)
  exact .slice 9 0 3 (some 3) 11 ⟨kb, 0, 33, undef, noOb, []⟩ 3 rfl (by decide) (by show 0 + 3 * 11 ≤ 33; decide) (fun k hk => by cases hk; rfl)
theorem rg_gl : ∀ g, g < Tryz.prog.globals.size → ∃ s, rgEnv kb a0 a1 a2 kp g = some ⟨g, 0, s, undef, noOb, []⟩ := fun g hg => ⟨0, by unfold rgEnv; rw [if_pos (by rw [rgGlobals] at hg; exact hg)]⟩
theorem below_of {w' : World} {E : Env} {H : T AObj} {nx : Nat} (h : WR (rgBs W kb a0 a1 a2 kp) E H nx w') : RowKit.Below W.heap.size W w' := ⟨h.os, h.tape, h.output, h.size, h.old⟩
theorem agg_plain {E : Env} {k e : Int} {x : Value} (h : VR E (.tup [.agg [.int .i64 k, .bool false, .int .i64 0, .str 0 0, .nils, .nils], .int .i64 e]) x) : x = .tuple #[.agg #[.int .i64 k, .bool false, .int .i64 0, .string { data := #[] }, .slice none 0 0, .slice none 0 0], .int .i64 e] := by
  cases h with
  | tup _ ys hys =>
    cases hys with | cons _ u _ _ hu hys =>
    cases hys with | cons _ v _ _ hv hys =>
    cases hys
    cases hv
    cases hu with
    | agg _ cs hcs =>
      cases hcs with | cons _ c0 _ _ g0 hcs =>
      cases hcs with | cons _ c1 _ _ g1 hcs =>
      cases hcs with | cons _ c2 _ _ g2 hcs =>
      cases hcs with | cons _ c3 _ _ g3 hcs =>
      cases hcs with | cons _ c4 _ _ g4 hcs =>
      cases hcs with | cons _ c5 _ _ g5 hcs =>
      cases hcs
      cases g0; cases g1; cases g2; cases g4; cases g5
      obtain rfl := str0_inv g3
      rfl
theorem const_plain {hk : Hook} {c : V} {k e : Int} (hrun : rgIs (.tup [.agg [.int .i64 k, .bool false, .int .i64 0, .str 0 0, .nils, .nils], .int .i64 e]) (rgRun hk c) = true) (hok : HookOk Tryz.prog (rgBs W kb a0 a1 a2 kp) hk)
    (h9 : 9 ≤ W.heap.size) (hk : W.heap[kb]? = some (.cells (kidsX a0 a1 a2).toArray 30 (0, 0))) (hc : VR (rgEnv kb a0 a1 a2 kp) c (.int .i64 a2)) :
    Calls Tryz.prog 5 (rgX kb).toArray W fun e' w' => e' = .returned (.tuple #[.agg #[.int .i64 k, .bool false, .int .i64 0, .string { data := #[] }, .slice none 0 0, .slice none 0 0], .int .i64 e]) ∧ RowKit.Below W.heap.size W w' := by
  unfold rgIs at hrun
  split at hrun
  · rename_i u H' nx' hu
    have hq := eqB_eq hrun
    subst hq
    refine (final_ok hok (rg_start h9 hk hc) rg_gl rg_args hu).mono fun e' w' ⟨x, E', h1, h2, h3⟩ => ?_
    subst h1
    rw [agg_plain h2]
    exact ⟨rfl, below_of h3⟩
  · cases hrun
theorem const_some {hk : Hook} {c : V} {zs : List Int} (hkp : kp = ListK zs) (hrun : rgList (rgRun hk c) = true) (hok : HookOk Tryz.prog (rgBs W kb a0 a1 a2 kp) hk)
    (h9 : 9 ≤ W.heap.size) (hk : W.heap[kb]? = some (.cells (kidsX a0 a1 a2).toArray 30 (0, 0))) (hc : VR (rgEnv kb a0 a1 a2 kp) c (.int .i64 a2)) :
    Calls Tryz.prog 5 (rgX kb).toArray W fun e' w' => ∃ g cap, e' = .returned (.tuple #[.agg #[.int .i64 4, .bool false, .int .i64 0, .string { data := #[] }, .slice none 0 0, .slice (some ⟨g, 0, none⟩) zs.length cap], .int .i64 0]) ∧ g < w'.heap.size ∧ ListAt w' g zs ∧ RowKit.Below W.heap.size W w' := by
  unfold rgList at hrun
  split at hrun
  · rename_i l e H' nx' hu
    split at hrun
    · rename_i s hs
      simp only [Bool.and_eq_true] at hrun
      have hq := eqB_eq hrun.2
      subst hq
      obtain ⟨y, rfl⟩ := listSym_inv hs
      refine (final_ok hok (rg_start h9 hk hc) rg_gl rg_args hu).mono fun e' w' ⟨x, E', h1, h2, h3⟩ => ?_
      subst h1
      cases h2 with
      | tup _ ys hys =>
        cases hys with | cons _ u _ _ hu hys =>
        cases hys with | cons _ v _ _ hv hys =>
        cases hys
        cases hv
        obtain ⟨g, cap, rfl, hg, hat⟩ := list_inv hkp h3 hrun.1 hu
        exact ⟨g, cap, rfl, hg, hat, below_of h3⟩
    · cases hrun
  · cases hrun
/-- what Const answers -/
def ConstPost (a0 a1 a2 : Int) (N : Nat) (w : World) (e : Ending) (w' : World) : Prop :=
  RowKit.Below w.heap.size w w' ∧
  ((a2 = 0 ∧ e = .returned (.tuple #[.agg #[.int .i64 0, .bool false, .int .i64 0, .string { data := #[] }, .slice none 0 0, .slice none 0 0], .int .i64 121])) ∨
   (a2 ≠ 0 ∧ N = 0 ∧ e = .returned (.tuple #[.agg #[.int .i64 4, .bool false, .int .i64 0, .string { data := #[] }, .slice none 0 0, .slice none 0 0], .int .i64 0])) ∨
   (a2 ≠ 0 ∧ 0 < N ∧ N ≤ 65536 ∧ ∃ g cap, e = .returned (.tuple #[.agg #[.int .i64 4, .bool false, .int .i64 0, .string { data := #[] }, .slice none 0 0, .slice (some ⟨g, 0, none⟩) N cap], .int .i64 0]) ∧ g < w'.heap.size ∧ ListAt w' g (rng a0 a2 N)) ∨
   (a2 ≠ 0 ∧ N = 65537 ∧ e = .returned (.tuple #[.agg #[.int .i64 0, .bool false, .int .i64 0, .string { data := #[] }, .slice none 0 0, .slice none 0 0], .int .i64 172])))
theorem const_any (N : Nat) (hN : N ≤ 65537) (hin : ∀ k : Nat, k < N → InR a0 a1 a2 k) (hout : N ≤ 65536 → ¬ InR a0 a1 a2 N)
    (hx : -9223372036854775808 ≤ a0 ∧ a0 ≤ 9223372036854775807) (hy : -9223372036854775808 ≤ a1 ∧ a1 ≤ 9223372036854775807) (hzb : -9223372036854775808 ≤ a2 ∧ a2 ≤ 9223372036854775807)
    (h9 : 9 ≤ W.heap.size) (hk : W.heap[kb]? = some (.cells (kidsX a0 a1 a2).toArray 30 (0, 0))) :
    Calls Tryz.prog 5 (rgX kb).toArray W (ConstPost a0 a1 a2 N W) := by
  have hs13 : ∀ kp, VR (rgEnv kb a0 a1 a2 kp) (.sym 13) (.int .i64 a2) := fun kp => .sym 13 _ _ rfl rfl rfl rfl
  by_cases hz : a2 = 0
  · subst hz
    exact (const_plain (kp := fun _ _ _ => True) run0 bare_ok h9 hk (.int _ _)).mono fun e w' ⟨he, hb⟩ => ⟨hb, .inl ⟨rfl, he⟩⟩
  · by_cases h0 : N = 0
    · subst h0
      refine (const_plain (kp := fun _ _ _ => True) run1 (bare_ok.or (spread_ok hz hN hin hout hx hy hzb ?_)) h9 hk (hs13 _)).mono fun e w' ⟨he, hb⟩ => ⟨hb, .inr (.inl ⟨hz, rfl, he⟩)⟩
      intro E H nx w w' e v H' nx' hwr hp ha
      cases ha
      obtain ⟨hb, ⟨_, rfl⟩ | ⟨h, _⟩ | ⟨h, _⟩⟩ := hp
      · exact .ret ⟨_, E, rfl, Env.le.refl E, .agg _ [_, _, _, _, _, _] (.cons _ _ _ _ (.int _ _) (.cons _ _ _ _ (.bool _) (.cons _ _ _ _ (.int _ _) (.cons _ _ _ _ (VR.str0 E) (.cons _ _ _ _ .nils (.cons _ _ _ _ .nils .nil)))))), hwr.grow (Ext.of_below hb), Nat.le_refl _, Keep.refl E H nx⟩
      · omega
      · omega
    · by_cases hg : N = 65537
      · subst hg
        refine (const_plain (kp := fun _ _ _ => True) run2 (bare_ok.or (spread_ok hz hN hin hout hx hy hzb ?_)) h9 hk (hs13 _)).mono fun e w' ⟨he, hb⟩ => ⟨hb, .inr (.inr (.inr ⟨hz, rfl, he⟩))⟩
        intro E H nx w w' e v H' nx' hwr hp ha
        cases ha
        obtain ⟨hb, ⟨h, _⟩ | ⟨_, h, _⟩ | ⟨_, rfl⟩⟩ := hp
        · omega
        · omega
        · exact .pan ⟨_, E, rfl, Env.le.refl E, .iface _ _ _ (.agg _ [_] (.cons _ _ _ _ (.int _ _) .nil)), hwr.grow (Ext.of_below hb), Nat.le_refl _, Keep.refl E H nx⟩
      · have hl := rng_length a0 a2 N
        have hp0 : 0 < (rng a0 a2 N).length := by rw [hl]; omega
        have hp1 : (rng a0 a2 N).length ≤ 65536 := by rw [hl]; omega
        refine (const_some (kp := ListK (rng a0 a2 N)) rfl run3 (bare_ok.or ((check_ok rfl hp0 hp1).or ((copy_ok rfl hp0 hp1).or (spread_ok hz hN hin hout hx hy hzb ?_)))) h9 hk (hs13 _)).mono fun e w' ⟨g, cap, he, h1, h2, hb⟩ => ⟨hb, .inr (.inr (.inl ⟨hz, by omega, by omega, g, cap, by rw [hl] at he; exact he, h1, h2⟩))⟩
        intro E H nx w w' e v H' nx' hwr hp ha
        unfold ansSome at ha
        simp only [setK_eq, Option.some.injEq, Prod.mk.injEq] at ha
        obtain ⟨rfl, rfl, rfl⟩ := ha
        obtain ⟨hb, ⟨h, _⟩ | ⟨_, _, g, cap, c, rfl, g1, g2, g3, g4, g5⟩ | ⟨h, _⟩⟩ := hp
        · omega
        · exact newList_post rfl hwr hb ⟨g, cap, c, by rw [hl], g1, g2, by rw [hl]; exact g3, g4, g5⟩
        · omega
end
end Go.Exo
