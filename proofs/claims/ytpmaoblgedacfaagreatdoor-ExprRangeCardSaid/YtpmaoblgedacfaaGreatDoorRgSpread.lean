/-
  range: the hook for spread is right. Own text.
-/
import Derived.Test.YtpmaoblgedacfaaGreatDoorRgHooks
set_option linter.all false
namespace Go.Exo
open Go.Proofs Go.Proofs.Wk
def InR (x y z : Int) (k : Nat) : Prop := (0 < z ∧ x + z * (k : Int) ≤ y) ∨ (z < 0 ∧ y ≤ x + z * (k : Int))
theorem spread_any (pg : Option Addr) (b o c : Nat) (x y z : Int) (hz : z ≠ 0) (N : Nat) (hN : N ≤ 65537) (hin : ∀ k : Nat, k < N → InR x y z k) (hout : N ≤ 65536 → ¬ InR x y z N)
    (hx : -9223372036854775808 ≤ x ∧ x ≤ 9223372036854775807) (hy : -9223372036854775808 ≤ y ∧ y ≤ 9223372036854775807) (hzb : -9223372036854775808 ≤ z ∧ z ≤ 9223372036854775807)
    (w : World) (hb : b < w.heap.size) (h0 : NumAt w b o x) (h1 : NumAt w b (o + 6) y) (h2 : NumAt w b (o + 12) z) (hc : 3 ≤ c) :
    Calls Tryz.prog 57 #[.pointer pg, .slice (some ⟨b, o, none⟩) 3 c] w (SpreadPost x z N w) := by
  by_cases hs : 0 < z
  · refine spread_up pg b o c x y z hs N hN (fun k hk => ?_) (fun h => ?_) hx hy hzb w hb h0 h1 h2 hc
    · rcases hin k hk with h | h
      · exact h.2
      · omega
    · have := hout h
      unfold InR at this
      omega
  · refine spread_down pg b o c x y z (by omega) N hN (fun k hk => ?_) (fun h => ?_) hx hy hzb w hb h0 h1 h2 hc
    · rcases hin k hk with h | h
      · omega
      · exact h.2
    · have := hout h
      unfold InR at this
      omega
theorem syms3_inv {x y z : Nat} {cs : List V} (h : syms3 x y z cs = true) : ∃ p0 p1 p2, cs = [.int .i64 2, .bool false, .sym x, .str 0 p0, .nils, .nils, .int .i64 2, .bool false, .sym y, .str 0 p1, .nils, .nils, .int .i64 2, .bool false, .sym z, .str 0 p2, .nils, .nils] := by
  unfold syms3 at h
  split at h
  · rename_i a0 b0 x' q0 p0 a1 b1 y' q1 p1 a2 b2 z' q2 p2
    simp only [Bool.and_eq_true] at h
    obtain ⟨⟨⟨⟨⟨⟨⟨⟨⟨h1, h2⟩, h3⟩, h4⟩, h5⟩, h6⟩, h7⟩, h8⟩, h9⟩, h10⟩ := h
    have e1 : a0 = 2 := by rw [eqF_eq] at h1; exact eq_of_beq h1
    have e2 : a1 = 2 := by rw [eqF_eq] at h2; exact eq_of_beq h2
    have e3 : a2 = 2 := by rw [eqF_eq] at h3; exact eq_of_beq h3
    have e4 := Nat.eq_of_beq_eq_true h4
    have e5 := Nat.eq_of_beq_eq_true h5
    have e6 := Nat.eq_of_beq_eq_true h6
    have e7 := Nat.eq_of_beq_eq_true h7
    have e8 := Nat.eq_of_beq_eq_true h8
    have e9 := Nat.eq_of_beq_eq_true h9
    subst e1 e2 e3 e4 e5 e6 e7 e8 e9
    cases b0 <;> cases b1 <;> cases b2 <;> first | (cases h10; done) | exact ⟨p0, p1, p2, rfl⟩
  · cases h
section
variable {W : World} {kb : Nat} {a0 a1 a2 : Int} {kp : Nat → Value → Obj → Prop}
theorem sym_at {E : Env} {l : Nat} {p : Pl} {n : Int} (he : E l = some p) (hv : p.val = .int .i64 n) {x : Value} (h : VR E (.sym l) x) : x = .int .i64 n := by
  cases h with
  | sym _ q _ hq hx _ _ => rw [he] at hq; cases hq; rw [hx, hv]
theorem nums_of {E : Env} {w : World} (hle : (rgBs W kb a0 a1 a2 kp).env.le E) {p0 p1 p2 : Nat} {xs : List Value} {b o : Nat}
    (h : VRs E [.int .i64 2, .bool false, .sym 11, .str 0 p0, .nils, .nils, .int .i64 2, .bool false, .sym 12, .str 0 p1, .nils, .nils, .int .i64 2, .bool false, .sym 13, .str 0 p2, .nils, .nils] xs)
    (hc : ∀ j v, xs[j]? = some v → w.cell? ((⟨b, o, none⟩ : Addr).add j) = some v) : NumAt w b o a0 ∧ NumAt w b (o + 6) a1 ∧ NumAt w b (o + 12) a2 := by
  obtain ⟨e1, e2, e3, _⟩ := rg11 hle
  cases h with | cons _ x0 _ _ g0 h =>
  cases h with | cons _ x1 _ _ g1 h =>
  cases h with | cons _ x2 _ _ g2 h =>
  cases h with | cons _ x3 _ _ g3 h =>
  cases h with | cons _ x4 _ _ g4 h =>
  cases h with | cons _ x5 _ _ g5 h =>
  cases h with | cons _ y0 _ _ k0 h =>
  cases h with | cons _ y1 _ _ k1 h =>
  cases h with | cons _ y2 _ _ k2 h =>
  cases h with | cons _ y3 _ _ k3 h =>
  cases h with | cons _ y4 _ _ k4 h =>
  cases h with | cons _ y5 _ _ k5 h =>
  cases h with | cons _ z0 _ _ m0 h =>
  cases h with | cons _ z1 _ _ m1 h =>
  cases h with | cons _ z2 _ _ m2 h =>
  cases h with | cons _ z3 _ _ m3 h =>
  cases h with | cons _ z4 _ _ m4 h =>
  cases h with | cons _ z5 _ _ m5 h =>
  cases h
  cases g0; cases g1; cases g4; cases g5; cases k0; cases k1; cases k4; cases k5; cases m0; cases m1; cases m4; cases m5
  obtain rfl := str0_inv g3
  obtain rfl := str0_inv k3
  obtain rfl := str0_inv m3
  obtain rfl := sym_at e1 rfl g2
  obtain rfl := sym_at e2 rfl k2
  obtain rfl := sym_at e3 rfl m2
  have ha : ∀ j, (⟨b, o, none⟩ : Addr).add j = ⟨b, o + j, none⟩ := fun j => by cases j <;> rfl
  have hc' : ∀ j v, ([.int .i64 2, .bool false, .int .i64 a0, .string { data := #[] }, .slice none 0 0, .slice none 0 0, .int .i64 2, .bool false, .int .i64 a1, .string { data := #[] }, .slice none 0 0, .slice none 0 0, .int .i64 2, .bool false, .int .i64 a2, .string { data := #[] }, .slice none 0 0, .slice none 0 0] : List Value)[j]? = some v → w.cell? ⟨b, o + j, none⟩ = some v := fun j v hv => by rw [← ha]; exact hc j v hv
  exact ⟨⟨hc' 0 _ rfl, hc' 1 _ rfl, hc' 2 _ rfl, hc' 3 _ rfl, hc' 4 _ rfl, hc' 5 _ rfl⟩, ⟨hc' 6 _ rfl, hc' 7 _ rfl, hc' 8 _ rfl, hc' 9 _ rfl, hc' 10 _ rfl, hc' 11 _ rfl⟩, ⟨hc' 12 _ rfl, hc' 13 _ rfl, hc' 14 _ rfl, hc' 15 _ rfl, hc' 16 _ rfl, hc' 17 _ rfl⟩⟩
theorem spread_ok {ans : T AObj → Nat → Option (V × T AObj × Nat)} {N : Nat} (hz : a2 ≠ 0) (hN : N ≤ 65537) (hin : ∀ k : Nat, k < N → InR a0 a1 a2 k) (hout : N ≤ 65536 → ¬ InR a0 a1 a2 N)
    (hx : -9223372036854775808 ≤ a0 ∧ a0 ≤ 9223372036854775807) (hy : -9223372036854775808 ≤ a1 ∧ a1 ≤ 9223372036854775807) (hzb : -9223372036854775808 ≤ a2 ∧ a2 ≤ 9223372036854775807)
    (hans : ∀ E H nx w w' e v H' nx', WR (rgBs W kb a0 a1 a2 kp) E H nx w → SpreadPost a0 a2 N w e w' → ans H nx = some (v, H', nx') → HookPost (rgBs W kb a0 a1 a2 kp) E H nx v H' nx' e w') :
    HookOk Tryz.prog (rgBs W kb a0 a1 a2 kp) (hkSpread 57 11 12 13 ans) := by
  intro E H nx w f args xs v H' nx' hwr hgl hxs hh
  unfold hkSpread at hh
  cases hf : Nat.beq f 57 with
  | false => rw [hf] at hh; cases hh
  | true =>
    rw [hf] at hh
    obtain rfl := Nat.eq_of_beq_eq_true hf
    simp only [cond_true] at hh
    split at hh
    · rename_i gl go l o n cp e
      cases hcnd : (Nat.beq n 3 && Nat.beq e 6 && syms3 11 12 13 (row18 H l o)) with
      | false => rw [hcnd] at hh; cases hh
      | true =>
        rw [hcnd] at hh
        simp only [cond_true] at hh
        simp only [Bool.and_eq_true] at hcnd
        obtain ⟨⟨h1, h2⟩, h3⟩ := hcnd
        obtain rfl := Nat.eq_of_beq_eq_true h1
        obtain rfl := Nat.eq_of_beq_eq_true h2
        obtain ⟨p0, p1, p2, hcs⟩ := syms3_inv h3
        cases hxs with | cons _ x0 _ _ g0 hxs =>
        cases hxs with | cons _ x1 _ _ g1 hxs =>
        cases hxs
        cases g0 with
        | ptr _ _ pg hpg =>
          cases g1 with
          | slice _ _ _ _ _ p c hp hlc hsz hcap =>
            obtain ⟨ys, hys, hcell⟩ := row18_ok hwr hp hcs (by simp)
            obtain ⟨n0, n1, n2⟩ := nums_of hwr.le hys hcell
            exact (spread_any _ p.blk (p.base + o) c a0 a1 a2 hz N hN hin hout hx hy hzb w (hwr.own l p hp).1 n0 n1 n2 hlc).mono fun e w' hpost => hans E H nx w w' e v H' nx' hwr hpost hh
    · cases hh
end
end Go.Exo
