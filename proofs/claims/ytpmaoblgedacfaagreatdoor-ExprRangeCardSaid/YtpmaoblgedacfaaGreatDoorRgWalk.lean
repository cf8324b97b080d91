/-
  ExprRange: the walk of the statement's function. Own text.
-/
import Derived.Test.YtpmaoblgedacfaaGreatDoorRgConst
import Derived.LoopN
set_option linter.all false
namespace Go.Proofs.Wk
open Go.RowKit
set_option maxRecDepth 100000
theorem lit_any (n : Int) (w : World) : Calls Tryz.prog 4 #[.int .i64 n] w fun e w' => e = .returned (.agg #[.int .i64 0, .string { data := #[] }, .int .i64 2, .bool false, .int .i64 n, .string { data := #[] }, .slice none 0 0, .slice none 0 0, .slice none 0 0, .slice none 0 0, .bool false]) ∧ Below w.heap.size w w' := by
  go_enter Tryz.func4, Tryz.ntmps4
  go_wp2
  exact bodyPost_ret (v := .agg #[.int .i64 0, .string { data := #[] }, .int .i64 2, .bool false, .int .i64 n, .string { data := #[] }, .slice none 0 0, .slice none 0 0, .slice none 0 0, .slice none 0 0, .bool false]) (by simp [results, Tryz.results4, go_sem]) rfl ⟨rfl, (Below.refl _ _).alloc (Nat.le_refl _) _⟩
theorem nThere (x y z : Int) : ∃ N : Nat, N ≤ 65537 ∧ (∀ k : Nat, k < N → Exo.InR x y z k) ∧ (N ≤ 65536 → ¬ Exo.InR x y z N) := by
  have key : ∀ M : Nat, (∀ k, k < M → Exo.InR x y z k) ∨ ∃ N, N < M ∧ ¬ Exo.InR x y z N ∧ ∀ k, k < N → Exo.InR x y z k := by
    intro M
    induction M with
    | zero => exact .inl fun k hk => by omega
    | succ M ih =>
      rcases ih with h | ⟨N, h1, h2, h3⟩
      · by_cases hM : Exo.InR x y z M
        · exact .inl fun k hk => by
            by_cases e : k = M
            · subst e; exact hM
            · exact h k (by omega)
        · exact .inr ⟨M, by omega, hM, h⟩
      · exact .inr ⟨N, by omega, h2, h3⟩
  rcases key 65537 with h | ⟨N, h1, h2, h3⟩
  · exact ⟨65537, Nat.le_refl _, h, fun h => by omega⟩
  · exact ⟨N, by omega, h3, fun _ => h2⟩
theorem const_call {x y z : Int} {N : Nat} (hN : N ≤ 65537) (hin : ∀ k : Nat, k < N → Exo.InR x y z k) (hout : N ≤ 65536 → ¬ Exo.InR x y z N)
    (hx : -9223372036854775808 ≤ x ∧ x ≤ 9223372036854775807) (hy : -9223372036854775808 ≤ y ∧ y ≤ 9223372036854775807) (hzb : -9223372036854775808 ≤ z ∧ z ≤ 9223372036854775807) (w1 : World) (h9 : 9 ≤ w1.heap.size) :
    Calls Tryz.prog 5 #[.agg #[.int .i64 7, .string { data := #[114, 97, 110, 103, 101] }, .int .i64 0, .bool false, .int .i64 0, .string { data := #[] }, .slice none 0 0, .slice none 0 0, .slice none 0 0, .slice (some { block := w1.heap.size, off := 0 }) 3 3, .bool false], .slice none 0 0]
      (w1.alloc (.cells #[.int .i64 0, .string { data := #[] }, .int .i64 2, .bool false, .int .i64 x, .string { data := #[] }, .slice none 0 0, .slice none 0 0, .slice none 0 0, .slice none 0 0, .bool false, .int .i64 0,
          .string { data := #[] }, .int .i64 2, .bool false, .int .i64 y, .string { data := #[] }, .slice none 0 0, .slice none 0 0, .slice none 0 0, .slice none 0 0, .bool false, .int .i64 0, .string { data := #[] },
          .int .i64 2, .bool false, .int .i64 z, .string { data := #[] }, .slice none 0 0, .slice none 0 0, .slice none 0 0, .slice none 0 0, .bool false] 30))
      (Exo.ConstPost x y z N (w1.alloc (.cells #[.int .i64 0, .string { data := #[] }, .int .i64 2, .bool false, .int .i64 x, .string { data := #[] }, .slice none 0 0, .slice none 0 0, .slice none 0 0, .slice none 0 0, .bool false, .int .i64 0,
          .string { data := #[] }, .int .i64 2, .bool false, .int .i64 y, .string { data := #[] }, .slice none 0 0, .slice none 0 0, .slice none 0 0, .slice none 0 0, .bool false, .int .i64 0, .string { data := #[] },
          .int .i64 2, .bool false, .int .i64 z, .string { data := #[] }, .slice none 0 0, .slice none 0 0, .slice none 0 0, .slice none 0 0, .bool false] 30))) :=
  Exo.const_any N hN hin hout hx hy hzb (by simp; omega) (cells_new w1 (Exo.kidsX x y z).toArray 30)
set_option maxHeartbeats 4000000 in
theorem walk_zero (x y : Int) (w : World)
    (hx : -9223372036854775808 ≤ x ∧ x ≤ 9223372036854775807) (hy : -9223372036854775808 ≤ y ∧ y ≤ 9223372036854775807) (h9 : 9 ≤ w.heap.size)
    (hK : ∀ W, Below w.heap.size w W → Calls Tryz.prog 6 #[] W fun e w' => e = .returned (.bool true) ∧ Below W.heap.size W w') :
    Calls Tryz.prog 3 #[.int .i64 x, .int .i64 y, .int .i64 0] w fun e w' => e = .returned (.bool true) ∧ Below w.heap.size w w' := by
  obtain ⟨N, hN, hin, hout⟩ := nThere x y 0
  have HC := const_call hN hin hout hx hy (by decide)
  have HK : Hid (∀ W, Below w.heap.size w W → Calls Tryz.prog 6 #[] W fun e w' => e = .returned (.bool true) ∧ Below W.heap.size W w') := hK
  have HB : Below w.heap.size w w := Below.refl _ _
  clear hx hy hin hout hK
  go_enter Tryz.func3, Tryz.ntmps3
  go_wp2_with (go_at_call 4; refine (lit_any _ _).mono ?_; rintro e w1 ⟨rfl, hb1⟩; replace HB := HB.trans (hb1.mono HB.size); clear hb1)
  refine (HC w1 (by have := HB.size; omega)).mono ?_
  rintro e W3 ⟨hB3, ⟨_, rfl⟩ | ⟨h, _⟩ | ⟨h, _⟩ | ⟨h, _⟩⟩
  · have HB3 : Below w.heap.size w W3 := (HB.alloc HB.size _).trans (hB3.mono (by have := HB.size; simp; omega))
    clear hB3
    go_wp2_with (go_at_call 6; refine (HK.out _ (HB3.alloc HB3.size _)).mono ?_; rintro e w9 ⟨rfl, hb9⟩)
    go_ret
    exact ⟨rfl, (HB3.alloc HB3.size _).trans (hb9.mono (by have := HB3.size; simp; omega))⟩
  · exact absurd rfl h
  · exact absurd rfl h
  · exact absurd rfl h
end Go.Proofs.Wk
