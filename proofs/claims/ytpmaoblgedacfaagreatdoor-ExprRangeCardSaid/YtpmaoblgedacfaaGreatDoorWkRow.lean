/-
  Plain lemmas: the numbers of a range; the cells of a list of numbers. Own text.
-/
import Derived.Test.YtpmaoblgedacfaaGreatDoorWkIter
set_option linter.all false
namespace Go.Proofs.Wk
open Go.RowKit
/-- n numbers from x on, by z -/
def rng (x z : Int) (n : Nat) : List Int := (List.range n).map fun i : Nat => x + z * (i : Int)
theorem rng_length (x z : Int) (n : Nat) : (rng x z n).length = n := by simp [rng]
theorem rng_succ (x z : Int) (n : Nat) : rng x z (n + 1) = rng x z n ++ [x + z * (n : Int)] := by simp [rng, List.range_succ]
theorem rng_get (x z : Int) (n k : Nat) (h : k < n) : (rng x z n)[k]? = some (x + z * (k : Int)) := by simp [rng, h]
/-- the cells of one number's value, of a list's -/
def cells1 (z : Int) : List Value := [.int .i64 2, .bool false, .int .i64 z, .string { data := #[] }, .slice none 0 0, .slice none 0 0]
def cellsL (zs : List Int) : List Value := zs.flatMap cells1
theorem cellsL_length (zs : List Int) : (cellsL zs).length = zs.length * 6 := by
  induction zs with
  | nil => rfl
  | cons z r ih => simp only [cellsL, List.flatMap_cons, List.length_append] at ih ⊢; rw [ih]; simp [cells1]; omega
theorem cellsL_snoc (zs : List Int) (z : Int) : cellsL (zs ++ [z]) = cellsL zs ++ cells1 z := by simp [cellsL]
theorem cellsL_get (zs : List Int) (k : Nat) (z : Int) (h : zs[k]? = some z) (j : Nat) (v : Value) (hj : (cells1 z)[j]? = some v) : (cellsL zs)[k * 6 + j]? = some v := by
  induction zs generalizing k with
  | nil => simp at h
  | cons y r ih =>
    have h6 : (cells1 y).length = 6 := rfl
    cases k with
    | zero =>
      simp at h; subst h
      have : j < 6 := by have := (List.getElem?_eq_some_iff.1 hj).1; exact this
      simp only [cellsL, List.flatMap_cons]
      rw [List.getElem?_append_left (by rw [h6]; omega)]
      simpa using hj
    | succ k =>
      simp only [cellsL, List.flatMap_cons]
      rw [List.getElem?_append_right (by rw [h6]; omega), h6]
      have e : (k + 1) * 6 + j - 6 = k * 6 + j := by omega
      rw [e]
      exact ih k (by simpa using h)
/-- a slice that owns the cells of a list: what it is -/
theorem own_some {w : World} {base : Nat} {e : TypeId} {v : Value} {zs : List Int} (h : w.ownsRow base e 6 v zs.length (cellsL zs)) (hp : 0 < zs.length) :
    ∃ g cap, v = .slice (some ⟨g, 0, none⟩) zs.length cap ∧ base ≤ g ∧ g < w.heap.size ∧ zs.length ≤ cap ∧ ListAt w g zs ∧ (∃ c, w.heap[g]? = some (.cells c e (0, 0))) := by
  rcases h.2 with ⟨_, h0⟩ | ⟨g, cap, cur, rfl, hg, hh, hn, hcap, hsz, htake⟩
  · omega
  · refine ⟨g, cap, rfl, hg, (Array.getElem?_eq_some_iff.1 hh).1, hn, ⟨cur, e, _, hh, fun k z hz => ?_⟩, cur, hh⟩
    have hk := (List.getElem?_eq_some_iff.1 hz).1
    have key : ∀ (j : Nat) (v : Value), j < 6 → (cells1 z)[j]? = some v → cur[k * 6 + j]? = some v := fun j v hj hv => by
      have h1 := cellsL_get zs k z hz j v hv
      rw [← htake, List.getElem?_take_of_lt (by omega)] at h1
      simpa using h1
    exact ⟨key 0 _ (by omega) rfl, key 1 _ (by omega) rfl, key 2 _ (by omega) rfl, key 3 _ (by omega) rfl, key 4 _ (by omega) rfl, key 5 _ (by omega) rfl⟩
theorem own_nil {w : World} {base : Nat} {e : TypeId} {v : Value} {xs : List Value} (h : w.ownsRow base e 6 v 0 xs) : v.ownBlock = none ∨ ∃ g, v.ownBlock = some g ∧ base ≤ g := by
  rcases h.2 with ⟨rfl, _⟩ | ⟨g, cap, cur, rfl, hg, _⟩
  · exact .inl rfl
  · exact .inr ⟨g, rfl, hg⟩
theorem own_ge {w : World} {base : Nat} {e : TypeId} {v : Value} {n : Nat} {xs : List Value} (h : w.ownsRow base e 6 v n xs) : ∀ k, v.ownBlock = some k → base ≤ k := by
  rcases h.2 with ⟨rfl, _⟩ | ⟨g, cap, cur, rfl, hg, _⟩
  · intro k hk; cases hk
  · intro k hk; cases hk; exact hg
end Go.Proofs.Wk
