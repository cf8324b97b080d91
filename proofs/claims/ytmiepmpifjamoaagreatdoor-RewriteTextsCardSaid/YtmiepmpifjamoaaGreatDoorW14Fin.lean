/-
  RewriteTexts answers true for every rewrite: the given card. No condition.
-/
import Derived.Test.YtmiepmpifjamoaaGreatDoorW14LawX
import Derived.Test.YtmiepmpifjamoaaGreatDoorW14Works
import Derived.Test.YtmiepmpifjamoaaGreatDoorFr14
set_option linter.all false
namespace Go.Proofs.Wk
open Go.RowKit
set_option maxRecDepth 100000
theorem words_all (Q : List ByteArray → Prop) {k p q : Int} {bk : Bool} {lb ky : ByteArray} {cd : Int}
    (h3 : ∀ n : ByteArray, n.size ≤ 5 → Q [n, itoaB p, itoaB q]) (h4 : ∀ n : ByteArray, n.size ≤ 5 → Q [n, itoaB p, itoaB q, lb]) (h5 : ∀ n : ByteArray, n.size ≤ 5 → Q [n, itoaB p, itoaB q, lb, ky])
    (hb : ∀ n m : ByteArray, n.size ≤ 5 → m.size ≤ 5 → Q [n, itoaB p, itoaB q, m]) (hw : ∀ n : ByteArray, n.size ≤ 5 → Q [n, itoaB cd]) : Q (words k p q bk lb ky cd) := by
  unfold words
  cases k == 0 with
  | true => exact h3 _ (by decide)
  | false =>
    cases k == 1 with
    | true => exact h4 _ (by decide)
    | false =>
      cases k == 2 with
      | true => exact h5 _ (by decide)
      | false =>
        cases k == 3 with
        | true => exact h3 _ (by decide)
        | false =>
          cases k == 4 with
          | true =>
            cases bk with
            | true => exact hb _ _ (by decide) (by decide)
            | false => exact h3 _ (by decide)
          | false =>
            cases k == 5 with
            | true => exact hw _ (by decide)
            | false => exact h3 _ (by decide)
theorem tail_len {m : Nat} : ∀ (r : List (List UInt8)), (∀ x ∈ r, x.length ≤ m) → (Lib.joinTail [32] r).length ≤ r.length * (m + 1)
  | [], _ => by simp [Lib.joinTail]
  | x :: r, h => by
    have ih := tail_len r fun y hy => h y (List.mem_cons_of_mem _ hy)
    have hx := h x (List.mem_cons_self ..)
    have e : (Lib.joinTail [32] (x :: r)).length = 1 + x.length + (Lib.joinTail [32] r).length := by
      simp [Lib.joinTail]; omega
    rw [e, List.length_cons, Nat.succ_mul]
    omega
theorem join_len {m : Nat} (xs : List (List UInt8)) (h : ∀ x ∈ xs, x.length ≤ m) : (Lib.join xs [32]).length ≤ xs.length * (m + 1) := by
  cases xs with
  | nil => simp [Lib.join_nil]
  | cons x r =>
    rw [Lib.join_cons, List.length_append, List.length_cons, Nat.succ_mul]
    have h1 := tail_len r fun y hy => h y (List.mem_cons_of_mem _ hy)
    have h2 := h x (List.mem_cons_self ..)
    omega
theorem itoa_size {n : Int} (r : R64 n) : (itoaB n).size ≤ 21 := by
  have h := Lib.itoa_length_le n r.1 r.2
  show (Lib.itoa n).toArray.size ≤ 21
  rw [List.size_toArray]; exact h
theorem words_fit {k p q : Int} {bk : Bool} {lb ky : ByteArray} {cd : Int} (rp : R64 p) (rq : R64 q) (rc : R64 cd) (hn : lb.size + ky.size ≤ 1000) :
    (words k p q bk lb ky cd).length ≤ 5 ∧ (Lib.join ((words k p q bk lb ky cd).map (fun x : ByteArray => x.data.toList)) [32]).length ≤ 100000 := by
  have hp := itoa_size rp
  have hq := itoa_size rq
  have hc := itoa_size rc
  have key : ∀ xs : List ByteArray, xs.length ≤ 5 → (∀ x ∈ xs, x.size ≤ 1000) → xs.length ≤ 5 ∧ (Lib.join (xs.map (fun x : ByteArray => x.data.toList)) [32]).length ≤ 100000 := fun xs h1 h2 => by
    refine ⟨h1, Nat.le_trans (join_len (m := 1000) _ fun x hx => ?_) ?_⟩
    · obtain ⟨y, hy, rfl⟩ := List.mem_map.1 hx
      exact (show y.data.toList.length = y.size from rfl) ▸ h2 y hy
    · rw [List.length_map]; omega
  refine words_all (fun xs => xs.length ≤ 5 ∧ (Lib.join (xs.map (fun x : ByteArray => x.data.toList)) [32]).length ≤ 100000) ?_ ?_ ?_ ?_ ?_
  · intro n h; exact key _ (by simp) (by simp; omega)
  · intro n h; exact key _ (by simp) (by simp; omega)
  · intro n h; exact key _ (by simp) (by simp; omega)
  · intro n m h h'; exact key _ (by simp) (by simp; omega)
  · intro n h; exact key _ (by simp) (by simp; omega)
theorem step_join {k p q : Int} {bk : Bool} {lb ky : ByteArray} {cd : Int} (h : 0 ≤ k ∧ k ≤ 3) : stepB k p q lb ky = joinB k p q bk lb ky cd := by
  have hk : k = 0 ∨ k = 1 ∨ k = 2 ∨ k = 3 := by omega
  apply ByteArray.ext
  apply Array.ext'
  rcases hk with rfl | rfl | rfl | rfl <;> simp [stepB, joinB, words, atB, Lib.join_cons, Lib.joinTail]
end Go.Proofs.Wk
namespace Go.Proofs.YtmiepmpifjamoaaGreatDoor.rewriteTexts
open Go.RowKit
theorem i64_bounds {a : Int} (h : (Lit.int .i64 a).wf = true) : Wk.R64 a := by
  have h1 : IntKind.i64.min = -9223372036854775808 := rfl
  have h2 : IntKind.i64.max = 9223372036854775807 := rfl
  simp only [Lit.wf, Bool.and_eq_true, decide_eq_true_eq] at h
  unfold Wk.R64
  omega
theorem walk : Walk := by
  intro k0 a k p q bk lb ky cd ok s1 s2 w hb htab
  have ra := i64_bounds ok.a
  have rp := i64_bounds ok.p
  have rq := i64_bounds ok.q
  have rc := i64_bounds ok.cd
  have hbase : Tk.Base w := ⟨hb.size, hb.max⟩
  have hK : ∀ W, Below w.heap.size w W → Calls Tryz.prog 4 #[] W fun e w' => e = .returned (.bool true) ∧ Below W.heap.size W w' := fun W hW =>
    (Tk.works W [] (Tk.base_gd.keep w W (fun b h9 => hW.block b (Nat.lt_of_lt_of_le h9 hb.size)) hbase) .nil).mono fun e w' ⟨v, he, hv, hx⟩ => by
      cases hv
      exact ⟨he, hx.os, hx.tape, hx.output, hx.size, hx.old⟩
  have hI : ∀ n W, Wk.R64 n → Below w.heap.size w W → Calls Tryz.prog 14 #[.int .i64 n] W fun e w' => e = .returned (.string (Wk.itoaB n)) ∧ Below W.heap.size W w' := fun n W r h =>
    Wk.itoa_any n r.1 r.2 W (Go.Joins.tab_stays (g := 1) (by kernel_rfl) htab h (Nat.le_refl _))
  have hm : reachBytes ≤ 140737488355328 := by decide
  have key : Calls Tryz.prog 3 #[.agg (Wk.R27 k0 a k p q bk lb ky cd)] w fun e w' => e = .returned (.bool true) ∧ Below w.heap.size w w' := by
    by_cases hn : lb.size + ky.size ≤ 1000
    · by_cases h0 : k0 < 0
      · exact Wk.lawN k0 a k p q bk lb ky cd w h0 hn hK
      by_cases h4 : 4 < k0
      · exact Wk.lawG k0 a k p q bk lb ky cd w h0 h4 hn hK
      have hX := Wk.words_fit (k := k) (bk := bk) rp rq rc hn
      have hJ : (Wk.joinB k p q bk lb ky cd).size ≤ 100000 := by
        have := hX.2
        simpa [Wk.joinB, ByteArray.size] using this
      have hT : ∀ W, Below w.heap.size w W → Calls Tryz.prog 6 #[.slice (some ⟨W.heap.size, 0, none⟩) 1 1] (W.alloc (Wk.S25 k p q bk lb ky cd)) fun e w' => e = .returned (.string ⟨(Lib.join ((Wk.words k p q bk lb ky cd).map (fun x : ByteArray => x.data.toList)) [32] ++ [10]).toArray⟩) ∧ Below W.heap.size W w' := fun W h =>
        Wk.planText_any k p q bk lb ky cd W hX rp rq rc fun n W' r h' => hI n W' r (Wk.belowX (Wk.below_alloc (Wk.below_alloc (Wk.below_alloc h _) _) _) h')
      have sa := Wk.itoa_size ra
      have sp := Wk.itoa_size rp
      have sq := Wk.itoa_size rq
      have hk : k0 = 0 ∨ k0 = 1 ∨ k0 = 2 ∨ k0 = 3 ∨ k0 = 4 := by omega
      rcases hk with rfl | rfl | rfl | rfl | rfl
      · exact Wk.law0 a k p q bk lb ky cd w hn sa sp sq hJ Wk.step_join ra rp rq hI hT hK
      · exact Wk.law1 a k p q bk lb ky cd w hn sa sp sq hJ Wk.step_join ra rp rq hI hT hK
      · exact Wk.law2 a k p q bk lb ky cd w hn sa sp sq hJ Wk.step_join ra rp rq hI hT hK
      · exact Wk.law3 a k p q bk lb ky cd w hn sa sp sq hJ Wk.step_join ra rp rq hI hT hK
      · exact Wk.law4 a k p q bk lb ky cd w hn sa sp sq hJ Wk.step_join ra rp rq hI hT hK
    · exact Wk.lawBig k0 a k p q bk lb ky cd w (by omega) (by omega) hK
  exact key.mono fun e w' ⟨he, hw⟩ => ⟨he, ⟨hw.block, hw.size, hw.os, hw.output, hw.tape⟩⟩
theorem rewriteTexts_holds : Rows.RewriteTextsCardSaid := card walk
#print axioms rewriteTexts_holds
end Go.Proofs.YtmiepmpifjamoaaGreatDoor.rewriteTexts
