/-
  RewriteTexts: its argument, opened and shut. Own text.
-/
import Derived.Test.YtmiepmpifjamoaaGreatDoorW14Rtext
import Derived.ProofKit
import Derived.Lib.SmallJoins
import Derived.ChangeSame
set_option linter.all false
namespace Go.Proofs.Wk
set_option maxRecDepth 100000
open Go.ChangeShapes Go.WideShapes Go.ChangeAt Go.RowKit
section
variable {H : Type} {enc : TypeId × Value → H} {w : World} {base : Nat} {sp : Nat → Bool} {held : Bool}
def D25 (k p q : Int) (bk : Bool) (lb ky : ByteArray) (cd : Int) : DataW H := .agg [.lit (.int .i64 k), .lit (.int .i64 p), .lit (.int .i64 q), .lit (.bool bk), .lit (.string lb.data.toList), .lit (.string ky.data.toList), .lit (.int .i64 cd)]
def D27 (k0 a k p q : Int) (bk : Bool) (lb ky : ByteArray) (cd : Int) : DataW H := .agg [.lit (.int .i64 k0), .lit (.int .i64 a), D25 k p q bk lb ky cd]
structure Ok27 (k0 a k p q : Int) (lb ky : ByteArray) (cd : Int) : Prop where
  k0 : (Lit.int .i64 k0).wf = true
  a : (Lit.int .i64 a).wf = true
  k : (Lit.int .i64 k).wf = true
  p : (Lit.int .i64 p).wf = true
  q : (Lit.int .i64 q).wf = true
  cd : (Lit.int .i64 cd).wf = true
  lb : lb.size ≤ maxLen
  ky : ky.size ≤ maxLen
theorem cells22 : Tryz.prog.cellsOf 22 = 1 := by kernel_rfl
theorem cells23 : Tryz.prog.cellsOf 23 = 1 := by kernel_rfl
theorem cells3 : Tryz.prog.cellsOf 3 = 1 := by kernel_rfl
theorem cells4 : Tryz.prog.cellsOf 4 = 1 := by kernel_rfl
theorem cells9 : Tryz.prog.cellsOf 9 = 1 := by kernel_rfl
theorem cells25 : Tryz.prog.cellsOf 25 = 7 := by kernel_rfl
theorem cells27 : Tryz.prog.cellsOf 27 = 9 := by kernel_rfl
theorem trodBool {P : Program} {t : TypeId} {fuel : Nat} {cs : List Value} {x : DataW H × List MemPlace} (ht : P.underlying t = some .bool) (h : DataW.trod enc P w base sp held fuel t cs = some x) : ∃ b, cs = [.bool b] ∧ x = (.lit (.bool b), []) := by
  cases fuel with
  | zero => simp [DataW.trod] at h
  | succ n =>
    unfold DataW.trod at h
    rw [ht] at h
    split at h <;> simp_all
theorem open27 {r : Reach} {b0 : Nat} {v : Value} {d : DataW H} {pl : List MemPlace} (hv : Value.okWide Tryz.prog w r b0 27 v) (h : DataW.Trod enc Tryz.prog w base sp held 27 v d pl) :
    ∃ (k0 a k p q : Int) (bk : Bool) (lb ky : ByteArray) (cd : Int), v = .agg (R27 k0 a k p q bk lb ky cd) ∧ d = D27 k0 a k p q bk lb ky cd ∧ pl = [] ∧ Ok27 k0 a k p q lb ky cd := by
  obtain ⟨cs, rfl, hsz⟩ := okWide_struct Tryz.underlying27 hv
  rw [cells27] at hsz
  obtain ⟨l⟩ := cs
  match l, hsz with
  | [c0, c1, c2, c3, c4, c5, c6, c7, c8], _ =>
    obtain ⟨fuel, hf⟩ := h
    obtain ⟨xs, n, _, hx, _, hlen, hg⟩ := DataW.trod_struct Tryz.underlying27 hf
    match xs, hlen with
    | [y0, y1, y2], _ =>
      have h0 : DataW.trod enc Tryz.prog w base sp held n 22 (([c0, c1, c2, c3, c4, c5, c6, c7, c8].drop 0).take (Tryz.prog.cellsOf 22)) = some y0 := hg 0 _ rfl
      have h1 : DataW.trod enc Tryz.prog w base sp held n 3 (([c0, c1, c2, c3, c4, c5, c6, c7, c8].drop 1).take (Tryz.prog.cellsOf 3)) = some y1 := hg 1 _ rfl
      have h2 : DataW.trod enc Tryz.prog w base sp held n 25 (([c0, c1, c2, c3, c4, c5, c6, c7, c8].drop 2).take (Tryz.prog.cellsOf 25)) = some y2 := hg 2 _ rfl
      rw [cells22] at h0
      rw [cells3] at h1
      rw [cells25] at h2
      change DataW.trod enc Tryz.prog w base sp held n 22 [c0] = some y0 at h0
      change DataW.trod enc Tryz.prog w base sp held n 3 [c1] = some y1 at h1
      change DataW.trod enc Tryz.prog w base sp held n 25 [c2, c3, c4, c5, c6, c7, c8] = some y2 at h2
      obtain ⟨zs, m, _, hz, _, hlen2, hk⟩ := DataW.trod_struct Tryz.underlying25 h2
      match zs, hlen2 with
      | [z0, z1, z2, z3, z4, z5, z6], _ =>
        have k0 : DataW.trod enc Tryz.prog w base sp held m 23 (([c2, c3, c4, c5, c6, c7, c8].drop 0).take (Tryz.prog.cellsOf 23)) = some z0 := hk 0 _ rfl
        have k1 : DataW.trod enc Tryz.prog w base sp held m 3 (([c2, c3, c4, c5, c6, c7, c8].drop 1).take (Tryz.prog.cellsOf 3)) = some z1 := hk 1 _ rfl
        have k2 : DataW.trod enc Tryz.prog w base sp held m 3 (([c2, c3, c4, c5, c6, c7, c8].drop 2).take (Tryz.prog.cellsOf 3)) = some z2 := hk 2 _ rfl
        have k3 : DataW.trod enc Tryz.prog w base sp held m 4 (([c2, c3, c4, c5, c6, c7, c8].drop 3).take (Tryz.prog.cellsOf 4)) = some z3 := hk 3 _ rfl
        have k4 : DataW.trod enc Tryz.prog w base sp held m 9 (([c2, c3, c4, c5, c6, c7, c8].drop 4).take (Tryz.prog.cellsOf 9)) = some z4 := hk 4 _ rfl
        have k5 : DataW.trod enc Tryz.prog w base sp held m 9 (([c2, c3, c4, c5, c6, c7, c8].drop 5).take (Tryz.prog.cellsOf 9)) = some z5 := hk 5 _ rfl
        have k6 : DataW.trod enc Tryz.prog w base sp held m 3 (([c2, c3, c4, c5, c6, c7, c8].drop 6).take (Tryz.prog.cellsOf 3)) = some z6 := hk 6 _ rfl
        rw [cells23] at k0
        rw [cells3] at k1 k2 k6
        rw [cells4] at k3
        rw [cells9] at k4 k5
        change DataW.trod enc Tryz.prog w base sp held m 23 [c2] = some z0 at k0
        change DataW.trod enc Tryz.prog w base sp held m 3 [c3] = some z1 at k1
        change DataW.trod enc Tryz.prog w base sp held m 3 [c4] = some z2 at k2
        change DataW.trod enc Tryz.prog w base sp held m 4 [c5] = some z3 at k3
        change DataW.trod enc Tryz.prog w base sp held m 9 [c6] = some z4 at k4
        change DataW.trod enc Tryz.prog w base sp held m 9 [c7] = some z5 at k5
        change DataW.trod enc Tryz.prog w base sp held m 3 [c8] = some z6 at k6
        obtain ⟨n0, e0, f0, g0⟩ := DataW.trod_int Tryz.underlying22 h0
        obtain ⟨n1, e1, f1, g1⟩ := DataW.trod_int Tryz.underlying3 h1
        obtain ⟨m0, i0, j0, l0⟩ := DataW.trod_int Tryz.underlying23 k0
        obtain ⟨m1, i1, j1, l1⟩ := DataW.trod_int Tryz.underlying3 k1
        obtain ⟨m2, i2, j2, l2⟩ := DataW.trod_int Tryz.underlying3 k2
        obtain ⟨m3, i3, j3⟩ := trodBool Tryz.underlying4 k3
        obtain ⟨m4, i4, j4, l4⟩ := DataW.trod_string Tryz.underlying9 k4
        obtain ⟨m5, i5, j5, l5⟩ := DataW.trod_string Tryz.underlying9 k5
        obtain ⟨m6, i6, j6, l6⟩ := DataW.trod_int Tryz.underlying3 k6
        simp only [List.cons.injEq, and_true] at e0 e1 i0 i1 i2 i3 i4 i5 i6
        subst e0 e1 i0 i1 i2 i3 i4 i5 i6
        subst f0 f1 j0 j1 j2 j3 j4 j5 j6
        simp only [Prod.mk.injEq] at hx
        subst hz
        exact ⟨n0, n1, m0, m1, m2, m3, m4, m5, m6, rfl, hx.1, hx.2, ⟨g0, g1, l0, l1, l2, l6, l4, l5⟩⟩
theorem shut27 {k0 a k p q : Int} {bk : Bool} {lb ky : ByteArray} {cd : Int} (ok : Ok27 k0 a k p q lb ky cd) : DataW.Trod enc Tryz.prog w base sp held 27 (.agg (R27 k0 a k p q bk lb ky cd)) (D27 k0 a k p q bk lb ky cd) [] := by
  have r : ∀ (t : TypeId) (n : Int) (m : Nat), Tryz.prog.underlying t = some (.int .i64) → (Lit.int .i64 n).wf = true → DataW.trod enc Tryz.prog w base sp held (m + 1) t [.int .i64 n] = some (.lit (.int .i64 n), []) := fun t n m ht hw => trod_int_mk m ht hw
  have rs : ∀ (s : ByteArray) (m : Nat), s.size ≤ maxLen → DataW.trod enc Tryz.prog w base sp held (m + 1) 9 [.string s] = some (.lit (.string s.data.toList), []) := fun s m hs => by simp [DataW.trod, Tryz.underlying9, hs]
  have rb : ∀ (b : Bool) (m : Nat), DataW.trod enc Tryz.prog w base sp held (m + 1) 4 [.bool b] = some (.lit (.bool b), []) := fun b m => by simp [DataW.trod, Tryz.underlying4]
  have a0 := r 23 k 0 Tryz.underlying23 ok.k
  have a1 := r 3 p 0 Tryz.underlying3 ok.p
  have a2 := r 3 q 0 Tryz.underlying3 ok.q
  have a3 := rb bk 0
  have a4 := rs lb 0 ok.lb
  have a5 := rs ky 0 ok.ky
  have a6 := r 3 cd 0 Tryz.underlying3 ok.cd
  have h25 := trod_struct_mk (enc := enc) (P := Tryz.prog) (w := w) (base := base) (spare := sp) (held := held) (n := 1) (cs := [.int .i64 k, .int .i64 p, .int .i64 q, .bool bk, .string lb, .string ky, .int .i64 cd])
    (xs := [(.lit (.int .i64 k), []), (.lit (.int .i64 p), []), (.lit (.int .i64 q), []), (.lit (.bool bk), []), (.lit (.string lb.data.toList), []), (.lit (.string ky.data.toList), []), (.lit (.int .i64 cd), [])]) Tryz.underlying25 (by rw [cells25]; rfl)
    (by simp only [List.mapM_cons, List.mapM_nil, cells23, cells3, cells4, cells9, List.drop_zero, List.drop_succ_cons, List.take_succ_cons, List.take_zero, a0, a1, a2, a3, a4, a5, a6]; rfl)
  have b0 := r 22 k0 1 Tryz.underlying22 ok.k0
  have b1 := r 3 a 1 Tryz.underlying3 ok.a
  have h27 := trod_struct_mk (enc := enc) (P := Tryz.prog) (w := w) (base := base) (spare := sp) (held := held) (n := 2) (cs := [.int .i64 k0, .int .i64 a, .int .i64 k, .int .i64 p, .int .i64 q, .bool bk, .string lb, .string ky, .int .i64 cd])
    (xs := [(.lit (.int .i64 k0), []), (.lit (.int .i64 a), []), (D25 k p q bk lb ky cd, [])]) Tryz.underlying27 (by rw [cells27]; rfl)
    (by simp only [List.mapM_cons, List.mapM_nil, cells22, cells3, cells25, List.drop_zero, List.drop_succ_cons, List.take_succ_cons, List.take_zero, b0, b1, h25]; rfl)
  exact ⟨3, h27⟩
end
end Go.Proofs.Wk
