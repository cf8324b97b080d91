/-
  RewriteTexts: rewrite.Text, kind by kind. Own text, written by a program of mine.
-/
import Derived.Test.YtmiepmpifjamoaaGreatDoorW14Step
set_option linter.all false
namespace Go.Proofs.Wk
open Go.RowKit
set_option maxRecDepth 100000
def joinB (k p q : Int) (bk : Bool) (lb ky : ByteArray) (cd : Int) : ByteArray := ⟨(Lib.join ((words k p q bk lb ky cd).map (fun x : ByteArray => x.data.toList)) [32]).toArray⟩
theorem trim_nl (l : List UInt8) : (ByteArray.mk (Lib.trimSuffix (ByteArray.mk (l ++ [10]).toArray).data.toList (ByteArray.mk #[10]).data.toList).toArray) = ByteArray.mk l.toArray := by
  have h : Lib.trimSuffix (l ++ [10]) [10] = l := by
    have hs : Lib.hasSuffix (l ++ [10]) [10] = true := by
      unfold Lib.hasSuffix
      rw [List.isSuffixOf_iff_suffix]
      exact ⟨l, rfl⟩
    unfold Lib.trimSuffix
    rw [if_pos hs]
    simp
  show (ByteArray.mk (Lib.trimSuffix (l ++ [10]) [10]).toArray) = _
  rw [h]
abbrev R27 (k0 a k p q : Int) (bk : Bool) (lb ky : ByteArray) (cd : Int) : Array Value := #[.int .i64 k0, .int .i64 a, .int .i64 k, .int .i64 p, .int .i64 q, .bool bk, .string lb, .string ky, .int .i64 cd]
abbrev V8 (k0 a k p q : Int) (bk : Bool) (lb ky : ByteArray) (cd : Int) (w : World) : World := (w.alloc (.cells (R27 k0 a k p q bk lb ky cd) 27)).alloc (.cells #[.string ⟨#[103, 105, 118, 101]⟩, .string ⟨#[115, 119, 97, 112]⟩, .string ⟨#[116, 117, 114, 110]⟩, .string ⟨#[102, 117, 115, 101]⟩, .string ⟨#[115, 112, 108, 105, 116]⟩] 67)
theorem sOf3 {V : World} {N M i j l : Nat} {x y z : Value} (hN : N < V.heap.size) (hM : M < V.heap.size) (c1 : V.cell? ⟨N, i, none⟩ = some x) (c2 : V.cell? ⟨N, j, none⟩ = some y) (c3 : V.cell? ⟨M, l, none⟩ = some z) {W : World} (h : Below V.heap.size V W) :
    W.cell? ⟨N, i, none⟩ = some x ∧ W.cell? ⟨N, j, none⟩ = some y ∧ W.cell? ⟨M, l, none⟩ = some z ∧ Below V.heap.size V W := ⟨((bcell h).1 N i hN).trans c1, ((bcell h).1 N j hN).trans c2, ((bcell h).1 M l hM).trans c3, h⟩
theorem belowX {w V W : World} (h : Below w.heap.size w V) (hb : Below V.heap.size V W) : Below w.heap.size w W := h.trans (hb.mono h.size)
theorem trimC (l : List UInt8) (hl : l.length ≤ 100000) (W : World) : Calls Tryz.prog 18 #[.string ⟨(l ++ [10]).toArray⟩, .string ⟨#[10]⟩] W fun e w' => e = .returned (.string ⟨l.toArray⟩) ∧ w' = W := by
  have hs : ∀ n : Nat, n ≤ 100001 → n ≤ 9223372036854775807 := fun n hn => by omega
  have h : (ByteArray.mk (l ++ [10]).toArray).size ≤ 9223372036854775807 := hs _ (by
    have e : (ByteArray.mk (l ++ [10]).toArray).size = l.length + 1 := by simp [ByteArray.size]
    rw [e]; omega)
  have ht := trim_nl l
  generalize (ByteArray.mk (l ++ [10]).toArray) = s at h ht ⊢
  generalize (ByteArray.mk #[10]) = p at ht ⊢
  refine (Tryz.strings_TrimSuffix s p W h).mono ?_
  rintro e w' ⟨h1, h2⟩
  rw [ht] at h1
  exact ⟨h1, h2⟩

set_option maxHeartbeats 2000000 in
theorem rtext0 (a k p q : Int) (bk : Bool) (lb ky : ByteArray) (cd : Int) (w : World) (ha : (itoaB a).size ≤ 21) (hJ : (joinB k p q bk lb ky cd).size ≤ 100000)
    (ra : R64 a) (hI : ∀ n W, R64 n → Below w.heap.size w W → Calls Tryz.prog 14 #[.int .i64 n] W fun e w' => e = .returned (.string (itoaB n)) ∧ Below W.heap.size W w')
    (hT : ∀ W, Below w.heap.size w W → Calls Tryz.prog 6 #[.slice (some ⟨W.heap.size, 0, none⟩) 1 1] (W.alloc (S25 k p q bk lb ky cd)) fun e w' => e = .returned (.string ⟨(Lib.join ((words k p q bk lb ky cd).map (fun x : ByteArray => x.data.toList)) [32] ++ [10]).toArray⟩) ∧ Below W.heap.size W w') :
    Calls Tryz.prog 8 #[.agg (R27 0 a k p q bk lb ky cd)] w fun e w' => e = .returned (.string (⟨#[103, 105, 118, 101]⟩ ++ ⟨#[32]⟩ ++ itoaB a ++ (⟨#[32]⟩ ++ joinB k p q bk lb ky cd))) ∧ Below w.heap.size w w' := by
  have HI := Lib.hid hI
  have HT := Lib.hid hT
  have HJ := Lib.hid hJ
  clear hI hT hJ
  go_enter Tryz.func8, Tryz.ntmps8
  go_upto_region 4 with (fail)
  go_cut [4] from 14 to 22 (fun s4 wx => s4 = .string (⟨#[103, 105, 118, 101]⟩ ++ ⟨#[32]⟩ ++ itoaB a) ∧ Below (V8 0 a k p q bk lb ky cd w).heap.size (V8 0 a k p q bk lb ky cd w) wx)
  case first =>
    have c1 : (V8 0 a k p q bk lb ky cd w).cell? ⟨w.heap.size, 0, none⟩ = some (.int .i64 0) := by go_simp
    have c2 : (V8 0 a k p q bk lb ky cd w).cell? ⟨w.heap.size, 1, none⟩ = some (.int .i64 a) := by go_simp
    have c3 : (V8 0 a k p q bk lb ky cd w).cell? ⟨w.heap.size + 1, 0, none⟩ = some (.string ⟨#[103, 105, 118, 101]⟩) := by go_simp
    have hB0 : Below (V8 0 a k p q bk lb ky cd w).heap.size (V8 0 a k p q bk lb ky cd w) (V8 0 a k p q bk lb ky cd w) := Below.refl _ _
    have hBw0 : Below w.heap.size w (V8 0 a k p q bk lb ky cd w) := below_alloc (below_alloc (Below.refl _ _) _) _
    have hlt : w.heap.size + 1 < (V8 0 a k p q bk lb ky cd w).heap.size := by simp
    change Code.wp _ _ _ _ (V8 0 a k p q bk lb ky cd w)
    generalize hV : V8 0 a k p q bk lb ky cd w = V5 at c1 c2 c3 hB0 hlt hBw0 ⊢
    generalize hN : w.heap.size = N at c1 c2 c3 hlt ⊢
    generalize hM : N + 1 = M at c3 hlt ⊢
    have hNM : N < V5.heap.size := by omega
    replace hV := Lib.hid hV
    replace hN := Lib.hid hN
    replace hM := Lib.hid hM
    replace hBw0 := Lib.hid hBw0
    have z1 : 5 + (itoaB a).size ≤ 9223372036854775807 := by omega
    have z2 : 4 + 1 + (itoaB a).size ≤ 9223372036854775807 := by omega
    have rr1 : ∀ w : World, (Op.stringOp .add ((⟨#[103, 105, 118, 101]⟩ : ByteArray) ++ (⟨#[32]⟩ : ByteArray)) (itoaB a)).run Tryz.prog w = .ok (.string ((⟨#[103, 105, 118, 101]⟩ : ByteArray) ++ (⟨#[32]⟩ : ByteArray) ++ itoaB a)) w := fun w => run_string_add_sum w _ _ (by rw [ByteArray.size_append]; show 4 + 1 + (itoaB a).size ≤ _; omega)
    have rr2 : ∀ w : World, (Op.stringOp .add (⟨#[103, 105, 118, 101, 32]⟩ : ByteArray) (itoaB a)).run Tryz.prog w = .ok (.string ((⟨#[103, 105, 118, 101, 32]⟩ : ByteArray) ++ itoaB a)) w := fun w => run_string_add_sum w _ _ (by show 5 + (itoaB a).size ≤ _; omega)
    clear ha
    go_region_held3 (fun w' => w'.cell? ⟨N, 0, none⟩ = some (.int .i64 0) ∧ w'.cell? ⟨N, 1, none⟩ = some (.int .i64 a) ∧ w'.cell? ⟨M, 0, none⟩ = some (.string ⟨#[103, 105, 118, 101]⟩) ∧ Below V5.heap.size V5 w')
      (((refine sOf3 hNM hlt c1 c2 c3 ?_); (first | exact hB0.drew | (go_split_ands; first | assumption | exact below_call (by assumption) hb | exact below_alloc (by assumption) _))))
      (first
        | (go_at_call 14; refine (HI.out _ _ ra (belowX hBw0.out ?_)).mono ?_; (first | exact hB0.drew | (go_split_ands; first | assumption | exact below_call (by assumption) hb)); rintro e w' ⟨rfl, hb⟩))
    all_goals
      have hBw := below_call hB0.drew hb
      go_wp2
      have hV' := hV.out
      have hN' := hN.out
      have hM' := hM.out
      subst hV' hN' hM'
      go_meet
      exact ⟨rfl, hBw⟩
  case rest =>
    obtain ⟨rfl, HB1⟩ := hcut
    obtain ⟨hc2, hf2⟩ := bcell HB1
    have e0 : wc.cell? ⟨w.heap.size, 0, none⟩ = some (.int .i64 0) := by rw [hc2 _ _ (by simp; omega)]; go_simp
    have e1 : wc.cell? ⟨w.heap.size, 2, none⟩ = some (.int .i64 k) := by rw [hc2 _ _ (by simp; omega)]; go_simp
    have e2 : wc.cell? ⟨w.heap.size, 3, none⟩ = some (.int .i64 p) := by rw [hc2 _ _ (by simp; omega)]; go_simp
    have e3 : wc.cell? ⟨w.heap.size, 4, none⟩ = some (.int .i64 q) := by rw [hc2 _ _ (by simp; omega)]; go_simp
    have e4 : wc.cell? ⟨w.heap.size, 5, none⟩ = some (.bool bk) := by rw [hc2 _ _ (by simp; omega)]; go_simp
    have e5 : wc.cell? ⟨w.heap.size, 6, none⟩ = some (.string lb) := by rw [hc2 _ _ (by simp; omega)]; go_simp
    have e6 : wc.cell? ⟨w.heap.size, 7, none⟩ = some (.string ky) := by rw [hc2 _ _ (by simp; omega)]; go_simp
    have e7 : wc.cell? ⟨w.heap.size, 8, none⟩ = some (.int .i64 cd) := by rw [hc2 _ _ (by simp; omega)]; go_simp
    have hBw : Below w.heap.size w wc := (below_alloc (below_alloc (Below.refl _ w) _) _).trans (HB1.mono (by simp; omega))
    have HBw := Lib.hid hBw
    clear HB1 hc2 hf2 HI hBw
    have hT := HT.out wc HBw.out
    have hJl : (Lib.join ((words k p q bk lb ky cd).map (fun x : ByteArray => x.data.toList)) [32]).length ≤ 100000 := by have := HJ.out; simpa [joinB, ByteArray.size] using this
    have htr : ∀ W, Calls Tryz.prog 18 _ W fun e w' => e = .returned (.string (joinB k p q bk lb ky cd)) ∧ w' = W := trimC _ hJl
    have z1 : 1 + (joinB k p q bk lb ky cd).size ≤ 9223372036854775807 := by have := HJ.out; omega
    have z2 : 5 + (itoaB a).size + (1 + (joinB k p q bk lb ky cd).size) ≤ 9223372036854775807 := by have := HJ.out; omega
    have z3 : 4 + 1 + (itoaB a).size + (1 + (joinB k p q bk lb ky cd).size) ≤ 9223372036854775807 := by have := HJ.out; omega
    clear ha hJl
    generalize hJJ : joinB k p q bk lb ky cd = J at htr z1 z2 z3 ⊢
    replace hJJ := Lib.hid hJJ
    go_wp2_with (first
      | (go_at_call 6; refine hT.mono ?_; rintro e W6 ⟨rfl, hb6⟩)
      | (go_at_call 18; refine (htr _).mono ?_; rintro e W7 ⟨rfl, rfl⟩))
    go_ret
    have hJ' := hJJ.out
    subst hJ'
    exact ⟨rfl, below_call HBw.out hb6⟩

set_option maxHeartbeats 2000000 in
theorem rtext1 (a k p q : Int) (bk : Bool) (lb ky : ByteArray) (cd : Int) (w : World) (ha : (itoaB a).size ≤ 21) (hJ : (joinB k p q bk lb ky cd).size ≤ 100000)
    (ra : R64 a) (hI : ∀ n W, R64 n → Below w.heap.size w W → Calls Tryz.prog 14 #[.int .i64 n] W fun e w' => e = .returned (.string (itoaB n)) ∧ Below W.heap.size W w')
    (hT : ∀ W, Below w.heap.size w W → Calls Tryz.prog 6 #[.slice (some ⟨W.heap.size, 0, none⟩) 1 1] (W.alloc (S25 k p q bk lb ky cd)) fun e w' => e = .returned (.string ⟨(Lib.join ((words k p q bk lb ky cd).map (fun x : ByteArray => x.data.toList)) [32] ++ [10]).toArray⟩) ∧ Below W.heap.size W w') :
    Calls Tryz.prog 8 #[.agg (R27 1 a k p q bk lb ky cd)] w fun e w' => e = .returned (.string (⟨#[115, 119, 97, 112]⟩ ++ ⟨#[32]⟩ ++ itoaB a)) ∧ Below w.heap.size w w' := by
  have HI := Lib.hid hI
  have HT := Lib.hid hT
  have HJ := Lib.hid hJ
  clear hI hT hJ
  go_enter Tryz.func8, Tryz.ntmps8
  go_upto_region 4 with (fail)
  go_cut [4] from 14 to 22 (fun s4 wx => s4 = .string (⟨#[115, 119, 97, 112]⟩ ++ ⟨#[32]⟩ ++ itoaB a) ∧ Below (V8 1 a k p q bk lb ky cd w).heap.size (V8 1 a k p q bk lb ky cd w) wx)
  case first =>
    have c1 : (V8 1 a k p q bk lb ky cd w).cell? ⟨w.heap.size, 0, none⟩ = some (.int .i64 1) := by go_simp
    have c2 : (V8 1 a k p q bk lb ky cd w).cell? ⟨w.heap.size, 1, none⟩ = some (.int .i64 a) := by go_simp
    have c3 : (V8 1 a k p q bk lb ky cd w).cell? ⟨w.heap.size + 1, 1, none⟩ = some (.string ⟨#[115, 119, 97, 112]⟩) := by go_simp
    have hB0 : Below (V8 1 a k p q bk lb ky cd w).heap.size (V8 1 a k p q bk lb ky cd w) (V8 1 a k p q bk lb ky cd w) := Below.refl _ _
    have hBw0 : Below w.heap.size w (V8 1 a k p q bk lb ky cd w) := below_alloc (below_alloc (Below.refl _ _) _) _
    have hlt : w.heap.size + 1 < (V8 1 a k p q bk lb ky cd w).heap.size := by simp
    change Code.wp _ _ _ _ (V8 1 a k p q bk lb ky cd w)
    generalize hV : V8 1 a k p q bk lb ky cd w = V5 at c1 c2 c3 hB0 hlt hBw0 ⊢
    generalize hN : w.heap.size = N at c1 c2 c3 hlt ⊢
    generalize hM : N + 1 = M at c3 hlt ⊢
    have hNM : N < V5.heap.size := by omega
    replace hV := Lib.hid hV
    replace hN := Lib.hid hN
    replace hM := Lib.hid hM
    replace hBw0 := Lib.hid hBw0
    have z1 : 5 + (itoaB a).size ≤ 9223372036854775807 := by omega
    have z2 : 4 + 1 + (itoaB a).size ≤ 9223372036854775807 := by omega
    have rr1 : ∀ w : World, (Op.stringOp .add ((⟨#[115, 119, 97, 112]⟩ : ByteArray) ++ (⟨#[32]⟩ : ByteArray)) (itoaB a)).run Tryz.prog w = .ok (.string ((⟨#[115, 119, 97, 112]⟩ : ByteArray) ++ (⟨#[32]⟩ : ByteArray) ++ itoaB a)) w := fun w => run_string_add_sum w _ _ (by rw [ByteArray.size_append]; show 4 + 1 + (itoaB a).size ≤ _; omega)
    have rr2 : ∀ w : World, (Op.stringOp .add (⟨#[115, 119, 97, 112, 32]⟩ : ByteArray) (itoaB a)).run Tryz.prog w = .ok (.string ((⟨#[115, 119, 97, 112, 32]⟩ : ByteArray) ++ itoaB a)) w := fun w => run_string_add_sum w _ _ (by show 5 + (itoaB a).size ≤ _; omega)
    clear ha
    go_region_held3 (fun w' => w'.cell? ⟨N, 0, none⟩ = some (.int .i64 1) ∧ w'.cell? ⟨N, 1, none⟩ = some (.int .i64 a) ∧ w'.cell? ⟨M, 1, none⟩ = some (.string ⟨#[115, 119, 97, 112]⟩) ∧ Below V5.heap.size V5 w')
      (((refine sOf3 hNM hlt c1 c2 c3 ?_); (first | exact hB0.drew | (go_split_ands; first | assumption | exact below_call (by assumption) hb | exact below_alloc (by assumption) _))))
      (first
        | (go_at_call 14; refine (HI.out _ _ ra (belowX hBw0.out ?_)).mono ?_; (first | exact hB0.drew | (go_split_ands; first | assumption | exact below_call (by assumption) hb)); rintro e w' ⟨rfl, hb⟩))
    all_goals
      have hBw := below_call hB0.drew hb
      go_wp2
      have hV' := hV.out
      have hN' := hN.out
      have hM' := hM.out
      subst hV' hN' hM'
      go_meet
      exact ⟨rfl, hBw⟩
  case rest =>
    obtain ⟨rfl, HB1⟩ := hcut
    obtain ⟨hc2, hf2⟩ := bcell HB1
    have e0 : wc.cell? ⟨w.heap.size, 0, none⟩ = some (.int .i64 1) := by rw [hc2 _ _ (by simp; omega)]; go_simp
    have hBw : Below w.heap.size w wc := (below_alloc (below_alloc (Below.refl _ w) _) _).trans (HB1.mono (by simp; omega))
    have HBw := Lib.hid hBw
    clear HB1 hc2 hf2 HI hBw
    go_wp2
    go_ret
    exact ⟨rfl, HBw.out⟩

set_option maxHeartbeats 2000000 in
theorem rtext2 (a k p q : Int) (bk : Bool) (lb ky : ByteArray) (cd : Int) (w : World) (ha : (itoaB a).size ≤ 21) (hJ : (joinB k p q bk lb ky cd).size ≤ 100000)
    (ra : R64 a) (hI : ∀ n W, R64 n → Below w.heap.size w W → Calls Tryz.prog 14 #[.int .i64 n] W fun e w' => e = .returned (.string (itoaB n)) ∧ Below W.heap.size W w')
    (hT : ∀ W, Below w.heap.size w W → Calls Tryz.prog 6 #[.slice (some ⟨W.heap.size, 0, none⟩) 1 1] (W.alloc (S25 k p q bk lb ky cd)) fun e w' => e = .returned (.string ⟨(Lib.join ((words k p q bk lb ky cd).map (fun x : ByteArray => x.data.toList)) [32] ++ [10]).toArray⟩) ∧ Below W.heap.size W w') :
    Calls Tryz.prog 8 #[.agg (R27 2 a k p q bk lb ky cd)] w fun e w' => e = .returned (.string (⟨#[116, 117, 114, 110]⟩ ++ ⟨#[32]⟩ ++ itoaB a)) ∧ Below w.heap.size w w' := by
  have HI := Lib.hid hI
  have HT := Lib.hid hT
  have HJ := Lib.hid hJ
  clear hI hT hJ
  go_enter Tryz.func8, Tryz.ntmps8
  go_upto_region 4 with (fail)
  go_cut [4] from 14 to 22 (fun s4 wx => s4 = .string (⟨#[116, 117, 114, 110]⟩ ++ ⟨#[32]⟩ ++ itoaB a) ∧ Below (V8 2 a k p q bk lb ky cd w).heap.size (V8 2 a k p q bk lb ky cd w) wx)
  case first =>
    have c1 : (V8 2 a k p q bk lb ky cd w).cell? ⟨w.heap.size, 0, none⟩ = some (.int .i64 2) := by go_simp
    have c2 : (V8 2 a k p q bk lb ky cd w).cell? ⟨w.heap.size, 1, none⟩ = some (.int .i64 a) := by go_simp
    have c3 : (V8 2 a k p q bk lb ky cd w).cell? ⟨w.heap.size + 1, 2, none⟩ = some (.string ⟨#[116, 117, 114, 110]⟩) := by go_simp
    have hB0 : Below (V8 2 a k p q bk lb ky cd w).heap.size (V8 2 a k p q bk lb ky cd w) (V8 2 a k p q bk lb ky cd w) := Below.refl _ _
    have hBw0 : Below w.heap.size w (V8 2 a k p q bk lb ky cd w) := below_alloc (below_alloc (Below.refl _ _) _) _
    have hlt : w.heap.size + 1 < (V8 2 a k p q bk lb ky cd w).heap.size := by simp
    change Code.wp _ _ _ _ (V8 2 a k p q bk lb ky cd w)
    generalize hV : V8 2 a k p q bk lb ky cd w = V5 at c1 c2 c3 hB0 hlt hBw0 ⊢
    generalize hN : w.heap.size = N at c1 c2 c3 hlt ⊢
    generalize hM : N + 1 = M at c3 hlt ⊢
    have hNM : N < V5.heap.size := by omega
    replace hV := Lib.hid hV
    replace hN := Lib.hid hN
    replace hM := Lib.hid hM
    replace hBw0 := Lib.hid hBw0
    have z1 : 5 + (itoaB a).size ≤ 9223372036854775807 := by omega
    have z2 : 4 + 1 + (itoaB a).size ≤ 9223372036854775807 := by omega
    have rr1 : ∀ w : World, (Op.stringOp .add ((⟨#[116, 117, 114, 110]⟩ : ByteArray) ++ (⟨#[32]⟩ : ByteArray)) (itoaB a)).run Tryz.prog w = .ok (.string ((⟨#[116, 117, 114, 110]⟩ : ByteArray) ++ (⟨#[32]⟩ : ByteArray) ++ itoaB a)) w := fun w => run_string_add_sum w _ _ (by rw [ByteArray.size_append]; show 4 + 1 + (itoaB a).size ≤ _; omega)
    have rr2 : ∀ w : World, (Op.stringOp .add (⟨#[116, 117, 114, 110, 32]⟩ : ByteArray) (itoaB a)).run Tryz.prog w = .ok (.string ((⟨#[116, 117, 114, 110, 32]⟩ : ByteArray) ++ itoaB a)) w := fun w => run_string_add_sum w _ _ (by show 5 + (itoaB a).size ≤ _; omega)
    clear ha
    go_region_held3 (fun w' => w'.cell? ⟨N, 0, none⟩ = some (.int .i64 2) ∧ w'.cell? ⟨N, 1, none⟩ = some (.int .i64 a) ∧ w'.cell? ⟨M, 2, none⟩ = some (.string ⟨#[116, 117, 114, 110]⟩) ∧ Below V5.heap.size V5 w')
      (((refine sOf3 hNM hlt c1 c2 c3 ?_); (first | exact hB0.drew | (go_split_ands; first | assumption | exact below_call (by assumption) hb | exact below_alloc (by assumption) _))))
      (first
        | (go_at_call 14; refine (HI.out _ _ ra (belowX hBw0.out ?_)).mono ?_; (first | exact hB0.drew | (go_split_ands; first | assumption | exact below_call (by assumption) hb)); rintro e w' ⟨rfl, hb⟩))
    all_goals
      have hBw := below_call hB0.drew hb
      go_wp2
      have hV' := hV.out
      have hN' := hN.out
      have hM' := hM.out
      subst hV' hN' hM'
      go_meet
      exact ⟨rfl, hBw⟩
  case rest =>
    obtain ⟨rfl, HB1⟩ := hcut
    obtain ⟨hc2, hf2⟩ := bcell HB1
    have e0 : wc.cell? ⟨w.heap.size, 0, none⟩ = some (.int .i64 2) := by rw [hc2 _ _ (by simp; omega)]; go_simp
    have hBw : Below w.heap.size w wc := (below_alloc (below_alloc (Below.refl _ w) _) _).trans (HB1.mono (by simp; omega))
    have HBw := Lib.hid hBw
    clear HB1 hc2 hf2 HI hBw
    go_wp2
    go_ret
    exact ⟨rfl, HBw.out⟩

set_option maxHeartbeats 2000000 in
theorem rtext3 (a k p q : Int) (bk : Bool) (lb ky : ByteArray) (cd : Int) (w : World) (ha : (itoaB a).size ≤ 21) (hJ : (joinB k p q bk lb ky cd).size ≤ 100000)
    (ra : R64 a) (hI : ∀ n W, R64 n → Below w.heap.size w W → Calls Tryz.prog 14 #[.int .i64 n] W fun e w' => e = .returned (.string (itoaB n)) ∧ Below W.heap.size W w')
    (hT : ∀ W, Below w.heap.size w W → Calls Tryz.prog 6 #[.slice (some ⟨W.heap.size, 0, none⟩) 1 1] (W.alloc (S25 k p q bk lb ky cd)) fun e w' => e = .returned (.string ⟨(Lib.join ((words k p q bk lb ky cd).map (fun x : ByteArray => x.data.toList)) [32] ++ [10]).toArray⟩) ∧ Below W.heap.size W w') :
    Calls Tryz.prog 8 #[.agg (R27 3 a k p q bk lb ky cd)] w fun e w' => e = .returned (.string (⟨#[102, 117, 115, 101]⟩ ++ ⟨#[32]⟩ ++ itoaB a)) ∧ Below w.heap.size w w' := by
  have HI := Lib.hid hI
  have HT := Lib.hid hT
  have HJ := Lib.hid hJ
  clear hI hT hJ
  go_enter Tryz.func8, Tryz.ntmps8
  go_upto_region 4 with (fail)
  go_cut [4] from 14 to 22 (fun s4 wx => s4 = .string (⟨#[102, 117, 115, 101]⟩ ++ ⟨#[32]⟩ ++ itoaB a) ∧ Below (V8 3 a k p q bk lb ky cd w).heap.size (V8 3 a k p q bk lb ky cd w) wx)
  case first =>
    have c1 : (V8 3 a k p q bk lb ky cd w).cell? ⟨w.heap.size, 0, none⟩ = some (.int .i64 3) := by go_simp
    have c2 : (V8 3 a k p q bk lb ky cd w).cell? ⟨w.heap.size, 1, none⟩ = some (.int .i64 a) := by go_simp
    have c3 : (V8 3 a k p q bk lb ky cd w).cell? ⟨w.heap.size + 1, 3, none⟩ = some (.string ⟨#[102, 117, 115, 101]⟩) := by go_simp
    have hB0 : Below (V8 3 a k p q bk lb ky cd w).heap.size (V8 3 a k p q bk lb ky cd w) (V8 3 a k p q bk lb ky cd w) := Below.refl _ _
    have hBw0 : Below w.heap.size w (V8 3 a k p q bk lb ky cd w) := below_alloc (below_alloc (Below.refl _ _) _) _
    have hlt : w.heap.size + 1 < (V8 3 a k p q bk lb ky cd w).heap.size := by simp
    change Code.wp _ _ _ _ (V8 3 a k p q bk lb ky cd w)
    generalize hV : V8 3 a k p q bk lb ky cd w = V5 at c1 c2 c3 hB0 hlt hBw0 ⊢
    generalize hN : w.heap.size = N at c1 c2 c3 hlt ⊢
    generalize hM : N + 1 = M at c3 hlt ⊢
    have hNM : N < V5.heap.size := by omega
    replace hV := Lib.hid hV
    replace hN := Lib.hid hN
    replace hM := Lib.hid hM
    replace hBw0 := Lib.hid hBw0
    have z1 : 5 + (itoaB a).size ≤ 9223372036854775807 := by omega
    have z2 : 4 + 1 + (itoaB a).size ≤ 9223372036854775807 := by omega
    have rr1 : ∀ w : World, (Op.stringOp .add ((⟨#[102, 117, 115, 101]⟩ : ByteArray) ++ (⟨#[32]⟩ : ByteArray)) (itoaB a)).run Tryz.prog w = .ok (.string ((⟨#[102, 117, 115, 101]⟩ : ByteArray) ++ (⟨#[32]⟩ : ByteArray) ++ itoaB a)) w := fun w => run_string_add_sum w _ _ (by rw [ByteArray.size_append]; show 4 + 1 + (itoaB a).size ≤ _; omega)
    have rr2 : ∀ w : World, (Op.stringOp .add (⟨#[102, 117, 115, 101, 32]⟩ : ByteArray) (itoaB a)).run Tryz.prog w = .ok (.string ((⟨#[102, 117, 115, 101, 32]⟩ : ByteArray) ++ itoaB a)) w := fun w => run_string_add_sum w _ _ (by show 5 + (itoaB a).size ≤ _; omega)
    clear ha
    go_region_held3 (fun w' => w'.cell? ⟨N, 0, none⟩ = some (.int .i64 3) ∧ w'.cell? ⟨N, 1, none⟩ = some (.int .i64 a) ∧ w'.cell? ⟨M, 3, none⟩ = some (.string ⟨#[102, 117, 115, 101]⟩) ∧ Below V5.heap.size V5 w')
      (((refine sOf3 hNM hlt c1 c2 c3 ?_); (first | exact hB0.drew | (go_split_ands; first | assumption | exact below_call (by assumption) hb | exact below_alloc (by assumption) _))))
      (first
        | (go_at_call 14; refine (HI.out _ _ ra (belowX hBw0.out ?_)).mono ?_; (first | exact hB0.drew | (go_split_ands; first | assumption | exact below_call (by assumption) hb)); rintro e w' ⟨rfl, hb⟩))
    all_goals
      have hBw := below_call hB0.drew hb
      go_wp2
      have hV' := hV.out
      have hN' := hN.out
      have hM' := hM.out
      subst hV' hN' hM'
      go_meet
      exact ⟨rfl, hBw⟩
  case rest =>
    obtain ⟨rfl, HB1⟩ := hcut
    obtain ⟨hc2, hf2⟩ := bcell HB1
    have e0 : wc.cell? ⟨w.heap.size, 0, none⟩ = some (.int .i64 3) := by rw [hc2 _ _ (by simp; omega)]; go_simp
    have hBw : Below w.heap.size w wc := (below_alloc (below_alloc (Below.refl _ w) _) _).trans (HB1.mono (by simp; omega))
    have HBw := Lib.hid hBw
    clear HB1 hc2 hf2 HI hBw
    go_wp2
    go_ret
    exact ⟨rfl, HBw.out⟩

set_option maxHeartbeats 2000000 in
theorem rtext4 (a k p q : Int) (bk : Bool) (lb ky : ByteArray) (cd : Int) (w : World) (ha : (itoaB a).size ≤ 21) (hJ : (joinB k p q bk lb ky cd).size ≤ 100000)
    (ra : R64 a) (hI : ∀ n W, R64 n → Below w.heap.size w W → Calls Tryz.prog 14 #[.int .i64 n] W fun e w' => e = .returned (.string (itoaB n)) ∧ Below W.heap.size W w')
    (hT : ∀ W, Below w.heap.size w W → Calls Tryz.prog 6 #[.slice (some ⟨W.heap.size, 0, none⟩) 1 1] (W.alloc (S25 k p q bk lb ky cd)) fun e w' => e = .returned (.string ⟨(Lib.join ((words k p q bk lb ky cd).map (fun x : ByteArray => x.data.toList)) [32] ++ [10]).toArray⟩) ∧ Below W.heap.size W w') :
    Calls Tryz.prog 8 #[.agg (R27 4 a k p q bk lb ky cd)] w fun e w' => e = .returned (.string (⟨#[115, 112, 108, 105, 116]⟩ ++ ⟨#[32]⟩ ++ itoaB a ++ (⟨#[32]⟩ ++ joinB k p q bk lb ky cd))) ∧ Below w.heap.size w w' := by
  have HI := Lib.hid hI
  have HT := Lib.hid hT
  have HJ := Lib.hid hJ
  clear hI hT hJ
  go_enter Tryz.func8, Tryz.ntmps8
  go_upto_region 4 with (fail)
  go_cut [4] from 14 to 22 (fun s4 wx => s4 = .string (⟨#[115, 112, 108, 105, 116]⟩ ++ ⟨#[32]⟩ ++ itoaB a) ∧ Below (V8 4 a k p q bk lb ky cd w).heap.size (V8 4 a k p q bk lb ky cd w) wx)
  case first =>
    have c1 : (V8 4 a k p q bk lb ky cd w).cell? ⟨w.heap.size, 0, none⟩ = some (.int .i64 4) := by go_simp
    have c2 : (V8 4 a k p q bk lb ky cd w).cell? ⟨w.heap.size, 1, none⟩ = some (.int .i64 a) := by go_simp
    have c3 : (V8 4 a k p q bk lb ky cd w).cell? ⟨w.heap.size + 1, 4, none⟩ = some (.string ⟨#[115, 112, 108, 105, 116]⟩) := by go_simp
    have hB0 : Below (V8 4 a k p q bk lb ky cd w).heap.size (V8 4 a k p q bk lb ky cd w) (V8 4 a k p q bk lb ky cd w) := Below.refl _ _
    have hBw0 : Below w.heap.size w (V8 4 a k p q bk lb ky cd w) := below_alloc (below_alloc (Below.refl _ _) _) _
    have hlt : w.heap.size + 1 < (V8 4 a k p q bk lb ky cd w).heap.size := by simp
    change Code.wp _ _ _ _ (V8 4 a k p q bk lb ky cd w)
    generalize hV : V8 4 a k p q bk lb ky cd w = V5 at c1 c2 c3 hB0 hlt hBw0 ⊢
    generalize hN : w.heap.size = N at c1 c2 c3 hlt ⊢
    generalize hM : N + 1 = M at c3 hlt ⊢
    have hNM : N < V5.heap.size := by omega
    replace hV := Lib.hid hV
    replace hN := Lib.hid hN
    replace hM := Lib.hid hM
    replace hBw0 := Lib.hid hBw0
    have z1 : 6 + (itoaB a).size ≤ 9223372036854775807 := by omega
    have z2 : 5 + 1 + (itoaB a).size ≤ 9223372036854775807 := by omega
    have rr1 : ∀ w : World, (Op.stringOp .add ((⟨#[115, 112, 108, 105, 116]⟩ : ByteArray) ++ (⟨#[32]⟩ : ByteArray)) (itoaB a)).run Tryz.prog w = .ok (.string ((⟨#[115, 112, 108, 105, 116]⟩ : ByteArray) ++ (⟨#[32]⟩ : ByteArray) ++ itoaB a)) w := fun w => run_string_add_sum w _ _ (by rw [ByteArray.size_append]; show 5 + 1 + (itoaB a).size ≤ _; omega)
    have rr2 : ∀ w : World, (Op.stringOp .add (⟨#[115, 112, 108, 105, 116, 32]⟩ : ByteArray) (itoaB a)).run Tryz.prog w = .ok (.string ((⟨#[115, 112, 108, 105, 116, 32]⟩ : ByteArray) ++ itoaB a)) w := fun w => run_string_add_sum w _ _ (by show 6 + (itoaB a).size ≤ _; omega)
    clear ha
    go_region_held3 (fun w' => w'.cell? ⟨N, 0, none⟩ = some (.int .i64 4) ∧ w'.cell? ⟨N, 1, none⟩ = some (.int .i64 a) ∧ w'.cell? ⟨M, 4, none⟩ = some (.string ⟨#[115, 112, 108, 105, 116]⟩) ∧ Below V5.heap.size V5 w')
      (((refine sOf3 hNM hlt c1 c2 c3 ?_); (first | exact hB0.drew | (go_split_ands; first | assumption | exact below_call (by assumption) hb | exact below_alloc (by assumption) _))))
      (first
        | (go_at_call 14; refine (HI.out _ _ ra (belowX hBw0.out ?_)).mono ?_; (first | exact hB0.drew | (go_split_ands; first | assumption | exact below_call (by assumption) hb)); rintro e w' ⟨rfl, hb⟩))
    all_goals
      have hBw := below_call hB0.drew hb
      go_wp2
      have hV' := hV.out
      have hN' := hN.out
      have hM' := hM.out
      subst hV' hN' hM'
      go_meet
      exact ⟨rfl, hBw⟩
  case rest =>
    obtain ⟨rfl, HB1⟩ := hcut
    obtain ⟨hc2, hf2⟩ := bcell HB1
    have e0 : wc.cell? ⟨w.heap.size, 0, none⟩ = some (.int .i64 4) := by rw [hc2 _ _ (by simp; omega)]; go_simp
    have e1 : wc.cell? ⟨w.heap.size, 2, none⟩ = some (.int .i64 k) := by rw [hc2 _ _ (by simp; omega)]; go_simp
    have e2 : wc.cell? ⟨w.heap.size, 3, none⟩ = some (.int .i64 p) := by rw [hc2 _ _ (by simp; omega)]; go_simp
    have e3 : wc.cell? ⟨w.heap.size, 4, none⟩ = some (.int .i64 q) := by rw [hc2 _ _ (by simp; omega)]; go_simp
    have e4 : wc.cell? ⟨w.heap.size, 5, none⟩ = some (.bool bk) := by rw [hc2 _ _ (by simp; omega)]; go_simp
    have e5 : wc.cell? ⟨w.heap.size, 6, none⟩ = some (.string lb) := by rw [hc2 _ _ (by simp; omega)]; go_simp
    have e6 : wc.cell? ⟨w.heap.size, 7, none⟩ = some (.string ky) := by rw [hc2 _ _ (by simp; omega)]; go_simp
    have e7 : wc.cell? ⟨w.heap.size, 8, none⟩ = some (.int .i64 cd) := by rw [hc2 _ _ (by simp; omega)]; go_simp
    have hBw : Below w.heap.size w wc := (below_alloc (below_alloc (Below.refl _ w) _) _).trans (HB1.mono (by simp; omega))
    have HBw := Lib.hid hBw
    clear HB1 hc2 hf2 HI hBw
    have hT := HT.out wc HBw.out
    have hJl : (Lib.join ((words k p q bk lb ky cd).map (fun x : ByteArray => x.data.toList)) [32]).length ≤ 100000 := by have := HJ.out; simpa [joinB, ByteArray.size] using this
    have htr : ∀ W, Calls Tryz.prog 18 _ W fun e w' => e = .returned (.string (joinB k p q bk lb ky cd)) ∧ w' = W := trimC _ hJl
    have z1 : 1 + (joinB k p q bk lb ky cd).size ≤ 9223372036854775807 := by have := HJ.out; omega
    have z2 : 6 + (itoaB a).size + (1 + (joinB k p q bk lb ky cd).size) ≤ 9223372036854775807 := by have := HJ.out; omega
    have z3 : 5 + 1 + (itoaB a).size + (1 + (joinB k p q bk lb ky cd).size) ≤ 9223372036854775807 := by have := HJ.out; omega
    clear ha hJl
    generalize hJJ : joinB k p q bk lb ky cd = J at htr z1 z2 z3 ⊢
    replace hJJ := Lib.hid hJJ
    go_wp2_with (first
      | (go_at_call 6; refine hT.mono ?_; rintro e W6 ⟨rfl, hb6⟩)
      | (go_at_call 18; refine (htr _).mono ?_; rintro e W7 ⟨rfl, rfl⟩))
    go_ret
    have hJ' := hJJ.out
    subst hJ'
    exact ⟨rfl, below_call HBw.out hb6⟩
end Go.Proofs.Wk
