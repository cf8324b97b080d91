/-
  RewriteTexts: the statement's function, kind by kind. Own text, written by a program of mine.
-/
import Derived.Test.YtmiepmpifjamoaaGreatDoorW14Rtext
set_option linter.all false
namespace Go.Proofs.Wk
open Go.RowKit
set_option maxRecDepth 100000
theorem rtextN (k0 a k p q : Int) (bk : Bool) (lb ky : ByteArray) (cd : Int) (w : World) (h : k0 < 0) : Calls Tryz.prog 8 #[.agg (R27 k0 a k p q bk lb ky cd)] w fun e w' => e = .returned (.string ⟨#[]⟩) ∧ Below w.heap.size w w' := by
  go_enter Tryz.func8, Tryz.ntmps8
  go_wp2
  all_goals go_ret
  all_goals exact ⟨rfl, below_alloc (below_alloc (Below.refl _ w) _) _⟩
theorem rtextG (k0 a k p q : Int) (bk : Bool) (lb ky : ByteArray) (cd : Int) (w : World) (h0 : ¬ k0 < 0) (h : 4 < k0) : Calls Tryz.prog 8 #[.agg (R27 k0 a k p q bk lb ky cd)] w fun e w' => e = .returned (.string ⟨#[]⟩) ∧ Below w.heap.size w w' := by
  go_enter Tryz.func8, Tryz.ntmps8
  go_wp2
  all_goals go_ret
  all_goals exact ⟨rfl, below_alloc (below_alloc (Below.refl _ w) _) _⟩
abbrev V3 (k0 a k p q : Int) (bk : Bool) (lb ky : ByteArray) (cd : Int) (w : World) : World := (w.alloc (.cells (R27 k0 a k p q bk lb ky cd) 27)).alloc (.cells #[.string ⟨#[103, 105, 118, 101]⟩, .string ⟨#[115, 119, 97, 112]⟩, .string ⟨#[116, 117, 114, 110]⟩, .string ⟨#[102, 117, 115, 101]⟩, .string ⟨#[115, 112, 108, 105, 116]⟩] 9)
theorem numB {w : World} (hI : ∀ n W, R64 n → Below w.heap.size w W → Calls Tryz.prog 14 #[.int .i64 n] W fun e w' => e = .returned (.string (itoaB n)) ∧ Below W.heap.size W w') (n : Int) (rn : R64 n) {W : World} (h : Below w.heap.size w W) :
    Calls Tryz.prog 5 #[.int .i64 n] W fun e w' => e = .returned (.string (itoaB n)) ∧ Below W.heap.size W w' := number_any n rn W fun n' W' r h' => hI n' W' r (belowX h h')
theorem textJ {k p q : Int} {bk : Bool} {lb ky : ByteArray} {cd : Int} {w : World}
    (hT : ∀ W, Below w.heap.size w W → Calls Tryz.prog 6 #[.slice (some ⟨W.heap.size, 0, none⟩) 1 1] (W.alloc (S25 k p q bk lb ky cd)) fun e w' => e = .returned (.string ⟨(Lib.join ((words k p q bk lb ky cd).map (fun x : ByteArray => x.data.toList)) [32] ++ [10]).toArray⟩) ∧ Below W.heap.size W w') :
    ∀ W, Below w.heap.size w W → Calls Tryz.prog 6 #[.slice (some ⟨W.heap.size, 0, none⟩) 1 1] (W.alloc (S25 k p q bk lb ky cd)) fun e w' => e = .returned (.string (joinB k p q bk lb ky cd ++ ⟨#[10]⟩)) ∧ Below W.heap.size W w' := fun W h => (hT W h).mono fun e w' ⟨h1, h2⟩ => by
  refine ⟨h1.trans ?_, h2⟩
  have e : ByteArray.mk (Lib.join ((words k p q bk lb ky cd).map (fun x : ByteArray => x.data.toList)) [32] ++ [10]).toArray = joinB k p q bk lb ky cd ++ ⟨#[10]⟩ := by
    apply ByteArray.ext
    simp [joinB]
  rw [e]
theorem stepJ {k p q : Int} {bk : Bool} {lb ky : ByteArray} {cd : Int} {w : World} (hI : ∀ n W, R64 n → Below w.heap.size w W → Calls Tryz.prog 14 #[.int .i64 n] W fun e w' => e = .returned (.string (itoaB n)) ∧ Below W.heap.size W w')
    (rp : R64 p) (rq : R64 q) (hp : (itoaB p).size ≤ 21) (hq : (itoaB q).size ≤ 21) (hn : lb.size + ky.size ≤ 1000) (hJ2 : (0 ≤ k ∧ k ≤ 3) → stepB k p q lb ky = joinB k p q bk lb ky cd) :
    ∀ W, Below w.heap.size w W → 0 ≤ k → k ≤ 3 → Calls Tryz.prog 7 #[.agg #[.int .i64 k, .int .i64 p, .int .i64 q, .bool bk, .string lb, .string ky, .int .i64 cd]] W fun e w' => e = .returned (.string (joinB k p q bk lb ky cd)) ∧ Below W.heap.size W w' := fun W h h0 h3 => by
  rw [← hJ2 ⟨h0, h3⟩]
  exact step_any k p q bk lb ky cd W hp hq hn rp rq fun n W' r h' => numB hI n r (belowX (below_alloc h _) h')
theorem keep9 {W W' : World} {N o : Nat} {v : Value} (hN : N < W.heap.size) (hb : Below W.heap.size W W') (h : W.cell? ⟨N, o, none⟩ = some v) : W'.cell? ⟨N, o, none⟩ = some v := ((bcell hb).1 N o hN).trans h
theorem assocB (A B C : ByteArray) : A ++ (B ++ C) = A ++ B ++ C := by apply ByteArray.ext; simp
theorem nlNe (J : ByteArray) : ¬ (J ++ ByteArray.mk #[10]).toList = [] := by
  intro h
  rw [toList_nil_iff_emptyBytes] at h
  have h2 := congrArg ByteArray.size h
  rw [ByteArray.size_append] at h2
  have h3 : (ByteArray.mk #[10]).size = 1 := rfl
  have h4 : ByteArray.empty.size = 0 := rfl
  omega
theorem nlLast (J : ByteArray) (h : J.size < (J ++ ByteArray.mk #[10]).size) : (J ++ ByteArray.mk #[10])[J.size]'h = (10 : UInt8) := by
  rw [ByteArray.getElem_append_right (Nat.le_refl _)]
  simp only [Nat.sub_self]
  rfl
theorem nlCut (J : ByteArray) : (J ++ ByteArray.mk #[10]).extract 0 J.size = J := by
  apply ByteArray.ext
  simp [ByteArray.data_extract]

set_option maxHeartbeats 4000000 in
theorem law0 (a k p q : Int) (bk : Bool) (lb ky : ByteArray) (cd : Int) (w : World) (hn : lb.size + ky.size ≤ 1000) (ha : (itoaB a).size ≤ 21) (hp : (itoaB p).size ≤ 21) (hq : (itoaB q).size ≤ 21) (hJ : (joinB k p q bk lb ky cd).size ≤ 100000) (hJ2 : (0 ≤ k ∧ k ≤ 3) → stepB k p q lb ky = joinB k p q bk lb ky cd)
    (ra : R64 a) (rp : R64 p) (rq : R64 q) (hI : ∀ n W, R64 n → Below w.heap.size w W → Calls Tryz.prog 14 #[.int .i64 n] W fun e w' => e = .returned (.string (itoaB n)) ∧ Below W.heap.size W w')
    (hT : ∀ W, Below w.heap.size w W → Calls Tryz.prog 6 #[.slice (some ⟨W.heap.size, 0, none⟩) 1 1] (W.alloc (S25 k p q bk lb ky cd)) fun e w' => e = .returned (.string ⟨(Lib.join ((words k p q bk lb ky cd).map (fun x : ByteArray => x.data.toList)) [32] ++ [10]).toArray⟩) ∧ Below W.heap.size W w')
    (hK : ∀ W, Below w.heap.size w W → Calls Tryz.prog 4 #[] W fun e w' => e = .returned (.bool true) ∧ Below W.heap.size W w') :
    Calls Tryz.prog 3 #[.agg (R27 0 a k p q bk lb ky cd)] w fun e w' => e = .returned (.bool true) ∧ Below w.heap.size w w' := by
  have HI := Lib.hid hI
  have HT := Lib.hid hT
  have HK := Lib.hid hK
  have HJ := Lib.hid hJ
  have HJ2 := Lib.hid hJ2
  have HN := Lib.hid hn
  have HA := Lib.hid ha
  have HP := Lib.hid (And.intro hp hq)
  clear hI hT hK hJ hJ2 ha hp hq
  go_enter Tryz.func3, Tryz.ntmps3
  go_upto_region 6 with (fail)
  rename (lb.size : Int) + (ky.size : Int) ≤ 1000 => hsum
  clear hsum hn
  go_cut [3] from 26 to 35 (fun s3 wx => s3 = .string (⟨#[103, 105, 118, 101]⟩ ++ ⟨#[32]⟩ ++ itoaB a) ∧ Below (V3 0 a k p q bk lb ky cd w).heap.size (V3 0 a k p q bk lb ky cd w) wx)
  case first =>
    have c1 : (V3 0 a k p q bk lb ky cd w).cell? ⟨w.heap.size, 0, none⟩ = some (.int .i64 0) := by go_simp
    have c2 : (V3 0 a k p q bk lb ky cd w).cell? ⟨w.heap.size, 1, none⟩ = some (.int .i64 a) := by go_simp
    have c3 : (V3 0 a k p q bk lb ky cd w).cell? ⟨w.heap.size + 1, 0, none⟩ = some (.string ⟨#[103, 105, 118, 101]⟩) := by go_simp
    have hB0 : Below (V3 0 a k p q bk lb ky cd w).heap.size (V3 0 a k p q bk lb ky cd w) (V3 0 a k p q bk lb ky cd w) := Below.refl _ _
    have hBw0 : Below w.heap.size w (V3 0 a k p q bk lb ky cd w) := below_alloc (below_alloc (Below.refl _ _) _) _
    have hlt : w.heap.size + 1 < (V3 0 a k p q bk lb ky cd w).heap.size := by simp
    change Code.wp _ _ _ _ (V3 0 a k p q bk lb ky cd w)
    generalize hV : V3 0 a k p q bk lb ky cd w = V5 at c1 c2 c3 hB0 hlt hBw0 ⊢
    generalize hN : w.heap.size = N at c1 c2 c3 hlt ⊢
    generalize hM : N + 1 = M at c3 hlt ⊢
    have hNM : N < V5.heap.size := by omega
    replace hV := Lib.hid hV
    replace hN := Lib.hid hN
    replace hM := Lib.hid hM
    replace hBw0 := Lib.hid hBw0
    have z1 : 5 + (itoaB a).size ≤ 9223372036854775807 := by have := HA.out; omega
    have z2 : 4 + 1 + (itoaB a).size ≤ 9223372036854775807 := by have := HA.out; omega
    have rr1 : ∀ w : World, (Op.stringOp .add ((⟨#[103, 105, 118, 101]⟩ : ByteArray) ++ (⟨#[32]⟩ : ByteArray)) (itoaB a)).run Tryz.prog w = .ok (.string ((⟨#[103, 105, 118, 101]⟩ : ByteArray) ++ (⟨#[32]⟩ : ByteArray) ++ itoaB a)) w := fun w => run_string_add_sum w _ _ (by rw [ByteArray.size_append]; show 4 + 1 + (itoaB a).size ≤ _; omega)
    have rr2 : ∀ w : World, (Op.stringOp .add (⟨#[103, 105, 118, 101, 32]⟩ : ByteArray) (itoaB a)).run Tryz.prog w = .ok (.string ((⟨#[103, 105, 118, 101, 32]⟩ : ByteArray) ++ itoaB a)) w := fun w => run_string_add_sum w _ _ (by show 5 + (itoaB a).size ≤ _; omega)
    go_region_held3 (fun w' => w'.cell? ⟨N, 0, none⟩ = some (.int .i64 0) ∧ w'.cell? ⟨N, 1, none⟩ = some (.int .i64 a) ∧ w'.cell? ⟨M, 0, none⟩ = some (.string ⟨#[103, 105, 118, 101]⟩) ∧ Below V5.heap.size V5 w')
      (((refine sOf3 hNM hlt c1 c2 c3 ?_); (first | exact hB0.drew | (go_split_ands; first | assumption | exact below_call (by assumption) hb | exact below_alloc (by assumption) _))))
      (first
        | (go_at_call 5; refine (numB HI.out _ ra (belowX hBw0.out ?_)).mono ?_; (first | exact hB0.drew | (go_split_ands; first | assumption | exact below_call (by assumption) hb)); rintro e w' ⟨rfl, hb⟩))
    all_goals
      have hBw := below_call hB0.drew hb
      go_wp2
      have hV' := hV.out
      have hN' := hN.out
      have hM' := hM.out
      subst hV' hN' hM'
      go_meet
      exact ⟨rfl, hBw⟩
  case rest =>
    obtain ⟨rfl, HB1⟩ := hcut
    obtain ⟨hc2, hf2⟩ := bcell HB1
    have e0 : wc.cell? ⟨w.heap.size, 0, none⟩ = some (.int .i64 0) := by rw [hc2 _ _ (by simp; omega)]; go_simp
    have ea : wc.cell? ⟨w.heap.size, 1, none⟩ = some (.int .i64 a) := by rw [hc2 _ _ (by simp; omega)]; go_simp
    have e1 : wc.cell? ⟨w.heap.size, 2, none⟩ = some (.int .i64 k) := by rw [hc2 _ _ (by simp; omega)]; go_simp
    have e2 : wc.cell? ⟨w.heap.size, 3, none⟩ = some (.int .i64 p) := by rw [hc2 _ _ (by simp; omega)]; go_simp
    have e3 : wc.cell? ⟨w.heap.size, 4, none⟩ = some (.int .i64 q) := by rw [hc2 _ _ (by simp; omega)]; go_simp
    have e4 : wc.cell? ⟨w.heap.size, 5, none⟩ = some (.bool bk) := by rw [hc2 _ _ (by simp; omega)]; go_simp
    have e5 : wc.cell? ⟨w.heap.size, 6, none⟩ = some (.string lb) := by rw [hc2 _ _ (by simp; omega)]; go_simp
    have e6 : wc.cell? ⟨w.heap.size, 7, none⟩ = some (.string ky) := by rw [hc2 _ _ (by simp; omega)]; go_simp
    have e7 : wc.cell? ⟨w.heap.size, 8, none⟩ = some (.int .i64 cd) := by rw [hc2 _ _ (by simp; omega)]; go_simp
    have hBw : Below w.heap.size w wc := (below_alloc (below_alloc (Below.refl _ w) _) _).trans (HB1.mono (by simp; omega))
    have HBw := Lib.hid hBw
    have hNs : w.heap.size < wc.heap.size := by have := HB1.size; simp at this; omega
    clear HB1 hc2 hf2 hBw
    have hT := textJ HT.out
    have hS := stepJ HI.out rp rq HP.out.1 HP.out.2 HN.out HJ2.out
    have hR := fun W (h : Below w.heap.size w W) => rtext0 a k p q bk lb ky cd W HA.out HJ.out ra (fun n W' r h' => HI.out n W' r (belowX h h')) (fun W' h' => HT.out W' (belowX h h'))
    have hJs := HJ.out
    generalize hJJ : joinB k p q bk lb ky cd = J at hT hS hR hJs
    replace hJJ := Lib.hid hJJ
    simp only [assocB] at hR
    have q1 : J.size ≤ 9223372036854775806 := by omega
    have q2 : ¬ (J ++ ByteArray.mk #[10]).toList = [] := nlNe J
    have q2b : (J ++ ByteArray.mk #[10]).toList.isEmpty = false := by simpa using q2
    have q3 : ∀ h, (J ++ ByteArray.mk #[10])[J.size]'h = (10 : UInt8) := nlLast J
    have q4 : (J ++ ByteArray.mk #[10]).extract 0 J.size = J := nlCut J
    have q5 : 5 + (itoaB a).size ≤ 9223372036854775806 := by have := HA.out; omega
    have q6 : 5 + (itoaB a).size + 1 + J.size ≤ 9223372036854775807 := by have := HA.out; omega
    have HT2 := Lib.hid hT
    have HS := Lib.hid hS
    have HR := Lib.hid hR
    have HJs := Lib.hid hJs
    clear hT hS hR hJs HT HJ HJ2 HI
    go_wp2_with (first
      | (go_at_call 6; refine (HT2.out _ HBw.out).mono ?_; rintro e W6 ⟨rfl, hb6⟩; have hN6 : w.heap.size < W6.heap.size := Nat.lt_of_lt_of_le hNs hb6.size; have ge0 := keep9 hNs hb6 e0; have gea := keep9 hNs hb6 ea; have ge1 := keep9 hNs hb6 e1; have ge2 := keep9 hNs hb6 e2; have ge3 := keep9 hNs hb6 e3; have ge4 := keep9 hNs hb6 e4; have ge5 := keep9 hNs hb6 e5; have ge6 := keep9 hNs hb6 e6; have ge7 := keep9 hNs hb6 e7)
      | (go_at_call 7; refine (HS.out _ (below_call HBw.out hb6) ?_ ?_).mono ?_; omega; omega; rintro e W8 ⟨rfl, hb8⟩; have fe0 := keep9 hN6 hb8 ge0; have fea := keep9 hN6 hb8 gea; have fe1 := keep9 hN6 hb8 ge1; have fe2 := keep9 hN6 hb8 ge2; have fe3 := keep9 hN6 hb8 ge3; have fe4 := keep9 hN6 hb8 ge4; have fe5 := keep9 hN6 hb8 ge5; have fe6 := keep9 hN6 hb8 ge6; have fe7 := keep9 hN6 hb8 ge7)
      | (go_at_call 8; refine (HR.out _ ?_).mono ?_; (first | exact below_call (below_call HBw.out hb6) hb8 | exact below_call HBw.out hb6); rintro e W9 ⟨rfl, hb9⟩)
      | (go_at_call 4; refine (HK.out _ ?_).mono ?_; (first | exact below_call (below_call (below_call HBw.out hb6) hb8) hb9 | exact below_call (below_call HBw.out hb6) hb9); rintro e W10 ⟨rfl, hb10⟩))
    all_goals go_ret
    · exact ⟨rfl, below_call (below_call (below_call (below_call HBw.out hb6) hb8) hb9) hb10⟩
    · exact ⟨rfl, below_call (below_call (below_call HBw.out hb6) hb9) hb10⟩
    · exact ⟨rfl, below_call (below_call (below_call HBw.out hb6) hb9) hb10⟩

set_option maxHeartbeats 4000000 in
theorem law1 (a k p q : Int) (bk : Bool) (lb ky : ByteArray) (cd : Int) (w : World) (hn : lb.size + ky.size ≤ 1000) (ha : (itoaB a).size ≤ 21) (hp : (itoaB p).size ≤ 21) (hq : (itoaB q).size ≤ 21) (hJ : (joinB k p q bk lb ky cd).size ≤ 100000) (hJ2 : (0 ≤ k ∧ k ≤ 3) → stepB k p q lb ky = joinB k p q bk lb ky cd)
    (ra : R64 a) (rp : R64 p) (rq : R64 q) (hI : ∀ n W, R64 n → Below w.heap.size w W → Calls Tryz.prog 14 #[.int .i64 n] W fun e w' => e = .returned (.string (itoaB n)) ∧ Below W.heap.size W w')
    (hT : ∀ W, Below w.heap.size w W → Calls Tryz.prog 6 #[.slice (some ⟨W.heap.size, 0, none⟩) 1 1] (W.alloc (S25 k p q bk lb ky cd)) fun e w' => e = .returned (.string ⟨(Lib.join ((words k p q bk lb ky cd).map (fun x : ByteArray => x.data.toList)) [32] ++ [10]).toArray⟩) ∧ Below W.heap.size W w')
    (hK : ∀ W, Below w.heap.size w W → Calls Tryz.prog 4 #[] W fun e w' => e = .returned (.bool true) ∧ Below W.heap.size W w') :
    Calls Tryz.prog 3 #[.agg (R27 1 a k p q bk lb ky cd)] w fun e w' => e = .returned (.bool true) ∧ Below w.heap.size w w' := by
  have HI := Lib.hid hI
  have HT := Lib.hid hT
  have HK := Lib.hid hK
  have HJ := Lib.hid hJ
  have HJ2 := Lib.hid hJ2
  have HN := Lib.hid hn
  have HA := Lib.hid ha
  have HP := Lib.hid (And.intro hp hq)
  clear hI hT hK hJ hJ2 ha hp hq
  go_enter Tryz.func3, Tryz.ntmps3
  go_upto_region 6 with (fail)
  rename (lb.size : Int) + (ky.size : Int) ≤ 1000 => hsum
  clear hsum hn
  go_cut [3] from 26 to 35 (fun s3 wx => s3 = .string (⟨#[115, 119, 97, 112]⟩ ++ ⟨#[32]⟩ ++ itoaB a) ∧ Below (V3 1 a k p q bk lb ky cd w).heap.size (V3 1 a k p q bk lb ky cd w) wx)
  case first =>
    have c1 : (V3 1 a k p q bk lb ky cd w).cell? ⟨w.heap.size, 0, none⟩ = some (.int .i64 1) := by go_simp
    have c2 : (V3 1 a k p q bk lb ky cd w).cell? ⟨w.heap.size, 1, none⟩ = some (.int .i64 a) := by go_simp
    have c3 : (V3 1 a k p q bk lb ky cd w).cell? ⟨w.heap.size + 1, 1, none⟩ = some (.string ⟨#[115, 119, 97, 112]⟩) := by go_simp
    have hB0 : Below (V3 1 a k p q bk lb ky cd w).heap.size (V3 1 a k p q bk lb ky cd w) (V3 1 a k p q bk lb ky cd w) := Below.refl _ _
    have hBw0 : Below w.heap.size w (V3 1 a k p q bk lb ky cd w) := below_alloc (below_alloc (Below.refl _ _) _) _
    have hlt : w.heap.size + 1 < (V3 1 a k p q bk lb ky cd w).heap.size := by simp
    change Code.wp _ _ _ _ (V3 1 a k p q bk lb ky cd w)
    generalize hV : V3 1 a k p q bk lb ky cd w = V5 at c1 c2 c3 hB0 hlt hBw0 ⊢
    generalize hN : w.heap.size = N at c1 c2 c3 hlt ⊢
    generalize hM : N + 1 = M at c3 hlt ⊢
    have hNM : N < V5.heap.size := by omega
    replace hV := Lib.hid hV
    replace hN := Lib.hid hN
    replace hM := Lib.hid hM
    replace hBw0 := Lib.hid hBw0
    have z1 : 5 + (itoaB a).size ≤ 9223372036854775807 := by have := HA.out; omega
    have z2 : 4 + 1 + (itoaB a).size ≤ 9223372036854775807 := by have := HA.out; omega
    have rr1 : ∀ w : World, (Op.stringOp .add ((⟨#[115, 119, 97, 112]⟩ : ByteArray) ++ (⟨#[32]⟩ : ByteArray)) (itoaB a)).run Tryz.prog w = .ok (.string ((⟨#[115, 119, 97, 112]⟩ : ByteArray) ++ (⟨#[32]⟩ : ByteArray) ++ itoaB a)) w := fun w => run_string_add_sum w _ _ (by rw [ByteArray.size_append]; show 4 + 1 + (itoaB a).size ≤ _; omega)
    have rr2 : ∀ w : World, (Op.stringOp .add (⟨#[115, 119, 97, 112, 32]⟩ : ByteArray) (itoaB a)).run Tryz.prog w = .ok (.string ((⟨#[115, 119, 97, 112, 32]⟩ : ByteArray) ++ itoaB a)) w := fun w => run_string_add_sum w _ _ (by show 5 + (itoaB a).size ≤ _; omega)
    go_region_held3 (fun w' => w'.cell? ⟨N, 0, none⟩ = some (.int .i64 1) ∧ w'.cell? ⟨N, 1, none⟩ = some (.int .i64 a) ∧ w'.cell? ⟨M, 1, none⟩ = some (.string ⟨#[115, 119, 97, 112]⟩) ∧ Below V5.heap.size V5 w')
      (((refine sOf3 hNM hlt c1 c2 c3 ?_); (first | exact hB0.drew | (go_split_ands; first | assumption | exact below_call (by assumption) hb | exact below_alloc (by assumption) _))))
      (first
        | (go_at_call 5; refine (numB HI.out _ ra (belowX hBw0.out ?_)).mono ?_; (first | exact hB0.drew | (go_split_ands; first | assumption | exact below_call (by assumption) hb)); rintro e w' ⟨rfl, hb⟩))
    all_goals
      have hBw := below_call hB0.drew hb
      go_wp2
      have hV' := hV.out
      have hN' := hN.out
      have hM' := hM.out
      subst hV' hN' hM'
      go_meet
      exact ⟨rfl, hBw⟩
  case rest =>
    obtain ⟨rfl, HB1⟩ := hcut
    obtain ⟨hc2, hf2⟩ := bcell HB1
    have e0 : wc.cell? ⟨w.heap.size, 0, none⟩ = some (.int .i64 1) := by rw [hc2 _ _ (by simp; omega)]; go_simp
    have ea : wc.cell? ⟨w.heap.size, 1, none⟩ = some (.int .i64 a) := by rw [hc2 _ _ (by simp; omega)]; go_simp
    have e1 : wc.cell? ⟨w.heap.size, 2, none⟩ = some (.int .i64 k) := by rw [hc2 _ _ (by simp; omega)]; go_simp
    have e2 : wc.cell? ⟨w.heap.size, 3, none⟩ = some (.int .i64 p) := by rw [hc2 _ _ (by simp; omega)]; go_simp
    have e3 : wc.cell? ⟨w.heap.size, 4, none⟩ = some (.int .i64 q) := by rw [hc2 _ _ (by simp; omega)]; go_simp
    have e4 : wc.cell? ⟨w.heap.size, 5, none⟩ = some (.bool bk) := by rw [hc2 _ _ (by simp; omega)]; go_simp
    have e5 : wc.cell? ⟨w.heap.size, 6, none⟩ = some (.string lb) := by rw [hc2 _ _ (by simp; omega)]; go_simp
    have e6 : wc.cell? ⟨w.heap.size, 7, none⟩ = some (.string ky) := by rw [hc2 _ _ (by simp; omega)]; go_simp
    have e7 : wc.cell? ⟨w.heap.size, 8, none⟩ = some (.int .i64 cd) := by rw [hc2 _ _ (by simp; omega)]; go_simp
    have hBw : Below w.heap.size w wc := (below_alloc (below_alloc (Below.refl _ w) _) _).trans (HB1.mono (by simp; omega))
    have HBw := Lib.hid hBw
    have hNs : w.heap.size < wc.heap.size := by have := HB1.size; simp at this; omega
    clear HB1 hc2 hf2 hBw
    go_wp2_with (first
      | (go_at_call 8; refine (rtext1 a k p q bk lb ky cd _ HA.out HJ.out ra (fun n W r h => HI.out n W r (belowX HBw.out h)) (fun W h => HT.out W (belowX HBw.out h))).mono ?_; rintro e W6 ⟨rfl, hb6⟩)
      | (go_at_call 4; refine (HK.out _ (below_call HBw.out hb6)).mono ?_; rintro e W7 ⟨rfl, hb7⟩))
    go_ret
    exact ⟨rfl, below_call (below_call HBw.out hb6) hb7⟩

set_option maxHeartbeats 4000000 in
theorem law2 (a k p q : Int) (bk : Bool) (lb ky : ByteArray) (cd : Int) (w : World) (hn : lb.size + ky.size ≤ 1000) (ha : (itoaB a).size ≤ 21) (hp : (itoaB p).size ≤ 21) (hq : (itoaB q).size ≤ 21) (hJ : (joinB k p q bk lb ky cd).size ≤ 100000) (hJ2 : (0 ≤ k ∧ k ≤ 3) → stepB k p q lb ky = joinB k p q bk lb ky cd)
    (ra : R64 a) (rp : R64 p) (rq : R64 q) (hI : ∀ n W, R64 n → Below w.heap.size w W → Calls Tryz.prog 14 #[.int .i64 n] W fun e w' => e = .returned (.string (itoaB n)) ∧ Below W.heap.size W w')
    (hT : ∀ W, Below w.heap.size w W → Calls Tryz.prog 6 #[.slice (some ⟨W.heap.size, 0, none⟩) 1 1] (W.alloc (S25 k p q bk lb ky cd)) fun e w' => e = .returned (.string ⟨(Lib.join ((words k p q bk lb ky cd).map (fun x : ByteArray => x.data.toList)) [32] ++ [10]).toArray⟩) ∧ Below W.heap.size W w')
    (hK : ∀ W, Below w.heap.size w W → Calls Tryz.prog 4 #[] W fun e w' => e = .returned (.bool true) ∧ Below W.heap.size W w') :
    Calls Tryz.prog 3 #[.agg (R27 2 a k p q bk lb ky cd)] w fun e w' => e = .returned (.bool true) ∧ Below w.heap.size w w' := by
  have HI := Lib.hid hI
  have HT := Lib.hid hT
  have HK := Lib.hid hK
  have HJ := Lib.hid hJ
  have HJ2 := Lib.hid hJ2
  have HN := Lib.hid hn
  have HA := Lib.hid ha
  have HP := Lib.hid (And.intro hp hq)
  clear hI hT hK hJ hJ2 ha hp hq
  go_enter Tryz.func3, Tryz.ntmps3
  go_upto_region 6 with (fail)
  rename (lb.size : Int) + (ky.size : Int) ≤ 1000 => hsum
  clear hsum hn
  go_cut [3] from 26 to 35 (fun s3 wx => s3 = .string (⟨#[116, 117, 114, 110]⟩ ++ ⟨#[32]⟩ ++ itoaB a) ∧ Below (V3 2 a k p q bk lb ky cd w).heap.size (V3 2 a k p q bk lb ky cd w) wx)
  case first =>
    have c1 : (V3 2 a k p q bk lb ky cd w).cell? ⟨w.heap.size, 0, none⟩ = some (.int .i64 2) := by go_simp
    have c2 : (V3 2 a k p q bk lb ky cd w).cell? ⟨w.heap.size, 1, none⟩ = some (.int .i64 a) := by go_simp
    have c3 : (V3 2 a k p q bk lb ky cd w).cell? ⟨w.heap.size + 1, 2, none⟩ = some (.string ⟨#[116, 117, 114, 110]⟩) := by go_simp
    have hB0 : Below (V3 2 a k p q bk lb ky cd w).heap.size (V3 2 a k p q bk lb ky cd w) (V3 2 a k p q bk lb ky cd w) := Below.refl _ _
    have hBw0 : Below w.heap.size w (V3 2 a k p q bk lb ky cd w) := below_alloc (below_alloc (Below.refl _ _) _) _
    have hlt : w.heap.size + 1 < (V3 2 a k p q bk lb ky cd w).heap.size := by simp
    change Code.wp _ _ _ _ (V3 2 a k p q bk lb ky cd w)
    generalize hV : V3 2 a k p q bk lb ky cd w = V5 at c1 c2 c3 hB0 hlt hBw0 ⊢
    generalize hN : w.heap.size = N at c1 c2 c3 hlt ⊢
    generalize hM : N + 1 = M at c3 hlt ⊢
    have hNM : N < V5.heap.size := by omega
    replace hV := Lib.hid hV
    replace hN := Lib.hid hN
    replace hM := Lib.hid hM
    replace hBw0 := Lib.hid hBw0
    have z1 : 5 + (itoaB a).size ≤ 9223372036854775807 := by have := HA.out; omega
    have z2 : 4 + 1 + (itoaB a).size ≤ 9223372036854775807 := by have := HA.out; omega
    have rr1 : ∀ w : World, (Op.stringOp .add ((⟨#[116, 117, 114, 110]⟩ : ByteArray) ++ (⟨#[32]⟩ : ByteArray)) (itoaB a)).run Tryz.prog w = .ok (.string ((⟨#[116, 117, 114, 110]⟩ : ByteArray) ++ (⟨#[32]⟩ : ByteArray) ++ itoaB a)) w := fun w => run_string_add_sum w _ _ (by rw [ByteArray.size_append]; show 4 + 1 + (itoaB a).size ≤ _; omega)
    have rr2 : ∀ w : World, (Op.stringOp .add (⟨#[116, 117, 114, 110, 32]⟩ : ByteArray) (itoaB a)).run Tryz.prog w = .ok (.string ((⟨#[116, 117, 114, 110, 32]⟩ : ByteArray) ++ itoaB a)) w := fun w => run_string_add_sum w _ _ (by show 5 + (itoaB a).size ≤ _; omega)
    go_region_held3 (fun w' => w'.cell? ⟨N, 0, none⟩ = some (.int .i64 2) ∧ w'.cell? ⟨N, 1, none⟩ = some (.int .i64 a) ∧ w'.cell? ⟨M, 2, none⟩ = some (.string ⟨#[116, 117, 114, 110]⟩) ∧ Below V5.heap.size V5 w')
      (((refine sOf3 hNM hlt c1 c2 c3 ?_); (first | exact hB0.drew | (go_split_ands; first | assumption | exact below_call (by assumption) hb | exact below_alloc (by assumption) _))))
      (first
        | (go_at_call 5; refine (numB HI.out _ ra (belowX hBw0.out ?_)).mono ?_; (first | exact hB0.drew | (go_split_ands; first | assumption | exact below_call (by assumption) hb)); rintro e w' ⟨rfl, hb⟩))
    all_goals
      have hBw := below_call hB0.drew hb
      go_wp2
      have hV' := hV.out
      have hN' := hN.out
      have hM' := hM.out
      subst hV' hN' hM'
      go_meet
      exact ⟨rfl, hBw⟩
  case rest =>
    obtain ⟨rfl, HB1⟩ := hcut
    obtain ⟨hc2, hf2⟩ := bcell HB1
    have e0 : wc.cell? ⟨w.heap.size, 0, none⟩ = some (.int .i64 2) := by rw [hc2 _ _ (by simp; omega)]; go_simp
    have ea : wc.cell? ⟨w.heap.size, 1, none⟩ = some (.int .i64 a) := by rw [hc2 _ _ (by simp; omega)]; go_simp
    have e1 : wc.cell? ⟨w.heap.size, 2, none⟩ = some (.int .i64 k) := by rw [hc2 _ _ (by simp; omega)]; go_simp
    have e2 : wc.cell? ⟨w.heap.size, 3, none⟩ = some (.int .i64 p) := by rw [hc2 _ _ (by simp; omega)]; go_simp
    have e3 : wc.cell? ⟨w.heap.size, 4, none⟩ = some (.int .i64 q) := by rw [hc2 _ _ (by simp; omega)]; go_simp
    have e4 : wc.cell? ⟨w.heap.size, 5, none⟩ = some (.bool bk) := by rw [hc2 _ _ (by simp; omega)]; go_simp
    have e5 : wc.cell? ⟨w.heap.size, 6, none⟩ = some (.string lb) := by rw [hc2 _ _ (by simp; omega)]; go_simp
    have e6 : wc.cell? ⟨w.heap.size, 7, none⟩ = some (.string ky) := by rw [hc2 _ _ (by simp; omega)]; go_simp
    have e7 : wc.cell? ⟨w.heap.size, 8, none⟩ = some (.int .i64 cd) := by rw [hc2 _ _ (by simp; omega)]; go_simp
    have hBw : Below w.heap.size w wc := (below_alloc (below_alloc (Below.refl _ w) _) _).trans (HB1.mono (by simp; omega))
    have HBw := Lib.hid hBw
    have hNs : w.heap.size < wc.heap.size := by have := HB1.size; simp at this; omega
    clear HB1 hc2 hf2 hBw
    go_wp2_with (first
      | (go_at_call 8; refine (rtext2 a k p q bk lb ky cd _ HA.out HJ.out ra (fun n W r h => HI.out n W r (belowX HBw.out h)) (fun W h => HT.out W (belowX HBw.out h))).mono ?_; rintro e W6 ⟨rfl, hb6⟩)
      | (go_at_call 4; refine (HK.out _ (below_call HBw.out hb6)).mono ?_; rintro e W7 ⟨rfl, hb7⟩))
    go_ret
    exact ⟨rfl, below_call (below_call HBw.out hb6) hb7⟩

set_option maxHeartbeats 4000000 in
theorem law3 (a k p q : Int) (bk : Bool) (lb ky : ByteArray) (cd : Int) (w : World) (hn : lb.size + ky.size ≤ 1000) (ha : (itoaB a).size ≤ 21) (hp : (itoaB p).size ≤ 21) (hq : (itoaB q).size ≤ 21) (hJ : (joinB k p q bk lb ky cd).size ≤ 100000) (hJ2 : (0 ≤ k ∧ k ≤ 3) → stepB k p q lb ky = joinB k p q bk lb ky cd)
    (ra : R64 a) (rp : R64 p) (rq : R64 q) (hI : ∀ n W, R64 n → Below w.heap.size w W → Calls Tryz.prog 14 #[.int .i64 n] W fun e w' => e = .returned (.string (itoaB n)) ∧ Below W.heap.size W w')
    (hT : ∀ W, Below w.heap.size w W → Calls Tryz.prog 6 #[.slice (some ⟨W.heap.size, 0, none⟩) 1 1] (W.alloc (S25 k p q bk lb ky cd)) fun e w' => e = .returned (.string ⟨(Lib.join ((words k p q bk lb ky cd).map (fun x : ByteArray => x.data.toList)) [32] ++ [10]).toArray⟩) ∧ Below W.heap.size W w')
    (hK : ∀ W, Below w.heap.size w W → Calls Tryz.prog 4 #[] W fun e w' => e = .returned (.bool true) ∧ Below W.heap.size W w') :
    Calls Tryz.prog 3 #[.agg (R27 3 a k p q bk lb ky cd)] w fun e w' => e = .returned (.bool true) ∧ Below w.heap.size w w' := by
  have HI := Lib.hid hI
  have HT := Lib.hid hT
  have HK := Lib.hid hK
  have HJ := Lib.hid hJ
  have HJ2 := Lib.hid hJ2
  have HN := Lib.hid hn
  have HA := Lib.hid ha
  have HP := Lib.hid (And.intro hp hq)
  clear hI hT hK hJ hJ2 ha hp hq
  go_enter Tryz.func3, Tryz.ntmps3
  go_upto_region 6 with (fail)
  rename (lb.size : Int) + (ky.size : Int) ≤ 1000 => hsum
  clear hsum hn
  go_cut [3] from 26 to 35 (fun s3 wx => s3 = .string (⟨#[102, 117, 115, 101]⟩ ++ ⟨#[32]⟩ ++ itoaB a) ∧ Below (V3 3 a k p q bk lb ky cd w).heap.size (V3 3 a k p q bk lb ky cd w) wx)
  case first =>
    have c1 : (V3 3 a k p q bk lb ky cd w).cell? ⟨w.heap.size, 0, none⟩ = some (.int .i64 3) := by go_simp
    have c2 : (V3 3 a k p q bk lb ky cd w).cell? ⟨w.heap.size, 1, none⟩ = some (.int .i64 a) := by go_simp
    have c3 : (V3 3 a k p q bk lb ky cd w).cell? ⟨w.heap.size + 1, 3, none⟩ = some (.string ⟨#[102, 117, 115, 101]⟩) := by go_simp
    have hB0 : Below (V3 3 a k p q bk lb ky cd w).heap.size (V3 3 a k p q bk lb ky cd w) (V3 3 a k p q bk lb ky cd w) := Below.refl _ _
    have hBw0 : Below w.heap.size w (V3 3 a k p q bk lb ky cd w) := below_alloc (below_alloc (Below.refl _ _) _) _
    have hlt : w.heap.size + 1 < (V3 3 a k p q bk lb ky cd w).heap.size := by simp
    change Code.wp _ _ _ _ (V3 3 a k p q bk lb ky cd w)
    generalize hV : V3 3 a k p q bk lb ky cd w = V5 at c1 c2 c3 hB0 hlt hBw0 ⊢
    generalize hN : w.heap.size = N at c1 c2 c3 hlt ⊢
    generalize hM : N + 1 = M at c3 hlt ⊢
    have hNM : N < V5.heap.size := by omega
    replace hV := Lib.hid hV
    replace hN := Lib.hid hN
    replace hM := Lib.hid hM
    replace hBw0 := Lib.hid hBw0
    have z1 : 5 + (itoaB a).size ≤ 9223372036854775807 := by have := HA.out; omega
    have z2 : 4 + 1 + (itoaB a).size ≤ 9223372036854775807 := by have := HA.out; omega
    have rr1 : ∀ w : World, (Op.stringOp .add ((⟨#[102, 117, 115, 101]⟩ : ByteArray) ++ (⟨#[32]⟩ : ByteArray)) (itoaB a)).run Tryz.prog w = .ok (.string ((⟨#[102, 117, 115, 101]⟩ : ByteArray) ++ (⟨#[32]⟩ : ByteArray) ++ itoaB a)) w := fun w => run_string_add_sum w _ _ (by rw [ByteArray.size_append]; show 4 + 1 + (itoaB a).size ≤ _; omega)
    have rr2 : ∀ w : World, (Op.stringOp .add (⟨#[102, 117, 115, 101, 32]⟩ : ByteArray) (itoaB a)).run Tryz.prog w = .ok (.string ((⟨#[102, 117, 115, 101, 32]⟩ : ByteArray) ++ itoaB a)) w := fun w => run_string_add_sum w _ _ (by show 5 + (itoaB a).size ≤ _; omega)
    go_region_held3 (fun w' => w'.cell? ⟨N, 0, none⟩ = some (.int .i64 3) ∧ w'.cell? ⟨N, 1, none⟩ = some (.int .i64 a) ∧ w'.cell? ⟨M, 3, none⟩ = some (.string ⟨#[102, 117, 115, 101]⟩) ∧ Below V5.heap.size V5 w')
      (((refine sOf3 hNM hlt c1 c2 c3 ?_); (first | exact hB0.drew | (go_split_ands; first | assumption | exact below_call (by assumption) hb | exact below_alloc (by assumption) _))))
      (first
        | (go_at_call 5; refine (numB HI.out _ ra (belowX hBw0.out ?_)).mono ?_; (first | exact hB0.drew | (go_split_ands; first | assumption | exact below_call (by assumption) hb)); rintro e w' ⟨rfl, hb⟩))
    all_goals
      have hBw := below_call hB0.drew hb
      go_wp2
      have hV' := hV.out
      have hN' := hN.out
      have hM' := hM.out
      subst hV' hN' hM'
      go_meet
      exact ⟨rfl, hBw⟩
  case rest =>
    obtain ⟨rfl, HB1⟩ := hcut
    obtain ⟨hc2, hf2⟩ := bcell HB1
    have e0 : wc.cell? ⟨w.heap.size, 0, none⟩ = some (.int .i64 3) := by rw [hc2 _ _ (by simp; omega)]; go_simp
    have ea : wc.cell? ⟨w.heap.size, 1, none⟩ = some (.int .i64 a) := by rw [hc2 _ _ (by simp; omega)]; go_simp
    have e1 : wc.cell? ⟨w.heap.size, 2, none⟩ = some (.int .i64 k) := by rw [hc2 _ _ (by simp; omega)]; go_simp
    have e2 : wc.cell? ⟨w.heap.size, 3, none⟩ = some (.int .i64 p) := by rw [hc2 _ _ (by simp; omega)]; go_simp
    have e3 : wc.cell? ⟨w.heap.size, 4, none⟩ = some (.int .i64 q) := by rw [hc2 _ _ (by simp; omega)]; go_simp
    have e4 : wc.cell? ⟨w.heap.size, 5, none⟩ = some (.bool bk) := by rw [hc2 _ _ (by simp; omega)]; go_simp
    have e5 : wc.cell? ⟨w.heap.size, 6, none⟩ = some (.string lb) := by rw [hc2 _ _ (by simp; omega)]; go_simp
    have e6 : wc.cell? ⟨w.heap.size, 7, none⟩ = some (.string ky) := by rw [hc2 _ _ (by simp; omega)]; go_simp
    have e7 : wc.cell? ⟨w.heap.size, 8, none⟩ = some (.int .i64 cd) := by rw [hc2 _ _ (by simp; omega)]; go_simp
    have hBw : Below w.heap.size w wc := (below_alloc (below_alloc (Below.refl _ w) _) _).trans (HB1.mono (by simp; omega))
    have HBw := Lib.hid hBw
    have hNs : w.heap.size < wc.heap.size := by have := HB1.size; simp at this; omega
    clear HB1 hc2 hf2 hBw
    go_wp2_with (first
      | (go_at_call 8; refine (rtext3 a k p q bk lb ky cd _ HA.out HJ.out ra (fun n W r h => HI.out n W r (belowX HBw.out h)) (fun W h => HT.out W (belowX HBw.out h))).mono ?_; rintro e W6 ⟨rfl, hb6⟩)
      | (go_at_call 4; refine (HK.out _ (below_call HBw.out hb6)).mono ?_; rintro e W7 ⟨rfl, hb7⟩))
    go_ret
    exact ⟨rfl, below_call (below_call HBw.out hb6) hb7⟩

set_option maxHeartbeats 4000000 in
theorem law4 (a k p q : Int) (bk : Bool) (lb ky : ByteArray) (cd : Int) (w : World) (hn : lb.size + ky.size ≤ 1000) (ha : (itoaB a).size ≤ 21) (hp : (itoaB p).size ≤ 21) (hq : (itoaB q).size ≤ 21) (hJ : (joinB k p q bk lb ky cd).size ≤ 100000) (hJ2 : (0 ≤ k ∧ k ≤ 3) → stepB k p q lb ky = joinB k p q bk lb ky cd)
    (ra : R64 a) (rp : R64 p) (rq : R64 q) (hI : ∀ n W, R64 n → Below w.heap.size w W → Calls Tryz.prog 14 #[.int .i64 n] W fun e w' => e = .returned (.string (itoaB n)) ∧ Below W.heap.size W w')
    (hT : ∀ W, Below w.heap.size w W → Calls Tryz.prog 6 #[.slice (some ⟨W.heap.size, 0, none⟩) 1 1] (W.alloc (S25 k p q bk lb ky cd)) fun e w' => e = .returned (.string ⟨(Lib.join ((words k p q bk lb ky cd).map (fun x : ByteArray => x.data.toList)) [32] ++ [10]).toArray⟩) ∧ Below W.heap.size W w')
    (hK : ∀ W, Below w.heap.size w W → Calls Tryz.prog 4 #[] W fun e w' => e = .returned (.bool true) ∧ Below W.heap.size W w') :
    Calls Tryz.prog 3 #[.agg (R27 4 a k p q bk lb ky cd)] w fun e w' => e = .returned (.bool true) ∧ Below w.heap.size w w' := by
  have HI := Lib.hid hI
  have HT := Lib.hid hT
  have HK := Lib.hid hK
  have HJ := Lib.hid hJ
  have HJ2 := Lib.hid hJ2
  have HN := Lib.hid hn
  have HA := Lib.hid ha
  have HP := Lib.hid (And.intro hp hq)
  clear hI hT hK hJ hJ2 ha hp hq
  go_enter Tryz.func3, Tryz.ntmps3
  go_upto_region 6 with (fail)
  rename (lb.size : Int) + (ky.size : Int) ≤ 1000 => hsum
  clear hsum hn
  go_cut [3] from 26 to 35 (fun s3 wx => s3 = .string (⟨#[115, 112, 108, 105, 116]⟩ ++ ⟨#[32]⟩ ++ itoaB a) ∧ Below (V3 4 a k p q bk lb ky cd w).heap.size (V3 4 a k p q bk lb ky cd w) wx)
  case first =>
    have c1 : (V3 4 a k p q bk lb ky cd w).cell? ⟨w.heap.size, 0, none⟩ = some (.int .i64 4) := by go_simp
    have c2 : (V3 4 a k p q bk lb ky cd w).cell? ⟨w.heap.size, 1, none⟩ = some (.int .i64 a) := by go_simp
    have c3 : (V3 4 a k p q bk lb ky cd w).cell? ⟨w.heap.size + 1, 4, none⟩ = some (.string ⟨#[115, 112, 108, 105, 116]⟩) := by go_simp
    have hB0 : Below (V3 4 a k p q bk lb ky cd w).heap.size (V3 4 a k p q bk lb ky cd w) (V3 4 a k p q bk lb ky cd w) := Below.refl _ _
    have hBw0 : Below w.heap.size w (V3 4 a k p q bk lb ky cd w) := below_alloc (below_alloc (Below.refl _ _) _) _
    have hlt : w.heap.size + 1 < (V3 4 a k p q bk lb ky cd w).heap.size := by simp
    change Code.wp _ _ _ _ (V3 4 a k p q bk lb ky cd w)
    generalize hV : V3 4 a k p q bk lb ky cd w = V5 at c1 c2 c3 hB0 hlt hBw0 ⊢
    generalize hN : w.heap.size = N at c1 c2 c3 hlt ⊢
    generalize hM : N + 1 = M at c3 hlt ⊢
    have hNM : N < V5.heap.size := by omega
    replace hV := Lib.hid hV
    replace hN := Lib.hid hN
    replace hM := Lib.hid hM
    replace hBw0 := Lib.hid hBw0
    have z1 : 6 + (itoaB a).size ≤ 9223372036854775807 := by have := HA.out; omega
    have z2 : 5 + 1 + (itoaB a).size ≤ 9223372036854775807 := by have := HA.out; omega
    have rr1 : ∀ w : World, (Op.stringOp .add ((⟨#[115, 112, 108, 105, 116]⟩ : ByteArray) ++ (⟨#[32]⟩ : ByteArray)) (itoaB a)).run Tryz.prog w = .ok (.string ((⟨#[115, 112, 108, 105, 116]⟩ : ByteArray) ++ (⟨#[32]⟩ : ByteArray) ++ itoaB a)) w := fun w => run_string_add_sum w _ _ (by rw [ByteArray.size_append]; show 5 + 1 + (itoaB a).size ≤ _; omega)
    have rr2 : ∀ w : World, (Op.stringOp .add (⟨#[115, 112, 108, 105, 116, 32]⟩ : ByteArray) (itoaB a)).run Tryz.prog w = .ok (.string ((⟨#[115, 112, 108, 105, 116, 32]⟩ : ByteArray) ++ itoaB a)) w := fun w => run_string_add_sum w _ _ (by show 6 + (itoaB a).size ≤ _; omega)
    go_region_held3 (fun w' => w'.cell? ⟨N, 0, none⟩ = some (.int .i64 4) ∧ w'.cell? ⟨N, 1, none⟩ = some (.int .i64 a) ∧ w'.cell? ⟨M, 4, none⟩ = some (.string ⟨#[115, 112, 108, 105, 116]⟩) ∧ Below V5.heap.size V5 w')
      (((refine sOf3 hNM hlt c1 c2 c3 ?_); (first | exact hB0.drew | (go_split_ands; first | assumption | exact below_call (by assumption) hb | exact below_alloc (by assumption) _))))
      (first
        | (go_at_call 5; refine (numB HI.out _ ra (belowX hBw0.out ?_)).mono ?_; (first | exact hB0.drew | (go_split_ands; first | assumption | exact below_call (by assumption) hb)); rintro e w' ⟨rfl, hb⟩))
    all_goals
      have hBw := below_call hB0.drew hb
      go_wp2
      have hV' := hV.out
      have hN' := hN.out
      have hM' := hM.out
      subst hV' hN' hM'
      go_meet
      exact ⟨rfl, hBw⟩
  case rest =>
    obtain ⟨rfl, HB1⟩ := hcut
    obtain ⟨hc2, hf2⟩ := bcell HB1
    have e0 : wc.cell? ⟨w.heap.size, 0, none⟩ = some (.int .i64 4) := by rw [hc2 _ _ (by simp; omega)]; go_simp
    have ea : wc.cell? ⟨w.heap.size, 1, none⟩ = some (.int .i64 a) := by rw [hc2 _ _ (by simp; omega)]; go_simp
    have e1 : wc.cell? ⟨w.heap.size, 2, none⟩ = some (.int .i64 k) := by rw [hc2 _ _ (by simp; omega)]; go_simp
    have e2 : wc.cell? ⟨w.heap.size, 3, none⟩ = some (.int .i64 p) := by rw [hc2 _ _ (by simp; omega)]; go_simp
    have e3 : wc.cell? ⟨w.heap.size, 4, none⟩ = some (.int .i64 q) := by rw [hc2 _ _ (by simp; omega)]; go_simp
    have e4 : wc.cell? ⟨w.heap.size, 5, none⟩ = some (.bool bk) := by rw [hc2 _ _ (by simp; omega)]; go_simp
    have e5 : wc.cell? ⟨w.heap.size, 6, none⟩ = some (.string lb) := by rw [hc2 _ _ (by simp; omega)]; go_simp
    have e6 : wc.cell? ⟨w.heap.size, 7, none⟩ = some (.string ky) := by rw [hc2 _ _ (by simp; omega)]; go_simp
    have e7 : wc.cell? ⟨w.heap.size, 8, none⟩ = some (.int .i64 cd) := by rw [hc2 _ _ (by simp; omega)]; go_simp
    have hBw : Below w.heap.size w wc := (below_alloc (below_alloc (Below.refl _ w) _) _).trans (HB1.mono (by simp; omega))
    have HBw := Lib.hid hBw
    have hNs : w.heap.size < wc.heap.size := by have := HB1.size; simp at this; omega
    clear HB1 hc2 hf2 hBw
    have hT := textJ HT.out
    have hS := stepJ HI.out rp rq HP.out.1 HP.out.2 HN.out HJ2.out
    have hR := fun W (h : Below w.heap.size w W) => rtext4 a k p q bk lb ky cd W HA.out HJ.out ra (fun n W' r h' => HI.out n W' r (belowX h h')) (fun W' h' => HT.out W' (belowX h h'))
    have hJs := HJ.out
    generalize hJJ : joinB k p q bk lb ky cd = J at hT hS hR hJs
    replace hJJ := Lib.hid hJJ
    simp only [assocB] at hR
    have q1 : J.size ≤ 9223372036854775806 := by omega
    have q2 : ¬ (J ++ ByteArray.mk #[10]).toList = [] := nlNe J
    have q2b : (J ++ ByteArray.mk #[10]).toList.isEmpty = false := by simpa using q2
    have q3 : ∀ h, (J ++ ByteArray.mk #[10])[J.size]'h = (10 : UInt8) := nlLast J
    have q4 : (J ++ ByteArray.mk #[10]).extract 0 J.size = J := nlCut J
    have q5 : 6 + (itoaB a).size ≤ 9223372036854775806 := by have := HA.out; omega
    have q6 : 6 + (itoaB a).size + 1 + J.size ≤ 9223372036854775807 := by have := HA.out; omega
    have HT2 := Lib.hid hT
    have HS := Lib.hid hS
    have HR := Lib.hid hR
    have HJs := Lib.hid hJs
    clear hT hS hR hJs HT HJ HJ2 HI
    go_wp2_with (first
      | (go_at_call 6; refine (HT2.out _ HBw.out).mono ?_; rintro e W6 ⟨rfl, hb6⟩; have hN6 : w.heap.size < W6.heap.size := Nat.lt_of_lt_of_le hNs hb6.size; have ge0 := keep9 hNs hb6 e0; have gea := keep9 hNs hb6 ea; have ge1 := keep9 hNs hb6 e1; have ge2 := keep9 hNs hb6 e2; have ge3 := keep9 hNs hb6 e3; have ge4 := keep9 hNs hb6 e4; have ge5 := keep9 hNs hb6 e5; have ge6 := keep9 hNs hb6 e6; have ge7 := keep9 hNs hb6 e7)
      | (go_at_call 7; refine (HS.out _ (below_call HBw.out hb6) ?_ ?_).mono ?_; omega; omega; rintro e W8 ⟨rfl, hb8⟩; have fe0 := keep9 hN6 hb8 ge0; have fea := keep9 hN6 hb8 gea; have fe1 := keep9 hN6 hb8 ge1; have fe2 := keep9 hN6 hb8 ge2; have fe3 := keep9 hN6 hb8 ge3; have fe4 := keep9 hN6 hb8 ge4; have fe5 := keep9 hN6 hb8 ge5; have fe6 := keep9 hN6 hb8 ge6; have fe7 := keep9 hN6 hb8 ge7)
      | (go_at_call 8; refine (HR.out _ ?_).mono ?_; (first | exact below_call (below_call HBw.out hb6) hb8 | exact below_call HBw.out hb6); rintro e W9 ⟨rfl, hb9⟩)
      | (go_at_call 4; refine (HK.out _ ?_).mono ?_; (first | exact below_call (below_call (below_call HBw.out hb6) hb8) hb9 | exact below_call (below_call HBw.out hb6) hb9); rintro e W10 ⟨rfl, hb10⟩))
    all_goals go_ret
    · exact ⟨rfl, below_call (below_call (below_call (below_call HBw.out hb6) hb8) hb9) hb10⟩
    · exact ⟨rfl, below_call (below_call (below_call HBw.out hb6) hb9) hb10⟩
    · exact ⟨rfl, below_call (below_call (below_call HBw.out hb6) hb9) hb10⟩
end Go.Proofs.Wk
