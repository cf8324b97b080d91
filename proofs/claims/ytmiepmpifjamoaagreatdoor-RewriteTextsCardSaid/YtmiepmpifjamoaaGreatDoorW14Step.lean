/-
  RewriteTexts: the document's text of a step. Own text.
-/
import Derived.Test.YtmiepmpifjamoaaGreatDoorW14Text
set_option linter.all false
namespace Go.Proofs.Wk
open Go.RowKit
set_option maxRecDepth 100000
theorem number_any (n : Int) (rn : R64 n) (w : World) (hI : ∀ n W, R64 n → Below w.heap.size w W → Calls Tryz.prog 14 #[.int .i64 n] W fun e w' => e = .returned (.string (itoaB n)) ∧ Below W.heap.size W w') :
    Calls Tryz.prog 5 #[.int .i64 n] w fun e w' => e = .returned (.string (itoaB n)) ∧ Below w.heap.size w w' := by
  go_enter Tryz.func5, Tryz.ntmps5
  go_wp2_with (go_at_call 14; refine (hI _ _ rn (Below.refl _ _)).mono ?_; rintro e w' ⟨rfl, hb⟩)
  go_ret
  exact ⟨rfl, hb⟩
def atB (p q : Int) : ByteArray := ⟨#[32]⟩ ++ itoaB p ++ ⟨#[32]⟩ ++ itoaB q
def stepB (k p q : Int) (lb ky : ByteArray) : ByteArray :=
  bif k == 0 then ⟨#[97, 108, 108]⟩ ++ atB p q else bif k == 1 then ⟨#[108, 97, 98, 101, 108]⟩ ++ atB p q ++ ⟨#[32]⟩ ++ lb else bif k == 2 then ⟨#[115, 101, 101, 107]⟩ ++ atB p q ++ ⟨#[32]⟩ ++ lb ++ ⟨#[32]⟩ ++ ky else ⟨#[98, 111, 117, 110, 100]⟩ ++ atB p q
set_option maxHeartbeats 2000000 in
theorem step_any (k p q : Int) (bk : Bool) (lb ky : ByteArray) (cd : Int) (w : World) (hp : (itoaB p).size ≤ 21) (hq : (itoaB q).size ≤ 21) (hl : lb.size + ky.size ≤ 1000) (rp : R64 p) (rq : R64 q) (hI : ∀ n W, R64 n → Below (w.alloc (S25 k p q bk lb ky cd)).heap.size (w.alloc (S25 k p q bk lb ky cd)) W → Calls Tryz.prog 5 #[.int .i64 n] W fun e w' => e = .returned (.string (itoaB n)) ∧ Below W.heap.size W w') :
    Calls Tryz.prog 7 #[.agg #[.int .i64 k, .int .i64 p, .int .i64 q, .bool bk, .string lb, .string ky, .int .i64 cd]] w fun e w' => e = .returned (.string (stepB k p q lb ky)) ∧ Below w.heap.size w w' := by
  have HI := Lib.hid hI
  clear hI
  go_enter Tryz.func7, Tryz.ntmps7
  go_upto_region 1 with (fail)
  go_cut [3] from 4 to 12 (fun s3 wx => s3 = .string (atB p q) ∧ Below (w.alloc (S25 k p q bk lb ky cd)).heap.size (w.alloc (S25 k p q bk lb ky cd)) wx)
  case first =>
    have c1 : (w.alloc (S25 k p q bk lb ky cd)).cell? ⟨w.heap.size, 1, none⟩ = some (.int .i64 p) := by go_simp
    have c2 : (w.alloc (S25 k p q bk lb ky cd)).cell? ⟨w.heap.size, 2, none⟩ = some (.int .i64 q) := by go_simp
    have hB0 : Below (w.alloc (S25 k p q bk lb ky cd)).heap.size (w.alloc (S25 k p q bk lb ky cd)) (w.alloc (S25 k p q bk lb ky cd)) := Below.refl _ _
    have hlt : w.heap.size < (w.alloc (S25 k p q bk lb ky cd)).heap.size := by simp
    change Code.wp _ _ _ _ (w.alloc (S25 k p q bk lb ky cd))
    generalize hV : w.alloc (S25 k p q bk lb ky cd) = V5 at c1 c2 hB0 hlt HI ⊢
    generalize hN : w.heap.size = N at c1 c2 hlt ⊢
    replace hV := Lib.hid hV
    replace hN := Lib.hid hN
    have z1 : 1 + (itoaB p).size ≤ 9223372036854775807 := by omega
    have z2 : 1 + (itoaB p).size ≤ 9223372036854775806 := by omega
    have z3 : 1 + (itoaB p).size + 1 + (itoaB q).size ≤ 9223372036854775807 := by omega
    have ra : ∀ w : World, (Op.stringOp .add (⟨#[32]⟩ : ByteArray) (itoaB p)).run Tryz.prog w = .ok (.string (⟨#[32]⟩ ++ itoaB p)) w := fun w => run_string_add_sum w _ _ (by show 1 + (itoaB p).size ≤ _; omega)
    have rb : ∀ w : World, (Op.stringOp .add ((⟨#[32]⟩ : ByteArray) ++ itoaB p) (⟨#[32]⟩ : ByteArray)).run Tryz.prog w = .ok (.string (⟨#[32]⟩ ++ itoaB p ++ ⟨#[32]⟩)) w := fun w => run_string_add_sum w _ _ (by rw [ByteArray.size_append]; show 1 + (itoaB p).size + 1 ≤ _; omega)
    have rc : ∀ w : World, (Op.stringOp .add ((⟨#[32]⟩ : ByteArray) ++ itoaB p ++ (⟨#[32]⟩ : ByteArray)) (itoaB q)).run Tryz.prog w = .ok (.string (⟨#[32]⟩ ++ itoaB p ++ ⟨#[32]⟩ ++ itoaB q)) w := fun w => run_string_add_sum w _ _ (by rw [ByteArray.size_append, ByteArray.size_append]; show 1 + (itoaB p).size + 1 + (itoaB q).size ≤ _; omega)
    clear hp hq hl
    go_region_held3 (fun w' => w'.cell? ⟨N, 1, none⟩ = some (.int .i64 p) ∧ w'.cell? ⟨N, 2, none⟩ = some (.int .i64 q) ∧ Below V5.heap.size V5 w')
      (((refine sOf hlt c1 c2 ?_); (first | exact hB0.drew | (go_split_ands; first | assumption | exact below_call (by assumption) hb | exact below_alloc (by assumption) _))))
      (first
        | (go_at_call 5; refine (HI.out _ _ ?_ ?_).mono ?_; assumption; (first | exact hB0.drew | (go_split_ands; first | assumption | exact below_call (by assumption) hb)); rintro e w' ⟨rfl, hb⟩))
    all_goals
      have hBw := below_call (below_call hB0.drew ‹Below V5.drew.heap.size V5.drew _›) hb
      go_wp2
      have hV' := hV.out
      have hN' := hN.out
      subst hV' hN'
      go_meet
      exact ⟨rfl, hBw⟩
  case rest =>
    obtain ⟨rfl, HB1⟩ := hcut
    obtain ⟨hc2, hf2⟩ := bcell HB1
    have e1 : wc.cell? ⟨w.heap.size, 0, none⟩ = some (.int .i64 k) := by rw [hc2 _ _ (by simp)]; go_simp
    have e2 : wc.cell? ⟨w.heap.size, 4, none⟩ = some (.string lb) := by rw [hc2 _ _ (by simp)]; go_simp
    have e3 : wc.cell? ⟨w.heap.size, 5, none⟩ = some (.string ky) := by rw [hc2 _ _ (by simp)]; go_simp
    have hsz : w.heap.size < wc.heap.size := by have := HB1.size; simp at this; omega
    have HB2 := Lib.hid ((below_alloc (Below.refl _ w) (S25 k p q bk lb ky cd)).trans (HB1.mono (by simp)))
    clear HB1 hc2 hf2 HI
    have hA : (atB p q).size ≤ 44 := by
      simp only [atB, ByteArray.size_append]
      show 1 + (itoaB p).size + 1 + (itoaB q).size ≤ 44
      omega
    generalize hAA : atB p q = A at hA
    replace hAA := Lib.hid hAA
    have z1 : 3 + A.size ≤ 9223372036854775807 := by omega
    have z2 : 5 + A.size ≤ 9223372036854775807 := by omega
    have z3 : 4 + A.size ≤ 9223372036854775807 := by omega
    have z4 : 5 + A.size ≤ 9223372036854775806 := by omega
    have z5 : 4 + A.size ≤ 9223372036854775806 := by omega
    have z6 : 5 + A.size + 1 + lb.size ≤ 9223372036854775807 := by omega
    have z7 : 4 + A.size + 1 + lb.size ≤ 9223372036854775807 := by omega
    have z8 : 4 + A.size + 1 + lb.size ≤ 9223372036854775806 := by omega
    have z9 : 4 + A.size + 1 + lb.size + 1 + ky.size ≤ 9223372036854775807 := by omega
    clear hA hp hq hl
    go_wp2
    all_goals go_ret
    all_goals have hA' := hAA.out
    all_goals subst hA'
    all_goals exact ⟨by (simp only [stepB, *, cond_true, cond_false]; rfl), HB2.out⟩
end Go.Proofs.Wk
