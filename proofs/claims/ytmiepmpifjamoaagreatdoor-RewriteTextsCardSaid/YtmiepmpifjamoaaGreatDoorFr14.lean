/-
  The frame of the row of RewriteTexts: out of a walk, the row. Own text, after the guide's worked proofs.
-/
import Derived.Test.YtmiepmpifjamoaaGreatDoorRows
import Derived.Test.YtmiepmpifjamoaaGreatDoorTie
import Derived.Test.YtmiepmpifjamoaaGreatDoorCards
import Derived.ProofKit
import Derived.OpenShut
import Derived.LaidMore
import Derived.Lay
import Derived.HandedShaped
import Derived.SevenTiedAt
import Derived.Shelf.Vars
import Derived.Test.YtmiepmpifjamoaaGreatDoorExo8
import Derived.Test.YtmiepmpifjamoaaGreatDoorFa14
import Derived.Test.YtmiepmpifjamoaaGreatDoorOp14
import Derived.Lib.LaidTab
set_option linter.all false
namespace Go.Proofs.YtmiepmpifjamoaaGreatDoor.rewriteTexts
open Go.ChangeShapes Go.WideShapes Go.ChangeAt Go.RowKit

/-- what the walk may use of the world -/
structure Base (w : World) : Prop where
  size : 9 ≤ w.heap.size
  max : ∃ m, w.cell? ⟨0, 0, none⟩ = some (.int .i64 m)
theorem base_of {w : World} (h : w.ShapedOpen Tryz.prog) : Base w := by
  refine ⟨?_, cell_of_shapedOpen_int (zero := #[.int .i64 0]) (t := 3) h (of_decide_eq_true (by kernel_rfl)) (by kernel_rfl) rfl (by kernel_rfl) (by kernel_rfl) (by kernel_rfl)⟩
  have hrow : ∃ z t, ((begin Tryz.prog (fun _ _ => 0) default).world.heap[8]?).bind Obj.row? = some (z, t) := by
    cases hr : ((begin Tryz.prog (fun _ _ => 0) default).world.heap[8]?).bind Obj.row? with
    | some x => exact ⟨x.1, x.2, rfl⟩
    | none =>
      have : (((begin Tryz.prog (fun _ _ => 0) default).world.heap[8]?).bind Obj.row?).isSome = true := by kernel_rfl
      rw [hr] at this; cases this
  obtain ⟨z, t, hz⟩ := hrow
  obtain ⟨cs, hc, _⟩ := h.1 8 z t (of_decide_eq_true (by kernel_rfl)) hz
  have := (Array.getElem?_eq_some_iff.1 hc).1
  omega
theorem kept_of_ext {W W' : World} (he : Exo.Ext W W') (may : MemPlace → Prop) : W.keptBut W' may := by
  refine ⟨he.os, he.output, fun i hi => ?_⟩
  rw [he.old i hi]
  cases ho : W.heap[i]? with
  | none => simp
  | some o =>
    cases o with
    | cells c t fr => obtain ⟨a, b⟩ := fr; exact ⟨rfl, rfl, rfl, fun _ _ => rfl⟩
    | map es c => exact .inr ⟨rfl, rfl⟩
    | _ => rfl

noncomputable def laidWorld (os : Os) : World := World.laidAll Tryz.prog os Rows.rewriteTextsRow.laid
theorem laid_met (os : Os) (args : Array Value) : laidMetH Tryz.prog Rows.rewriteTextsRow.laid ((laidWorld os).forCall (fun _ _ => 0) ⟨#[], args, []⟩).memory := by
  rw [MakeChecks.laidMetH_plain _ _ _ (by kernel_rfl)]
  exact laidMet_laidAll _ (by kernel_rfl) (by kernel_rfl)
theorem shaped (os : Os) (args : Array Value) : ((laidWorld os).forCall (fun _ _ => 0) ⟨#[], args, []⟩).Shaped Tryz.prog := World.shaped_of_ZipB (by kernel_rfl) (by kernel_rfl)

/-- the rest of the list is laid, too -/
theorem laid_tail {P : Program} {x : String × DataW Unit} {r : List (String × DataW Unit)} {w : World} (h : laidMet P (x :: r) w) : laidMet P r w := by
  obtain ⟨ps, ⟨g', t', cs, fuel, p, q, _, _, _, _, hq, e⟩, hn, hc⟩ := h
  first
    | (subst e
       exact ⟨q, hq, (List.nodup_append.1 hn).2.1, fun b off hm => hc b off (List.mem_append.2 (.inr hm))⟩)
    | (subst hq
       exact ⟨q, e, (List.nodup_append.1 hn).2.1, fun b off hm => hc b off (List.mem_append.2 (.inr hm))⟩)
theorem tab_of {w : World} (h : laidMetH Tryz.prog Rows.rewriteTextsRow.laid w) : Lib.TabIs Tryz.prog w "internal/strconv.uint64pow10" .u64 Lib.pow10Tab := by
  rw [MakeChecks.laidMetH_plain _ _ _ (by kernel_rfl)] at h
  exact Lib.tabIs_of_head (g := 1) (t := 211) (e := 131) (n := 20) (by kernel_rfl) (by kernel_rfl) (by kernel_rfl) (by kernel_rfl) (by kernel_rfl) (by kernel_rfl) (laid_tail (laid_tail h))
theorem sizes27 {H : Type} {k0 a k p q : Int} {bk : Bool} {lb ky : ByteArray} {cd : Int} {ts : List TypeId} {gs : List (DataW H)} (h : (DataW.weightsEach Tryz.prog (Tryz.f3.params.toList ++ ts) ([Wk.D27 k0 a k p q bk lb ky cd] ++ gs)).all (· ≤ reachBytes) = true) : lb.size ≤ reachBytes ∧ ky.size ≤ reachBytes := by
  rw [Tryz.params3] at h
  have e : DataW.weightsEach Tryz.prog ((#[27] : Array TypeId).toList ++ ts) ([Wk.D27 k0 a k p q bk lb ky cd] ++ gs) = [lb.data.toList.length] ++ ([ky.data.toList.length] ++ DataW.weightsEach Tryz.prog ts gs) := by
    simp [DataW.weightsEach, DataW.weights, Wk.D27, Wk.D25, Tryz.underlying27, Tryz.underlying25]
  rw [e] at h
  simp only [List.all_append, List.all_cons, List.all_nil, Bool.and_true, Bool.and_eq_true, decide_eq_true_eq] at h
  exact ⟨(show lb.data.toList.length = lb.size from rfl) ▸ h.1, (show ky.data.toList.length = ky.size from rfl) ▸ h.2.1⟩
/-- THE WALK: the Go text returns true -/
def Walk : Prop := ∀ (k0 a k p q : Int) (bk : Bool) (lb ky : ByteArray) (cd : Int), Wk.Ok27 k0 a k p q lb ky cd → lb.size ≤ reachBytes → ky.size ≤ reachBytes → ∀ w, Base w → Lib.TabIs Tryz.prog w "internal/strconv.uint64pow10" .u64 Lib.pow10Tab →
    Calls Tryz.prog 3 #[.agg (Wk.R27 k0 a k p q bk lb ky cd)] w fun e w' => e = .returned (.bool true) ∧ Exo.Ext w w'

set_option maxRecDepth 100000 in
theorem lifted (walk : Walk) (os : Os) (started : os.Started) (H : Type) (enc : TypeId × Value → H) :
    ReturnsInHanded {} Tryz.checked os 3 .any (fun w args => (Rows.rewriteTextsSpec.pre enc Tryz.prog Tryz.f3 Rows.rewriteTextsRow.domain false w args ∧ laidMetH Tryz.prog Rows.rewriteTextsRow.laid w) ∧ sizedMet enc Tryz.prog Tryz.f3 (OpenSpec.ofChange Rows.rewriteTextsSpec) false w args)
      (Rows.rewriteTextsSpec.post enc Tryz.prog Tryz.f3 false true false false) := by
  refine returnsInHanded_of_calls (C := Tryz.checked) k_own started (by kernel_rfl)
    (ChangeSpec.witness_shaped (enc := enc) (C := Tryz.checked) (os := os) (fn := Tryz.f3) (X := fun w _ => laidMetH Tryz.prog Rows.rewriteTextsRow.laid w) false (laidWorld os) #[.agg (Wk.R27 0 0 0 0 0 false ⟨#[]⟩ ⟨#[]⟩ 0)] 8 (World.laidAll_os _ _ _) (shaped os _) (by kernel_rfl) (by kernel_rfl) (by kernel_rfl) (laid_met os _)) ?_
  intro w tape i _ hsh _ hok hpre _
  obtain ⟨_, _, _, fn', hfn', _, _, _, _, hval0⟩ := hok
  have e : fn' = Tryz.f3 := Option.some.inj (hfn'.symm.trans Tryz.func3)
  subst e
  obtain ⟨⟨⟨ds, gs, before, hw, _⟩, hL⟩, hZ⟩ := hpre
  have hsz := hZ.weights hw
  clear hZ
  have hT := tab_of hL
  have hW : DataW.Whole enc Tryz.prog Tryz.f3.params.toList Rows.rewriteTextsSpec.vars false (w.forCall tape i) i.args.toList ds gs before := DataW.Whole.of_heap (w' := w.forCall tape i) (by rfl) hw
  have hval1 : ∀ (j : Nat) t v, Tryz.f3.params[j]? = some t → i.args[j]? = some v → Value.okWide Tryz.prog (w.forCall tape i) .any w.heap.size t v := hval0
  refine Calls.mono (R := fun e W' => ∃ v, e = .returned v ∧ Rows.rewriteTextsSpec.post enc Tryz.prog Tryz.f3 false true false false (w.forCall tape i) i.args v W') ?_ fun e W' ⟨v, he, hp⟩ => by subst he; exact ChangeSpec.post_blind hp
  clear hL
  change Lib.TabIs Tryz.prog (w.forCall tape i) _ _ _ at hT
  generalize w.forCall tape i = W at hW hsh hval1 hT
  generalize i.args = args at hW hval1
  generalize w.heap.size = base at hval1
  have hval : ∀ (j : Nat) t v, Tryz.f3.params[j]? = some t → args[j]? = some v → Value.okWide Tryz.prog W .any base t v := hval1
  have hW' := hW
  obtain ⟨p, q, hA0, hV, rfl, hfz, hnd⟩ := hW
  have hA : DataW.TrodAll enc Tryz.prog W 0 (fun _ => true) true Tryz.f3.params.toList args.toList ds p := hA0
  rw [Tryz.params3] at hA hval
  obtain ⟨v0, vs0, d0, ds0, p0, q0, hargs, rfl, rfl, h0, r0⟩ := trodAll_cons hA
  obtain ⟨rfl, rfl, rfl⟩ := trodAll_nil r0
  obtain rfl : args = #[v0] := by cases args; simp_all
  obtain ⟨rfl, rfl⟩ := trodVars_none hV
  obtain ⟨k0, a, k, p, q, bk, lb, ky, cd, rfl, rfl, rfl, ok⟩ := Wk.open27 (hval 0 27 v0 rfl rfl) h0
  obtain ⟨s1, s2⟩ := sizes27 hsz
  refine (walk k0 a k p q bk lb ky cd ok s1 s2 W (base_of hsh) hT).mono fun e W' ⟨he, hg⟩ => ?_
  subst he
  refine ⟨_, rfl, _, _, _, [], [], [], hW', ?_, ?_, ?_, kept_of_ext hg _, fun h => by cases h⟩
  · exact trodAll_cons_mk (shut_bool Tryz.underlying4 _) trodAll_mk0
  · exact trodAll_cons_mk (Wk.shut27 ok) trodAll_mk0
  · rfl

theorem over (walk : Walk) : Rows.rewriteTextsRow.holds Tryz.pinned (OpenSpec.ofChange Rows.rewriteTextsSpec) :=
  OpenClaim.holds_of_wide 3 Tryz.f3 rfl rfl rfl rfl rfl rfl rfl ⟨rfl, rfl, rfl, rfl, rfl⟩ rfl rfl rfl rfl rfl k_fnamed Tryz.func3 closed
    k_inst (by unfold Func.isWrapper; first | (rw [if_pos (by decide +kernel)]; kernel_rfl) | (rw [if_neg (by decide +kernel)]; exact ⟨rfl, rfl⟩))
    (fun os started H enc _ => lifted walk os started H enc)

/-- out of the walk, the statement: the tied card -/
theorem card (walk : Walk) : Rows.RewriteTextsCardSaid :=
  Claim7.holds_tied_plain_at .later [] [.data, .data, .data, .data, .sentinel, .sentinel, .pinned, .pinned] true Rows.rewriteTextsCard.stood.harness true
    (over walk) (fun _ h => by cases h) k_wft (fun _ h => by cases h) rewriteTexts_row_tie rfl ⟨rfl, rfl⟩ k_mainIs rfl
    (fun f fn hf hfn => by
      obtain rfl : f = 3 := Option.some.inj (k_fnamed.symm.trans hf) |>.symm
      obtain rfl : fn = Tryz.f3 := (Option.some.inj (Tryz.func3.symm.trans hfn)).symm
      exact ⟨k_looks, fun j t ht => by
        rw [Tryz.params3] at ht
        have hm : t ∈ [27] := by
          have := Array.mem_of_getElem? ht
          simpa using this
        have hall : ([27].all fun u => !Tryz.prog.wantsStandIn u) = true := by kernel_rfl
        exact (show Tryz.prog.wantsStandIn t = false by simpa using List.all_eq_true.1 hall t hm)⟩)
    k_goes
end Go.Proofs.YtmiepmpifjamoaaGreatDoor.rewriteTexts
