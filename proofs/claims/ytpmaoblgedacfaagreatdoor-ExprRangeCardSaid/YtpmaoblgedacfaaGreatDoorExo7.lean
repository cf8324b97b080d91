/-
  EXO, part Z4: a value comes back; a region is begun; a frame returns. Own text.
-/
import Derived.Test.YtpmaoblgedacfaaGreatDoorExo6
set_option linter.all false
namespace Go.Exo
section
variable {P : Program} {w0 : Bs} {cs0 : List Frame} {E : Env} {ih : Ih}

theorem backE_ok {mx : Bool} {i : Nat} : ∀ {es : List Edge}, backE mx i es = true → ∀ e ∈ es, (mx = true → Region.binds .any e = true) → e.on < i
  | [], _, _, h, _ => by cases h
  | x :: r, h, e, he, hm => by
    obtain ⟨h1, h2⟩ := cond_and h
    cases he with
    | head =>
      simp only [Bool.or_eq_true, Bool.and_eq_true, Bool.not_eq_true'] at h1
      rcases h1 with h1 | ⟨h1, h3⟩
      · exact Nat.le_of_ble_eq_true h1
      · rw [hm h1] at h3; cases h3
    | tail _ he => exact backE_ok h2 e he hm
theorem backL_ok {mx : Bool} : ∀ {os : List Oper} {i : Nat}, backL mx os i = true → ∀ (j : Nat) (o : Oper), os[j]? = some o → ∀ e ∈ o.after, (mx = true → Region.binds .any e = true) → e.on < i + j
  | [], _, _, j, o, h, _, _, _ => by simp at h
  | x :: r, i, h, j, o, ho, e, he, hm => by
    obtain ⟨h1, h2⟩ := cond_and h
    cases j with
    | zero =>
      simp at ho; subst ho
      exact backE_ok h1 e (by simpa using he) hm
    | succ j =>
      have := backL_ok h2 j o (by simpa using ho) e he hm
      omega
theorem back_of {mx : Bool} {ops : Array Oper} (h : backL mx ops.toList 0 = true) : Back mx ops := fun i o ho e he hm => by
  have := backL_ok h i o (by simpa using ho) e he hm
  omega

theorem pairsB_ok : ∀ {T : List PStep}, pairsB T = true → PairsOk T
  | [], _ => trivial
  | t :: r, h => by
    unfold pairsB at h
    simp only [Bool.and_eq_true] at h
    refine ⟨fun m b y ho s hs d hd => ?_, pairsB_ok h.2⟩
    have h1 := h.1
    rw [ho] at h1
    simp only [List.all_eq_true] at h1
    have := h1 s hs
    rw [hd] at this
    simpa using this
theorem PairsOk.append : ∀ {Y T : List PStep}, PairsOk (Y ++ T) → PairsOk T
  | [], _, h => h
  | _ :: Y, T, h => PairsOk.append (Y := Y) h.2
theorem tailOk_ok {z : PStep} {bz : Nat} : ∀ {T : List PStep}, tailOk z bz T = true → ∀ Y s T', T = Y ++ s :: T' → 2 < s.op.cls → bz.testBit s.idx = false → (∀ t ∈ s :: T', okT z t = true) ∧ PairsOk (s :: T')
  | [], _, Y, s, T', e, _, _ => by cases Y <;> cases e
  | x :: r, h, Y, s, T', e, hc, hb => by
    unfold tailOk at h
    cases hf : (Nat.ble 3 x.op.cls && Nat.beq (Nat.land (bitOf x.idx) bz) 0) with
    | true =>
      rw [hf] at h
      simp only [cond_true, Bool.and_eq_true] at h
      have h1 : ∀ t ∈ x :: r, okT z t = true := fun t ht => List.all_eq_true.1 h.1 t ht
      have h2 := pairsB_ok h.2
      rw [e] at h1 h2
      exact ⟨fun t ht => h1 t (List.mem_append.2 (.inr ht)), h2.append⟩
    | false =>
      rw [hf] at h
      cases Y with
      | nil =>
        simp only [List.nil_append, List.cons.injEq] at e
        obtain ⟨rfl, rfl⟩ := e
        rw [bit_free.2 hb, Nat.ble_eq_true_of_le (show 3 ≤ x.op.cls from hc)] at hf
        cases hf
      | cons y Y =>
        simp only [List.cons_append, List.cons.injEq] at e
        obtain ⟨rfl, rfl⟩ := e
        exact tailOk_ok h Y s T' rfl hc hb
theorem bitsAt_mem {i : Nat} : ∀ {all : List Ent}, (∃ x ∈ all, x.1.idx = i) → ∃ s, (s, bitsAt i all) ∈ all ∧ s.idx = i
  | [], ⟨_, h, _⟩ => by cases h
  | (s, b) :: r, ⟨x, hx, he⟩ => by
    simp only [bitsAt]
    cases hb : Nat.beq s.idx i with
    | true => exact ⟨s, List.mem_cons_self .., Nat.eq_of_beq_eq_true hb⟩
    | false =>
      cases hx with
      | head => simp only at he; rw [he] at hb; simp at hb
      | tail _ hx =>
        obtain ⟨s', h1, h2⟩ := bitsAt_mem (all := r) ⟨x, hx, he⟩
        exact ⟨s', List.mem_cons_of_mem _ h1, h2⟩
theorem planOk_append : ∀ {T : List PStep} {z : PStep}, planOk T = true → z.apart = [] → planOk (T ++ [z]) = true
  | [], z, _, h => by
    show planOk [z] = true
    unfold planOk; rw [h]; rfl
  | t :: T, z, hT, h => by
    unfold planOk at hT
    rw [List.cons_append]
    unfold planOk
    split at hT
    · rename_i e; exact planOk_append hT h
    · cases hT
theorem planD_cases (P : Program) (ops : Array Oper) : (∃ s, s.op = .bad ∧ s.fast = true ∧ planD P ops = [s]) ∨
    (Back (P.follows .mixedOrders) ops ∧ ∀ σ, Sched ops σ → Ord ops σ ∧ FitZ P ops (planD P ops) σ ∧ ∀ i ∈ σ, ∃ s ∈ planD P ops, s.idx = i) := by
  unfold planD
  simp only
  generalize hall : zipB (planS P ops ops.toList 0) (befL ops.toList 0 .e) = all
  generalize hl : planGo all ops.toList.length 0 [] [] = l
  cases hc : (planOkZ all l && backL (P.follows .mixedOrders) ops.toList 0 && distinct all && opsOk all ops.toList all && Nat.beq l.length ops.toList.length) with
  | false => exact .inl ⟨_, rfl, rfl, rfl⟩
  | true =>
    simp only [Bool.and_eq_true] at hc
    obtain ⟨⟨⟨⟨c1, c2⟩, c3⟩, c4⟩, c5⟩ := hc
    have hb := back_of c2
    refine .inr ⟨hb, fun σ hs => ?_⟩
    simp only [cond_true]
    have he := ents_ok (P := P) hs all ops.toList 0 .e (by simp) (fun i j hj => by simp [get_e] at hj) (by rw [hall]; exact c4)
    rw [hall] at he
    have ha : AllOk P ops σ all := ⟨hs, he.1, fun j hj => he.2 j (Nat.zero_le _) hj, by rw [← hall]; exact zip_uniq _ _ _, distinct_ok c3⟩
    have hlen : l.length = ops.size := by
      have := Nat.eq_of_beq_eq_true c5
      simpa using this
    have hmem : ∀ s ∈ l, s.idx < ops.size := fun s hs' => by
      rw [← hl] at hs'
      obtain ⟨_, o, ho, _⟩ := plan_mem ha _ _ _ _ s hs'
      exact (Array.getElem?_eq_some_iff.1 ho).1
    have hnd : (l.map (·.idx)).Nodup := by
      have : ∀ (l : List PStep) (n done : Nat) (acts reads : List PStep), planGo all n done acts reads = l → (l.map (·.idx)).Nodup := by
        intro l
        induction l with
        | nil => intro n done acts reads _; simp
        | cons s r ih =>
          intro n done acts reads h
          obtain ⟨m, b, acts', reads', rfl, htook, hr⟩ := plan_cons h
          rw [List.map_cons, List.nodup_cons]
          refine ⟨fun hm => ?_, ih m _ acts' reads' hr.symm⟩
          obtain ⟨s', h1, h2⟩ := List.mem_map.1 hm
          have := (plan_mem ha m _ acts' reads' s' (by rw [← hr]; exact h1)).1
          rw [lor_bit, h2] at this
          simp at this
      exact this l _ _ _ _ hl
    have hfull : ∀ i, i < ops.size → ∃ s ∈ l, s.idx = i := fun i hi => by
      have := nodup_all hnd (fun x hx => by
        obtain ⟨s, h1, h2⟩ := List.mem_map.1 hx
        rw [← h2]; exact hmem s h1) (by rw [List.length_map]; exact hlen) hi
      obtain ⟨s, h1, h2⟩ := List.mem_map.1 this
      exact ⟨s, h1, h2⟩
    have hinv : Inv P ops σ 0 [] l := ⟨fun i hi => .inr (hfull i hi), fun i o h => by simp at h, fun i o h => by simp at h⟩
    refine ⟨ha.ord, ?_, fun i hi => hfull i (hs.lt i hi)⟩
    unfold planOkZ at c1
    cases hgl : l.getLast? with
    | none =>
      have : l = [] := List.getLast?_eq_none_iff.1 hgl
      rw [this]; exact .inl trivial
    | some z =>
      rw [hgl] at c1
      simp only [Bool.and_eq_true] at c1
      have hlz : l = l.dropLast ++ [z] := by
        obtain ⟨ys, hys⟩ := List.getLast?_eq_some_iff.1 hgl
        rw [hys]; simp
      generalize l.dropLast = T at c1 hlz
      obtain ⟨hT, hzz⟩ := c1
      cases hza : z.apart with
      | nil =>
        refine .inl ?_
        have hok := planOk_append hT hza
        rw [← hlz] at hok
        exact plan_fit ha l _ 0 0 [] [] [] [] σ (by rw [hl]; simp) hok rfl (fun j => by simp) (fun _ h => by cases h) (fun _ h => by cases h) (by simpa using hinv)
      | cons p q =>
        rw [hza] at hzz
        simp only [Bool.and_eq_true] at hzz
        obtain ⟨hz, htail⟩ := hzz
        have hzc : 2 < z.op.cls := by
          obtain ⟨⟨n, a, x, ho⟩, _⟩ := lastZ_ok hz
          rw [ho]; exact Nat.lt_succ_self 2
        have hzl : z.idx < ops.size := hmem z (by rw [hlz]; simp)
        have hbz := bitsAt_mem (ha.full z.idx hzl)
        have hL : planGo all ops.toList.length 0 [] [] = T ++ [z] := by rw [hl, hlz]
        obtain ⟨T1, T2, e, k1, k2⟩ := plan_fitZ ha hz hzc hbz T _ 0 [] [] [] σ hL hT (tailOk_ok htail) rfl (fun _ h => by cases h) (by rw [← hlz]; exact hinv)
        obtain ⟨sz, b, acts', reads', _, h2, _⟩ := plan_last ha T _ 0 [] [] hL hzc
        have hzf : z.fast = false := by
          have hne : (apartOf b acts').isEmpty = false := by
            have : z.apart = apartOf b acts' := by rw [h2]
            rw [← this, hza]; rfl
          rw [h2]
          simp only [hne, Bool.and_false]
        exact .inr ⟨T1, T2, z, by rw [hlz, e], hz, hzf, k1, k2⟩

theorem MR.cur {t : List AItem} {c : Ctx} {fr : Frame} {cs : List Frame} {w : World} (h : MR P w0 cs0 E .run t c fr cs w) : ∃ b, Cur P w0 cs0 E b c fr cs w := by
  obtain ⟨b, hb, hf⟩ := h.frs
  exact ⟨b, h.wr, h.gl, hf, hb, h.fn, h.kind, h.round, h.defers, h.mode, h.size⟩

/-- A REGION IS BEGUN -/
theorem region_ok (hs : Sound P w0 cs0 ih) {id : Nat} {ops : Array Oper} {draw : Bool} {k : List AItem} {c : Ctx} {fr : Frame} {cs : List Frame} {w : World} (h : MR P w0 cs0 E .run (.code (.region id ops draw) :: k) c fr cs w) :
    Fin P w0 cs0 (cRegion P ops draw c k ih) fr cs w := by
  obtain ⟨b, hc⟩ := h.cur
  obtain ⟨⟨i, k', ht, hi, hk⟩, htr⟩ := h.rest
  cases hi
  unfold cRegion
  cases draw with
  | false =>
    refine Fin.step (st_region hc.mode ht) ?_
    have hc' := hc.to fr.tmps (.inRegion ops (List.range ops.size) :: k') rfl
    have := xs_seq hs ops k k' ops.size 0 (by omega) E b c c.tm _ cs w hc' (by simp only [List.range_eq_range']) hk htr
    simpa [stepsOf] using this
  | true =>
    have hst := st_regionD (P := P) (cs := cs) (w := w) hc.mode ht
    refine Fin.step hst ?_
    show Fin P w0 cs0 (xs P { ops, draw := true, k, ih } (planD P ops) c.tm c) _ cs _
    rcases planD_cases P ops with ⟨s, h1, h2, h3⟩ | ⟨hb, hplan⟩
    · rw [h3]
      show Fin P w0 cs0 (xCons P { ops, draw := true, k, ih } s [] _ c.tm c) _ cs _
      unfold xCons
      rw [h2]
      show Fin P w0 cs0 (xFast P s [] _ c.tm c { ops, draw := true, k, ih }) _ cs _
      unfold xFast
      rw [h1]
      exact Fin.fail
    · generalize hσ : Region.schedule (P.follows .mixedOrders) ops (w.tape w.drawn (.order fr.fn id)) = σ
      have hsch : Sched ops σ := by rw [← hσ]; exact schedule_sched _ hb _
      obtain ⟨g1, g2, g3⟩ := hplan σ hsch
      have hc' : Cur P w0 cs0 E b c { fr with todo := .inRegion ops σ :: k' } cs { w with drawn := w.drawn + 1 } :=
        ⟨hc.wr.draw _, hc.gl, hc.frs, hc.ble, hc.fn, hc.kind, hc.round, hc.defers, hc.mode, hc.size⟩
      refine xs_draw hs ops k k' _ E b c c.tm _ cs _ σ hc' rfl hk ⟨g1, g2, fun t _ => htr t, fun i hi hp => ?_, fun _ => none, (fun _ _ _ h => by cases h), fun i hi hp => ?_⟩
      · obtain ⟨s, h1, h2⟩ := g3 i hi
        exact absurd h2 (hp s h1)
      · obtain ⟨s, h1, h2⟩ := g3 i hi
        exact absurd h2 (hp s h1)

theorem planS_again {ops : Array Oper} {i : Nat} {o : Oper} : (pstep P ops i o).again = [] := rfl

/-- A VALUE COMES BACK TO A FRAME THAT WAITS -/
theorem finish_ok (hs : Sound P w0 cs0 ih) {H : T AObj} {nx b : Nat} {w : World} (hwr : WR w0 E H nx w) (hgl : ∀ g, g < P.globals.size → ∃ s, E g = some ⟨g, 0, s, undef, noOb, []⟩) (hb : b ≤ nx) {f : AFrame} {fs : List AFrame} {lo : Nat} {fr : Frame} {r : List Frame}
    (hlo : lo ≤ b) (hsr : SR P E H lo b f fr) (hfr : FrsR P cs0 E H lo fs r) {v : V} {x : Value} (hv : VR E v x) : Fin P w0 cs0 (finish P f v fs H nx ih) (fr.finish x) r w := by
  obtain ⟨a1, a2, a3, a4, a5, a6, a7⟩ := hsr
  unfold finish
  cases hm : f.mode with
  | returning => exact Fin.fail
  | panicking _ => exact Fin.fail
  | run =>
    rw [hm] at a5 a7
    simp only at a7 ⊢
    have hcur : Cur P w0 cs0 E lo (ctxOf f fs H nx) fr r w := ⟨hwr, hgl, hfr, Nat.le_trans hlo hb, a1, a2, a3, a4, a5, a6⟩
    split at a7
    · rename_i s rr ops draw k heq
      obtain ⟨is, k', b1, b2, b3⟩ := a7
      rw [heq]
      simp only
      rcases b3 with ⟨rfl, o, i, c1, rfl, c3, rfl, c5⟩ | ⟨rfl, c1, c2, c3, c4, c5, c6⟩
      · have := after_ok (v := v) (x := x) (kk := fun tm => againGo tm H nx (xs P { ops, draw := false, k, ih } rr tm (ctxOf f fs H nx)) (pstep P ops i o).again) hcur b1 c1 c5 hv fun tm' fr' d1 d2 d3 => by
          show Fin P w0 cs0 (xs P { ops, draw := false, k, ih } rr tm' (ctxOf f fs H nx)) fr' r w
          rw [c3]
          have hlt : i < ops.size := (Array.getElem?_eq_some_iff.1 c1).1
          exact xs_seq hs ops k k' _ (i + 1) (by omega) E lo _ tm' fr' r w d1 d2 b2 d3
        exact this
      · have := after_act (rd := false) hcur b1 c1 c2 c4 (fun _ => c5) (c6.up hb) hv (g := xs P { ops, draw := true, k, ih } rr) fun tm' fr' d1 d2 d3 => xs_draw hs ops k k' rr E lo _ tm' fr' r w is d1 d2 b2 d3
        exact this
    · rename_i l k heq
      obtain ⟨p, k', b1, b2, b3, b4⟩ := a7
      rw [heq]
      simp only
      have hfin : fr.finish x = { fr with todo := .endRangeFunc p.blk :: k' } := by unfold Frame.finish; rw [b2]
      rw [hfin]
      have hcur' := hcur.to fr.tmps (.endRangeFunc p.blk :: k') rfl
      exact hs E _ _ _ _ _ _ (hcur'.mr (t := .endRF l :: k) ⟨_, _, rfl, ⟨p, b1, rfl⟩, b3⟩ b4)
    · exact a7.elim
end
end Go.Exo

namespace Go.Exo
section
variable {P : Program} {w0 : Bs} {cs0 : List Frame} {E : Env} {ih : Ih}

/-! ### results -/
theorem cell1_ok {H : T AObj} {nx : Nat} {w : World} (hwr : WR w0 E H nx w) {t : TypeId} {d : TypeDesc} (hu : undT P t = some d) (hd : aggD d = false) {a : V} {A : Value} (ha : VR E a A) {v : V} (h : xLoad1 a H = .val v) :
    ∃ x, (do loadVar t (← asAddr A) : Sem Value).run P w = .ok x w ∧ VR E v x := by
  have hg := xLoad1_ok (P := P) hwr (t := t) (fun w => by rw [aggD_run hu w, hd]) ha
  rw [h] at hg
  obtain ⟨x, h1, h2⟩ := hg
  refine ⟨x, ?_, h2⟩
  cases ha <;> first | exact h1 | (simp only [xLoad1] at h; cases h)
theorem cellN_ok {H : T AObj} {nx : Nat} {w : World} (hwr : WR w0 E H nx w) {t : TypeId} {d : TypeDesc} {i : TypeInfo} (hu : undT P t = some d) (hd : aggD d = true) (hi : P.info? t = some i) {a : V} {A : Value} (ha : VR E a A) {v : V} (h : xLoadN i.size a H = .val v) :
    ∃ x, (do loadVar t (← asAddr A) : Sem Value).run P w = .ok x w ∧ VR E v x := by
  have hg := xLoadN_ok (P := P) hwr (t := t) (fun w => by rw [aggD_run hu w, hd]) hi ha
  rw [h] at hg
  obtain ⟨x, h1, h2⟩ := hg
  refine ⟨x, ?_, h2⟩
  cases ha <;> first | exact h1 | (simp only [xLoadN] at h; cases h)
theorem resK_ok {H : T AObj} {nx : Nat} {w : World} (hwr : WR w0 E H nx w) {tm : T V} {tmps : Array Value} (htr : TR E tm tmps) {g : ResultVar → Sem Value} (hg1 : ∀ t, g (.tmp t) = pure (tmps.getD t undef))
    (hg2 : ∀ a t, g (.cell a t) = (do loadVar t (← asAddr (tmps.getD a undef)))) {sz : ResultVar → Option Nat} (hs1 : ∀ t, sz (.tmp t) = none) (hs2 : ∀ a t, sz (.cell a t) = if isAggT P t then some (sizeT P t) else none) :
    ∀ (rs : List ResultVar) (k : List V → Res) (v : V), resOk P rs = true → resK tm H rs (rs.map sz) k = .val v → ∃ l xs, k l = .val v ∧ VRs E l xs ∧ (rs.mapM g).run P w = .ok xs w
  | [], k, v, _, h => ⟨[], [], h, .nil, by simp⟩
  | .tmp t :: r, k, v, ho, h => by
    simp only [List.map_cons, resK, hs1] at h
    obtain ⟨l, xs, h1, h2, h3⟩ := resK_ok hwr htr hg1 hg2 hs1 hs2 r _ v ho h
    refine ⟨_, _, h1, .cons _ _ _ _ (htr t) h2, ?_⟩
    simp [hg1, h3]
  | .cell a t :: r, k, v, ho, h => by
    obtain ⟨ho1, ho2⟩ := cond_and ho
    cases hty : tyOf P t with
    | none => rw [hty] at ho1; cases ho1
    | some di =>
      obtain ⟨d, i⟩ := di
      obtain ⟨q1, q2, q3, q4⟩ := tyOf_eq hty
      have hagg : isAggT P t = aggD d := by unfold isAggT; rw [q1]
      have hsz : sizeT P t = i.size := by unfold sizeT; rw [q4]
      simp only [List.map_cons, hs2, hagg, hsz] at h
      cases hd : aggD d with
      | false =>
        rw [hd] at h
        simp only [Bool.false_eq_true, if_false, resK] at h
        cases hx : xLoad1 (getU tm a) H with
        | val u =>
          rw [hx] at h
          simp only at h
          obtain ⟨x, g1, g2⟩ := cell1_ok hwr q1 hd (htr a) hx
          obtain ⟨l, xs, h1, h2, h3⟩ := resK_ok hwr htr hg1 hg2 hs1 hs2 r _ v ho2 h
          refine ⟨_, _, h1, .cons _ _ _ _ g2 h2, ?_⟩
          rw [List.mapM_cons, hg2]
          simp only [Sem.run_bind] at g1 ⊢
          rw [g1]
          simp [h3]
        | _ => rw [hx] at h; cases h
      | true =>
        rw [hd] at h
        simp only [if_true, resK] at h
        cases hx : xLoadN i.size (getU tm a) H with
        | val u =>
          rw [hx] at h
          simp only at h
          obtain ⟨x, g1, g2⟩ := cellN_ok hwr q1 hd q3 (htr a) hx
          obtain ⟨l, xs, h1, h2, h3⟩ := resK_ok hwr htr hg1 hg2 hs1 hs2 r _ v ho2 h
          refine ⟨_, _, h1, .cons _ _ _ _ g2 h2, ?_⟩
          rw [List.mapM_cons, hg2]
          simp only [Sem.run_bind] at g1 ⊢
          rw [g1]
          simp [h3]
        | _ => rw [hx] at h; cases h
theorem resV_ok {H : T AObj} {nx : Nat} {w : World} (hwr : WR w0 E H nx w) {tm : T V} {tmps : Array Value} (htr : TR E tm tmps) {f : Nat} {v : V} (h : resV P f tm H = .val v) :
    ∃ fn x, P.funcs[f]? = some fn ∧ (results fn tmps).run P w = .ok x w ∧ VR E v x := by
  unfold resV at h
  cases hf : fnOf P f with
  | none => rw [hf] at h; cases h
  | some a =>
    rw [hf] at h; simp only at h
    have hro := fnOf_resOk hf
    obtain ⟨fn, body, h1, _, _, h4⟩ := fnOf_some hf
    subst h4
    simp only at h hro
    obtain ⟨l, xs, g1, g2, g3⟩ := resK_ok (P := P) hwr htr (g := fun | .tmp t => pure (tmps.getD t undef) | .cell a t => do loadVar t (← asAddr (tmps.getD a undef))) (fun _ => rfl) (fun _ _ => rfl) (fun _ => rfl) (fun _ _ => rfl) fn.results.toList _ v hro h
    have hres : (results fn tmps).run P w = .ok (if h : xs.toArray.size = 1 then xs.toArray[0] else .tuple xs.toArray) w := by
      unfold results
      rw [Array.mapM_eq_mapM_toList]
      simp only [map_eq_pure_bind, bind_assoc, pure_bind, Sem.run_bind]
      refine (congrArg (fun r => Result.andThen r (fun a w' => Sem.run P (pure (if h : a.toArray.size = 1 then a.toArray[0] else Value.tuple a.toArray)) w')) g3).trans ?_
      rfl
    refine ⟨fn, _, h1, hres, ?_⟩
    cases g2 with
    | nil => simp at g1; subst g1; exact .tup _ _ .nil
    | cons a x as xs ha has =>
      cases has with
      | nil => simp at g1; subst g1; simpa using ha
      | cons b y bs ys hb hbs =>
        simp at g1; subst g1
        have : ¬ (x :: y :: ys).toArray.size = 1 := by simp
        rw [dif_neg this]
        exact .tup _ _ (.cons _ _ _ _ ha (.cons _ _ _ _ hb hbs))

/-! ### a value is returned -/
theorem settle_ok {m : AMode} {M : FrameMode} (h : ModeR E m M) (hm : m ≠ .run) : settleA m ≠ .run ∧ ModeR E (settleA m) (settle M) := by
  cases m with
  | run => exact absurd rfl hm
  | returning => cases h; exact ⟨fun e => by simp [settleA] at e, rfl⟩
  | panicking ch =>
    obtain ⟨es, rfl, hch⟩ := h
    cases ch with
    | nil => cases hch; exact ⟨fun e => by simp [settleA] at e, _, rfl, rfl⟩
    | cons vb old =>
      obtain ⟨v, bb⟩ := vb
      obtain ⟨x, t, rfl, hx, hold⟩ := id hch
      cases bb with
      | false => exact ⟨fun e => by simp [settleA] at e, _, rfl, hch⟩
      | true =>
        refine ⟨fun e => by simp [settleA] at e, ?_⟩
        have : ∀ {as : List (V × Bool)} {es : List PanicEntry}, ChR E as es → es.dropWhile (!·.goexit) = [] := by
          intro as
          induction as with
          | nil => intro es h; cases h; rfl
          | cons a as ih =>
            intro es h
            obtain ⟨v, b⟩ := a
            obtain ⟨x, t, rfl, _, h2⟩ := h
            simpa using ih h2
        show settle _ = .returning
        simp only [settle, this hold]
theorem sr_tr {H : T AObj} {lo hi : Nat} {f : AFrame} {fr : Frame} (h : SR P E H lo hi f fr) (hm : f.mode ≠ .run) : TR E f.tmps fr.tmps := by
  have := h.2.2.2.2.2.2
  cases hf : f.mode with
  | run => exact absurd hf hm
  | returning => rw [hf] at this; exact this
  | panicking _ => rw [hf] at this; exact this
theorem mr_of_sr {m : AMode} {M : FrameMode} {t : List AItem} {H : T AObj} {nx b lo : Nat} {w : World} (hwr : WR w0 E H nx w) (hgl : ∀ g, g < P.globals.size → ∃ s, E g = some ⟨g, 0, s, undef, noOb, []⟩) (hb : b ≤ nx) {f : AFrame} {fs : List AFrame} {fr : Frame} {r : List Frame}
    (hlo : lo ≤ b) (hsr : SR P E H lo b f fr) (hfr : FrsR P cs0 E H lo fs r) (hm : ModeR E m M) (hmr : m ≠ .run) (htr : TR E f.tmps fr.tmps ∨ (f.defers = [] ∧ ∃ ch, m = .panicking ch)) :
    MR P w0 cs0 E m t (ctxOf f fs H nx) { fr with mode := M } r w := by
  obtain ⟨a1, a2, a3, a4, a5, a6, a7⟩ := hsr
  refine ⟨hwr, hgl, ⟨lo, Nat.le_trans hlo hb, hfr⟩, a1, a2, a3, a4, hm, a6, ?_⟩
  cases m with
  | run => exact absurd rfl hmr
  | returning =>
    rcases htr with h | ⟨_, ch, h⟩
    · exact h
    · cases h
  | panicking ch =>
    rcases htr with h | ⟨h, _⟩
    · exact .inr h
    · exact .inl h
theorem doRet_ok (hs : Sound P w0 cs0 ih) {c : Ctx} {fr : Frame} {cs : List Frame} {w w' : World} (hwr : WR w0 E c.H c.nx w') (hgl : ∀ g, g < P.globals.size → ∃ s, E g = some ⟨g, 0, s, undef, noOb, []⟩) {b : Nat} (hb : b ≤ c.nx) (hfrs : FrsR P cs0 E c.H b c.cs cs)
    {v : V} {x : Value} (hv : VR E v x) (hN : c.kind = .normal → ∀ f1 r, cs = f1 :: r → Go.step P (lone fr cs w) = .next (lone (f1.finish x) r w'))
    (hD : c.kind = .deferred → ∀ f1 r, cs = f1 :: r → Go.step P (lone fr cs w) = .next (lone { f1 with mode := settle f1.mode } r w')) : Fin P w0 cs0 (doRet P c v ih) fr cs w := by
  unfold doRet
  cases hcc : c.cs with
  | nil => exact Fin.fail
  | cons f fs =>
    rw [hcc] at hfrs
    obtain ⟨lo, f1, r, rfl, hlo, hsr, hfr⟩ := hfrs
    simp only
    cases hk : c.kind with
    | normal => exact Fin.step (hN hk f1 r rfl) (finish_ok hs hwr hgl hb hlo hsr hfr hv)
    | deferred =>
      simp only
      cases hm : f.mode with
      | run => exact Fin.fail
      | returning =>
        have hne : f.mode ≠ .run := by rw [hm]; intro h; cases h
        obtain ⟨s1, s2⟩ := settle_ok hsr.2.2.2.2.1 hne
        rw [hm] at s1 s2
        exact Fin.step (hD hk f1 r rfl) (hs E _ _ _ _ _ _ (mr_of_sr hwr hgl hb hlo hsr hfr s2 s1 (.inl (sr_tr hsr hne))))
      | panicking ch =>
        have hne : f.mode ≠ .run := by rw [hm]; intro h; cases h
        obtain ⟨s1, s2⟩ := settle_ok hsr.2.2.2.2.1 hne
        rw [hm] at s1 s2
        exact Fin.step (hD hk f1 r rfl) (hs E _ _ _ _ _ _ (mr_of_sr hwr hgl hb hlo hsr hfr s2 s1 (.inl (sr_tr hsr hne))))
    | _ => exact Fin.fail

/-- A FRAME IS LEFT -/
theorem leave_ok (hs : Sound P w0 cs0 ih) {b : Nat} {c : Ctx} {fr : Frame} {cs : List Frame} {w : World} (hc : Cur P w0 cs0 E b c fr cs w) (htr : TR E c.tm fr.tmps) {jump : Option Code} (hl : leaving fr.todo = some jump) : Fin P w0 cs0 (leave P jump c ih) fr cs w := by
  unfold leave
  have hround := hc.round
  cases hr : c.round with
  | none =>
    rw [hr] at hround
    change fr.roundOf = none at hround
    simp only
    have key : (jump = none ∨ jump = some .ret) → Fin P w0 cs0 (ih .returning [] c) fr cs w := by
      intro hj
      have ht : ∃ k, fr.todo = [] ∨ fr.todo = .code .ret :: k := by
        unfold leaving at hl
        split at hl
        · rename_i e; exact ⟨[], .inl e⟩
        · rename_i k e; exact ⟨k, .inr e⟩
        · split at hl
          · cases hl; rcases hj with h | h <;> cases h
          · cases hl
        · split at hl
          · cases hl; rcases hj with h | h <;> cases h
          · cases hl
        · cases hl
      obtain ⟨k, ht⟩ := ht
      refine Fin.step (st_ret hc.mode ht hround) ?_
      exact hs E _ _ _ _ _ _ ⟨hc.wr, hc.gl, ⟨b, hc.ble, hc.frs⟩, hc.fn, hc.kind, by rw [hr]; exact hround, hc.defers, rfl, hc.size, htr⟩
    split
    · exact key (.inl rfl)
    · exact key (.inr rfl)
    · exact Fin.fail
  | some l =>
    rw [hr] at hround
    obtain ⟨p, hp, hro⟩ := hround
    simp only
    cases hk : c.kind with
    | normal =>
      cases ho : getH c.H l with
      | loop st pd fn tm sz ps assign body d =>
        simp only [setHO_eq]
        have hobj := hc.wr.objs l p hp
        rw [ho] at hobj
        obtain ⟨tmps, q, h1, h2, h3, h4⟩ := hobj
        have hblk : p.blk < w.heap.size := (hc.wr.own l p hp).1
        generalize hLo : Obj.loop { state := (if jump.isNone then .ready else .done), pending := jump, fn, tmps, params := ps.toArray, assign, body, defers := q.blk } = lo
        have he : (Instr.endRound p.blk jump).run P w = .ok (.bool jump.isNone) { w with heap := w.heap.setIfInBounds p.blk lo } := by
          have hg : (getObj p.blk).run P w = .ok (.loop { state := st, pending := pd, fn, tmps, params := ps.toArray, assign, body, defers := q.blk }) w := by simp only [getObj, Sem.run, h4]
          simp only [Instr.endRound, Instr.getLoop, Sem.run_bind, hg, Result.andThen_ok, Sem.run_pure]
          rw [← hLo]
          simp only [setObj, Sem.run, h4]
          rfl
        have hwr' : WR w0 E (put .no c.H l (.loop (match (generalizing := false) jump with | none => .ready | some _ => .done) jump fn tm sz ps assign body d)) c.nx { w with heap := w.heap.setIfInBounds p.blk lo } := by
          refine hc.wr.upd l p hp _ (by rw [ho]; intro h; cases h) (by rw [ho]; rfl) (by rw [ho]; rfl) (by rw [ho]; rfl) rfl _ lo (by simp) (fun k hk => by
            show (w.heap.setIfInBounds p.blk lo)[k]? = _
            rw [Array.getElem?_setIfInBounds_ne (Ne.symm hk)]) (by
            show (w.heap.setIfInBounds p.blk lo)[p.blk]? = _
            rw [Array.getElem?_setIfInBounds_self_of_lt hblk]) rfl rfl rfl ?_
          refine ⟨tmps, q, h1, h2, h3, ?_⟩
          rw [← hLo]
          cases jump <;> rfl
        have hkb : KeepB b E E c.H (put .no c.H l (.loop (match (generalizing := false) jump with | none => .ready | some _ => .done) jump fn tm sz ps assign body d)) := fun k _ hE _ => ⟨hE, by
          rw [getH_put, if_neg (fun e => by subst e; rw [hp] at hE; cases hE)]⟩
        have hh := doRet_ok hs (c := { c with H := put .no c.H l (.loop (match (generalizing := false) jump with | none => .ready | some _ => .done) jump fn tm sz ps assign body d) }) (fr := fr) (w := w) hwr' hc.gl hc.ble (hc.frs.mono (Env.le.refl E) hkb) (.bool jump.isNone) (fun _ f1 r e => by
          subst e
          exact st_round hc.mode hl hro he (by rw [hc.kind, hk])) (fun h => by
          simp only [hk] at h; cases h)
        simp only [hr, hk] at hh
        exact hh
      | _ => exact Fin.fail
    | _ => exact Fin.fail

/-- A FRAME IS UNWOUND -/
theorem unw_ok (hs : Sound P w0 cs0 ih) {m : AMode} (hm : m ≠ .run) {t : List AItem} {c : Ctx} {fr : Frame} {cs : List Frame} {w : World} (h : MR P w0 cs0 E m t c fr cs w) : Fin P w0 cs0 (unw P m t c ih) fr cs w := by
  have hmode : fr.mode ≠ .run := by
    have := h.mode
    cases m with
    | run => exact absurd rfl hm
    | returning => change fr.mode = _ at this; rw [this]; intro h; cases h
    | panicking ch => obtain ⟨es, h1, _⟩ := this; rw [h1]; intro h; cases h
  have htr : c.ds ≠ [] ∨ m = .returning → TR E c.tm fr.tmps := by
    intro hor
    have := h.rest
    cases m with
    | run => exact absurd rfl hm
    | returning => exact this
    | panicking ch =>
      rcases this with h1 | h1
      · rcases hor with h2 | h2
        · exact absurd h1 h2
        · cases h2
      · exact h1
  obtain ⟨b, hb, hfrs⟩ := h.frs
  have hdf := h.defers
  unfold unw
  cases hds : c.ds with
  | nil =>
    rw [hds] at hdf
    have hd0 : fr.defers = [] := hdf
    simp only
    cases hcc : c.cs with
    | nil =>
      simp only
      intro m' t' c' e
      cases e
      exact ⟨E, fr, cs, w, .refl _ _, h⟩
    | cons f fs =>
      simp only
      cases m with
      | run => exact absurd rfl hm
      | returning =>
        simp only
        cases hr : resV P c.fn c.tm c.H with
        | val v =>
          simp only
          obtain ⟨fn, x, h1, h2, h3⟩ := resV_ok h.wr (htr (.inr rfl)) hr
          have hf : P.funcs[fr.fn]? = some fn := by rw [h.fn]; exact h1
          have hrm : fr.mode = .returning := h.mode
          refine doRet_ok hs h.wr h.gl hb hfrs h3 (fun hk f1 r e => ?_) (fun hk f1 r e => ?_)
          · subst e
            exact st_return hrm hd0 hf h2 (by rw [h.kind, hk])
          · subst e
            exact st_returnD hrm hd0 hf h2 (by rw [h.kind, hk])
        | _ => exact Fin.fail
      | panicking chain =>
        simp only
        refine Fin.cond (fun hc2 => ?_) fun _ => Fin.fail
        simp only [Bool.and_eq_true] at hc2
        obtain ⟨hz, hfo⟩ := hc2
        rw [hcc] at hfrs
        obtain ⟨lo, f1, r, rfl, hlo, hsr, hfr⟩ := hfrs
        obtain ⟨fn, hfn⟩ := Option.isSome_iff_exists.1 hfo
        have hf : P.funcs[fr.fn]? = some fn := by rw [h.fn]; exact funcT_eq P hfn
        obtain ⟨es, hes, hch⟩ := h.mode
        refine Fin.step (st_raise hes hd0 hf) ?_
        have hmode1 := hsr.2.2.2.2.1
        have hraise : f1.raise es = { f1 with mode := raised f1.mode es } := Frame.raise_mode f1 es
        rw [hraise]
        have hmr : raise f.mode chain ≠ .run ∧ ModeR E (raise f.mode chain) (raised f1.mode es) := by
          cases hfm : f.mode with
          | run => rw [hfm] at hmode1; change f1.mode = _ at hmode1; rw [hmode1]; exact ⟨fun e => by simp [raise] at e, _, rfl, hch⟩
          | returning => rw [hfm] at hmode1; change f1.mode = _ at hmode1; rw [hmode1]; exact ⟨fun e => by simp [raise] at e, _, rfl, hch⟩
          | panicking old =>
            rw [hfm] at hmode1
            obtain ⟨es0, h1, h2⟩ := hmode1
            rw [h1]
            exact ⟨fun e => by simp [raise] at e, _, rfl, hch.append h2⟩
        refine hs E _ _ _ _ _ _ (mr_of_sr h.wr h.gl hb hlo hsr hfr hmr.2 hmr.1 ?_)
        have hpan : ∃ ch, raise f.mode chain = .panicking ch := by
          unfold raise; split <;> exact ⟨_, rfl⟩
        cases hfm : f.mode with
        | returning => exact .inl (sr_tr hsr (by rw [hfm]; intro h; cases h))
        | panicking _ => exact .inl (sr_tr hsr (by rw [hfm]; intro h; cases h))
        | run =>
          have h7 := hsr.2.2.2.2.2.2
          rw [hfm] at h7
          simp only at h7
          split at h7
          · rename_i s rr ops draw k heq
            obtain ⟨is, k', b1, b2, b3⟩ := h7
            rcases b3 with ⟨rfl, o, i, c1, rfl, c3, rfl, c5⟩ | ⟨rfl, _⟩
            · exact .inl c5
            · refine .inr ⟨?_, by rw [hfm] at hpan; exact hpan⟩
              unfold rzOk at hz
              rw [hfm, heq] at hz
              cases hfd : f.defers with
              | nil => rfl
              | cons _ _ => rw [hfd] at hz; cases hz
          · obtain ⟨p, k', b1, b2, b3, b4⟩ := h7
            exact .inl b4
          · exact h7.elim
  | cons d ds =>
    have htr' := htr (.inl (by rw [hds]; intro h; cases h))
    rw [hds] at hdf
    obtain ⟨D, rd, hD, hdr, hdrs⟩ := hdf
    cases d with
    | collected l =>
      simp only
      obtain ⟨p, hp, rfl⟩ := hdr
      cases ho : getH c.H l with
      | defd =>
        simp only [setHO_eq]
        have hobj := h.wr.objs l p hp
        rw [ho] at hobj
        change w.heap[p.blk]? = some (.deferred (some [])) at hobj
        have hblk : p.blk < w.heap.size := (h.wr.own l p hp).1
        have he : (Instr.takeDeferred p.blk).run P w = .ok [] { w with heap := w.heap.setIfInBounds p.blk (.deferred none) } := by
          have hg : (getObj p.blk).run P w = .ok (.deferred (some [])) w := by simp only [getObj, Sem.run, hobj]
          simp only [Instr.takeDeferred, Sem.run_bind, hg, Result.andThen_ok]
          simp only [setObj, Sem.run, hobj]
          rfl
        refine Fin.step (st_collected hmode hD he) ?_
        have hwr' : WR w0 E (put .no c.H l .no) c.nx { w with heap := w.heap.setIfInBounds p.blk (.deferred none) } := by
          refine h.wr.upd l p hp _ (by rw [ho]; intro h; cases h) (by rw [ho]; rfl) (by rw [ho]; rfl) (by rw [ho]; rfl) rfl _ (.deferred none) (by simp) (fun k hk => by
            show (w.heap.setIfInBounds p.blk _)[k]? = _
            rw [Array.getElem?_setIfInBounds_ne (Ne.symm hk)]) (by
            show (w.heap.setIfInBounds p.blk _)[p.blk]? = _
            rw [Array.getElem?_setIfInBounds_self_of_lt hblk]) rfl rfl rfl trivial
        have hkb : KeepB b E E c.H (put .no c.H l .no) := fun k _ hE _ => ⟨hE, by
          rw [getH_put, if_neg (fun e => by subst e; rw [hp] at hE; cases hE)]⟩
        refine hs E _ _ _ _ _ _ ⟨hwr', h.gl, ⟨b, hb, hfrs.mono (Env.le.refl E) hkb⟩, h.fn, h.kind, h.round, hdrs, h.mode, h.size, ?_⟩
        cases m with
        | run => exact absurd rfl hm
        | returning => exact htr'
        | panicking _ => exact .inr htr'
      | _ => exact Fin.fail
    | call fn captured args =>
      obtain ⟨fn', cs', xs, hfn, hcap, hargs, rfl⟩ := hdr
      cases fn with
      | func g =>
        simp only [FnR] at hfn
        subst hfn
        simp only
        cases hfo : fnOf P g with
        | none => unfold enterK; rw [hfo]; exact Fin.fail
        | some a =>
          have hinv : (invoke (.fn (.func g) cs'.toArray) xs.toArray).run P w = .ok (.enter g (xs ++ cs').toArray) w := by
            have := run_callFunc_enter hfo (xs.toArray ++ cs'.toArray) w
            simp only [invoke]
            rw [this]; simp
          refine Fin.step (step_defer hmode hD rfl hinv) ?_
          have hsr : SR P E c.H b c.nx { fn := c.fn, tmps := c.tm, size := c.sz, todo := t, defers := ds, mode := m, kind := c.kind, round := c.round } { fr with defers := rd } := by
            refine ⟨h.fn, h.kind, h.round, hdrs, h.mode, h.size, ?_⟩
            cases m with
            | run => exact absurd rfl hm
            | returning => exact htr'
            | panicking _ => exact htr'
          exact enter_ok hs h.wr h.gl (afs := _ :: c.cs) (frs := _ :: cs) ⟨b, _, cs, rfl, hb, hsr, hfrs⟩ (hargs.append hcap) .deferred
      | _ => exact Fin.fail
end
end Go.Exo

namespace Go.Exo
section
variable {P : Program} {w0 : Bs} {cs0 : List Frame} {E : Env} {ih : Ih}

theorem exit_ok {id : Nat} : ∀ {k : List AItem} {t : List Item}, TodoR E k t → (∀ k1, exitA id k = some k1 → ∃ t1, exitTo id t = some t1 ∧ TodoR E k1 t1) ∧ (exitA id k = none → haltIn k = false → exitTo id t = none)
  | [], t, h => by cases h; exact ⟨(fun _ e => by cases e), fun _ _ => rfl⟩
  | a :: k, t, ht => by
    by_cases hh : ∃ l, a = .halt l
    · obtain ⟨l, rfl⟩ := hh
      exact ⟨(fun _ e => by cases e), fun _ e => by cases e⟩
    have ht' : ∃ i r, t = i :: r ∧ ItemR E a i ∧ TodoR E k r := by
      cases a <;> first | exact ht | exact absurd ⟨_, rfl⟩ hh
    obtain ⟨i, r, e, hi, hr⟩ := ht'
    subst e
    have ih := exit_ok (id := id) hr
    cases a with
    | halt l => exact absurd ⟨_, rfl⟩ hh
    | inBlock j =>
      cases hi
      simp only [exitA, exitTo, haltIn]
      cases hb : Nat.beq j id with
      | true =>
        rw [Nat.beq_eq] at hb; subst hb
        simp only [beq_self_eq_true, if_true, cond_true]
        exact ⟨fun k1 e => by cases e; exact ⟨r, rfl, hr⟩, fun e => by cases e⟩
      | false =>
        have : (j == id) = false := by
          rw [beq_eq_false_iff_ne]; intro e; subst e; simp at hb
        simp only [this, cond_false, Bool.false_eq_true, if_false]
        exact ih
    | steps _ _ _ => exact hi.elim
    | call _ _ => exact hi.elim
    | inRF l => obtain ⟨p, _, rfl⟩ := hi; exact ih
    | endRF l => obtain ⟨p, _, rfl⟩ := hi; exact ih
    | _ => cases hi; exact ih
theorem goto_ok {l : Nat} : ∀ {k : List AItem} {t : List Item}, TodoR E k t → (∀ k1, gotoA l k = some k1 → ∃ t1, gotoIn l t = some t1 ∧ TodoR E k1 t1) ∧ (gotoA l k = none → haltIn k = false → gotoIn l t = none)
  | [], t, h => by cases h; exact ⟨(fun _ e => by cases e), fun _ _ => rfl⟩
  | a :: k, t, ht => by
    by_cases hh : ∃ l, a = .halt l
    · obtain ⟨l, rfl⟩ := hh
      exact ⟨(fun _ e => by cases e), fun _ e => by cases e⟩
    have ht' : ∃ i r, t = i :: r ∧ ItemR E a i ∧ TodoR E k r := by
      cases a <;> first | exact ht | exact absurd ⟨_, rfl⟩ hh
    obtain ⟨i, r, e, hi, hr⟩ := ht'
    subst e
    have ih := goto_ok (l := l) hr
    cases a with
    | halt l => exact absurd ⟨_, rfl⟩ hh
    | inScope body =>
      cases hi
      simp only [gotoA, gotoIn, haltIn]
      cases findLabel body l with
      | none => exact ih
      | some rest => exact ⟨fun k1 e => by cases e; exact ⟨_, rfl, _, _, rfl, rfl, _, _, rfl, rfl, hr⟩, fun e => by cases e⟩
    | steps _ _ _ => exact hi.elim
    | call _ _ => exact hi.elim
    | inRF l => obtain ⟨p, _, rfl⟩ := hi; exact ih
    | endRF l => obtain ⟨p, _, rfl⟩ := hi; exact ih
    | _ => cases hi; exact ih

theorem ofVal_bool : ∀ (n : Nat) (v : Value) (t : Bool), ofVal n v = .bool t → v = .bool t := by
  intro n v t h
  unfold ofVal at h
  split at h <;> first | (simp at h; done) | skip
  cases h
  rfl
theorem ofVal_func : ∀ (n : Nat) (v : Value) (fn : Fn) (a b : List V), ofVal n v = .func fn a b → ∃ f, v = .func (.func f) #[] #[] ∧ fn = .func f ∧ a = [] ∧ b = [] := by
  intro n v fn a b h
  unfold ofVal at h
  split at h <;> first | (simp at h; done) | skip
  cases h
  exact ⟨_, rfl, rfl, rfl, rfl⟩
theorem ev_bool {tm : T V} {fr : Frame} (htr : TR E tm fr.tmps) {x : Operand} {t : Bool} (h : (compO x).ev tm = .bool t) : fr.eval x = .bool t := by
  cases x with
  | tmp i =>
    have := htr i
    change getU tm i = _ at h
    rw [h] at this
    show fr.tmps.getD i undef = _
    generalize fr.tmps.getD i undef = y at this
    cases this; rfl
  | const v => exact ofVal_bool 8 v t h
  | global g => cases h
  | func f => cases h
theorem ev_func {tm : T V} {fr : Frame} (htr : TR E tm fr.tmps) {x : Operand} {fn : Fn} {a b : List V} (h : (compO x).ev tm = .func fn a b) : VR E (.func fn a b) (fr.eval x) := by
  cases x with
  | tmp i =>
    have := htr i
    change getU tm i = _ at h
    rw [h] at this
    exact this
  | const v =>
    obtain ⟨f, rfl, rfl, rfl, rfl⟩ := ofVal_func 8 v fn a b h
    exact .func (.func f) (.func f) [] [] [] [] rfl .nil .nil
  | global g => cases h
  | func f =>
    cases h
    exact .func (.func f) (.func f) [] [] [] [] rfl .nil .nil

/-- a step that only turns what is to be done -/
theorem go_ok (hs : Sound P w0 cs0 ih) {t t1 : List AItem} {c : Ctx} {fr : Frame} {cs : List Frame} {w : World} {todo : List Item} (h : MR P w0 cs0 E .run t c fr cs w) (htr : TR E c.tm fr.tmps) (ht : TodoR E t1 todo)
    (hst : Go.step P (lone fr cs w) = .next (lone { fr with todo := todo } cs w)) : Fin P w0 cs0 (ih .run t1 c) fr cs w := by
  obtain ⟨b, hc⟩ := h.cur
  exact Fin.step hst (hs E _ _ _ _ _ _ ((hc.to fr.tmps todo rfl).mr ht htr))

theorem rangeFunc_ok (hs : Sound P w0 cs0 ih) {f : Operand} {ps : Array Tmp} {a b : Code} {k : List AItem} {c : Ctx} {fr : Frame} {cs : List Frame} {w : World} (h : MR P w0 cs0 E .run (.code (.rangeFunc f ps a b) :: k) c fr cs w) :
    Fin P w0 cs0 (cRF P f ps a b c k ih) fr cs w := by
  obtain ⟨bb, hc⟩ := h.cur
  obtain ⟨⟨i, k', ht, hi, hk⟩, htr⟩ := h.rest
  cases hi
  -- the loop is made at nx, its deferred calls lie at d
  have main : ∀ (E1 : Env) (H1 : T AObj) (nx1 d : Nat) (q : Pl) (mark : List ADef) (mark' : List Deferred) (w1 : World) (l1 : Nat), E.le E1 → KeepB bb E E1 c.H H1 → c.nx ≤ nx1 → WR w0 E1 H1 nx1 w1 → E1 d = some q → DRs E1 mark mark' →
      l1 = w1.heap.size →
      (Instr.enterLoop fr.fn fr.tmps ps a b fr.roundOf).run P w = .ok (l1, mark') { w1 with heap := w1.heap.push (.loop { state := .ready, pending := none, fn := fr.fn, tmps := fr.tmps, params := ps, assign := a, body := b, defers := q.blk }) } →
      Fin P w0 cs0 (rfK P f ps a b k c ih nx1 d mark H1) fr cs w := by
    intro E1 H1 nx1 d q mark mark' w1 l1 hE1 hkb hn hwr1 hq hmark hl1 he
    unfold rfK
    cases hev : AO.ev (compO f) c.tm with
    | func fn first captured =>
      cases fn with
      | func g =>
        simp only [setHO_eq]
        have hvf := ev_func htr hev
        generalize hF : fr.eval f = F at hvf
        cases hvf
        rename_i fn' fs cs2 hfn h1 h2
        simp only [FnR] at hfn
        subst hfn
        have hfs := hE1
        have hdE : d ≠ nx1 := fun e => by
          have := (hwr1.fresh nx1 (Nat.le_refl _)).1
          rw [← e, hq] at this; cases this
        have hwr2 := hwr1.new (.loop { state := .ready, pending := none, fn := fr.fn, tmps := fr.tmps, params := ps, assign := a, body := b, defers := q.blk })
          (.loop .ready none c.fn c.tm c.sz ps.toList a b d) 0 w1.drawn rfl rfl ⟨fr.tmps, q, by rw [Env.set_other _ _ _ _ hdE]; exact hq, (htr.mono hE1).mono (Env.le_set _ (hwr1.fresh nx1 (Nat.le_refl _)).1), hc.size, by rw [hc.fn]⟩
        have hle2 : E1.le (E1.set nx1 ⟨w1.heap.size, 0, 0, undef, noOb, []⟩) := Env.le_set _ (hwr1.fresh nx1 (Nat.le_refl _)).1
        have hself : (E1.set nx1 ⟨w1.heap.size, 0, 0, undef, noOb, []⟩) nx1 = some ⟨w1.heap.size, 0, 0, undef, noOb, []⟩ := Env.set_self _ _ _
        generalize hE2 : E1.set nx1 ⟨w1.heap.size, 0, 0, undef, noOb, []⟩ = E2 at hwr2 hle2 hself
        have hall := hE1.trans hle2
        have hkb2 : KeepB bb E E2 c.H (put .no H1 nx1 (.loop .ready none c.fn c.tm c.sz ps.toList a b d)) := by
          intro l hl hEl hcl
          have hlt : l < nx1 := by have := hc.ble; omega
          obtain ⟨g1, g2⟩ := hkb l hl hEl hcl
          refine ⟨by rw [← hE2, Env.set_other _ _ _ _ (by omega)]; exact g1, ?_⟩
          rw [getH_put, if_neg (by omega)]; exact g2
        cases hfo : fnOf P g with
        | none => unfold enterK; rw [hfo]; exact Fin.fail
        | some af =>
          have hinv : ∀ w', (do let d ← Deferred.ofValue (fr.eval f) #[.func (.yield l1) #[] #[]]; invoke d.target d.args : Sem Next).run P w' = .ok (.enter g (fs ++ (.func (.yield l1) #[] #[] :: cs2)).toArray) w' := by
            intro w'
            rw [hF]
            have := run_callFunc_enter hfo (fs.toArray ++ #[.func (.yield l1) #[] #[]] ++ cs2.toArray) w'
            simp only [Deferred.ofValue, Sem.run_bind, Sem.run_pure, Result.andThen_ok, invoke]
            rw [this]; simp
          refine Fin.step (st_rangeFunc hc.mode ht he (hinv _)) ?_
          subst hl1
          have hargs : VRs E2 (first ++ (.func (.yield nx1) [] [] :: captured)) (fs ++ (.func (.yield w1.heap.size) #[] #[] :: cs2)) :=
            (VRs.mono hall h1).append (.cons _ _ _ _ (.func _ _ [] [] [] [] ⟨_, hself, rfl⟩ .nil .nil) (VRs.mono hall h2))
          have hdrs : ∀ {as bs : List ADef} {xs ys : List Deferred}, DRs E2 as xs → DRs E2 bs ys → DRs E2 (as ++ bs) (xs ++ ys) := by
            intro as
            induction as with
            | nil => intro bs xs ys h1 h2; cases h1; exact h2
            | cons a as ih => intro bs xs ys h1 h2; obtain ⟨d, r, rfl, g1, g2⟩ := h1; exact ⟨d, _, rfl, g1, ih g2 h2⟩
          have hsr : SR P E2 (put .no H1 nx1 (.loop .ready none c.fn c.tm c.sz ps.toList a b d)) bb (nx1 + 1) { fn := c.fn, tmps := c.tm, size := c.sz, todo := .inRF nx1 :: k, defers := mark ++ c.ds, mode := .run, kind := c.kind, round := c.round }
              { fr with todo := .inRangeFunc w1.heap.size :: k', defers := mark' ++ fr.defers } :=
            ⟨hc.fn, hc.kind, hc.round.mono hall, hdrs (hmark.mono hle2) (hc.defers.mono hall), hc.mode, hc.size, ⟨_, k', hself, rfl, hk.mono hall, htr.mono hall⟩⟩
          have hgl2 : ∀ g, g < P.globals.size → ∃ s, E2 g = some ⟨g, 0, s, undef, noOb, []⟩ := fun g hg => (hc.gl g hg).imp fun s hs => hall _ _ hs
          exact enter_ok hs hwr2 hgl2 (afs := _ :: c.cs) (frs := _ :: cs) ⟨bb, _, cs, rfl, by have := hc.ble; omega, hsr, hc.frs.mono hall hkb2⟩ hargs .normal
      | _ => exact Fin.fail
    | _ => exact Fin.fail
  unfold cRF
  have hround := hc.round
  cases hr : c.round with
  | none =>
    rw [hr] at hround
    change fr.roundOf = none at hround
    simp only [setHO_eq]
    have hwr1 := hc.wr.new (.deferred (some [])) .defd 0 w.drawn rfl rfl rfl
    have hn := (hc.wr.fresh c.nx (Nat.le_refl _)).1
    refine main _ _ (c.nx + 1) c.nx ⟨w.heap.size, 0, 0, undef, noOb, []⟩ [.collected c.nx] [{ target := .collected w.heap.size, args := #[] }] _ _ (Env.le_set _ hn) (fun l hl hEl hcl => ?_) (Nat.le_succ _) hwr1 (Env.set_self _ _ _) ⟨_, _, rfl, ⟨_, Env.set_self _ _ _, rfl⟩, rfl⟩ rfl ?_
    · have hlt : l < c.nx := by have := hc.ble; omega
      exact ⟨by rw [Env.set_other _ _ _ _ (by omega)]; exact hEl, by rw [getH_put, if_neg (by omega)]⟩
    · rw [hround]
      simp only [Instr.enterLoop, Sem.run_bind, run_newObj, Result.andThen_ok, Sem.run_pure]
  | some l =>
    rw [hr] at hround
    obtain ⟨p, hp, hro⟩ := hround
    simp only
    cases ho : getH c.H l with
    | loop st pd fn tm sz pps assign body d =>
      simp only
      have hobj := hc.wr.objs l p hp
      rw [ho] at hobj
      obtain ⟨tmps, q, h1, h2, h3, h4⟩ := hobj
      refine main E c.H c.nx d q [] [] w _ (Env.le.refl E) (fun _ _ h _ => ⟨h, rfl⟩) (Nat.le_refl _) hc.wr h1 rfl rfl ?_
      rw [hro]
      have hg : (getObj p.blk).run P w = .ok (.loop { state := st, pending := pd, fn := fn, tmps, params := pps.toArray, assign := assign, body := body, defers := q.blk }) w := by simp only [getObj, Sem.run, h4]
      simp only [Instr.enterLoop, Instr.getLoop, Sem.run_bind, hg, run_newObj, Result.andThen_ok, Sem.run_pure]
    | _ => exact Fin.fail

theorem runCode_ok (hs : Sound P w0 cs0 ih) {code : Code} {k : List AItem} {c : Ctx} {fr : Frame} {cs : List Frame} {w : World} (h : MR P w0 cs0 E .run (.code code :: k) c fr cs w) : Fin P w0 cs0 (runCode P code c k ih) fr cs w := by
  obtain ⟨b, hc⟩ := h.cur
  obtain ⟨⟨i, k', ht, hi, hk⟩, htr⟩ := id h.rest
  cases hi
  cases code with
  | skip => exact go_ok hs h htr hk (st_skip hc.mode ht)
  | region id ops draw => exact region_ok hs h
  | seq a b => exact go_ok hs h htr (t1 := .code a :: .code b :: k) ⟨_, _, rfl, rfl, _, _, rfl, rfl, hk⟩ (st_seq hc.mode ht)
  | cond x a b =>
    show Fin P w0 cs0 (cCond x a b c k ih) fr cs w
    unfold cCond
    cases hev : AO.ev (compO x) c.tm with
    | bool t =>
      simp only
      refine go_ok hs h htr (t1 := .code (cond t a b) :: k) (todo := .code (if t then a else b) :: k') ⟨_, _, rfl, ?_, hk⟩ (st_cond hc.mode ht (ev_bool htr hev))
      cases t <;> rfl
    | _ => exact Fin.fail
  | block id b => exact go_ok hs h htr (t1 := .code b :: .inBlock id :: k) ⟨_, _, rfl, rfl, _, _, rfl, rfl, hk⟩ (st_block hc.mode ht)
  | loop b => exact go_ok hs h htr (t1 := .code b :: .inLoop b :: k) ⟨_, _, rfl, rfl, _, _, rfl, rfl, hk⟩ (st_loop hc.mode ht)
  | rangeFunc f ps a b => exact rangeFunc_ok hs h
  | exit id =>
    show Fin P w0 cs0 (cExit P id c k ih) fr cs w
    unfold cExit
    obtain ⟨h1, h2⟩ := exit_ok (id := id) hk
    cases he : exitA id k with
    | some k1 =>
      obtain ⟨t1, g1, g2⟩ := h1 k1 he
      exact go_ok hs h htr g2 (st_exit hc.mode ht g1)
    | none =>
      simp only
      refine Fin.cond (fun _ => Fin.fail) fun hh => ?_
      exact leave_ok hs hc htr (by unfold leaving; rw [ht]; simp only [h2 he hh])
  | scope b => exact go_ok hs h htr (t1 := .code b :: .inScope b :: k) ⟨_, _, rfl, rfl, _, _, rfl, rfl, hk⟩ (st_scope hc.mode ht)
  | label l => exact go_ok hs h htr hk (st_label hc.mode ht)
  | goto l =>
    show Fin P w0 cs0 (cGoto P l c k ih) fr cs w
    unfold cGoto
    obtain ⟨h1, h2⟩ := goto_ok (l := l) hk
    cases he : gotoA l k with
    | some k1 =>
      obtain ⟨t1, g1, g2⟩ := h1 k1 he
      exact go_ok hs h htr g2 (st_goto hc.mode ht g1)
    | none =>
      simp only
      refine Fin.cond (fun _ => Fin.fail) fun hh => ?_
      exact leave_ok hs hc htr (by unfold leaving; rw [ht]; simp only [h2 he hh])
  | ret => exact leave_ok hs hc htr (by unfold leaving; rw [ht])
  | _ => exact Fin.fail

/-- a loop's row turns -/
theorem loop_upd {b : Nat} {c : Ctx} {fr : Frame} {cs : List Frame} {w : World} (hc : Cur P w0 cs0 E b c fr cs w) {l : Nat} {p : Pl} (hp : E l = some p) {st : LoopState} {pd : Option Code} {fn : Nat} {tm : T V} {sz : Nat} {ps : List Nat} {assign body : Code} {d : Nat}
    (ho : getH c.H l = .loop st pd fn tm sz ps assign body d) (st' : LoopState) :
    ∃ r : Loop, (getObj p.blk).run P w = .ok (.loop r) w ∧ r.state = st ∧ r.pending = pd ∧ ∃ w', (setObj p.blk (.loop { r with state := st' })).run P w = .ok () w' ∧ Cur P w0 cs0 E b { c with H := put .no c.H l (.loop st' pd fn tm sz ps assign body d) } fr cs w' := by
  have hobj := hc.wr.objs l p hp
  rw [ho] at hobj
  obtain ⟨tmps, q, h1, h2, h3, h4⟩ := hobj
  have hblk : p.blk < w.heap.size := (hc.wr.own l p hp).1
  refine ⟨{ state := st, pending := pd, fn := fn, tmps := tmps, params := ps.toArray, assign := assign, body := body, defers := q.blk }, by simp only [getObj, Sem.run, h4], rfl, rfl, _, by simp only [setObj, Sem.run, h4]; rfl, ?_⟩
  have hwr' : WR w0 E (put .no c.H l (.loop st' pd fn tm sz ps assign body d)) c.nx { w with heap := w.heap.setIfInBounds p.blk (.loop { state := st', pending := pd, fn, tmps, params := ps.toArray, assign, body, defers := q.blk }) } := by
    refine hc.wr.upd l p hp _ (by rw [ho]; intro h; cases h) (by rw [ho]; rfl) (by rw [ho]; rfl) (by rw [ho]; rfl) rfl _ _ (by simp) (fun k hk => by
      show (w.heap.setIfInBounds p.blk _)[k]? = _
      rw [Array.getElem?_setIfInBounds_ne (Ne.symm hk)]) (by
      show (w.heap.setIfInBounds p.blk _)[p.blk]? = _
      rw [Array.getElem?_setIfInBounds_self_of_lt hblk]) rfl rfl rfl ?_
    exact ⟨tmps, q, h1, h2, h3, rfl⟩
  have hkb : KeepB b E E c.H (put .no c.H l (.loop st' pd fn tm sz ps assign body d)) := fun k _ hE _ => ⟨hE, by
    rw [getH_put, if_neg (fun e => by subst e; rw [hp] at hE; cases hE)]⟩
  exact hc.mono (Env.le.refl E) hkb (Nat.le_refl _) hwr'

theorem panV_none {v : V} {x : Value} (h : VR E v x) : panV v = none := by
  unfold panV
  split
  · cases h with
    | tup _ _ h1 => cases h1 with | cons _ _ _ _ h2 _ => cases h2
  · rfl
/-- what becomes of a call that a hook answers -/
def HookPost (w0 : Bs) (E : Env) (H : T AObj) (nx : Nat) (v : V) (H' : T AObj) (nx' : Nat) (e : Ending) (w' : World) : Prop :=
  match panV v with
  | none => ∃ x E', e = .returned x ∧ E.le E' ∧ VR E' v x ∧ WR w0 E' H' nx' w' ∧ nx ≤ nx' ∧ Keep E E' H H' nx
  | some u => ∃ x E', e = .panicked [{ v := x, recovered := false }] ∧ E.le E' ∧ VR E' u x ∧ WR w0 E' H' nx' w' ∧ nx ≤ nx' ∧ Keep E E' H H' nx
theorem HookPost.ret {w0 : Bs} {E : Env} {H : T AObj} {nx : Nat} {v : V} {H' : T AObj} {nx' : Nat} {e : Ending} {w' : World}
    (h : ∃ x E', e = .returned x ∧ E.le E' ∧ VR E' v x ∧ WR w0 E' H' nx' w' ∧ nx ≤ nx' ∧ Keep E E' H H' nx) : HookPost w0 E H nx v H' nx' e w' := by
  obtain ⟨x, E', h1, h2, h3, h4⟩ := h
  unfold HookPost
  rw [panV_none h3]
  exact ⟨x, E', h1, h2, h3, h4⟩
theorem HookPost.pan {w0 : Bs} {E : Env} {H : T AObj} {nx : Nat} {u : V} {H' : T AObj} {nx' : Nat} {e : Ending} {w' : World}
    (h : ∃ x E', e = .panicked [{ v := x, recovered := false }] ∧ E.le E' ∧ VR E' u x ∧ WR w0 E' H' nx' w' ∧ nx ≤ nx' ∧ Keep E E' H H' nx) : HookPost w0 E H nx (.tup [.bad, u]) H' nx' e w' := h
/-- what a hook tells is so -/
def HookOk (P : Program) (w0 : Bs) (hk : Hook) : Prop :=
  ∀ E H nx w f args xs v H' nx', WR w0 E H nx w → (∀ g, g < P.globals.size → ∃ s, E g = some ⟨g, 0, s, undef, noOb, []⟩) → VRs E args xs → hk f args H nx = some (v, H', nx') →
    Calls P f xs.toArray w (HookPost w0 E H nx v H' nx')
/-- a call ends in a panic: the frame is left -/
theorem iPan_ok (hs : Sound P w0 cs0 ih) {c : Ctx} {fr : Frame} {cs : List Frame} {w w' : World} (hwr : WR w0 E c.H c.nx w') (hgl : ∀ g, g < P.globals.size → ∃ s, E g = some ⟨g, 0, s, undef, noOb, []⟩) {b : Nat} (hb : b ≤ c.nx) (hfrs : FrsR P cs0 E c.H b c.cs cs)
    {u : V} {x : Value} (hv : VR E u x) (hst : ∀ f1 r, cs = f1 :: r → Go.step P (lone fr cs w) = .next (lone (f1.raise [{ v := x, recovered := false }]) r w')) : Fin P w0 cs0 (iPan P c u ih) fr cs w := by
  unfold iPan
  cases hcc : c.cs with
  | nil => exact Fin.fail
  | cons f fs =>
    rw [hcc] at hfrs
    obtain ⟨lo, f1, r, rfl, hlo, hsr, hfr⟩ := hfrs
    simp only
    refine Fin.cond (fun hc2 => ?_) fun _ => Fin.fail
    simp only [Bool.and_eq_true] at hc2
    obtain ⟨hz, hfo⟩ := hc2
    have hch : ChR E [(u, false)] [{ v := x, recovered := false }] := ⟨x, [], rfl, hv, rfl⟩
    refine Fin.step (hst f1 r rfl) ?_
    have hmode1 := hsr.2.2.2.2.1
    have hraise : f1.raise [{ v := x, recovered := false }] = { f1 with mode := raised f1.mode [{ v := x, recovered := false }] } := Frame.raise_mode f1 _
    rw [hraise]
    have hmr : raise f.mode [(u, false)] ≠ .run ∧ ModeR E (raise f.mode [(u, false)]) (raised f1.mode [{ v := x, recovered := false }]) := by
      cases hfm : f.mode with
      | run => rw [hfm] at hmode1; change f1.mode = _ at hmode1; rw [hmode1]; exact ⟨fun e => by simp [raise] at e, _, rfl, hch⟩
      | returning => rw [hfm] at hmode1; change f1.mode = _ at hmode1; rw [hmode1]; exact ⟨fun e => by simp [raise] at e, _, rfl, hch⟩
      | panicking old =>
        rw [hfm] at hmode1
        obtain ⟨es0, h1, h2⟩ := hmode1
        rw [h1]
        exact ⟨fun e => by simp [raise] at e, _, rfl, hch.append h2⟩
    refine hs E _ _ _ _ _ _ (mr_of_sr hwr hgl hb hlo hsr hfr hmr.2 hmr.1 ?_)
    have hpan : ∃ ch, raise f.mode [(u, false)] = .panicking ch := by
      unfold raise; split <;> exact ⟨_, rfl⟩
    cases hfm : f.mode with
    | returning => exact .inl (sr_tr hsr (by rw [hfm]; intro h; cases h))
    | panicking _ => exact .inl (sr_tr hsr (by rw [hfm]; intro h; cases h))
    | run =>
      have h7 := hsr.2.2.2.2.2.2
      rw [hfm] at h7
      simp only at h7
      split at h7
      · rename_i s rr ops draw k heq
        obtain ⟨is, k', b1, b2, b3⟩ := h7
        rcases b3 with ⟨rfl, o, i, c1, rfl, c3, rfl, c5⟩ | ⟨rfl, _⟩
        · exact .inl c5
        · refine .inr ⟨?_, by rw [hfm] at hpan; exact hpan⟩
          unfold rzOk at hz
          rw [hfm, heq] at hz
          cases hfd : f.defers with
          | nil => rfl
          | cons _ _ => rw [hfd] at hz; cases hz
      · obtain ⟨p, k', b1, b2, b3, b4⟩ := h7
        exact .inl b4
      · exact h7.elim
theorem topItem_ok {hk : Hook} (hok : HookOk P w0 hk) (hs : Sound P w0 cs0 ih) {it : AItem} {k : List AItem} {c : Ctx} {fr : Frame} {cs : List Frame} {w : World} (h : MR P w0 cs0 E .run (it :: k) c fr cs w) : Fin P w0 cs0 (topItem P hk it c k ih) fr cs w := by
  obtain ⟨b, hc⟩ := h.cur
  have hrest := h.rest
  by_cases hcall : ∃ f args, it = .call f args
  · obtain ⟨f, args, rfl⟩ := hcall
    obtain ⟨g1, g2, xs, g3, g4⟩ := hrest
    show Fin P w0 cs0 (iCall P hk f args c k ih) fr cs w
    unfold iCall
    cases hh : hk f args c.H c.nx with
    | none => exact hs E _ _ _ _ _ _ ⟨hc.wr, hc.gl, ⟨b, hc.ble, hc.frs⟩, hc.fn, hc.kind, hc.round, hc.defers, hc.mode, hc.size, RunR.of g1 g2⟩
    | some r =>
      obtain ⟨v, H', nx'⟩ := r
      simp only
      obtain ⟨e, w', fr', hpost, hcomes, hfn, hleav⟩ := hok E c.H c.nx w f args xs v H' nx' hc.wr hc.gl g3 hh cs
      subst g4
      unfold HookPost at hpost
      cases hpv : panV v with
      | none =>
        rw [hpv] at hpost
        obtain ⟨x, E', he, a1, a2, a3, a4, a5⟩ := hpost
        subst he
        have hfrs := hc.frs.mono a1 (KeepB.le (a5 : KeepB c.nx E E' c.H H') hc.ble)
        refine Fin.steps (hcomes : Steps P _ _) ?_
        have hkind : c.kind = .normal := by rw [← hc.kind]; rfl
        exact doRet_ok hs (c := { c with H := H', nx := nx' }) a3 (fun g hg => (hc.gl g hg).imp fun s hs => a1 _ _ hs) (Nat.le_trans hc.ble a4) hfrs a2 (fun _ f1 r e => by
          subst e; exact step_leave_returned hleav) (fun h2 => by
          have h2' : c.kind = .deferred := h2
          rw [hkind] at h2'; cases h2')
      | some u =>
        rw [hpv] at hpost
        obtain ⟨x, E', he, a1, a2, a3, a4, a5⟩ := hpost
        subst he
        have hfrs := hc.frs.mono a1 (KeepB.le (a5 : KeepB c.nx E E' c.H H') hc.ble)
        refine Fin.steps (hcomes : Steps P _ _) ?_
        exact iPan_ok hs (c := { c with H := H', nx := nx' }) a3 (fun g hg => (hc.gl g hg).imp fun s hs => a1 _ _ hs) (Nat.le_trans hc.ble a4) hfrs a2 (fun f1 r e => by
          subst e; exact step_leave_panicked hleav)
  have hrun : TodoR E (it :: k) fr.todo ∧ TR E c.tm fr.tmps := by
    cases it <;> first | exact hrest | exact absurd ⟨_, _, rfl⟩ hcall
  by_cases hhalt : ∃ l, it = .halt l
  · obtain ⟨l, rfl⟩ := hhalt
    show Fin P w0 cs0 (.st .run (.halt l :: k) c) fr cs w
    intro m' t' c' e
    cases e
    exact ⟨E, fr, cs, w, .refl _ _, h⟩
  have hrun2 : ∃ i k', fr.todo = i :: k' ∧ ItemR E it i ∧ TodoR E k k' := by
    have := hrun.1
    cases it <;> first | exact this | exact absurd ⟨_, rfl⟩ hhalt
  have htr := hrun.2
  obtain ⟨i, k', ht, hi, hk1⟩ := hrun2
  cases it with
  | call f args => exact absurd ⟨f, args, rfl⟩ hcall
  | halt l => exact absurd ⟨l, rfl⟩ hhalt
  | code code => exact runCode_ok hs h
  | inBlock id => cases hi; exact go_ok hs h htr hk1 (st_inBlock hc.mode ht)
  | inLoop b => cases hi; exact go_ok hs h htr (t1 := .code b :: .inLoop b :: k) ⟨_, _, rfl, rfl, _, _, rfl, rfl, hk1⟩ (st_inLoop hc.mode ht)
  | inScope b => cases hi; exact go_ok hs h htr hk1 (st_inScope hc.mode ht)
  | steps _ _ _ => exact hi.elim
  | inRF l => exact Fin.fail
  | endRF l =>
    obtain ⟨p, hp, rfl⟩ := hi
    show Fin P w0 cs0 (iEnd l c k ih) fr cs w
    unfold iEnd
    cases ho : getH c.H l with
    | loop st pd fn tm sz ps assign body d =>
      obtain ⟨r, hg, hrs, hrp, w', hset, hc'⟩ := loop_upd hc hp ho .exhausted
      have main : st ≠ .busy → Fin P w0 cs0 (ih .run (match (generalizing := false) pd with | some code => .code code :: k | none => k) { c with H := put .no c.H l (.loop .exhausted pd fn tm sz ps assign body d) }) fr cs w := by
        intro hb
        have he : (Instr.endLoop p.blk).run P w = .ok pd w' := by
          have hbs : (r.state == LoopState.busy) = false := by
            rw [hrs]; cases st <;> first | rfl | exact absurd rfl hb
          simp only [Instr.endLoop, Instr.getLoop, Sem.run_bind, hg, Result.andThen_ok, Sem.run_pure, hbs, Bool.false_eq_true, if_false, Sem.run_ite]
          rw [hset]
          simp [hrp]
        refine Fin.step (st_endLoop hc.mode ht he) ?_
        refine hs E _ _ _ _ _ _ ((hc'.to fr.tmps _ rfl).mr ?_ htr)
        cases pd with
        | none => exact hk1
        | some code => exact ⟨_, _, rfl, rfl, hk1⟩
      cases st <;> first | exact Fin.fail | (simp only [setHO_eq]; exact main (fun e => by cases e))
    | _ => exact Fin.fail
  | beginRound =>
    cases hi
    show Fin P w0 cs0 (iBegin c k ih) fr cs w
    unfold iBegin
    have hround := hc.round
    cases hr : c.round with
    | none => exact Fin.fail
    | some l =>
      rw [hr] at hround
      obtain ⟨p, hp, hro⟩ := hround
      simp only
      cases ho : getH c.H l with
      | loop st pd fn tm sz ps assign body d =>
        obtain ⟨r, hg, hrs, hrp, w', hset, hc'⟩ := loop_upd hc hp ho .busy
        cases st <;> try exact Fin.fail
        simp only [setHO_eq]
        have he : (Instr.beginRound p.blk).run P w = .ok () w' := by
          simp only [Instr.beginRound, Instr.getLoop, Sem.run_bind, hg, Result.andThen_ok, Sem.run_pure]
          rw [hset]
          simp [hrs]
        refine Fin.step (st_begin hc.mode ht hro he) ?_
        have := hs E .run k _ _ _ _ ((hc'.to fr.tmps k' rfl).mr hk1 htr)
        simp only [hr] at this
        exact this
      | _ => exact Fin.fail

theorem step_sound {hk : Hook} (hok : HookOk P w0 hk) (hs : Sound P w0 cs0 ih) : Sound P w0 cs0 (Exo.step P hk ih) := by
  intro E m t c fr cs w h
  cases m with
  | run =>
    cases t with
    | nil =>
      obtain ⟨b, hc⟩ := h.cur
      have ht : fr.todo = [] := h.rest.1
      exact leave_ok hs hc h.rest.2 (by unfold leaving; rw [ht])
    | cons it k => exact topItem_ok hok hs h
  | returning => exact unw_ok hs (fun e => by cases e) h
  | panicking ch => exact unw_ok hs (fun e => by cases e) h
/-- THE ABSTRACT MACHINE IS SOUND -/
theorem run_sound {hk : Hook} (hok : HookOk P w0 hk) : ∀ n, Sound P w0 cs0 (run P hk n)
  | 0 => fun E m t c fr cs w h m' t' c' e => by cases e; exact ⟨E, fr, cs, w, .refl _ _, h⟩
  | n + 1 => step_sound hok (run_sound hok n)

/-- what an abstract run came to: the value that it returns, the heap -/
noncomputable def final (P : Program) (f : Nat) (o : Out) : Option (V × T AObj × Nat) :=
  match o with
  | .st .returning _ c => (match c.cs, c.ds, c.kind with
    | [], [], .normal => cond (Nat.beq c.fn f) (match resV P c.fn c.tm c.H with | .val v => some (v, c.H, c.nx) | _ => none) none
    | _, _, _ => none)
  | _ => none
/-- a run's end is a call's -/
theorem final_ok {hk : Hook} (hok : HookOk P w0 hk) {f : Nat} {args : List V} {xs : List Value} {H : T AObj} {nx n : Nat} {w : World} (hwr : WR w0 E H nx w) (hgl : ∀ g, g < P.globals.size → ∃ s, E g = some ⟨g, 0, s, undef, noOb, []⟩) (ha : VRs E args xs) {v : V} {H' : T AObj} {nx' : Nat}
    (h : final P f (enterK P f args .normal [] H nx (run P hk n)) = some (v, H', nx')) : Calls P f xs.toArray w fun e w' => ∃ x E', e = .returned x ∧ VR E' v x ∧ WR w0 E' H' nx' w' := by
  intro cs
  have hfin : Fin P w0 cs (enterK P f args .normal [] H nx (run P hk n)) (Frame.enter P f xs.toArray .normal) cs w := enter_ok (run_sound hok n) hwr hgl (afs := []) (frs := cs) rfl ha .normal
  generalize enterK P f args .normal [] H nx (run P hk n) = o at h hfin
  unfold final at h
  split at h
  · rename_i todo c
    split at h
    · rename_i h1 h2 h3
      cases hb : Nat.beq c.fn f with
      | false => rw [hb] at h; cases h
      | true =>
        rw [hb] at h
        simp only [cond_true] at h
        rw [Nat.beq_eq] at hb
        obtain ⟨E', fr, cs', w', hst, hmr⟩ := hfin _ _ _ rfl
        cases hr : resV P c.fn c.tm c.H with
        | val u =>
          rw [hr] at h
          simp only [Option.some.injEq, Prod.mk.injEq] at h
          obtain ⟨rfl, rfl, rfl⟩ := h
          obtain ⟨fn, x, g1, g2, g3⟩ := resV_ok hmr.wr hmr.rest hr
          obtain ⟨b, _, hf⟩ := hmr.frs
          rw [h1] at hf
          change cs' = cs at hf
          subst hf
          have hd := hmr.defers
          rw [h2] at hd
          exact ⟨.returned x, w', fr, ⟨x, E', rfl, g3, hmr.wr⟩, hst, by rw [hmr.fn, hb], ⟨hmr.mode, hd, by rw [hmr.kind, h3], fn, by rw [hmr.fn]; exact g1, g2⟩⟩
        | _ => rw [hr] at h; cases h
    · cases h
  · cases h
end
end Go.Exo
