/-
  EXO, part P: one operation, whatever it is. Own text.
-/
import Derived.Test.YtmiepmpifjamoaaGreatDoorExo3
import Derived.Defers
set_option linter.all false
namespace Go.Exo
section
variable {P : Program} {w0 : Bs} {E : Env} {H : T AObj} {nx : Nat} {w : World} {tm : T V} {ev : Operand → Value}

theorem cnd_Good {R : Result Next} {b : Bool} {r : Res} {n : Nat} (h : b = true → Good P w0 E H nx w R r) : Good P w0 E H nx w R (cnd b r (.fail n)) := by
  cases b with
  | true => exact h rfl
  | false => trivial
theorem Good.bad {R : Result Next} : Good P w0 E H nx w R (exOp .bad tm H nx) := True.intro

theorem call_ok (h : WR w0 E H nx w) (c : Call) (ty : TypeId) (hev : ∀ x ∈ c.operands.toList, VR E ((compO x).ev tm) (ev x)) :
    Good P w0 E H nx w ((do let d ← resolve ev c ty; invoke d.target d.args : Sem Next).run P w) (exOp (compCall P c) tm H nx) := by
  have hargs : ∀ x ∈ c.args.toList, VR E ((compO x).ev tm) (ev x) := fun x hx => hev x (by unfold Call.operands; rw [Array.toList_append]; exact List.mem_append.2 (.inr hx))
  have hA : c.args.map ev = (c.args.toList.map ev).toArray := by apply Array.ext'; simp
  unfold compCall
  cases hc : c.callee with
  | value x =>
    have hx : VR E ((compO x).ev tm) (ev x) := hev x (by unfold Call.operands; rw [Array.toList_append, hc]; exact List.mem_append.2 (.inl (by simp)))
    have hcall : Good P w0 E H nx w ((do let d ← resolve ev c ty; invoke d.target d.args : Sem Next).run P w) (exOp (.call (compO x) (c.args.toList.map compO)) tm H nx) := by
      simp only [resolve, hc, hA]
      exact xCall_ok hx (evL_rel hargs)
    cases x with
    | func f =>
      simp only
      cases hf : funcT P f with
      | none => exact Good.bad
      | some fn =>
        simp only
        cases hb : fn.body with
        | some b => exact hcall
        | none =>
          simp only
          cases hl : c.args.toList with
          | nil => exact Good.bad
          | cons y r =>
            cases r with
            | nil => exact Good.bad
            | cons z r =>
              cases r with
              | cons _ _ => exact Good.bad
              | nil =>
                simp only
                cases hn : (fn.name == "internal/bytealg.IndexByteString" && (fn.origin == "" || fn.origin == "internal/bytealg.IndexByteString")) with
                | false =>
                  simp only [cond_false]
                  cases hn : (fn.name == "internal/bytealg.abigen_runtime_cmpstring" && (fn.origin == "" || fn.origin == "internal/bytealg.abigen_runtime_cmpstring")) with
                  | false => exact Good.bad
                  | true =>
                  simp only [Bool.and_eq_true, Bool.or_eq_true, beq_iff_eq] at hn
                  have hy := hargs y (by rw [hl]; simp)
                  have hz := hargs z (by rw [hl]; simp)
                  have key := xExtCmp_ok (H := H) (nx := nx) (w0 := w0) (w := w) (funcT_eq P hf) hb hn.1 hn.2 hy hz
                  have e : (do let d ← resolve ev c ty; invoke d.target d.args : Sem Next).run P w = (callFunc f #[ev y, ev z]).run P w := by
                    simp only [resolve, hc, hA, hl]
                    have hfx : ev (.func f) = .func (.func f) #[] #[] := by
                      have hx' : VR E (.func (.func f) [] []) (ev (.func f)) := hx
                      generalize ev (.func f) = F at hx'
                      cases hx' with
                      | func _ _ _ _ _ _ a b c => cases b; cases c; simp only [FnR] at a; subst a; rfl
                    simp [hfx, Deferred.ofValue, invoke]
                  rw [e]
                  exact key
                | true =>
                  simp only [Bool.and_eq_true, Bool.or_eq_true, beq_iff_eq] at hn
                  have hy := hargs y (by rw [hl]; simp)
                  have hz := hargs z (by rw [hl]; simp)
                  have key := xExtIB_ok (H := H) (nx := nx) (w0 := w0) (w := w) (funcT_eq P hf) hb hn.1 hn.2 hy hz
                  have e : (do let d ← resolve ev c ty; invoke d.target d.args : Sem Next).run P w = (callFunc f #[ev y, ev z]).run P w := by
                    simp only [resolve, hc, hA, hl]
                    have hfx : ev (.func f) = .func (.func f) #[] #[] := by
                      have hx' : VR E (.func (.func f) [] []) (ev (.func f)) := hx
                      generalize ev (.func f) = F at hx'
                      cases hx' with
                      | func _ _ _ _ _ _ a b c => cases b; cases c; simp only [FnR] at a; subst a; rfl
                    simp [hfx, Deferred.ofValue, invoke]
                  rw [e]
                  exact key
    | tmp _ => exact hcall
    | const _ => exact hcall
    | global _ => exact hcall
  | invoke _ _ => exact Good.bad
  | builtin b =>
    have hres : ∀ R, (do let d ← resolve ev c ty; invoke d.target d.args : Sem Next).run P w = R ↔ (builtin b c.argTypes ty (c.args.map fun | .const _ => true | _ => false) (c.args.toList.map ev).toArray).run P w = R := by
      intro R; simp only [resolve, hc, hA, Sem.run_bind, Sem.run_pure, Result.andThen_ok, invoke]; exact Iff.rfl
    cases b <;> try exact Good.bad
    case len =>
      simp only
      cases hl : c.args.toList with
      | nil => exact Good.bad
      | cons x r =>
        cases r with
        | cons _ _ => exact Good.bad
        | nil =>
          cases ht : c.argTypes.toList with
          | nil => exact Good.bad
          | cons t r =>
            cases r with
            | cons _ _ => exact Good.bad
            | nil =>
              simp only
              have hT : c.argTypes = #[t] := by rw [← Array.toArray_toList (xs := c.argTypes), ht]
              have hx := hargs x (by rw [hl]; simp)
              have e := (hres _).2 rfl
              rw [e, hl, hT]
              cases hu : undT P t with
              | none => exact Good.bad
              | some d =>
                cases d <;> first | exact Good.bad | skip
                · exact VG.good (xLen_ok h (sh := 0) (undT_eq P hu) rfl (by omega) hx)
                · exact VG.good (xLen_ok h (sh := 1) (undT_eq P hu) ⟨_, rfl⟩ (by omega) hx)
                · exact VG.good (xLen_ok h (sh := 2) (undT_eq P hu) ⟨_, _, rfl⟩ (by omega) hx)
    case append =>
      simp only
      cases hl : c.args.toList with
      | nil => exact Good.bad
      | cons s r =>
        cases r with
        | nil => exact Good.bad
        | cons x r =>
          cases r with
          | cons _ _ => exact Good.bad
          | nil =>
            cases ht : c.argTypes.toList with
            | nil => exact Good.bad
            | cons t r =>
              cases r with
              | nil => exact Good.bad
              | cons u r =>
                cases r with
                | cons _ _ => exact Good.bad
                | nil =>
                  simp only
                  have hT : c.argTypes = #[t, u] := by rw [← Array.toArray_toList (xs := c.argTypes), ht]
                  have hs := hargs s (by rw [hl]; simp)
                  have hx := hargs x (by rw [hl]; simp)
                  have e := (hres _).2 rfl
                  rw [e, hl, hT]
                  cases hu : undT P t with
                  | none => exact Good.bad
                  | some d =>
                    cases hu2 : undT P u with
                    | none => cases d <;> exact Good.bad
                    | some d2 =>
                      cases d <;> first | exact Good.bad | skip
                      cases d2 <;> first | exact Good.bad | skip
                      case slice.int e1 k2 =>
                        simp only
                        cases hi : infoT P e1 with
                        | none => exact Good.bad
                        | some i =>
                          simp only
                          cases hz : zeroOf i with
                          | none => exact Good.bad
                          | some z =>
                            simp only
                            cases hzl : Nat.beq z.cells.length i.size with
                            | false => exact Good.bad
                            | true => exact VG.good (xAppN_ok h (undT_eq P hu) (undT_eq P hu2) (infoT_eq P hi) hz (Nat.eq_of_beq_eq_true hzl) hs hx)
                      rename_i e1 e2
                      simp only
                      cases hi : infoT P e1 with
                      | none => exact Good.bad
                      | some i =>
                        simp only
                        cases hz : zeroOf i with
                        | none => exact Good.bad
                        | some z =>
                          simp only
                          cases hzl : Nat.beq z.cells.length i.size with
                          | false => exact Good.bad
                          | true => exact VG.good (xAppend_ok h (undT_eq P hu) (undT_eq P hu2) (infoT_eq P hi) hz (Nat.eq_of_beq_eq_true hzl) hs hx)
    case cap =>
      simp only
      cases hl : c.args.toList with
      | nil => exact Good.bad
      | cons x r =>
        cases r with
        | cons _ _ => exact Good.bad
        | nil =>
          cases ht : c.argTypes.toList with
          | nil => exact Good.bad
          | cons t r =>
            cases r with
            | cons _ _ => exact Good.bad
            | nil =>
              simp only
              have hT : c.argTypes = #[t] := by rw [← Array.toArray_toList (xs := c.argTypes), ht]
              have hx := hargs x (by rw [hl]; simp)
              have e := (hres _).2 rfl
              rw [e, hl, hT]
              cases hu : undT P t with
              | none => exact Good.bad
              | some d =>
                cases d <;> first | exact Good.bad | skip
                exact VG.good (xCap_ok (undT_eq P hu) hx)
    case clear =>
      simp only
      cases hl : c.args.toList with
      | nil => exact Good.bad
      | cons x r =>
        cases r with
        | cons _ _ => exact Good.bad
        | nil =>
          cases ht : c.argTypes.toList with
          | nil => exact Good.bad
          | cons t r =>
            cases r with
            | cons _ _ => exact Good.bad
            | nil =>
              simp only
              have hT : c.argTypes = #[t] := by rw [← Array.toArray_toList (xs := c.argTypes), ht]
              have hx := hargs x (by rw [hl]; simp)
              have e := (hres _).2 rfl
              rw [e, hl, hT]
              cases hu : undT P t with
              | none => exact Good.bad
              | some d =>
                cases d <;> first | exact Good.bad | skip
                rename_i e1
                simp only
                cases hi : infoT P e1 with
                | none => exact Good.bad
                | some i =>
                  simp only
                  cases hz : zeroOf i with
                  | none => exact Good.bad
                  | some z =>
                    simp only
                    cases hzl : Nat.beq z.cells.length i.size with
                    | false => exact Good.bad
                    | true => exact VG.good (xClear_ok h (undT_eq P hu) (infoT_eq P hi) hz hx)
    case max =>
      simp only
      cases hl : c.args.toList with
      | nil => exact Good.bad
      | cons x r =>
        cases r with
        | nil => exact Good.bad
        | cons y r =>
          cases r with
          | cons _ _ => exact Good.bad
          | nil =>
            have hx := hargs x (by rw [hl]; simp)
            have hy := hargs y (by rw [hl]; simp)
            have e := (hres _).2 rfl
            rw [e, hl]
            exact VG.good (xMax_ok hx hy)
    case recover =>
      have e := (hres _).2 rfl
      rw [e]
      exact rfl

theorem compOp0_ok (h : WR w0 E H nx w) (o : Oper) (hev : ∀ x ∈ o.op.operands.toList, VR E ((compO x).ev tm) (ev x)) :
    Good P w0 E H nx w ((execOp ev o).run P w) (exOp (compOp0 P o.op) tm H nx) := by
  have m1 : ∀ x, x ∈ o.op.operands → VR E ((compO x).ev tm) (ev x) := fun x hx => hev x (by simpa using hx)
  cases ho : o.op with
  | move x => unfold execOp; simp only [ho]; exact ⟨.value (ev x), _, rfl, rfl, m1 x (by simp [ho, Op.operands])⟩
  | assign x => unfold execOp; simp only [ho]; exact ⟨.value (ev x), _, rfl, rfl, m1 x (by simp [ho, Op.operands])⟩
  | pick c a b =>
    unfold execOp; simp only [ho]
    have := (xPick_ok (w0 := w0) (H := H) (nx := nx) (P := P) (w := w) (m1 c (by simp [ho, Op.operands])) (m1 a (by simp [ho, Op.operands])) (m1 b (by simp [ho, Op.operands]))).good
    change Good P w0 E H nx w _ (xPick _ _ _)
    simpa [Sem.run_bind] using this
  | alloc t =>
    unfold execOp; simp only [ho, compOp0]
    cases ht : tyOf P t with
    | none => exact Good.bad
    | some di =>
      obtain ⟨d, i⟩ := di
      simp only
      cases hz : zeroOf i with
      | none => exact Good.bad
      | some z =>
        simp only [ofK_eq]
        have := xAlloc_ok (w0 := w0) h (t := t) (tyOf_eq ht).2.2.1 hz (old := .tuple #[])
        rw [boxObj_eq] at this
        exact VG.good this
  | box t x => unfold execOp; simp only [ho, compOp0]; exact VG.good (xBox_ok h (m1 x (by simp [ho, Op.operands])))
  | build t ps =>
    unfold execOp; simp only [ho, compOp0]
    have hps : ∀ i x, (i, x) ∈ ps.toList → VR E ((compO x).ev tm) (ev x) := fun i x hx => m1 x (by
      simp only [ho, Op.operands, List.mem_toArray, List.mem_map]; exact ⟨(i, x), hx, rfl⟩)
    cases ht : tyOf P t with
    | none => exact Good.bad
    | some di =>
      obtain ⟨d, i⟩ := di
      simp only
      cases hz : zeroOf i with
      | none => exact Good.bad
      | some z =>
        cases d <;> try exact Good.bad
        case struct fs =>
          simp only
          cases hfo : fieldsOk P fs.toList with
          | false => exact Good.bad
          | true =>
            simp only [cond_true]
            cases hl : compParts (fun i => (fs[i]?).map fun f => (f.offset, sizeT P f.type)) ps.toList with
            | none => exact Good.bad
            | some l => exact VG.good (xBuild_ok ht hz hl hps (.inl ⟨fs, rfl, hfo, rfl⟩))
        case array n e =>
          simp only
          cases hi : infoT P e with
          | none => exact Good.bad
          | some ie =>
            simp only
            cases hl : compParts (fun i => some (i * ie.size, ie.size)) ps.toList with
            | none => exact Good.bad
            | some l => exact VG.good (xBuild_ok ht hz hl hps (.inr ⟨n, e, ie, rfl, hi, rfl⟩))
  | buildSlice t len ps =>
    unfold execOp; simp only [ho, compOp0]
    have hps : ∀ i x, (i, x) ∈ ps.toList → VR E ((compO x).ev tm) (ev x) := fun i x hx => m1 x (by
      simp only [ho, Op.operands, List.mem_toArray, List.mem_map]; exact ⟨(i, x), hx, rfl⟩)
    cases hu : undT P t with
    | none => exact Good.bad
    | some d =>
      cases d <;> try exact Good.bad
      rename_i e
      simp only
      cases hi : infoT P e with
      | none => exact Good.bad
      | some i =>
        simp only
        cases hz : zeroOf i with
        | none => exact Good.bad
        | some z =>
          simp only
          cases hb : (Nat.ble (len * i.size) 16777216 && Nat.beq z.cells.length i.size) with
          | false => exact Good.bad
          | true =>
            simp only [Bool.and_eq_true] at hb
            simp only [cond_true]
            cases hl : compParts (fun j => some (j * i.size, i.size)) ps.toList with
            | none => exact Good.bad
            | some l => exact VG.good (xBslice_ok h (undT_eq P hu) (infoT_eq P hi) hz (Nat.le_of_ble_eq_true hb.1) (Nat.eq_of_beq_eq_true hb.2) hl hps)
  | load t x =>
    unfold execOp; simp only [ho, compOp0]
    cases ht : tyOf P t with
    | none => exact Good.bad
    | some di =>
      obtain ⟨d, i⟩ := di
      obtain ⟨q1, q2, q3, q4⟩ := tyOf_eq ht
      simp only
      cases hd : aggD d with
      | true => exact VG.good (xLoadN_ok h (fun w => by rw [aggD_run q1 w, hd]) q3 (m1 x (by simp [ho, Op.operands])))
      | false => exact VG.good (xLoad1_ok h (fun w => by rw [aggD_run q1 w, hd]) (m1 x (by simp [ho, Op.operands])))
  | store t a x =>
    unfold execOp; simp only [ho, compOp0]
    cases hi : infoT P t with
    | none => exact Good.bad
    | some i => exact Good.unit (xStore_ok h (infoT_eq P hi) (m1 a (by simp [ho, Op.operands])) (m1 x (by simp [ho, Op.operands])))
  | nilCheck x => exact xNil_ok (m1 x (by simp [ho, Op.operands])) o x ev ho rfl
  | binOp op t x y b =>
    unfold execOp; simp only [ho, compOp0]
    have hx := m1 x (by simp [ho, Op.operands])
    have hy := m1 y (by simp [ho, Op.operands])
    cases hu : undT P t with
    | none => exact Good.bad
    | some d =>
      have heq : Good P w0 E H nx w (Sem.run P (do let a ← (do eqGuard op t x y (ev x) (ev y); binOp op t (ev x) (ev y) : Sem Value); pure (.value a)) w)
          (exOp (match (generalizing := false) op with | .eql => .eqv false (isC x || isC y) d (compO x) (compO y) | .neq => .eqv true (isC x || isC y) d (compO x) (compO y) | _ => .bad) tm H nx) := by
        cases op <;> try exact Good.bad
        · exact VG.good (eqvR_ok (neg := false) rfl rfl (undT_eq P hu) hx hy)
        · exact VG.good (eqvR_ok (neg := true) rfl rfl (undT_eq P hu) hx hy)
      have hbin : Good P w0 E H nx w (Sem.run P (do let a ← (do eqGuard op t x y (ev x) (ev y); binOp op t (ev x) (ev y) : Sem Value); pure (.value a)) w) (exOp (.bin op (compO x) (compO y)) tm H nx) := VG.good (binV_ok op t x y hx hy)
      cases d <;> first | exact hbin | exact heq | skip
      rename_i fs
      show Good P w0 E H nx w _ (exOp (match (generalizing := false) flatS P t fs with | some l => (match (generalizing := false) op with | .eql => .eqAgg false l (compO x) (compO y) | .neq => .eqAgg true l (compO x) (compO y) | _ => .bad) | none => .bad) tm H nx)
      cases hf : flatS P t fs with
      | none => exact Good.bad
      | some ks =>
        simp only
        cases op <;> try exact Good.bad
        · exact VG.good (xEqAgg_ok (neg := false) rfl (undT_eq P hu) hf hx hy)
        · exact VG.good (xEqAgg_ok (neg := true) rfl (undT_eq P hu) hf hx hy)
  | unOp op t x => unfold execOp; simp only [ho, compOp0]; exact VG.good (unV_ok op (m1 x (by simp [ho, Op.operands])))
  | convert a b x =>
    unfold execOp; simp only [ho, compOp0]
    have hx := m1 x (by simp [ho, Op.operands])
    cases ha : undT P a with
    | none => exact Good.bad
    | some da =>
      cases hb : undT P b with
      | none => cases da <;> exact Good.bad
      | some db =>
        cases da <;> try exact Good.bad
        case int k0 =>
          cases db <;> try exact Good.bad
          exact VG.good (xConvI_ok (undT_eq P ha) (undT_eq P hb) hx)
        case string =>
          cases db <;> try exact Good.bad
          rename_i e
          simp only
          cases he : undT P e with
          | none => exact Good.bad
          | some de =>
            cases de <;> try exact Good.bad
            rename_i k
            cases k <;> first | exact Good.bad | exact VG.good (xConvSB_ok h (undT_eq P ha) (undT_eq P hb) (undT_eq P he) hx)
        case slice e =>
          cases db <;> try exact Good.bad
          simp only
          cases he : undT P e with
          | none => exact Good.bad
          | some de =>
            cases de <;> try exact Good.bad
            rename_i k
            cases k <;> first | exact Good.bad | exact VG.good (xConvBS_ok h (undT_eq P ha) (undT_eq P hb) (undT_eq P he) hx)
  | makeInterface t x =>
    unfold execOp; simp only [ho, compOp0]
    have hx := m1 x (by simp [ho, Op.operands])
    cases hu : undT P t with
    | none => exact Good.bad
    | some d =>
      have key : (∀ ms, d ≠ .interface ms) → Good P w0 E H nx w (Sem.run P (do let a ← Instr.makeInterface t (ev x); pure (.value a)) w) (exOp (.mkIface t (compO x)) tm H nx) := by
        intro hni
        refine VG.good (VG.val (x := .iface t (ev x)) ?_ (.iface _ _ _ hx))
        simp only [Instr.makeInterface, Sem.run_bind, run_underlying (undT_eq P hu), Result.andThen_ok]
        all_goals (cases d <;> first | rfl | exact absurd rfl (hni _))
      cases d <;> first | exact Good.bad | exact key (by intro ms hh; cases hh)
  | makeFunc fn first captured =>
    unfold execOp; simp only [ho, compOp0]
    cases fn <;> try exact Good.bad
    rename_i f
    have h1 : ∀ x ∈ first.toList, VR E ((compO x).ev tm) (ev x) := fun x hx => m1 x (by simp only [ho, Op.operands, Array.mem_append]; exact .inl (by simpa using hx))
    have h2 : ∀ x ∈ captured.toList, VR E ((compO x).ev tm) (ev x) := fun x hx => m1 x (by simp only [ho, Op.operands, Array.mem_append]; exact .inr (by simpa using hx))
    refine VG.good (s := Instr.makeFunc (.func f) (first.map ev) (captured.map ev)) (VG.val (x := .func (.func f) (first.toList.map ev).toArray (captured.toList.map ev).toArray) ?_ (.func _ _ _ _ _ _ rfl (evL_rel h1) (evL_rel h2)))
    have e : ∀ a : Array Operand, a.map ev = (a.toList.map ev).toArray := fun a => by apply Array.ext'; simp
    simp [Instr.makeFunc, e]
  | makeMap t r =>
    unfold execOp; simp only [ho, compOp0]
    cases r with
    | none => exact VG.good (xMkMap_ok h)
    | some _ => exact Good.bad
  | slice t x lo hi mx =>
    unfold execOp; simp only [ho, compOp0]
    have hx := m1 x (by simp [ho, Op.operands])
    have hlo := evO_rel (tm := tm) (ev := ev) (E := E) (x := lo) fun y hy => m1 y (by simp [ho, Op.operands, hy])
    have hhi := evO_rel (tm := tm) (ev := ev) (E := E) (x := hi) fun y hy => m1 y (by simp [ho, Op.operands, hy])
    have hmx := evO_rel (tm := tm) (ev := ev) (E := E) (x := mx) fun y hy => m1 y (by simp [ho, Op.operands, hy])
    cases hu : undT P t with
    | none => exact Good.bad
    | some d =>
      cases d <;> try exact Good.bad
      case string =>
        cases mx with
        | some _ => exact Good.bad
        | none => exact VG.good (xSlStr_ok (undT_eq P hu) hx hlo hhi)
      case slice e =>
        simp only
        cases hi2 : infoT P e with
        | none => exact Good.bad
        | some i => exact VG.good (xSlSl_ok (undT_eq P hu) (infoT_eq P hi2) hx hlo hhi hmx)
  | fieldAddr t x f =>
    unfold execOp; simp only [ho, compOp0]
    have hx := m1 x (by simp [ho, Op.operands])
    cases hu : undT P t with
    | none => exact Good.bad
    | some d =>
      cases d <;> try exact Good.bad
      rename_i fs
      simp only
      cases hf : fs[f]? with
      | none => exact Good.bad
      | some fd =>
        simp only
        cases hi : infoT P fd.type with
        | none => exact Good.bad
        | some i =>
          simp only
          cases hz : Nat.beq i.size 0 with
          | true => exact Good.bad
          | false => exact VG.good (xFaddr_ok (undT_eq P hu) hf (infoT_eq P hi) (fun e => by rw [e] at hz; cases hz) hx)
  | field t x f =>
    unfold execOp; simp only [ho, compOp0]
    have hx := m1 x (by simp [ho, Op.operands])
    cases hu : undT P t with
    | none => exact Good.bad
    | some d =>
      cases d <;> try exact Good.bad
      rename_i fs
      simp only
      cases hf : fs[f]? with
      | none => exact Good.bad
      | some fd =>
        simp only
        cases ht : tyOf P fd.type with
        | none => exact Good.bad
        | some di =>
          obtain ⟨d, i⟩ := di
          obtain ⟨q1, q2, q3, q4⟩ := tyOf_eq ht
          simp only
          cases hd : aggD d with
          | true => exact VG.good (xFieldA_ok (undT_eq P hu) hf q3 (fun w => by rw [aggD_run q1 w, hd]) hx)
          | false => exact VG.good (xField1_ok (undT_eq P hu) hf (fun w => by rw [aggD_run q1 w, hd]) hx)
  | indexAddr t x i =>
    unfold execOp; simp only [ho, compOp0]
    have hx := m1 x (by simp [ho, Op.operands])
    have hi := m1 i (by simp [ho, Op.operands])
    cases hu : undT P t with
    | none => exact Good.bad
    | some d =>
      cases d <;> try exact Good.bad
      case slice e =>
        simp only
        cases hie : infoT P e with
        | none => exact Good.bad
        | some ie => exact VG.good (xIdxSl_ok (undT_eq P hu) (infoT_eq P hie) hx hi)
      case array n e =>
        simp only
        cases hie : infoT P e with
        | none => exact Good.bad
        | some ie => exact VG.good (xIdxArr_ok (undT_eq P hu) (infoT_eq P hie) hx hi)
  | index t x i =>
    unfold execOp; simp only [ho, compOp0]
    have hx := m1 x (by simp [ho, Op.operands])
    have hi := m1 i (by simp [ho, Op.operands])
    cases hu : undT P t with
    | none => exact Good.bad
    | some d =>
      cases d <;> try exact Good.bad
      case array n e =>
        simp only
        cases ht : tyOf P e with
        | none => exact Good.bad
        | some di =>
          obtain ⟨d, ie⟩ := di
          obtain ⟨q1, q2, q3, q4⟩ := tyOf_eq ht
          exact VG.good (xIdxAgg_ok (undT_eq P hu) q3 (fun w => aggD_run q1 w) hx hi)
      exact VG.good (xIdxStr_ok (undT_eq P hu) hx hi)
  | lookup t x k ok =>
    unfold execOp; simp only [ho, compOp0]
    have hx := m1 x (by simp [ho, Op.operands])
    have hk := m1 k (by simp [ho, Op.operands])
    cases hu : undT P t with
    | none => exact Good.bad
    | some d =>
      cases d <;> try exact Good.bad
      rename_i kt e
      simp only
      cases hdk : undT P kt with
      | none => exact Good.bad
      | some dk =>
        cases hie : infoT P e with
        | none => exact Good.bad
        | some ie =>
          simp only
          cases hz : zeroOf ie with
          | none => exact Good.bad
          | some z =>
            simp only
            cases hkd : keyD P kt dk with
            | none => exact Good.bad
            | some ks => exact cnd_Good fun hkk => VG.good (xLookup_ok h (undT_eq P hu) ⟨undT_eq P hdk, hkd⟩ (infoT_eq P hie) hz hx hk hkk)
  | mapUpdate t m k v =>
    unfold execOp; simp only [ho, compOp0]
    have hm := m1 m (by simp [ho, Op.operands])
    have hk := m1 k (by simp [ho, Op.operands])
    have hv := m1 v (by simp [ho, Op.operands])
    cases hu : undT P t with
    | none => exact Good.bad
    | some d =>
      cases d <;> try exact Good.bad
      rename_i kt e
      simp only
      cases hdk : undT P kt with
      | none => exact Good.bad
      | some dk =>
        simp only
        cases hkd : keyD P kt dk with
        | none => exact Good.bad
        | some ks => exact cnd_Good fun hkk => Good.unit (xMupd_ok h (undT_eq P hu) ⟨undT_eq P hdk, hkd⟩ hm hk hv hkk)
  | insert t m k v =>
    unfold execOp; simp only [ho, compOp0]
    have hm := m1 m (by simp [ho, Op.operands])
    have hk := m1 k (by simp [ho, Op.operands])
    have hv := m1 v (by simp [ho, Op.operands])
    cases hu : undT P t with
    | none => exact Good.bad
    | some d =>
      cases d <;> try exact Good.bad
      rename_i kt e
      simp only
      cases hdk : undT P kt with
      | none => exact Good.bad
      | some dk =>
        simp only
        cases hkd : keyD P kt dk with
        | none => exact Good.bad
        | some ks => exact cnd_Good fun hkk => Good.unit (xMupd_ok h (undT_eq P hu) ⟨undT_eq P hdk, hkd⟩ hm hk hv hkk)
  | range t x =>
    unfold execOp; simp only [ho, compOp0]
    have hx := m1 x (by simp [ho, Op.operands])
    cases hu : undT P t with
    | none => exact Good.bad
    | some d =>
      cases d <;> try exact Good.bad
      case map kt e => exact VG.good (xRangeM_ok h (undT_eq P hu) hx)
      exact VG.good (xRangeS_ok h (undT_eq P hu) hx)
  | entry x => unfold execOp; simp only [ho, compOp0]; exact VG.good (xEntryM_ok h (m1 x (by simp [ho, Op.operands])))
  | mapEntry t m k =>
    unfold execOp; simp only [ho, compOp0]
    have hm := m1 m (by simp [ho, Op.operands])
    have hk := m1 k (by simp [ho, Op.operands])
    cases hu : undT P t with
    | none => exact Good.bad
    | some d =>
      cases d <;> try exact Good.bad
      rename_i kt e
      simp only
      cases hdk : undT P kt with
      | none => exact Good.bad
      | some dk =>
        cases hie : infoT P e with
        | none => exact Good.bad
        | some ie =>
          simp only
          cases hz : zeroOf ie with
          | none => exact Good.bad
          | some z =>
            simp only
            cases hkd : keyD P kt dk with
            | none => exact Good.bad
            | some ks => exact cnd_Good fun hkk => VG.good (xMapEnt_ok h (undT_eq P hu) ⟨undT_eq P hdk, hkd⟩ (infoT_eq P hie) hz hm hk hkk)
  | entryStore t m s v =>
    unfold execOp; simp only [ho, compOp0]
    exact Good.unit (xEntSt_ok h (m1 m (by simp [ho, Op.operands])) (m1 s (by simp [ho, Op.operands])) (m1 v (by simp [ho, Op.operands])))
  | next x s =>
    unfold execOp; simp only [ho, compOp0]
    have hx := m1 x (by simp [ho, Op.operands])
    cases s with
    | false => exact Good.bad
    | true => exact VG.good (xNextS_ok h hx)
  | typeAssert x xt t ok =>
    unfold execOp; simp only [ho, compOp0]
    have hx := m1 x (by simp [ho, Op.operands])
    cases ht : tyOf P t with
    | none => exact Good.bad
    | some di =>
      obtain ⟨d, i⟩ := di
      obtain ⟨q1, q2, q3, q4⟩ := tyOf_eq ht
      simp only
      cases hz : zeroOf i with
      | none => cases d <;> exact Good.bad
      | some z =>
        obtain ⟨zx, hz1, hz2⟩ := zeroOf_eq (E := E) hz
        have key : (∀ ms, d ≠ .interface ms) → Good P w0 E H nx w (Sem.run P (do let a ← Instr.typeAssert (ev x) xt t ok; pure (.value a)) w) (exOp (.tassert t ok z (compO x)) tm H nx) :=
          fun hni => VG.good (xTassert_ok q2 hni q3 hz1 hz2 hx)
        cases d <;> first | exact Good.bad | exact key (by intro ms hh; cases hh)
  | extract x i => unfold execOp; simp only [ho, compOp0]; exact VG.good (xExtract_ok (m1 x (by simp [ho, Op.operands])))
  | call c =>
    unfold execOp; simp only [ho, compOp0]
    exact call_ok h c o.type fun x hx => hev x (by simp only [ho, Op.operands]; exact hx)
  | panic x => unfold execOp; simp only [ho, compOp0]; exact VG.good (xPanic_ok (m1 x (by simp [ho, Op.operands])))
  | _ => first
    | exact Good.bad
    | (rename_i c
       unfold execOp; simp only [ho, compOp0]
       have hc : ∀ x ∈ c.operands.toList, VR E ((compO x).ev tm) (ev x) := fun x hx => hev x (by simp only [ho, Op.operands]; exact hx)
       have hargs : ∀ x ∈ c.args.toList, VR E ((compO x).ev tm) (ev x) := fun x hx => hc x (by unfold Call.operands; rw [Array.toList_append]; exact List.mem_append.2 (.inr hx))
       cases hcc : c.callee with
       | value f =>
         have hf : VR E ((compO f).ev tm) (ev f) := hc f (by unfold Call.operands; rw [Array.toList_append, hcc]; exact List.mem_append.2 (.inl (by simp)))
         have hA : c.args.map ev = (c.args.toList.map ev).toArray := by apply Array.ext'; simp
         simp only [resolve, hcc, hA]
         exact xDefer_ok hf (evL_rel hargs)
       | _ => exact Good.bad)

theorem opnFine_ok {x : Operand} (hx : opnFine P.globals.size x = true) (ht : ∀ t, x = .tmp t → VR E (getU tm t) (ev x)) (hc : ∀ v, x = .const v → ev x = v) (hf : ∀ f, x = .func f → ev x = .func (.func f) #[] #[])
    (hg : ∀ g, x = .global g → g < P.globals.size → VR E (.ptr g 0) (ev x)) : VR E ((compO x).ev tm) (ev x) := by
  cases x with
  | tmp t => exact ht t rfl
  | const v =>
    rw [hc v rfl]
    exact VR.ofVal E 8 v hx
  | func f =>
    rw [hf f rfl]
    exact .func _ _ _ _ _ _ rfl .nil .nil
  | global g => exact hg g rfl (Nat.le_of_ble_eq_true hx)
/-- ONE OPERATION -/
theorem compOp_ok (h : WR w0 E H nx w) (o : Oper) (hev : ∀ x ∈ o.op.operands.toList, opnFine P.globals.size x = true → VR E ((compO x).ev tm) (ev x)) :
    Good P w0 E H nx w ((execOp ev o).run P w) (exOp (compOp P o) tm H nx) := by
  unfold compOp
  cases hb : o.op.operands.toList.all (opnFine P.globals.size) with
  | false => exact Good.bad
  | true => exact compOp0_ok h o fun x hx => hev x hx (List.all_eq_true.1 hb x hx)
end
end Go.Exo

namespace Go.Exo

/-! ### relations -/
def DRs (E : Env) : List ADef → List Deferred → Prop
  | [], ds => ds = []
  | a :: as, ds => ∃ d r, ds = d :: r ∧ DR E a d ∧ DRs E as r
def ChR (E : Env) : List (V × Bool) → List PanicEntry → Prop
  | [], es => es = []
  | (v, b) :: r, es => ∃ x t, es = { v := x, recovered := b, goexit := false } :: t ∧ VR E v x ∧ ChR E r t
def ModeR (E : Env) : AMode → FrameMode → Prop
  | .run, m => m = .run
  | .returning, m => m = .returning
  | .panicking ch, m => ∃ es, m = .panicking es ∧ ChR E ch es
def RoundR (E : Env) : Option Nat → Option Nat → Prop
  | none, r => r = none
  | some l, r => ∃ p, E l = some p ∧ r = some p.blk
def ItemR (E : Env) : AItem → Item → Prop
  | .code c, i => i = .code c
  | .inBlock id, i => i = .inBlock id
  | .inLoop c, i => i = .inLoop c
  | .inScope c, i => i = .inScope c
  | .inRF l, i => ∃ p, E l = some p ∧ i = .inRangeFunc p.blk
  | .endRF l, i => ∃ p, E l = some p ∧ i = .endRangeFunc p.blk
  | .beginRound, i => i = .beginRound
  | .steps _ _ _, _ => False
  | .call _ _, _ => False
  | .halt _, _ => False
def TodoR (E : Env) : List AItem → List Item → Prop
  | [], t => t = []
  | .halt l :: _, t => ∃ p, E l = some p ∧ t = p.tail
  | a :: as, t => ∃ i r, t = i :: r ∧ ItemR E a i ∧ TodoR E as r

theorem DR.mono {E E' : Env} (h : E.le E') {a : ADef} {d : Deferred} (hd : DR E a d) : DR E' a d := by
  cases a with
  | call fn cap args => obtain ⟨fn', cs, xs, h1, h2, h3, h4⟩ := hd; exact ⟨fn', cs, xs, h1.mono h, h2.mono h, h3.mono h, h4⟩
  | collected l => obtain ⟨p, h1, h2⟩ := hd; exact ⟨p, h _ _ h1, h2⟩
theorem DRs.mono {E E' : Env} (h : E.le E') : ∀ {as : List ADef} {ds : List Deferred}, DRs E as ds → DRs E' as ds
  | [], _, hd => hd
  | _ :: _, _, ⟨d, r, e, h1, h2⟩ => ⟨d, r, e, h1.mono h, DRs.mono h h2⟩
theorem ChR.mono {E E' : Env} (h : E.le E') : ∀ {as : List (V × Bool)} {es : List PanicEntry}, ChR E as es → ChR E' as es
  | [], _, hd => hd
  | (_, _) :: _, _, ⟨x, t, e, h1, h2⟩ => ⟨x, t, e, h1.mono h, ChR.mono h h2⟩
theorem ModeR.mono {E E' : Env} (h : E.le E') {a : AMode} {m : FrameMode} (hm : ModeR E a m) : ModeR E' a m := by
  cases a with
  | run => exact hm
  | returning => exact hm
  | panicking ch => obtain ⟨es, h1, h2⟩ := hm; exact ⟨es, h1, h2.mono h⟩
theorem RoundR.mono {E E' : Env} (h : E.le E') {a r : Option Nat} (hr : RoundR E a r) : RoundR E' a r := by
  cases a with
  | none => exact hr
  | some l => obtain ⟨p, h1, h2⟩ := hr; exact ⟨p, h _ _ h1, h2⟩
theorem ItemR.mono {E E' : Env} (h : E.le E') {a : AItem} {i : Item} (hi : ItemR E a i) : ItemR E' a i := by
  cases a with
  | inRF l => obtain ⟨p, h1, h2⟩ := hi; exact ⟨p, h _ _ h1, h2⟩
  | endRF l => obtain ⟨p, h1, h2⟩ := hi; exact ⟨p, h _ _ h1, h2⟩
  | call _ _ => exact hi.elim
  | halt _ => exact hi.elim
  | _ => exact hi
theorem TodoR.mono {E E' : Env} (h : E.le E') : ∀ {as : List AItem} {t : List Item}, TodoR E as t → TodoR E' as t
  | [], _, hd => hd
  | a :: as, t, hd => by
    cases a with
    | halt l => obtain ⟨p, h1, h2⟩ := hd; exact ⟨p, h _ _ h1, h2⟩
    | _ => obtain ⟨i, r, e, h1, h2⟩ := hd; exact ⟨i, r, e, h1.mono h, TodoR.mono h h2⟩
theorem ChR.append {E : Env} : ∀ {as bs : List (V × Bool)} {es fs : List PanicEntry}, ChR E as es → ChR E bs fs → ChR E (as ++ bs) (es ++ fs)
  | [], _, _, _, h, h' => by cases h; exact h'
  | (_, _) :: _, _, _, _, ⟨x, t, e, h1, h2⟩, h' => by subst e; exact ⟨x, _, rfl, h1, ChR.append h2 h'⟩

/-! ### temporaries -/
theorem TR.put {E : Env} {tm : T V} {xs : Array Value} (h : TR E tm xs) {d : Nat} {v : V} {x : Value} (hv : VR E v x) (hd : d < xs.size) : TR E (put undefV tm d v) (xs.setIfInBounds d x) := by
  intro i
  rw [getU_put]
  by_cases e : i = d
  · subst e
    rw [if_pos rfl]
    simp [hd, hv]
  · rw [if_neg e]
    have := h i
    have e2 : (xs.setIfInBounds d x).getD i undef = xs.getD i undef := by simp [Ne.symm e]
    rw [e2]; exact this

/-! ### a region that is under way -/
def dstOf (ops : Array Oper) (i : Nat) : Option Nat := (ops[i]?).bind (·.dst)
/-- the slots that an operation looks at -/
def looks (ops : Array Oper) (o : Oper) : List Nat := opTmps o ++ (match gdOf ops o with | some (t, _) => [t] | none => [])
def GNo (g : Gd) (tm : T V) : Prop := ∃ t want, g = some (t, want) ∧ ((∃ b, getU tm t = .bool b ∧ b ≠ want) ∨ ∃ vs, getU tm t = .tup vs)
def GYes (g : Gd) (tm : T V) : Prop := g = none ∨ ∃ t want, g = some (t, want) ∧ getU tm t = .bool want
/-- a step is that of its operation -/
def SOf (P : Program) (ops : Array Oper) (s : PStep) : Prop :=
  ∃ o, ops[s.idx]? = some o ∧ s.op = (pstep P ops s.idx o).op ∧ s.dst = o.dst ∧ s.guard = gdOf ops o ∧ (s.fast = true → s.guard = none ∧ s.again = [] ∧ s.apart = [])
/-- what an operation that makes something makes -/
structure NewOp (ao : AOp) (tm : T V) (mk : Nat → V) (ob : AObj) : Prop where
  ex : ∀ H nx, exOp ao tm H nx = .valH (mk nx) (put .no H nx ob) (nx + 1)
  cls : clsOf ob = 0
  isc : isCls ob = false
/-- what an operation that the abstract machine has done ahead, and the real one has not, comes to -/
def PF (P : Program) (E : Env) (H : T AObj) (lo hi : Nat) (ops : Array Oper) (tm : T V) (pl : Nat → Option Nat) (rd : Bool) (i : Nat) : Prop :=
  ∃ o tm0, ops[i]? = some o ∧ (∀ t ∈ looks ops o, getU tm0 t = getU tm t) ∧
    ((GNo (gdOf ops o) tm0 ∧ ∀ d, o.dst = some d → getU tm d = undefV) ∨
     (GYes (gdOf ops o) tm0 ∧ ∃ v, (∀ d, o.dst = some d → getU tm d = v) ∧
      (((pstep P ops i o).op.cls = 0 ∧ ∀ H nx, exOp (pstep P ops i o).op tm0 H nx = .val v) ∨
       ((pstep P ops i o).op.cls = 2 ∧ (rd = true → ∃ nx, exOp (pstep P ops i o).op tm0 H nx = .val v)) ∨
       ((pstep P ops i o).op.cls = 1 ∧ ∃ l mk, pl i = some l ∧ lo ≤ l ∧ l < hi ∧ E l = none ∧ NewOp (pstep P ops i o).op tm0 mk (getH H l) ∧ v = mk l))))
/-- the real order: what an operation looks at is not written later; each slot is written once -/
def Ord (ops : Array Oper) (is : List Nat) : Prop :=
  is.Nodup ∧ (∀ i ∈ is, i < ops.size) ∧ (∀ i ∈ is, ∀ j ∈ is, ∀ d, dstOf ops i = some d → dstOf ops j = some d → i = j) ∧
  ∀ a i b, is = a ++ i :: b → ∀ o, ops[i]? = some o → ∀ t ∈ looks ops o, ∀ j ∈ i :: b, dstOf ops j ≠ some t
/-- the abstract order and the real one fit: the next action of the one is the next that is new in the other -/
def Compat (P : Program) (ops : Array Oper) : List PStep → List Nat → Prop
  | [], _ => True
  | s :: r, is => SOf P ops s ∧ s.idx ∈ is ∧ (∀ s' ∈ r, s'.idx ≠ s.idx) ∧ s.apart = [] ∧
    (∀ d, s.dst = some d → ∀ i ∈ is, (∀ s' ∈ s :: r, s'.idx ≠ i) → ∀ o, ops[i]? = some o → d ∉ looks ops o) ∧
    ((s.op.cls ≤ 2 ∧ s.again = [] ∧ Compat P ops r is) ∨
     (2 < s.op.cls ∧ ∃ a b, is = a ++ s.idx :: b ∧ (∀ i ∈ a, ∀ s' ∈ s :: r, s'.idx ≠ i) ∧
       (∀ i ∈ b, (∀ s' ∈ r, s'.idx ≠ i) → ∀ o, ops[i]? = some o → (pstep P ops i o).op.cls = 2 → ∃ d, o.dst = some d ∧ (d, gdOf ops o, (pstep P ops i o).op) ∈ s.again) ∧
       Compat P ops r b))
/-- the last step, set forward -/
def z0Of (z : PStep) : PStep := { z with apart := [], fast := true }
/-- no store's place is written by a later step -/
def PairsOk : List PStep → Prop
  | [] => True
  | t :: r => (∀ m b y, t.op = .store m b y → ∀ s ∈ r, ∀ d, s.dst = some d → d ∉ aoTmps b) ∧ PairsOk r
/-- what is asked of the steps between -/
structure TOk (z : PStep) (T2 : List PStep) : Prop where
  each : ∀ t ∈ T2, okT z t = true ∧ (t.op.cls = 3 → (none, t.op) ∈ z.apart)
  pairs : PairsOk T2
/-- the abstract order and the real one fit, or do so as soon as the last store is set forward -/
def FitZ (P : Program) (ops : Array Oper) (l : List PStep) (is : List Nat) : Prop :=
  Compat P ops l is ∨ ∃ T1 T2 z, l = T1 ++ T2 ++ [z] ∧ lastZ z = true ∧ z.fast = false ∧ TOk z T2 ∧ Compat P ops (T1 ++ z0Of z :: T2) is
/-- within a drawn region: l are the abstract steps to come, is the real ones; rd: the reads ahead are good -/
structure DInv (P : Program) (E : Env) (H : T AObj) (lo hi : Nat) (ops : Array Oper) (l : List PStep) (is : List Nat) (tm : T V) (tmps : Array Value) (rd : Bool) : Prop where
  ord : Ord ops is
  fit : FitZ P ops l is
  slots : ∀ t, (∀ i ∈ is, (∀ s ∈ l, s.idx ≠ i) → dstOf ops i ≠ some t) → VR E (getU tm t) (tmps.getD t undef)
  size : ∀ i ∈ is, (∀ s ∈ l, s.idx ≠ i) → ∀ d, dstOf ops i = some d → d < tmps.size
  pend : ∃ pl : Nat → Option Nat, (∀ i j x, pl i = some x → pl j = some x → i = j) ∧ ∀ i ∈ is, (∀ s ∈ l, s.idx ≠ i) → PF P E H lo hi ops tm pl rd i
/-- a frame that waits within a region at step s, r to come; the real indices to come -/
def RegR (P : Program) (E : Env) (H : T AObj) (lo hi : Nat) (ops : Array Oper) (draw : Bool) (s : PStep) (r : List PStep) (is : List Nat) (tm : T V) (tmps : Array Value) : Prop :=
  (draw = false ∧ ∃ o i, ops[i]? = some o ∧ s = pstep P ops i o ∧ r = planS P ops (ops.toList.drop (i + 1)) (i + 1) ∧ is = List.range' (i + 1) (ops.size - (i + 1)) ∧ TR E tm tmps) ∨
  (draw = true ∧ SOf P ops s ∧ Ord ops (s.idx :: is) ∧ (∀ s' ∈ r, s'.idx ≠ s.idx) ∧
    (∀ d, s.dst = some d → ∀ i ∈ is, (∀ s' ∈ s :: r, s'.idx ≠ i) → ∀ o, ops[i]? = some o → d ∉ looks ops o) ∧
    (∀ i ∈ is, (∀ s' ∈ r, s'.idx ≠ i) → ∀ o, ops[i]? = some o → (pstep P ops i o).op.cls = 2 → ∃ d, o.dst = some d ∧ (d, gdOf ops o, (pstep P ops i o).op) ∈ s.again) ∧
    DInv P E H lo hi ops r is tm tmps false)
def SR (P : Program) (E : Env) (H : T AObj) (lo hi : Nat) (f : AFrame) (fr : Frame) : Prop :=
  fr.fn = f.fn ∧ fr.kind = f.kind ∧ RoundR E f.round fr.roundOf ∧ DRs E f.defers fr.defers ∧ ModeR E f.mode fr.mode ∧ fr.tmps.size = f.size ∧
  match f.mode with
  | .run => (match f.todo with
    | .steps (s :: r) ops draw :: k => ∃ is k', fr.todo = .inRegion ops (s.idx :: is) :: k' ∧ TodoR E k k' ∧ RegR P E H lo hi ops draw s r is f.tmps fr.tmps
    | .inRF l :: k => ∃ p k', E l = some p ∧ fr.todo = .inRangeFunc p.blk :: k' ∧ TodoR E k k' ∧ TR E f.tmps fr.tmps
    | _ => False)
  | _ => TR E f.tmps fr.tmps
def FrsR (P : Program) (cs0 : List Frame) (E : Env) (H : T AObj) : Nat → List AFrame → List Frame → Prop
  | _, [], frs => frs = cs0
  | b, f :: fs, frs => ∃ lo fr r, frs = fr :: r ∧ lo ≤ b ∧ SR P E H lo b f fr ∧ FrsR P cs0 E H lo fs r
/-- below b nothing that is not made yet is touched -/
def KeepB (b : Nat) (E E' : Env) (H H' : T AObj) : Prop := ∀ l, l < b → E l = none → isCls (getH H l) = false → E' l = none ∧ getH H' l = getH H l
theorem KeepB.le {a b : Nat} {E E' : Env} {H H' : T AObj} (h : KeepB b E E' H H') (hab : a ≤ b) : KeepB a E E' H H' := fun l hl => h l (by omega)
theorem PF.mono {P : Program} {E E' : Env} {H H' : T AObj} {lo hi : Nat} {ops : Array Oper} {tm : T V} {pl : Nat → Option Nat} {rd : Bool} {i : Nat} (h : PF P E H lo hi ops tm pl rd i)
    (hk : KeepB hi E E' H H') : PF P E' H' lo hi ops tm pl false i := by
  obtain ⟨o, tm0, h1, h2, h3⟩ := h
  refine ⟨o, tm0, h1, h2, h3.imp id fun ⟨g, v, hv, hh⟩ => ⟨g, v, hv, ?_⟩⟩
  rcases hh with hh | hh | ⟨c1, l, mk, a1, a2, a3, a4, a5, a6⟩
  · exact .inl hh
  · exact .inr (.inl ⟨hh.1, fun e => by cases e⟩)
  · obtain ⟨b1, b2⟩ := hk l a3 a4 a5.isc
    exact .inr (.inr ⟨c1, l, mk, a1, a2, a3, b1, by rw [b2]; exact a5, a6⟩)
theorem DInv.mono {P : Program} {E E' : Env} {H H' : T AObj} {lo hi : Nat} {ops : Array Oper} {l : List PStep} {is : List Nat} {tm : T V} {tmps : Array Value} {rd : Bool}
    (h : DInv P E H lo hi ops l is tm tmps rd) (hE : E.le E') (hk : KeepB hi E E' H H') : DInv P E' H' lo hi ops l is tm tmps false := by
  obtain ⟨h1, h2, h3, h6, pl, h4, h5⟩ := h
  exact ⟨h1, h2, fun t ht => (h3 t ht).mono hE, h6, pl, h4, fun i hi hl => (h5 i hi hl).mono hk⟩
theorem RegR.mono {P : Program} {E E' : Env} {H H' : T AObj} {lo hi : Nat} {ops : Array Oper} {draw : Bool} {s : PStep} {r : List PStep} {is : List Nat} {tm : T V} {tmps : Array Value}
    (h : RegR P E H lo hi ops draw s r is tm tmps) (hE : E.le E') (hk : KeepB hi E E' H H') : RegR P E' H' lo hi ops draw s r is tm tmps := by
  rcases h with ⟨h1, o, i, h2, h3, h4, h5, h6⟩ | ⟨h1, h2, h3, h4, h5, h6, h7⟩
  · exact .inl ⟨h1, o, i, h2, h3, h4, h5, h6.mono hE⟩
  · exact .inr ⟨h1, h2, h3, h4, h5, h6, h7.mono hE hk⟩
theorem SR.mono {P : Program} {E E' : Env} {H H' : T AObj} {lo hi : Nat} {f : AFrame} {fr : Frame} (h : SR P E H lo hi f fr) (hE : E.le E') (hk : KeepB hi E E' H H') : SR P E' H' lo hi f fr := by
  obtain ⟨h1, h2, h3, h4, h5, h6, h7⟩ := h
  refine ⟨h1, h2, h3.mono hE, h4.mono hE, h5.mono hE, h6, ?_⟩
  cases hm : f.mode with
  | run =>
    rw [hm] at h7
    simp only at h7 ⊢
    split at h7
    · obtain ⟨is, k', a1, a2, a3⟩ := h7
      exact ⟨is, k', a1, a2.mono hE, a3.mono hE hk⟩
    · obtain ⟨p, k', a1, a2, a3, a4⟩ := h7
      exact ⟨p, k', hE _ _ a1, a2, a3.mono hE, a4.mono hE⟩
    · exact h7.elim
  | returning => rw [hm] at h7; exact TR.mono hE h7
  | panicking ch => rw [hm] at h7; exact TR.mono hE h7
theorem FrsR.mono {P : Program} {cs0 : List Frame} {E E' : Env} {H H' : T AObj} (hE : E.le E') : ∀ {fs : List AFrame} {b : Nat} {frs : List Frame}, KeepB b E E' H H' → FrsR P cs0 E H b fs frs → FrsR P cs0 E' H' b fs frs
  | [], _, _, _, h => h
  | _ :: _, _, _, hk, ⟨lo, fr, r, h1, h2, h3, h4⟩ => ⟨lo, fr, r, h1, h2, h3.mono hE hk, FrsR.mono hE (hk.le h2) h4⟩
theorem FrsR.up {P : Program} {cs0 : List Frame} {E : Env} {H : T AObj} {fs : List AFrame} {b b' : Nat} {frs : List Frame} (h : FrsR P cs0 E H b fs frs) (hb : b ≤ b')
    (hup : ∀ f fs', fs = f :: fs' → ∀ lo fr, SR P E H lo b f fr → SR P E H lo b' f fr) : FrsR P cs0 E H b' fs frs := by
  cases fs with
  | nil => exact h
  | cons f fs => obtain ⟨lo, fr, r, h1, h2, h3, h4⟩ := h; exact ⟨lo, fr, r, h1, by omega, hup f fs rfl lo fr h3, h4⟩

/-- what a frame that runs has to do -/
def RunR (P : Program) (E : Env) (tm : T V) (fr : Frame) : List AItem → Prop
  | .call f args :: k => TodoR E k fr.todo ∧ TR E tm fr.tmps ∧ ∃ xs, VRs E args xs ∧ fr = Frame.enter P f xs.toArray .normal
  | t => TodoR E t fr.todo ∧ TR E tm fr.tmps
theorem RunR.of {P : Program} {E : Env} {tm : T V} {fr : Frame} {t : List AItem} (h : TodoR E t fr.todo) (ht : TR E tm fr.tmps) : RunR P E tm fr t := by
  unfold RunR
  split
  · obtain ⟨i, r, _, hi, _⟩ := h; exact hi.elim
  · exact ⟨h, ht⟩
/-- A MACHINE, abstract and real -/
structure MR (P : Program) (w0 : Bs) (cs0 : List Frame) (E : Env) (m : AMode) (t : List AItem) (c : Ctx) (fr : Frame) (cs : List Frame) (w : World) : Prop where
  wr : WR w0 E c.H c.nx w
  gl : ∀ g, g < P.globals.size → ∃ s, E g = some ⟨g, 0, s, undef, noOb, []⟩
  frs : ∃ b, b ≤ c.nx ∧ FrsR P cs0 E c.H b c.cs cs
  fn : fr.fn = c.fn
  kind : fr.kind = c.kind
  round : RoundR E c.round fr.roundOf
  defers : DRs E c.ds fr.defers
  mode : ModeR E m fr.mode
  size : fr.tmps.size = c.sz
  rest : match m with
    | .run => RunR P E c.tm fr t
    | .returning => TR E c.tm fr.tmps
    | .panicking _ => c.ds = [] ∨ TR E c.tm fr.tmps
/-- what comes of an abstract run, the real machine comes to -/
def Fin (P : Program) (w0 : Bs) (cs0 : List Frame) (out : Out) (fr : Frame) (cs : List Frame) (w : World) : Prop :=
  ∀ m' t' c', out = .st m' t' c' → ∃ E' fr' cs' w', Steps P (lone fr cs w) (lone fr' cs' w') ∧ MR P w0 cs0 E' m' t' c' fr' cs' w'
def Sound (P : Program) (w0 : Bs) (cs0 : List Frame) (F : Ih) : Prop :=
  ∀ E m t c fr cs w, MR P w0 cs0 E m t c fr cs w → Fin P w0 cs0 (F m t c) fr cs w
theorem Fin.fail {P : Program} {w0 : Bs} {cs0 : List Frame} {a b d : Nat} {fr : Frame} {cs : List Frame} {w : World} : Fin P w0 cs0 (.fail a b d) fr cs w := fun _ _ _ h => by cases h
theorem Fin.steps {P : Program} {w0 : Bs} {cs0 : List Frame} {out : Out} {fr fr' : Frame} {cs cs' : List Frame} {w w' : World} (hs : Steps P (lone fr cs w) (lone fr' cs' w')) (h : Fin P w0 cs0 out fr' cs' w') : Fin P w0 cs0 out fr cs w := by
  intro m' t' c' e
  obtain ⟨E', a, b, d, h1, h2⟩ := h m' t' c' e
  exact ⟨E', a, b, d, hs.trans h1, h2⟩
theorem Fin.step {P : Program} {w0 : Bs} {cs0 : List Frame} {out : Out} {fr fr' : Frame} {cs cs' : List Frame} {w w' : World} (hs : Go.step P (lone fr cs w) = .next (lone fr' cs' w')) (h : Fin P w0 cs0 out fr' cs' w') : Fin P w0 cs0 out fr cs w :=
  Fin.steps (.one hs) h
end Go.Exo

namespace Go.Exo
section
variable {P : Program} {fr : Frame} {cs : List Frame} {w : World} {k : List Item} (hm : fr.mode = .run)
include hm
theorem st_skip (ht : fr.todo = .code .skip :: k) : Go.step P (lone fr cs w) = .next (lone { fr with todo := k } cs w) := by
  cases fr; simp only at hm ht; subst hm ht; exact step_lone_go (by simp [stepG, stepG.exec])
theorem st_label {l : Nat} (ht : fr.todo = .code (.label l) :: k) : Go.step P (lone fr cs w) = .next (lone { fr with todo := k } cs w) := by
  cases fr; simp only at hm ht; subst hm ht; exact step_lone_go (by simp [stepG, stepG.exec])
theorem st_inBlock {id : Nat} (ht : fr.todo = .inBlock id :: k) : Go.step P (lone fr cs w) = .next (lone { fr with todo := k } cs w) := by
  cases fr; simp only at hm ht; subst hm ht; exact step_lone_go (by simp [stepG, stepG.exec])
theorem st_inScope {c : Code} (ht : fr.todo = .inScope c :: k) : Go.step P (lone fr cs w) = .next (lone { fr with todo := k } cs w) := by
  cases fr; simp only at hm ht; subst hm ht; exact step_lone_go (by simp [stepG, stepG.exec])
theorem st_seq {a b : Code} (ht : fr.todo = .code (.seq a b) :: k) : Go.step P (lone fr cs w) = .next (lone { fr with todo := .code a :: .code b :: k } cs w) := by
  cases fr; simp only at hm ht; subst hm ht; exact step_lone_go (by simp [stepG, stepG.exec])
theorem st_cond {x : Operand} {a b : Code} {t : Bool} (ht : fr.todo = .code (.cond x a b) :: k) (hx : fr.eval x = .bool t) : Go.step P (lone fr cs w) = .next (lone { fr with todo := .code (if t then a else b) :: k } cs w) := by
  refine step_lone_go ?_
  have e : ∀ k', ({ fr with todo := k' } : Frame).eval x = fr.eval x := fun _ => by cases x <;> rfl
  cases fr; simp only at hm ht; subst hm ht
  simp [stepG, stepG.exec, hx]
theorem st_block {id : Nat} {b : Code} (ht : fr.todo = .code (.block id b) :: k) : Go.step P (lone fr cs w) = .next (lone { fr with todo := .code b :: .inBlock id :: k } cs w) := by
  cases fr; simp only at hm ht; subst hm ht; exact step_lone_go (by simp [stepG, stepG.exec])
theorem st_loop {b : Code} (ht : fr.todo = .code (.loop b) :: k) : Go.step P (lone fr cs w) = .next (lone { fr with todo := .code b :: .inLoop b :: k } cs w) := by
  cases fr; simp only at hm ht; subst hm ht; exact step_lone_go (by simp [stepG, stepG.exec])
theorem st_inLoop {b : Code} (ht : fr.todo = .inLoop b :: k) : Go.step P (lone fr cs w) = .next (lone { fr with todo := .code b :: .inLoop b :: k } cs w) := by
  cases fr; simp only at hm ht; subst hm ht; exact step_lone_go (by simp [stepG, stepG.exec])
theorem st_scope {b : Code} (ht : fr.todo = .code (.scope b) :: k) : Go.step P (lone fr cs w) = .next (lone { fr with todo := .code b :: .inScope b :: k } cs w) := by
  cases fr; simp only at hm ht; subst hm ht; exact step_lone_go (by simp [stepG, stepG.exec])
theorem st_exit {id : Nat} {k' : List Item} (ht : fr.todo = .code (.exit id) :: k) (he : exitTo id k = some k') : Go.step P (lone fr cs w) = .next (lone { fr with todo := k' } cs w) := by
  cases fr; simp only at hm ht; subst hm ht; exact step_lone_go (by simp [stepG, stepG.exec, he])
theorem st_goto {l : Nat} {k' : List Item} (ht : fr.todo = .code (.goto l) :: k) (he : gotoIn l k = some k') : Go.step P (lone fr cs w) = .next (lone { fr with todo := k' } cs w) := by
  cases fr; simp only at hm ht; subst hm ht; exact step_lone_go (by simp [stepG, stepG.exec, he])
/-- the jump with which a frame is left -/
def leaving (todo : List Item) : Option (Option Code) :=
  match todo with
  | [] => some none
  | .code .ret :: _ => some (some .ret)
  | .code (.exit id) :: k => (match exitTo id k with | none => some (some (.exit id)) | some _ => none)
  | .code (.goto l) :: k => (match gotoIn l k with | none => some (some (.goto l)) | some _ => none)
  | _ => none
theorem st_ret (ht : fr.todo = [] ∨ fr.todo = .code .ret :: k) (hr : fr.roundOf = none) : Go.step P (lone fr cs w) = .next (lone { fr with mode := .returning } cs w) := by
  cases fr; simp only at hm ht hr; subst hm hr
  rcases ht with ht | ht <;> subst ht <;> exact step_lone_go (by simp [stepG, stepG.exec])
/-- a round ends -/
theorem st_round {jump : Option Code} {l : Nat} {w' : World} {v : Value} {c : Frame} (ht : leaving fr.todo = some jump) (hr : fr.roundOf = some l) (he : (Instr.endRound l jump).run P w = .ok v w') (hk : fr.kind = .normal) :
    Go.step P (lone fr (c :: cs) w) = .next (lone (c.finish v) cs w') := by
  cases fr; simp only at hm ht hr hk; subst hm hr hk
  refine step_lone_go ?_
  unfold leaving at ht
  split at ht
  · cases ht
    simp [stepG, stepG.exec, he, doReturn]
  · cases ht
    simp [stepG, stepG.exec, he, doReturn]
  · split at ht
    · rename_i e2
      cases ht
      simp [stepG, stepG.exec, he, e2, doReturn]
    · cases ht
  · split at ht
    · rename_i e2
      cases ht
      simp [stepG, stepG.exec, he, e2, doReturn]
    · cases ht
  · cases ht
theorem st_region {id : Nat} {ops : Array Oper} (ht : fr.todo = .code (.region id ops false) :: k) : Go.step P (lone fr cs w) = .next (lone { fr with todo := .inRegion ops (List.range ops.size) :: k } cs w) := by
  cases fr; simp only at hm ht; subst hm ht; exact step_lone_go (by simp [stepG, stepG.exec])
theorem st_regionD {id : Nat} {ops : Array Oper} (ht : fr.todo = .code (.region id ops true) :: k) :
    Go.step P (lone fr cs w) = .next (lone { fr with todo := .inRegion ops (Region.schedule (P.follows .mixedOrders) ops (w.tape w.drawn (.order fr.fn id))) :: k } cs { w with drawn := w.drawn + 1 }) := by
  cases fr; simp only at hm ht; subst hm ht; exact step_lone_go (by simp [stepG, stepG.exec, choose, Sem.run, Question.forced, Question.cut])
theorem st_regionEnd {ops : Array Oper} (ht : fr.todo = .inRegion ops [] :: k) : Go.step P (lone fr cs w) = .next (lone { fr with todo := k } cs w) := by
  cases fr; simp only at hm ht; subst hm ht; exact step_lone_go (by simp [stepG, stepG.exec])
theorem st_opSkip {ops : Array Oper} {i : Nat} {is : List Nat} (ht : fr.todo = .inRegion ops (i :: is) :: k) (h : ((ops[i]?).map (Region.wanted · (yielded ops fr.tmps))).getD false = false) :
    Go.step P (lone fr cs w) = .next (lone (fr.finish undef) cs w) := by
  cases fr; simp only at hm ht h; subst hm ht; exact step_lone_go (by simp [stepG, stepG.exec, h])
theorem stG_op {ops : Array Oper} {i : Nat} {is : List Nat} {o : Oper} (ht : fr.todo = .inRegion ops (i :: is) :: k) (ho : ops[i]? = some o) (hw : Region.wanted o (yielded ops fr.tmps) = true)
    (hnd : fr.roundOf = none ∨ ∀ c, o.op ≠ .defer c) :
    stepG P true { frame := fr, callers := cs, status := .running, dying := none } w = stepG.apply P true fr cs none (execOp fr.eval o) w := by
  cases fr; simp only at hm ht hw hnd; subst hm ht
  simp only [stepG, stepG.exec, ho, Option.map_some, Option.getD_some, hw, if_true, stepG.oper, Frame.oper?]
  rcases hnd with hnd | hnd
  · subst hnd; rfl
  · split
    · rename_i hc; exact absurd hc (hnd _)
    · rfl
section op
variable {ops : Array Oper} {i : Nat} {is : List Nat} {o : Oper} (ht : fr.todo = .inRegion ops (i :: is) :: k) (ho : ops[i]? = some o) (hw : Region.wanted o (yielded ops fr.tmps) = true)
    (hnd : fr.roundOf = none ∨ ∀ c, o.op ≠ .defer c)
include ht ho hw hnd
theorem st_opVal {n : Next} {v : Value} {w' : World} (hr : (execOp fr.eval o).run P w = .ok n w') (hn : NextV n = some v) : Go.step P (lone fr cs w) = .next (lone (fr.finish v) cs w') := by
  refine step_lone_go ?_
  rw [stG_op hm ht ho hw hnd]
  cases n <;> simp only [NextV] at hn <;> cases hn
  · simp [stepG.apply, hr]
  · simp [stepG.apply, hr]
theorem st_opEnter {f : FuncId} {args : Array Value} {w' : World} (hr : (execOp fr.eval o).run P w = .ok (.enter f args) w') : Go.step P (lone fr cs w) = .next (lone (Frame.enter P f args .normal) (fr :: cs) w') := by
  refine step_lone_go ?_
  rw [stG_op hm ht ho hw hnd]
  simp [stepG.apply, hr, ht]
theorem st_opRound {l : Nat} {f : FuncId} {tmps : Array Value} {a b : Code} {w' : World} (hr : (execOp fr.eval o).run P w = .ok (.round l f tmps a b) w') :
    Go.step P (lone fr cs w) = .next (lone (Frame.round l f tmps a b .normal) (fr :: cs) w') := by
  refine step_lone_go ?_
  rw [stG_op hm ht ho hw hnd]
  simp [stepG.apply, hr]
theorem st_opDefer {d : Deferred} {w' : World} (hr : (execOp fr.eval o).run P w = .ok (.defer d) w') : Go.step P (lone fr cs w) = .next (lone ({ fr with defers := d :: fr.defers }.finish undef) cs w') := by
  refine step_lone_go ?_
  rw [stG_op hm ht ho hw hnd]
  simp [stepG.apply, hr]
theorem st_opPanic {v : Value} {w' : World} (hr : (execOp fr.eval o).run P w = .halt (.panic v) w') : Go.step P (lone fr cs w) = .next (lone { fr with mode := .panicking [{ v, recovered := false }] } cs w') := by
  refine step_lone_go ?_
  rw [stG_op hm ht ho hw hnd]
  simp [stepG.apply, hr, Frame.raise, hm]
theorem st_opRecover {w' : World} (hr : (execOp fr.eval o).run P w = .ok .recover w') (hro : fr.roundOf = none) :
    Go.step P (lone fr cs w) = .next (match tryRecover fr cs with | some (v, cs') => lone (fr.finish v) cs' w' | none => lone (fr.finish .nilIface) cs w') := by
  cases h : tryRecover fr cs with
  | none =>
    simp only
    refine step_lone_go ?_
    rw [stG_op hm ht ho hw hnd]
    simp [stepG.apply, hr, hro, h]
  | some p =>
    obtain ⟨v, cs'⟩ := p
    simp only
    refine step_lone_go ?_
    rw [stG_op hm ht ho hw hnd]
    simp [stepG.apply, hr, hro, h]
end op
theorem st_begin {l : Nat} {w' : World} (ht : fr.todo = .beginRound :: k) (hr : fr.roundOf = some l) (he : (Instr.beginRound l).run P w = .ok () w') : Go.step P (lone fr cs w) = .next (lone { fr with todo := k } cs w') := by
  cases fr; simp only at hm ht hr; subst hm ht hr
  refine step_lone_go ?_
  simp [stepG, stepG.exec, stepG.apply, he, Frame.finish]
theorem st_endLoop {l : Nat} {jump : Option Code} {w' : World} (ht : fr.todo = .endRangeFunc l :: k) (he : (Instr.endLoop l).run P w = .ok jump w') :
    Go.step P (lone fr cs w) = .next (lone { fr with todo := (jump.map Item.code).toList ++ k } cs w') := by
  cases fr; simp only at hm ht; subst hm ht
  refine step_lone_go ?_
  simp [stepG, stepG.exec, he]
theorem st_rangeFunc {f : Operand} {ps : Array Tmp} {a b : Code} {l : Nat} {mark : List Deferred} {w' : World} {g : FuncId} {args : Array Value} (ht : fr.todo = .code (.rangeFunc f ps a b) :: k)
    (he : (Instr.enterLoop fr.fn fr.tmps ps a b fr.roundOf).run P w = .ok (l, mark) w')
    (hi : (do let d ← Deferred.ofValue (fr.eval f) #[.func (.yield l) #[] #[]]; invoke d.target d.args : Sem Next).run P w' = .ok (.enter g args) w') :
    Go.step P (lone fr cs w) = .next (lone (Frame.enter P g args .normal) ({ fr with todo := .inRangeFunc l :: k, defers := mark ++ fr.defers } :: cs) w') := by
  refine step_lone_go ?_
  have e : ∀ td ds, ({ fr with todo := td, defers := ds } : Frame).eval = fr.eval := fun _ _ => by funext x; cases x <;> rfl
  have e2 : (do let d ← resolve ({ fr with todo := .inRangeFunc l :: k, defers := mark ++ fr.defers } : Frame).eval { callee := .value f, args := #[.const (.func (.yield l) #[] #[])], argTypes := #[] } 0; invoke d.target d.args : Sem Next)
      = (do let d ← Deferred.ofValue (fr.eval f) #[.func (.yield l) #[] #[]]; invoke d.target d.args : Sem Next) := by
    rw [e]
    simp [resolve, Frame.eval]
  cases fr; simp only at hm ht; subst hm ht
  simp only at he hi e2
  simp [stepG, stepG.exec, he, stepG.apply, e2, hi]
end
section
variable {P : Program} {fr : Frame} {cs : List Frame} {w : World}
theorem st_collected {b : Nat} {a : Array Value} {ds : List Deferred} {w' : World} (hm : fr.mode ≠ .run) (hd : fr.defers = { target := .collected b, args := a } :: ds) (he : (Instr.takeDeferred b).run P w = .ok [] w') :
    Go.step P (lone fr cs w) = .next (lone { fr with defers := ds } cs w') := by
  refine step_lone_go ?_
  cases hmode : fr.mode with
  | run => exact absurd hmode hm
  | returning => simp [stepG, unwind, hmode, hd, he]
  | panicking chain => simp [stepG, unwind, hmode, hd, he]
theorem st_return {c : Frame} {fn : Func} {v : Value} (hm : fr.mode = .returning) (hd : fr.defers = []) (hf : P.funcs[fr.fn]? = some fn) (hr : (results fn fr.tmps).run P w = .ok v w) (hk : fr.kind = .normal) :
    Go.step P (lone fr (c :: cs) w) = .next (lone (c.finish v) cs w) := step_leave_returned ⟨hm, hd, hk, fn, hf, hr⟩
theorem st_returnD {c : Frame} {fn : Func} {v : Value} (hm : fr.mode = .returning) (hd : fr.defers = []) (hf : P.funcs[fr.fn]? = some fn) (hr : (results fn fr.tmps).run P w = .ok v w) (hk : fr.kind = .deferred) :
    Go.step P (lone fr (c :: cs) w) = .next (lone { c with mode := settle c.mode } cs w) := step_going_returned hk ⟨hm, hd, fn, hf, hr⟩
theorem st_raise {c : Frame} {fn : Func} {chain : List PanicEntry} (hm : fr.mode = .panicking chain) (hd : fr.defers = []) (hf : P.funcs[fr.fn]? = some fn) : Go.step P (lone fr (c :: cs) w) = .next (lone (c.raise chain) cs w) :=
  step_leave_panicked ⟨hm, hd, fn, hf⟩
end
end Go.Exo

namespace Go.Exo
section
variable {P : Program} {w0 : Bs} {cs0 : List Frame} {E : Env} {ih : Ih}

theorem Fin.setD {d : Option Nat} {v : V} {tm : T V} {sz : Nat} {k : T V → Out} {fr : Frame} {cs : List Frame} {w : World}
    (h0 : d = none → Fin P w0 cs0 (k tm) fr cs w) (h1 : ∀ t, d = some t → t < sz → Fin P w0 cs0 (k (put undefV tm t v)) fr cs w) : Fin P w0 cs0 (setD d v tm sz k) fr cs w := by
  cases d with
  | none => exact h0 rfl
  | some t =>
    simp only [Exo.setD, setUO_eq]
    cases hb : Nat.ble (Nat.succ t) sz with
    | false => exact Fin.fail
    | true => exact h1 t rfl (Nat.le_of_ble_eq_true hb)
theorem Fin.cond {b : Bool} {x y : Out} {fr : Frame} {cs : List Frame} {w : World} (h1 : b = true → Fin P w0 cs0 x fr cs w) (h2 : b = false → Fin P w0 cs0 y fr cs w) : Fin P w0 cs0 (cond b x y) fr cs w := by
  cases b with
  | true => exact h1 rfl
  | false => exact h2 rfl

theorem putL_getU (vs : List V) (off : Nat) (cs : T V) (i : Nat) : getU (putL undefV vs off cs) i = if off ≤ i then (vs[i - off]?).getD (getU cs i) else getU cs i := get_putL _ _ _ _ _
theorem TR.enter {args : List V} {xs : List Value} (h : VRs E args xs) (n : Nat) : TR E (putL undefV args 0 .e) (xs.toArray ++ Array.replicate n undef) := by
  intro i
  rw [putL_getU, if_pos (Nat.zero_le _), Nat.sub_zero]
  have hl := h.length
  by_cases c : i < args.length
  · obtain ⟨x, hx, hr⟩ := h.get i _ (List.getElem?_eq_getElem c)
    rw [List.getElem?_eq_getElem c]
    have : (xs.toArray ++ Array.replicate n undef).getD i undef = x := by
      have hx2 : xs.toArray[i]? = some x := by simpa using hx
      have : (xs.toArray ++ Array.replicate n undef)[i]? = some x := by rw [Array.getElem?_append_left (by simp; omega)]; exact hx2
      rw [Array.getD_eq_getD_getElem?, this]; rfl
    rw [this]; exact hr
  · rw [List.getElem?_eq_none (by omega)]
    have : (xs.toArray ++ Array.replicate n undef).getD i undef = undef := by
      rw [Array.getD_eq_getD_getElem?]
      by_cases c2 : i < xs.length + n
      · rw [Array.getElem?_append_right (by simp; omega)]
        have : (Array.replicate n undef)[i - xs.toArray.size]? = some undef := by rw [Array.getElem?_replicate, if_pos (by simp; omega)]
        rw [this]; rfl
      · rw [Array.getElem?_eq_none (by simp; omega)]; rfl
    rw [this]; exact VR.undef E

theorem enter_ok (hs : Sound P w0 cs0 ih) {H : T AObj} {nx : Nat} {w : World} (hwr : WR w0 E H nx w) (hgl : ∀ g, g < P.globals.size → ∃ s, E g = some ⟨g, 0, s, undef, noOb, []⟩) {afs : List AFrame} {frs : List Frame}
    (hf : FrsR P cs0 E H nx afs frs) {f : Nat} {args : List V} {xs : List Value} (ha : VRs E args xs) (kind : CallKind) :
    Fin P w0 cs0 (enterK P f args kind afs H nx ih) (Frame.enter P f xs.toArray kind) frs w := by
  unfold enterK
  cases hfo : fnOf P f with
  | none => exact Fin.fail
  | some a =>
    obtain ⟨fn, body, h1, h2, h3, h4⟩ := fnOf_some hfo
    subst h4
    refine Fin.cond (fun hb => ?_) fun _ => Fin.fail
    have hle : args.length ≤ fn.ntmps := Nat.le_of_ble_eq_true hb
    have hl := ha.length
    simp only [ofK_eq]
    refine hs E _ _ _ _ _ _ ⟨hwr, hgl, ⟨nx, Nat.le_refl _, hf⟩, rfl, rfl, rfl, rfl, rfl, ?_, ?_⟩
    · simp only [Frame.enter, h1, Option.map_some, Option.getD_some]
      simp; omega
    · have ht : TodoR E [.code body] (Frame.enter P f xs.toArray kind).todo := ⟨_, _, rfl, by simp [ItemR, h1, h2], rfl⟩
      have htr : TR E (putL undefV args 0 .e) (Frame.enter P f xs.toArray kind).tmps := TR.enter ha _
      cases kind with
      | normal => exact ⟨ht, htr, xs, ha, rfl⟩
      | _ => exact RunR.of ht htr

theorem foldl_params {tm : T V} {k : T V → Out} {fr : Frame} {frs : List Frame} {w : World} :
    ∀ (ps : List Nat) (args : List V) (xs : List Value) (tm : T V) (tmps : Array Value), VRs E args xs → TR E tm tmps →
      (∀ tm' tmps', ps.length = xs.length → tmps' = (ps.zip xs).foldl (fun tmps (x : Nat × Value) => tmps.setIfInBounds x.1 x.2) tmps → tmps'.size = tmps.size → TR E tm' tmps' → Fin P w0 cs0 (k tm') fr frs w) →
      Fin P w0 cs0 (setParams tm tmps.size ps args k) fr frs w
  | [], [], xs, tm, tmps, ha, ht, hk => by
    cases ha
    exact hk tm tmps rfl rfl rfl ht
  | [], _ :: _, _, _, _, _, _, _ => Fin.fail
  | _ :: _, [], _, _, _, _, _, _ => Fin.fail
  | p :: ps, v :: vs, xs, tm, tmps, ha, ht, hk => by
    cases ha with
    | cons _ x _ xs h1 h2 =>
      simp only [setParams, setUO_eq]
      refine Fin.cond (fun hb => ?_) fun _ => Fin.fail
      have hlt : p < tmps.size := Nat.le_of_ble_eq_true hb
      have := foldl_params (tm := tm) (k := k) (fr := fr) (frs := frs) (w := w) ps vs xs (put undefV tm p v) (tmps.setIfInBounds p x) h2 (ht.put h1 hlt) (fun tm' tmps' a1 a2 a3 a4 =>
        hk tm' tmps' (by simp [a1]) (by simpa using a2) (by simpa using a3) a4)
      simpa using this

theorem round_ok (hs : Sound P w0 cs0 ih) {H : T AObj} {nx : Nat} {w : World} (hwr : WR w0 E H nx w) (hgl : ∀ g, g < P.globals.size → ∃ s, E g = some ⟨g, 0, s, undef, noOb, []⟩) {afs : List AFrame} {frs : List Frame}
    (hf : FrsR P cs0 E H nx afs frs) {l : Nat} {p : Pl} (hp : E l = some p) {args : List V} {xs : List Value} (ha : VRs E args xs) {fr : Frame} {cs : List Frame}
    (hstep : ∀ fn tmps a b, (Instr.yield p.blk xs.toArray).run P w = .ok (.round p.blk fn tmps a b) w → Go.step P (lone fr cs w) = .next (lone (Frame.round p.blk fn tmps a b .normal) frs w)) :
    Fin P w0 cs0 (roundK l args afs H nx ih) fr cs w := by
  unfold roundK
  cases ho : getH H l with
  | loop st pd fn tm sz ps assign body d =>
    simp only
    have hobj := hwr.objs l p hp
    rw [ho] at hobj
    obtain ⟨tmps, q, h1, h2, h3, h4⟩ := hobj
    subst h3
    refine foldl_params (tm := tm) ps args xs tm tmps ha h2 fun tm' tmps' a1 a2 a3 a4 => ?_
    have hy : (Instr.yield p.blk xs.toArray).run P w = .ok (.round p.blk fn tmps' assign body) w := by
      have hg : (getObj p.blk).run P w = .ok (.loop { state := st, pending := pd, fn, tmps, params := ps.toArray, assign, body, defers := q.blk }) w := by simp only [getObj, Sem.run, h4]
      have hz : (ps.toArray.zip xs.toArray).foldl (fun tmps (x : Nat × Value) => tmps.setIfInBounds x.1 x.2) tmps = tmps' := by rw [a2]; simp
      simp only [Instr.yield, Instr.getLoop, Sem.run_bind, hg, Result.andThen_ok]
      simp [a1, ← hz]
    refine Fin.step (hstep _ _ _ _ hy) ?_
    refine hs E _ _ _ _ _ _ ⟨hwr, hgl, ⟨nx, Nat.le_refl _, hf⟩, rfl, rfl, ⟨p, hp, rfl⟩, rfl, rfl, by simp only [Frame.round]; exact a3, ?_⟩
    exact RunR.of ⟨_, _, rfl, rfl, _, _, rfl, rfl, _, _, rfl, rfl, rfl⟩ a4
  | _ => exact Fin.fail

/-- the frame that runs, but for its slots and what it has to do -/
structure Cur (P : Program) (w0 : Bs) (cs0 : List Frame) (E : Env) (b : Nat) (c : Ctx) (fr : Frame) (cs : List Frame) (w : World) : Prop where
  wr : WR w0 E c.H c.nx w
  gl : ∀ g, g < P.globals.size → ∃ s, E g = some ⟨g, 0, s, undef, noOb, []⟩
  frs : FrsR P cs0 E c.H b c.cs cs
  ble : b ≤ c.nx
  fn : fr.fn = c.fn
  kind : fr.kind = c.kind
  round : RoundR E c.round fr.roundOf
  defers : DRs E c.ds fr.defers
  mode : fr.mode = .run
  size : fr.tmps.size = c.sz
theorem Cur.mr {b : Nat} {c : Ctx} {fr : Frame} {cs : List Frame} {w : World} (h : Cur P w0 cs0 E b c fr cs w) {t : List AItem} {tm : T V} (ht : TodoR E t fr.todo) (htr : TR E tm fr.tmps) :
    MR P w0 cs0 E .run t { c with tm } fr cs w := ⟨h.wr, h.gl, ⟨b, h.ble, h.frs⟩, h.fn, h.kind, h.round, h.defers, h.mode, h.size, RunR.of ht htr⟩
theorem opVal_hev {fr : Frame} (hgl : ∀ g, g < P.globals.size → ∃ s, E g = some ⟨g, 0, s, undef, noOb, []⟩) {tm : T V} {x : Operand} (hx : opnFine P.globals.size x = true) (ht : ∀ t, x = .tmp t → VR E (getU tm t) (fr.tmps.getD t undef)) :
    VR E ((compO x).ev tm) (fr.eval x) := by
  refine opnFine_ok hx (fun t e => ?_) (fun v e => ?_) (fun f e => ?_) (fun g e hg => ?_)
  · subst e; exact ht t rfl
  · subst e; rfl
  · subst e; rfl
  · subst e
    obtain ⟨s, hs⟩ := hgl g hg
    have := VR.ptr (E := E) g 0 ⟨g, 0, s, undef, noOb, []⟩ hs
    simpa [Frame.eval] using this
end
end Go.Exo

namespace Go.Exo
section
variable {P : Program} {w0 : Bs} {cs0 : List Frame} {E : Env} {ih : Ih}

theorem defer_res {o : Oper} {c : Call} (h : o.op = .defer c) (tm : T V) (H : T AObj) (nx : Nat) : (∃ n, exOp (compOp P o) tm H nx = .fail n) ∨ ∃ d, exOp (compOp P o) tm H nx = .defer d := by
  unfold compOp
  cases hb : o.op.operands.toList.all (opnFine P.globals.size) with
  | false => exact .inl ⟨_, rfl⟩
  | true =>
    rw [h]
    simp only [cond_true, compOp0]
    cases hc : c.callee with
    | value x =>
      show (∃ n, xDefer ((compO x).ev tm) (evL tm (c.args.toList.map compO)) = .fail n) ∨ ∃ d, xDefer ((compO x).ev tm) (evL tm (c.args.toList.map compO)) = .defer d
      cases (compO x).ev tm <;> first | exact .inl ⟨_, rfl⟩ | exact .inr ⟨_, rfl⟩
    | _ => exact .inl ⟨_, rfl⟩

theorem Cur.mono {b : Nat} {c : Ctx} {fr : Frame} {cs : List Frame} {w : World} (h : Cur P w0 cs0 E b c fr cs w) {E' : Env} {H' : T AObj} {nx' : Nat} {w' : World} (hE : E.le E') (hk : KeepB b E E' c.H H') (hn : c.nx ≤ nx')
    (hwr : WR w0 E' H' nx' w') : Cur P w0 cs0 E' b (c.setH H' nx') fr cs w' :=
  ⟨hwr, fun g hg => (h.gl g hg).imp fun s hs => hE _ _ hs, h.frs.mono hE hk, Nat.le_trans h.ble hn, h.fn, h.kind, h.round.mono hE, h.defers.mono hE, h.mode, h.size⟩

theorem SR.of_reg {b : Nat} {c : Ctx} {fr : Frame} {cs : List Frame} {w : World} (h : Cur P w0 cs0 E b c fr cs w) {ops : Array Oper} {draw : Bool} {s : PStep} {r : List PStep} {k : List AItem} {is : List Nat} {k' : List Item} {tm : T V}
    (ht : fr.todo = .inRegion ops (s.idx :: is) :: k') (hk : TodoR E k k') (hreg : RegR P E c.H b c.nx ops draw s r is tm fr.tmps) : SR P E c.H b c.nx (frameOf c tm (.steps (s :: r) ops draw :: k) .run) fr :=
  ⟨h.fn, h.kind, h.round, h.defers, h.mode, h.size, is, k', ht, hk, hreg⟩

theorem resGo_ok (hs : Sound P w0 cs0 ih) {b : Nat} {c : Ctx} {fr : Frame} {cs : List Frame} {w : World} (hc : Cur P w0 cs0 E b c fr cs w) {ops : Array Oper} {s : PStep} {r : List PStep} {is : List Nat} {k : List AItem} {k' : List Item} {draw : Bool}
    (ht : fr.todo = .inRegion ops (s.idx :: is) :: k') {o : Oper} (ho : ops[s.idx]? = some o) (hw : Region.wanted o (yielded ops fr.tmps) = true) (hop : s.op = compOp P o) (hk : TodoR E k k')
    {tm : T V} (hev : ∀ x ∈ o.op.operands.toList, opnFine P.globals.size x = true → VR E ((compO x).ev tm) (fr.eval x)) (hreg : RegR P E c.H b c.nx ops draw s r is tm fr.tmps) (hTR : draw = false → TR E tm fr.tmps) {g : Go1}
    (hA : ∀ E' H' nx' w' v x, E.le E' → KeepB c.nx E E' c.H H' → c.nx ≤ nx' → Cur P w0 cs0 E' b (c.setH H' nx') fr cs w' → VR E' v x → Fin P w0 cs0 (setD s.dst v tm c.sz fun tm' => goOn s g (c.setH H' nx') tm') (fr.finish x) cs w')
    (hB : ∀ (c' : Ctx) fr' cs' v x, c'.H = c.H → c'.nx = c.nx → c'.sz = c.sz → Cur P w0 cs0 E b c' fr' cs' w → fr'.todo = fr.todo → fr'.tmps = fr.tmps → VR E v x → Fin P w0 cs0 (setD s.dst v tm c.sz fun tm' => g tm' c') (fr'.finish x) cs' w) :
    Fin P w0 cs0 (resGo P (exOp s.op tm c.H c.nx) s r g tm c { ops, draw, k, ih }) fr cs w := by
  have hgood := compOp_ok (tm := tm) (ev := fr.eval) hc.wr o hev
  rw [← hop] at hgood
  have hnd : (∀ n, exOp s.op tm c.H c.nx ≠ .fail n) → (∀ d, exOp s.op tm c.H c.nx ≠ .defer d) → fr.roundOf = none ∨ ∀ c, o.op ≠ .defer c := by
    intro h1 h2
    refine .inr fun cc hcc => ?_
    rcases defer_res (P := P) hcc tm c.H c.nx with ⟨n, e⟩ | ⟨d, e⟩
    · rw [← hop] at e; exact h1 n e
    · rw [← hop] at e; exact h2 d e
  have hfrs : FrsR P cs0 E c.H c.nx (frameOf c tm (.steps (s :: r) ops draw :: k) .run :: c.cs) (fr :: cs) := ⟨b, fr, cs, rfl, hc.ble, SR.of_reg hc ht hk hreg, hc.frs⟩
  cases hr : exOp s.op tm c.H c.nx with
  | fail n => exact Fin.fail
  | val v =>
    rw [hr] at hgood
    obtain ⟨n, x, h1, h2, h3⟩ := hgood
    refine Fin.step (st_opVal hc.mode ht ho hw (hnd (by rw [hr]; intro _ e; cases e) (by rw [hr]; intro _ e; cases e)) h1 h2) ?_
    exact hA E c.H c.nx w v x (Env.le.refl E) (fun _ _ h _ => ⟨h, rfl⟩) (Nat.le_refl _) hc h3
  | valH v H' nx' =>
    rw [hr] at hgood
    obtain ⟨n, x, w', E', h1, h2, h3, h4, h5, h6, h7⟩ := hgood
    refine Fin.step (st_opVal hc.mode ht ho hw (hnd (by rw [hr]; intro _ e; cases e) (by rw [hr]; intro _ e; cases e)) h1 h2) ?_
    exact hA E' H' nx' w' v x h3 h7 h6 (hc.mono h3 (KeepB.le h7 hc.ble) h6 h5) h4
  | enter f args =>
    rw [hr] at hgood
    show Fin P w0 cs0 (enterK P f args .normal _ c.H c.nx ih) fr cs w
    cases hfo : fnOf P f with
    | none => unfold enterK; rw [hfo]; exact Fin.fail
    | some a =>
      obtain ⟨xs, h1, h2⟩ := hgood a hfo
      refine Fin.step (st_opEnter hc.mode ht ho hw (hnd (by rw [hr]; intro _ e; cases e) (by rw [hr]; intro _ e; cases e)) h1) ?_
      exact enter_ok hs hc.wr hc.gl hfrs h2 .normal
  | round l args =>
    rw [hr] at hgood
    obtain ⟨p, xs, h1, h2, h3⟩ := hgood
    show Fin P w0 cs0 (roundK l args _ c.H c.nx ih) fr cs w
    refine round_ok hs hc.wr hc.gl hfrs h1 h3 fun fn tmps a b hy => ?_
    exact st_opRound hc.mode ht ho hw (hnd (by rw [hr]; intro _ e; cases e) (by rw [hr]; intro _ e; cases e)) (by rw [h2]; exact hy)
  | pan v =>
    rw [hr] at hgood
    obtain ⟨x, h1, h2⟩ := hgood
    show Fin P w0 cs0 (rPan v s r g tm c { ops, draw, k, ih }) fr cs w
    unfold rPan
    refine Fin.cond (fun _ => Fin.fail) fun hb => ?_
    refine Fin.step (st_opPanic hc.mode ht ho hw (hnd (by rw [hr]; intro _ e; cases e) (by rw [hr]; intro _ e; cases e)) h1) ?_
    refine hs E _ _ _ _ _ _ ⟨hc.wr, hc.gl, ⟨b, hc.ble, hc.frs⟩, hc.fn, hc.kind, hc.round, hc.defers, ⟨_, rfl, x, [], rfl, h2, rfl⟩, hc.size, ?_⟩
    cases draw with
    | false => exact .inr (hTR rfl)
    | true =>
      refine .inl ?_
      simp only [Bool.true_and, Bool.not_eq_false'] at hb
      cases hds : c.ds with
      | nil => rfl
      | cons _ _ => rw [hds] at hb; cases hb
  | recover =>
    rw [hr] at hgood
    show Fin P w0 cs0 (rRec s r g tm c { ops, draw, k, ih }) fr cs w
    unfold rRec
    cases hck : c.kind <;> try exact Fin.fail
    cases hcr : c.round with
    | some _ => exact Fin.fail
    | none =>
      cases hcc : c.cs with
      | nil => exact Fin.fail
      | cons f fs =>
        simp only
        have hro := hc.round
        rw [hcr] at hro
        have hfs := hc.frs
        rw [hcc] at hfs
        obtain ⟨lo, frc, rest, rfl, hlo, hsr, hfr⟩ := hfs
        have hkind : fr.kind = .deferred := by rw [hc.kind, hck]
        have hst := st_opRecover hc.mode ht ho hw (.inl hro) (w' := w) (cs := frc :: rest) hgood hro
        have hmode := hsr.2.2.2.2.1
        have hnone : tryRecover fr (frc :: rest) = none → Fin P w0 cs0 (setD s.dst .nili tm c.sz fun tm => g tm c) fr (frc :: rest) w := by
          intro hn
          rw [hn] at hst
          exact Fin.step hst (hB c fr (frc :: rest) .nili .nilIface rfl rfl rfl hc rfl rfl .nili)
        cases hfm : f.mode with
        | run =>
          rw [hfm] at hmode
          change frc.mode = .run at hmode
          exact hnone (by simp [tryRecover, hkind, hmode])
        | returning =>
          rw [hfm] at hmode
          change frc.mode = .returning at hmode
          exact hnone (by simp [tryRecover, hkind, hmode])
        | panicking ch =>
          rw [hfm] at hmode
          obtain ⟨es, hes, hch⟩ := hmode
          cases ch with
          | nil =>
            cases hch
            exact hnone (by simp [tryRecover, hkind, hes])
          | cons vb old =>
            obtain ⟨v, bb⟩ := vb
            obtain ⟨x, t, rfl, hx, hold⟩ := hch
            cases bb with
            | true => exact hnone (by simp [tryRecover, hkind, hes])
            | false =>
              have htr : tryRecover fr (frc :: rest) = some (x, { frc with mode := .panicking ({ v := x, recovered := true } :: t) } :: rest) := by simp [tryRecover, hkind, hes]
              rw [htr] at hst
              refine Fin.step hst ?_
              have hh := hB { c with cs := { f with mode := .panicking ((v, true) :: old) } :: fs } fr ({ frc with mode := .panicking ({ v := x, recovered := true } :: t) } :: rest) v x rfl rfl rfl ?_ rfl rfl hx
              · simp only [hcr, hck] at hh; exact hh
              refine ⟨hc.wr, hc.gl, ⟨lo, _, rest, rfl, hlo, ?_, hfr⟩, hc.ble, hc.fn, hc.kind, hc.round, hc.defers, hc.mode, hc.size⟩
              obtain ⟨a1, a2, a3, a4, a5, a6, a7⟩ := hsr
              rw [hfm] at a7
              exact ⟨a1, a2, a3, a4, ⟨_, rfl, x, t, rfl, hx, hold⟩, a6, a7⟩
  | _ =>
    rename_i d
    rw [hr] at hgood
    obtain ⟨D, h1, h2⟩ := hgood
    show Fin P w0 cs0 (rDefer d s r g tm c { ops, draw, k, ih }) fr cs w
    unfold rDefer
    cases hcr : c.round with
    | some _ => exact Fin.fail
    | none =>
      simp only
      have hro := hc.round
      rw [hcr] at hro
      refine Fin.step (st_opDefer hc.mode ht ho hw (.inl hro) h1) ?_
      have hh := hB { c with ds := d :: c.ds } { fr with defers := D :: fr.defers } cs undefV undef rfl rfl rfl
        ⟨hc.wr, hc.gl, hc.frs, hc.ble, hc.fn, hc.kind, hc.round, ⟨D, fr.defers, rfl, h2, hc.defers⟩, hc.mode, hc.size⟩ rfl rfl (VR.undef E)
      simp only [hcr] at hh
      exact hh
end
end Go.Exo

namespace Go.Exo
section
variable {P : Program} {w0 : Bs} {cs0 : List Frame} {E : Env} {ih : Ih}

/-! ### guards -/
theorem wanted_none {ops : Array Oper} {o : Oper} {tmps : Array Value} (h : o.guard = none) : Region.wanted o (yielded ops tmps) = true := by simp [Region.wanted, h]
theorem wanted_bool {ops : Array Oper} {o : Oper} {tmps : Array Value} {j t : Nat} {want b : Bool} (h : o.guard = some (j, want)) (hd : (ops[j]?).bind (·.dst) = some t) (hv : tmps.getD t undef = .bool b) :
    Region.wanted o (yielded ops tmps) = (b == want) := by
  have : tmps[t]? = some (.bool b) := by
    rw [Array.getD_eq_getD_getElem?] at hv
    cases hx : tmps[t]? with
    | none => rw [hx] at hv; cases hv
    | some x => rw [hx] at hv; simp at hv; rw [hv]
  simp only [Region.wanted, h, yielded, hd, Option.bind_some, this]
  cases b <;> cases want <;> rfl
theorem wanted_tup {ops : Array Oper} {o : Oper} {tmps : Array Value} {j t : Nat} {want : Bool} {vs : Array Value} (h : o.guard = some (j, want)) (hd : (ops[j]?).bind (·.dst) = some t) (hv : tmps.getD t undef = .tuple vs) :
    Region.wanted o (yielded ops tmps) = false := by
  rw [Array.getD_eq_getD_getElem?] at hv
  simp only [Region.wanted, h, yielded, hd, Option.bind_some]
  cases hx : tmps[t]? with
  | none => rfl
  | some x =>
    rw [hx] at hv; simp at hv; subst hv; rfl
/-- a guard's slot, abstract and real -/
theorem gd_ok {ops : Array Oper} {o : Oper} {tmps : Array Value} {tm : T V} {t : Nat} {want : Bool} (hg : gdOf ops o = some (t, want)) (hv : VR E (getU tm t) (tmps.getD t undef)) {yes no : Out} {i : Nat} {fr : Frame} {cs : List Frame} {w : World}
    (hy : Region.wanted o (yielded ops tmps) = true → GYes (gdOf ops o) tm → Fin P w0 cs0 yes fr cs w) (hn : Region.wanted o (yielded ops tmps) = false → GNo (gdOf ops o) tm → Fin P w0 cs0 no fr cs w) :
    Fin P w0 cs0 (gdGo (gdOf ops o) tm yes no i) fr cs w := by
  have hgd : ∃ j, o.guard = some (j, want) ∧ (ops[j]?).bind (·.dst) = some t := by
    unfold gdOf at hg
    cases ho : o.guard with
    | none => rw [ho] at hg; cases hg
    | some jw =>
      obtain ⟨j, w'⟩ := jw
      rw [ho] at hg; simp only at hg
      cases hd : (ops[j]?).bind (·.dst) with
      | none => rw [hd] at hg; cases hg
      | some t' => rw [hd] at hg; cases hg; exact ⟨j, rfl, hd⟩
  obtain ⟨j, h1, h2⟩ := hgd
  rw [hg] at hy hn ⊢
  unfold gdGo
  simp only
  generalize hx : tmps.getD t undef = x at hv
  cases hu : getU tm t with
  | bool b =>
    rw [hu] at hv
    cases hv
    simp only
    have hw := wanted_bool h1 h2 hx
    refine Fin.cond (fun hb => hy (by rw [hw, hb]) (.inr ⟨t, want, rfl, ?_⟩)) fun hb => hn (by rw [hw, hb]) ⟨t, want, rfl, .inl ⟨b, hu, fun e => by rw [e] at hb; simp at hb⟩⟩
    rw [hu]; rw [beq_iff_eq] at hb; rw [hb]
  | tup vs =>
    rw [hu] at hv
    cases hv
    exact hn (wanted_tup h1 h2 hx) ⟨t, want, rfl, .inr ⟨vs, hu⟩⟩
  | _ => exact Fin.fail
theorem gdBad_none {ops : Array Oper} {o : Oper} (h : gdOf ops o = none) (hg : o.guard ≠ none) : gdBad ops o = true := by
  unfold gdOf at h; unfold gdBad
  cases ho : o.guard with
  | none => exact absurd ho hg
  | some jw =>
    obtain ⟨j, w'⟩ := jw
    rw [ho] at h; simp only at h ⊢
    cases hd : (ops[j]?).bind (·.dst) with
    | none => rfl
    | some t => rw [hd] at h; cases h
theorem gdBad_some {ops : Array Oper} {o : Oper} {t : Nat} {want : Bool} (h : gdOf ops o = some (t, want)) : gdBad ops o = false := by
  unfold gdOf at h; unfold gdBad
  cases ho : o.guard with
  | none => rfl
  | some jw =>
    obtain ⟨j, w'⟩ := jw
    rw [ho] at h; simp only at h ⊢
    cases hd : (ops[j]?).bind (·.dst) with
    | none => rw [hd] at h; cases h
    | some t => rfl
theorem gdOf_none {ops : Array Oper} {o : Oper} (h : o.guard = none) : gdOf ops o = none ∧ gdBad ops o = false := by
  unfold gdOf gdBad; rw [h]; exact ⟨rfl, rfl⟩

/-! ### a value goes to its slot -/
theorem finish_op {fr : Frame} {ops : Array Oper} {i : Nat} {is : List Nat} {k' : List Item} {o : Oper} (ht : fr.todo = .inRegion ops (i :: is) :: k') (ho : ops[i]? = some o) (x : Value) :
    fr.finish x = { fr with tmps := match o.dst with | some d => fr.tmps.setIfInBounds d x | none => fr.tmps, todo := .inRegion ops is :: k' } := by
  unfold Frame.finish
  rw [ht]
  simp only [ho, Option.bind_some]
  cases o.dst <;> rfl
theorem Cur.to {b : Nat} {c : Ctx} {fr : Frame} {cs : List Frame} {w : World} (h : Cur P w0 cs0 E b c fr cs w) (tmps : Array Value) (todo : List Item) (hs : tmps.size = fr.tmps.size) : Cur P w0 cs0 E b c { fr with tmps, todo } cs w :=
  ⟨h.wr, h.gl, h.frs, h.ble, h.fn, h.kind, h.round, h.defers, h.mode, by show tmps.size = _; rw [hs]; exact h.size⟩
theorem after_ok {b : Nat} {c : Ctx} {fr : Frame} {cs : List Frame} {w : World} (hc : Cur P w0 cs0 E b c fr cs w) {ops : Array Oper} {i : Nat} {is : List Nat} {k' : List Item} {o : Oper} (ht : fr.todo = .inRegion ops (i :: is) :: k') (ho : ops[i]? = some o)
    {tm : T V} (htr : TR E tm fr.tmps) {v : V} {x : Value} (hv : VR E v x) {kk : T V → Out}
    (hk : ∀ tm' fr', Cur P w0 cs0 E b c fr' cs w → fr'.todo = .inRegion ops is :: k' → TR E tm' fr'.tmps → Fin P w0 cs0 (kk tm') fr' cs w) : Fin P w0 cs0 (setD o.dst v tm c.sz kk) (fr.finish x) cs w := by
  rw [finish_op ht ho]
  refine Fin.setD (fun hd => ?_) fun t hd hlt => ?_
  · rw [hd]; exact hk tm _ (hc.to _ _ rfl) rfl htr
  · rw [hd]
    refine hk _ _ (hc.to _ _ (by simp)) rfl ?_
    exact htr.put hv (by rw [hc.size]; exact hlt)

theorem resGoF_eq {s : PStep} (h : s.again = []) (res : Res) (r : List PStep) (g : Go1) (tm : T V) (c : Ctx) (R : Reg) : resGoF P res s r g tm c R = resGo P res s r g tm c R := by
  have e : ∀ c tm, goOn s g c tm = g tm c := fun c tm => by unfold goOn; rw [h]; rfl
  cases res <;> first | rfl | (simp only [resGoF, resGo, rValF, rVal, rValHF, rValH, e])

/-- A REGION IN THE TEXT's ORDER -/
theorem xs_seq (hs : Sound P w0 cs0 ih) (ops : Array Oper) (k : List AItem) (k' : List Item) : ∀ (n i : Nat), i + n = ops.size → ∀ (E : Env) (b : Nat) (c : Ctx) (tm : T V) (fr : Frame) (cs : List Frame) (w : World),
    Cur P w0 cs0 E b c fr cs w → fr.todo = .inRegion ops (List.range' i n) :: k' → TodoR E k k' → TR E tm fr.tmps →
    Fin P w0 cs0 (xs P { ops, draw := false, k, ih } (planS P ops (ops.toList.drop i) i) tm c) fr cs w
  | 0, i, hi, E, b, c, tm, fr, cs, w, hc, ht, hk, htr => by
    have : ops.toList.drop i = [] := List.drop_eq_nil_of_le (by simp; omega)
    rw [this]
    refine Fin.step (st_regionEnd hc.mode ht) ?_
    have hc' := hc.to fr.tmps k' rfl
    exact hs E _ _ _ _ _ _ (hc'.mr hk htr)
  | n + 1, i, hi, E, b, c, tm, fr, cs, w, hc, ht, hk, htr => by
    have hlt : i < ops.size := by omega
    have ho : ops[i]? = some ops[i] := Array.getElem?_eq_getElem hlt
    generalize hoo : ops[i] = o at ho
    have hdrop : ops.toList.drop i = o :: ops.toList.drop (i + 1) := by
      rw [List.drop_eq_getElem_cons (by simpa using hlt)]; simp [hoo]
    rw [hdrop]
    rw [List.range'_succ] at ht
    generalize hr : planS P ops (ops.toList.drop (i + 1)) (i + 1) = r
    have hrec := xs_seq hs ops k k' n (i + 1) (by omega)
    rw [hr] at hrec
    have hplan : planS P ops (o :: ops.toList.drop (i + 1)) i = pstep P ops i o :: r := by rw [← hr]; rfl
    rw [hplan]
    show Fin P w0 cs0 (xCons P { ops, draw := false, k, ih } (pstep P ops i o) r (xs P { ops, draw := false, k, ih } r) tm c) fr cs w
    generalize hgg : xs P { ops, draw := false, k, ih } r = g at hrec ⊢
    have hev : ∀ x ∈ o.op.operands.toList, opnFine P.globals.size x = true → VR E ((compO x).ev tm) (fr.eval x) := fun x _ hx => opVal_hev hc.gl hx fun t _ => htr t
    have hreg : RegR P E c.H b c.nx ops false (pstep P ops i o) r (List.range' (i + 1) n) tm fr.tmps := .inl ⟨rfl, o, i, ho, rfl, hr.symm, by congr 1; omega, htr⟩
    have main : gdBad ops o = false → Region.wanted o (yielded ops fr.tmps) = true → Fin P w0 cs0 (resGo P (exOp (pstep P ops i o).op tm c.H c.nx) (pstep P ops i o) r g tm c { ops, draw := false, k, ih }) fr cs w := by
      intro hbad hw
      refine resGo_ok hs hc (s := pstep P ops i o) (draw := false) ht ho hw (by simp only [pstep, hbad, cond_false]) hk hev hreg (fun _ => htr) ?_ ?_
      · intro E' H' nx' w' v x hE hkk hn hc' hv
        refine after_ok hc' ht ho (htr.mono hE) hv fun tm' fr' c1 c2 c3 => ?_
        show Fin P w0 cs0 (g tm' (c.setH H' nx')) fr' cs w'
        exact hrec E' b _ tm' fr' cs w' c1 c2 (hk.mono hE) c3
      · intro c' fr' cs' v x e1 e2 e3 hc' e4 e5 hv
        rw [← e3]
        refine after_ok hc' (by rw [e4]; exact ht) ho (by rw [e5]; exact htr) hv fun tm' fr'' c1 c2 c3 => ?_
        exact hrec E b _ tm' fr'' cs' w c1 c2 hk c3
    cases hg : o.guard with
    | none =>
      have hf : (pstep P ops i o).fast = true := by simp [pstep, hg]
      unfold xCons
      rw [hf]
      show Fin P w0 cs0 (xFast P (pstep P ops i o) r g tm c { ops, draw := false, k, ih }) fr cs w
      unfold xFast
      rw [resGoF_eq rfl]
      exact main (gdOf_none hg).2 (wanted_none hg)
    | some jw =>
      have hf : (pstep P ops i o).fast = false := by simp [pstep, hg]
      unfold xCons
      rw [hf]
      show Fin P w0 cs0 (xSlow P (pstep P ops i o) r g tm c { ops, draw := false, k, ih }) fr cs w
      unfold xSlow
      show Fin P w0 cs0 (gdGo (gdOf ops o) tm (resGo P (exOp (pstep P ops i o).op tm c.H c.nx) (pstep P ops i o) r g tm c { ops, draw := false, k, ih }) (setD o.dst undefV tm c.sz fun tm => g tm c) i) fr cs w
      cases hgo : gdOf ops o with
      | none =>
        have hbad := gdBad_none hgo (by rw [hg]; intro h; cases h)
        have : (pstep P ops i o).op = .bad := by simp only [pstep, hbad, cond_true]
        rw [this]
        exact Fin.fail
      | some tw =>
        obtain ⟨t, want⟩ := tw
        have hgd := gd_ok (P := P) (w0 := w0) (cs0 := cs0) (tmps := fr.tmps) (tm := tm) hgo (htr t) (yes := resGo P (exOp (pstep P ops i o).op tm c.H c.nx) (pstep P ops i o) r g tm c { ops, draw := false, k, ih }) (no := setD o.dst undefV tm c.sz fun tm => g tm c) (i := i) (fr := fr) (cs := cs) (w := w)
          (fun hw _ => main (gdBad_some hgo) hw) (fun hw _ => by
            refine Fin.step (st_opSkip hc.mode ht (by rw [ho]; exact hw)) ?_
            refine after_ok hc ht ho htr (VR.undef E) fun tm' fr' c1 c2 c3 => ?_
            exact hrec E b _ tm' fr' cs w c1 c2 hk c3)
        rw [hgo] at hgd
        exact hgd
end
end Go.Exo

namespace Go.Exo
section
variable {P : Program} {w0 : Bs} {E : Env} {H : T AObj} {nx : Nat} {w : World}

/-- a place that the abstract machine has made ahead is made -/
theorem WR.made (h : WR w0 E H nx w) {l : Nat} (hl : E l = none) (hlt : l < nx) (o : Obj) (size d : Nat) (hc : clsOf (getH H l) = 0) (hk : isCls (getH H l) = false)
    (hor : OR (E.set l ⟨w.heap.size, 0, size, undef, noOb, []⟩) H l ⟨w.heap.size, 0, size, undef, noOb, []⟩ (some o) (getH H l)) :
    WR w0 (E.set l ⟨w.heap.size, 0, size, undef, noOb, []⟩) H nx { w with heap := w.heap.push o, drawn := d } := by
  have hle : E.le (E.set l ⟨w.heap.size, 0, size, undef, noOb, []⟩) := Env.le_set _ hl
  have hcn : ∀ k, clsOf (getH H k) ≠ 0 → clsOf (getH H k) ≠ l := fun k hc0 e => by
    obtain ⟨a, b, m, h1, _⟩ := h.cls k hc0
    rw [e] at h1; rw [h1] at hk; cases hk
  have hE : ∀ k p, (E.set l ⟨w.heap.size, 0, size, undef, noOb, []⟩) k = some p → (k = l ∧ p = ⟨w.heap.size, 0, size, undef, noOb, []⟩) ∨ (k ≠ l ∧ E k = some p) := by
    intro k p hp
    by_cases e : k = l
    · subst e; rw [Env.set_self] at hp; cases hp; exact .inl ⟨rfl, rfl⟩
    · rw [Env.set_other _ _ _ _ e] at hp; exact .inr ⟨e, hp⟩
  have hpush : ∀ b, b < w.heap.size → (w.heap.push o)[b]? = w.heap[b]? := fun b hb => by
    rw [Array.getElem?_push]; rw [if_neg (by omega)]
  refine ⟨?_, ?_, ?_, ?_, ?_, ?_, ?_, h.os, h.output, h.tape, h.le.trans hle⟩
  · intro k p hp
    rcases hE k p hp with ⟨rfl, rfl⟩ | ⟨hne, hp⟩
    · show OR _ _ _ _ (w.heap.push o)[w.heap.size]? _
      rw [Array.getElem?_push, if_pos rfl]; exact hor
    · show OR _ _ _ _ (w.heap.push o)[p.blk]? _
      rw [hpush _ (h.own k p hp).1]
      exact (h.objs k p hp).trans hle fun _ ho => ho
  · intro k hkx
    have := h.fresh k hkx
    exact ⟨by rw [Env.set_other _ _ _ _ (by omega)]; exact this.1, this.2⟩
  · intro k k' p p' hne hp hp' hb
    rcases hE k p hp with ⟨e1, e2⟩ | ⟨hn1, g1⟩ <;> rcases hE k' p' hp' with ⟨e3, e4⟩ | ⟨hn2, g2⟩
    · exact absurd (e1.trans e3.symm) hne
    · have := (h.own k' p' g2).1; rw [e2] at hb; simp only at hb; omega
    · have := (h.own k p g1).1; rw [e4] at hb; simp only at hb; omega
    · exact h.sep k k' p p' hne g1 g2 hb
  · intro k hc0
    obtain ⟨a, b, m, h1, h2, h3⟩ := h.cls k hc0
    exact ⟨a, b, m, h1, h2, by rw [Env.set_other _ _ _ _ (hcn k hc0)]; exact h3⟩
  · intro k p hp
    show p.blk < (w.heap.push o).size ∧ _
    rw [Array.size_push]
    rcases hE k p hp with ⟨rfl, rfl⟩ | ⟨hne, hp⟩
    · exact ⟨Nat.lt_succ_self _, .inr (.inr (h.not_old (Nat.le_refl _)))⟩
    · have := h.own k p hp
      exact ⟨Nat.lt_succ_of_lt this.1, this.2⟩
  · intro b hb
    show (w.heap.push o)[b]? = _
    rw [hpush b (h.lt_old hb)]; exact h.old b hb
  · show _ ≤ (w.heap.push o).size
    rw [Array.size_push]; exact Nat.le_succ_of_le h.size
/-- the abstract machine makes something ahead -/
theorem WR.lazy (h : WR w0 E H nx w) (ao : AObj) (hc : clsOf ao = 0) : WR w0 E (put .no H nx ao) (nx + 1) w := by
  have hn := h.fresh nx (Nat.le_refl _)
  have hget : ∀ k, k ≠ nx → getH (put .no H nx ao) k = getH H k := fun k e => by rw [getH_put, if_neg e]
  have hself : getH (put .no H nx ao) nx = ao := by rw [getH_put, if_pos rfl]
  have hne : ∀ k p, E k = some p → k ≠ nx := fun k p hk e => by subst e; rw [hn.1] at hk; cases hk
  have hcn : ∀ k, clsOf (getH H k) ≠ 0 → clsOf (getH H k) ≠ nx := fun k hc0 e => by
    obtain ⟨a, b, m, h1, _⟩ := h.cls k hc0
    rw [e, hn.2] at h1; cases h1
  refine ⟨?_, ?_, ?_, ?_, ?_, h.old, h.size, h.os, h.output, h.tape, h.le⟩
  · intro k p hp
    rw [hget k (hne k p hp)]
    exact (h.objs k p hp).trans (Env.le.refl E) fun pos ho => ho.same fun hc0 => hget _ (hcn k hc0)
  · intro k hkx
    have := h.fresh k (by omega)
    exact ⟨this.1, by rw [hget k (by omega)]; exact this.2⟩
  · intro k k' p p' hn' hp hp' hb
    rw [hget k (hne k p hp), hget k' (hne k' p' hp')]; exact h.sep k k' p p' hn' hp hp' hb
  · intro k hc0
    by_cases e : k = nx
    · subst e; rw [hself] at hc0; exact absurd hc hc0
    · rw [hget k e] at hc0 ⊢
      obtain ⟨a, b, m, h1, h2, h3⟩ := h.cls k hc0
      exact ⟨a, b, m, by rw [hget _ (hcn k hc0)]; exact h1, h2, h3⟩
  · intro k p hp
    rw [hget k (hne k p hp)]; exact h.own k p hp

/-- a run that makes one object; its place may be called whatever -/
def NewRun (E : Env) (w : World) (R : Result Value) (mk : Nat → V) (ob : AObj) : Prop :=
  ∃ X obj sz d, R = .ok X { w with heap := w.heap.push obj, drawn := d } ∧
    ∀ l E2, E.le E2 → E2 l = some ⟨w.heap.size, 0, sz, undef, noOb, []⟩ → VR E2 (mk l) X ∧ ∀ H, OR E2 H l ⟨w.heap.size, 0, sz, undef, noOb, []⟩ (some obj) ob
theorem cells_or {vs : List V} {c : Array Value} {elem : TypeId} {fr : Nat × Nat} {fz : Nat} (hv : ∀ (i : Nat) v, vs[i]? = some v → ∃ x, c[i]? = some x ∧ VR E v x) (hle : vs.length ≤ c.size) (hfz : FzR fr fz 0 c.size)
    {E2 : Env} (hE : E.le E2) (H : T AObj) (l n : Nat) : OR E2 H l ⟨n, 0, c.size, undef, noOb, []⟩ (some (.cells c elem fr)) (.cells (putL .bad vs 0 .e) vs.length elem 0 0 fz false) := by
  refine ⟨c, fr, rfl, by simp, hle, hfz, fun i hi _ => ?_⟩
  rw [putL_get, if_pos (Nat.zero_le _), Nat.sub_zero, List.getElem?_eq_getElem hi]
  obtain ⟨x, hx, hr⟩ := hv i _ (List.getElem?_eq_getElem hi)
  exact ⟨x, by simpa using hx, hr.mono hE⟩
theorem ptr_at {E2 : Env} {l n s : Nat} (h : E2 l = some ⟨n, 0, s, undef, noOb, []⟩) : VR E2 (.ptr l 0) (.pointer (some ⟨n, 0, none⟩)) := by
  have := VR.ptr (E := E2) l 0 ⟨n, 0, s, undef, noOb, []⟩ h
  simpa using this
theorem slice_at {E2 : Env} {l n s len esz : Nat} {cap : Option Nat} {c : Nat} (h : E2 l = some ⟨n, 0, s, undef, noOb, []⟩) (h1 : len ≤ c) (h2 : c * esz ≤ s) (h3 : ∀ k, cap = some k → k = c) : VR E2 (.slice l 0 len cap esz) (.slice (some ⟨n, 0, none⟩) len c) := by
  have := VR.slice (E := E2) l 0 len cap esz ⟨n, 0, s, undef, noOb, []⟩ c h h1 (by simpa using h2) h3
  simpa using this

theorem nAlloc {t : TypeId} {i : TypeInfo} {z : V} (hi : P.info? t = some i) (hz : zeroOf i = some z) {old : Value} : NewRun E w ((Instr.alloc t true old).run P w) (fun l => .ptr l 0) (boxObj t z.cells) := by
  obtain ⟨x, hx, hv⟩ := zeroOf_eq (E := E) hz
  have hc := hv.cells
  refine ⟨.pointer (some ⟨w.heap.size, 0, none⟩), .cells x.cells t (0, 0), x.cells.size, w.drawn, ?_, fun l E2 hE hl => ⟨ptr_at hl, fun H => ?_⟩⟩
  · simp [Instr.alloc, newVar, newRow, run_zeroValue' hi hx]
  · rw [boxObj_eq]; exact cells_or (fr := (0, 0)) (fz := 0) (fun i v hv => by simpa using hc.get i v hv) (by rw [hc.length]; simp) rfl hE H l _
theorem nBox {t : TypeId} {v : V} {X : Value} (hv : VR E v X) : NewRun E w ((Instr.box t X).run P w) (fun l => .ptr l 0) (.cells (putL .bad v.cells 0 .e) v.cells.length t 0 0 0 false) := by
  have hc := hv.cells
  refine ⟨.pointer (some ⟨w.heap.size, 0, none⟩), .cells X.cells t (0, 0), X.cells.size, w.drawn, ?_, fun l E2 hE hl => ⟨ptr_at hl, fun H => ?_⟩⟩
  · simp [Instr.box, newVar, newRow]
  · exact cells_or (fr := (0, 0)) (fz := 0) (fun i v hv => by simpa using hc.get i v hv) (by rw [hc.length]; simp) rfl hE H l _
theorem nMap {t : TypeId} : NewRun E w ((Instr.makeMap t none).run P w) (fun l => .map l) (.map [] 0) := by
  refine ⟨.map (some w.heap.size), .map #[] 0, 0, w.drawn, ?_, fun l E2 hE hl => ⟨VR.map l _ hl, fun H => ⟨#[], rfl, trivial⟩⟩⟩
  simp [Instr.makeMap]
theorem nRange {t : TypeId} (ht : P.underlying t = some .string) {l n : Nat} {s : ByteArray} (h1 : s.data.toList = sB l n) (h2 : n < 256 ^ l) : NewRun E w ((Instr.range t (.string s)).run P w) (fun k => .ptr k 0) (.siter l n 0) := by
  refine ⟨.pointer (some ⟨w.heap.size, 0, none⟩), .stringIter s 0, 0, w.drawn, ?_, fun l E2 hE hl => ⟨ptr_at hl, fun H => ⟨s, rfl, h1, h2, rfl⟩⟩⟩
  simp [Instr.range, run_underlying ht]
theorem nConvSB {a b e : TypeId} (ha : P.underlying a = some .string) (hb : P.underlying b = some (.slice e)) (he : P.underlying e = some (.int .u8)) {l n : Nat} {s : ByteArray} (h1 : s.data.toList = sB l n) :
    NewRun E w ((convert a b (.string s)).run P w) (fun k => .slice k 0 l none 1) (.cells (putL .bad (bytesV l n) 0 .e) (bytesV l n).length e 0 0 1 false) := by
  have hs := size_sB h1
  have hq : (Question.appendCap s.size 0 e).forced = false := rfl
  generalize hcap : (Question.appendCap s.size 0 e).cut (w.tape w.drawn (.appendCap s.size 0 e)) = cap
  have hge : s.size ≤ cap := by rw [← hcap]; simp [Question.cut]
  let c : Array Value := (s.data.map fun b => Value.int .u8 b.toNat) ++ Array.replicate (cap - s.size) (.int .u8 0)
  have hcs : c.size = cap := by
    have : s.data.size = s.size := rfl
    simp only [c, Array.size_append, Array.size_map, Array.size_replicate]; omega
  have hrel : ∀ (i : Nat) v, (bytesV l n)[i]? = some v → ∃ x, c[i]? = some x ∧ VR E v x := by
    intro i v hv
    obtain ⟨x, hx, hr⟩ := (bytesV_rel (E := E) l n).get i v hv
    refine ⟨x, ?_, hr⟩
    have hil : i < l := by
      have := (List.getElem?_eq_some_iff.1 hv).1
      rwa [bytesV_length] at this
    have hsz : s.data.size = s.size := rfl
    simp only [c]
    rw [Array.getElem?_append_left (by simp; omega), Array.getElem?_map, ← hx, List.getElem?_map, ← h1, Array.getElem?_toList]
  refine ⟨.slice (some ⟨w.heap.size, 0, none⟩) s.size cap, .cells c e (cap, cap + 1), c.size, w.drawn + 1, ?_, fun k E2 hE hk => ⟨?_, fun H => ?_⟩⟩
  · simp only [convert, Sem.run_bind, run_underlying ha, run_underlying hb, run_underlying he, Result.andThen_ok, Conv.stringToBytes, run_choose, hq, Bool.false_eq_true, if_false, hcap, newRow, run_newObj, Sem.run_pure]
    rw [markStringish_run _ w.heap.size cap c e (by simp [c]) hcs]
    simp only [Result.andThen_ok]
    congr 1
    exact freeze_push w.heap c e cap w.tape (w.drawn + 1) w.os w.output
  · rw [hs]; exact slice_at hk (by omega) (by omega) (fun k hk => by cases hk)
  · exact cells_or hrel (by rw [bytesV_length]; omega) (by show (cap, cap + 1) = (c.size, c.size + 1); rw [hcs]) hE H k _
/-- parts are filled in, or it fails -/
theorem fill_inv {tm : T V} {ev : Operand → Value} (place : Nat → Option (Nat × Nat)) :
    ∀ (ps : List (Nat × Operand)) (l : List (Nat × Nat × AO)) (cs : List V) (xs : Array Value), compParts place ps = some l → VRs E cs xs.toList →
      (∀ i x, (i, x) ∈ ps → VR E ((compO x).ev tm) (ev x)) →
      (∃ n, ∀ k, fillL tm l cs k = .fail n) ∨
      ∃ cs' xs', (∀ k, fillL tm l cs k = k cs') ∧ Instr.fill place xs (ps.map fun (i, x) => (i, ev x)) = some xs' ∧ VRs E cs' xs'.toList ∧ cs'.length = cs.length
  | [], l, cs, xs, hl, hcs, _ => by
    cases hl
    exact .inr ⟨cs, xs, fun _ => rfl, rfl, hcs, rfl⟩
  | (i, x) :: r, l, cs, xs, hl, hcs, hev => by
    simp only [compParts] at hl
    cases hp : place i with
    | none => rw [hp] at hl; simp at hl
    | some os =>
      obtain ⟨off, size⟩ := os
      rw [hp] at hl
      cases hr : compParts place r with
      | none => rw [hr] at hl; simp at hl
      | some l' =>
        rw [hr] at hl; simp only [Option.some.injEq] at hl; subst hl
        have hx := hev i x (List.mem_cons_self ..)
        cases hb : (Nat.beq ((compO x).ev tm).cells.length size && Nat.ble (Nat.add off size) cs.length) with
        | false => exact .inl ⟨21, fun k => by simp only [fillL, hb]; rfl⟩
        | true =>
          have hb' := hb
          simp only [Bool.and_eq_true] at hb
          have hs := Nat.eq_of_beq_eq_true hb.1
          have hle := Nat.le_of_ble_eq_true hb.2
          have hc := hx.cells
          have hcl := hc.length
          have hxl := hcs.length
          simp only [Array.length_toList] at hcl hxl
          have e : ∀ k, fillL tm ((off, size, compO x) :: l') cs k = fillL tm l' (placeL ((compO x).ev tm).cells off cs) k := fun k => by simp only [fillL, hb']; rfl
          rcases fill_inv place r l' _ _ hr (place_rel hcs hc off) (fun j y hj => hev j y (List.mem_cons_of_mem _ hj)) with ⟨n, hn⟩ | ⟨cs', xs', h1, hf, hv, hlen⟩
          · exact .inl ⟨n, fun k => by rw [e]; exact hn k⟩
          · refine .inr ⟨cs', xs', fun k => by rw [e]; exact h1 k, ?_, hv, by rw [hlen, placeL_length]⟩
            rw [List.map_cons, Instr.fill]
            simp only [hp]
            rw [if_neg (by
              simp only [ne_eq, Bool.or_eq_true, decide_eq_true_eq, not_or, Decidable.not_not]
              have hle' : off + size ≤ cs.length := hle
              constructor <;> omega)]
            rw [← hf]
            congr 1
            rw [← Array.foldl_toList, Array.toList_zipIdx]
theorem nBslice {t e : TypeId} {ps : Array (Nat × Operand)} {tm : T V} {ev : Operand → Value} {i : TypeInfo} {z : V} {len : Nat} (ht : P.underlying t = some (.slice e)) (hi : P.info? e = some i)
    (hz : zeroOf i = some z) (hsmall : len * i.size ≤ 16777216) (hzl : z.cells.length = i.size) {l : List (Nat × Nat × AO)} (hl : compParts (fun j => some (j * i.size, i.size)) ps.toList = some l)
    (hev : ∀ i x, (i, x) ∈ ps.toList → VR E ((compO x).ev tm) (ev x)) :
    (∃ n, ∀ k, fillL tm l (repeatL z.cells len) k = .fail n) ∨
    ∃ cs, (∀ k, fillL tm l (repeatL z.cells len) k = k cs) ∧ NewRun E w ((Instr.buildSlice t len (ps.map fun (i, x) => (i, ev x))).run P w) (fun k => .slice k 0 len (some len) i.size) (.cells (putL .bad cs 0 .e) cs.length e 0 0 0 false) := by
  obtain ⟨x, hx, hv⟩ := zeroOf_eq (E := E) hz
  have hxs : x.cells.size = i.size := by have := hv.cells.length; simp only [Array.length_toList] at this; omega
  rcases fill_inv _ ps.toList l _ _ hl (zero_rel hv len) hev with ⟨n, hn⟩ | ⟨cs', xs', h1, hf, hr, hlen⟩
  · exact .inl ⟨n, hn⟩
  refine .inr ⟨cs', h1, ?_⟩
  have hrl := hr.length
  simp only [Array.length_toList] at hrl
  have hsz : xs'.size = len * i.size := by rw [← hrl, hlen, repeatL_length, hzl]
  refine ⟨.slice (some ⟨w.heap.size, 0, none⟩) len len, .cells xs' e (0, 0), xs'.size, w.drawn, ?_, fun k E2 hE hk => ⟨slice_at hk (Nat.le_refl _) (by omega) (fun k hk => by cases hk; rfl), fun H => ?_⟩⟩
  · have e1 : (ps.map fun (i, x) => (i, ev x)).toList = ps.toList.map fun (i, x) => (i, ev x) := by simp
    rw [hxs] at hf
    by_cases h0 : len * i.size = 0
    · have hf' : Instr.fill (fun j => some (j * i.size, i.size)) ((Array.range (len * i.size)).map ((#[] : Array Value)[· % (#[] : Array Value).size]!)) (ps.toList.map fun (i, x) => (i, ev x)) = some xs' := by
        rw [← hf]; congr 1
        rw [h0]; simp
      simp only [Instr.buildSlice, Sem.run_bind, run_underlying ht, Result.andThen_ok, run_sizeOf hi, Sem.run_ite, run_unsupported]
      rw [if_neg (by have : (2 : Nat) ^ 24 = 16777216 := rfl; omega)]
      simp only [Sem.run_pure, Result.andThen_ok]
      rw [if_pos h0]
      simp only [Result.andThen_ok, e1, hf', newRow, Sem.run_bind, run_newObj, Sem.run_pure]
    · simp only [Instr.buildSlice, Sem.run_bind, run_underlying ht, Result.andThen_ok, run_sizeOf hi, Sem.run_ite, run_unsupported]
      rw [if_neg (by have : (2 : Nat) ^ 24 = 16777216 := rfl; omega)]
      simp only [Sem.run_pure, Result.andThen_ok]
      rw [if_neg h0]
      simp only [Result.andThen_ok, run_zeroValue' hi hx, e1, hxs, hf, newRow, Sem.run_bind, run_newObj, Sem.run_pure]
  · exact cells_or (fr := (0, 0)) (fz := 0) (fun i v hv => by simpa using hr.get i v hv) (by omega) rfl hE H k _

/-- what a new-making operation gives, whatever heap it is asked in -/
theorem NewOp.same {ao : AOp} {tm : T V} {mk mk' : Nat → V} {ob ob' : AObj} (h : NewOp ao tm mk ob) (h' : ∀ H nx, exOp ao tm H nx = .valH (mk' nx) (put .no H nx ob') (nx + 1)) : mk = mk' ∧ ob = ob' := by
  constructor
  · funext n
    have e := (h.ex .e n).symm.trans (h' .e n)
    injection e
  · have e := (h.ex .e 0).symm.trans (h' .e 0)
    injection e with _ e2 _
    have := congrArg (fun H => getH H 0) e2
    simpa [getH_put] using this
theorem NewOp.no {ao : AOp} {tm : T V} {mk : Nat → V} {ob : AObj} (h : NewOp ao tm mk ob) {n : Nat} (h' : exOp ao tm .e 0 = .fail n) : False := by
  have := h.ex .e 0
  rw [h'] at this; cases this
end
end Go.Exo

namespace Go.Exo
section
variable {P : Program} {E : Env} {w : World} {tm : T V} {ev : Operand → Value}

def NewRunN (P : Program) (E : Env) (w : World) (R : Result Next) (mk : Nat → V) (ob : AObj) : Prop :=
  ∃ X obj sz d, R = .ok (.value X) { w with heap := w.heap.push obj, drawn := d } ∧
    ∀ l E2, E.le E2 → E2 l = some ⟨w.heap.size, 0, sz, undef, noOb, []⟩ → VR E2 (mk l) X ∧ ∀ H, OR E2 H l ⟨w.heap.size, 0, sz, undef, noOb, []⟩ (some obj) ob
theorem NewRun.next {s : Sem Value} {mk : Nat → V} {ob : AObj} (h : NewRun E w (s.run P w) mk ob) : NewRunN P E w ((do pure (.value (← s)) : Sem Next).run P w) mk ob := by
  obtain ⟨X, obj, sz, d, h1, h2⟩ := h
  exact ⟨X, obj, sz, d, by rw [Sem.run_bind, h1]; rfl, h2⟩
theorem compCall_cls (c : Call) : (compCall P c).cls ≠ 1 := by
  unfold compCall
  repeat' split
  all_goals first | (simp [AOp.cls]; done) | skip
  all_goals (
    rename_i fn _ _ _ _ _ _
    first | (cases (fn.name == "internal/bytealg.IndexByteString" && (fn.origin == "" || fn.origin == "internal/bytealg.IndexByteString")) <;> simp [AOp.cls]; done) | skip)
  all_goals (simp only [Bool.cond_eq_ite]; repeat' split)
  all_goals simp [AOp.cls]

theorem new_run (o : Oper) (hev : ∀ x ∈ o.op.operands.toList, VR E ((compO x).ev tm) (ev x)) (hcls : (compOp0 P o.op).cls = 1) {mk : Nat → V} {ob : AObj} (hn : NewOp (compOp0 P o.op) tm mk ob) :
    NewRunN P E w ((execOp ev o).run P w) mk ob := by
  have m1 : ∀ x, x ∈ o.op.operands → VR E ((compO x).ev tm) (ev x) := fun x hx => hev x (by simpa using hx)
  cases ho : o.op with
  | alloc t =>
    unfold execOp; simp only [ho]
    rw [ho] at hn; simp only [compOp0] at hn
    cases ht : tyOf P t with
    | none => rw [ht] at hn; exact (hn.no rfl).elim
    | some di =>
      obtain ⟨d, i⟩ := di
      rw [ht] at hn; simp only at hn
      cases hz : zeroOf i with
      | none => rw [hz] at hn; exact (hn.no rfl).elim
      | some z =>
        rw [hz] at hn
        simp only [ofK_eq] at hn
        obtain ⟨rfl, rfl⟩ := hn.same (mk' := fun l => .ptr l 0) (ob' := boxObj t z.cells) (fun H nx => by rw [boxObj_eq]; show xAlloc _ H nx = _; simp only [xAlloc, newObj, setHR_eq])
        exact NewRun.next (nAlloc (tyOf_eq ht).2.2.1 hz)
  | box t x =>
    unfold execOp; simp only [ho]
    rw [ho] at hn; simp only [compOp0] at hn
    obtain ⟨rfl, rfl⟩ := hn.same (mk' := fun l => .ptr l 0) (fun H nx => by show xBox _ _ H nx = _; simp only [xBox, newCells_eq]; rfl)
    exact NewRun.next (nBox (m1 x (by simp [ho, Op.operands])))
  | buildSlice t len ps =>
    unfold execOp; simp only [ho]
    rw [ho] at hn; simp only [compOp0] at hn
    have hps : ∀ i x, (i, x) ∈ ps.toList → VR E ((compO x).ev tm) (ev x) := fun i x hx => m1 x (by
      simp only [ho, Op.operands, List.mem_toArray, List.mem_map]; exact ⟨(i, x), hx, rfl⟩)
    cases hu : undT P t with
    | none => rw [hu] at hn; exact (hn.no rfl).elim
    | some d =>
      rw [hu] at hn
      cases d <;> try exact (hn.no rfl).elim
      rename_i e
      simp only at hn
      cases hi : infoT P e with
      | none => rw [hi] at hn; exact (hn.no rfl).elim
      | some i =>
        rw [hi] at hn; simp only at hn
        cases hz : zeroOf i with
        | none => rw [hz] at hn; exact (hn.no rfl).elim
        | some z =>
          rw [hz] at hn; simp only at hn
          cases hb : (Nat.ble (len * i.size) 16777216 && Nat.beq z.cells.length i.size) with
          | false => rw [hb] at hn; exact (hn.no rfl).elim
          | true =>
            rw [hb] at hn; simp only [cond_true] at hn
            simp only [Bool.and_eq_true] at hb
            cases hl : compParts (fun j => some (j * i.size, i.size)) ps.toList with
            | none => rw [hl] at hn; exact (hn.no rfl).elim
            | some l =>
              rw [hl] at hn; simp only at hn
              rcases nBslice (E := E) (w := w) (P := P) (tm := tm) (ev := ev) (undT_eq P hu) (infoT_eq P hi) hz (Nat.le_of_ble_eq_true hb.1) (Nat.eq_of_beq_eq_true hb.2) hl hps with ⟨n, hf⟩ | ⟨cs, hk, hr⟩
              · exact (hn.no (n := n) (hf _)).elim
              · obtain ⟨rfl, rfl⟩ := hn.same (fun H nx => by
                  show fillL tm l (repeatL z.cells len) (fun cs => newCells e cs 0 H nx (.slice nx 0 len (some len) i.size)) = _
                  rw [hk, newCells_eq])
                exact NewRun.next hr
  | makeMap t r =>
    unfold execOp; simp only [ho]
    rw [ho] at hn; simp only [compOp0] at hn
    cases r with
    | some _ => exact (hn.no rfl).elim
    | none =>
      obtain ⟨rfl, rfl⟩ := hn.same (mk' := fun l => .map l) (ob' := .map [] 0) (fun H nx => by show newObj (.map [] 0) H nx (fun H nx' => .valH (.map nx) H nx') = _; simp only [newObj, setHR_eq])
      exact NewRun.next nMap
  | range t x =>
    unfold execOp; simp only [ho]
    have hx := m1 x (by simp [ho, Op.operands])
    rw [ho] at hn; simp only [compOp0] at hn
    cases hu : undT P t with
    | none => rw [hu] at hn; exact (hn.no rfl).elim
    | some d =>
      rw [hu] at hn
      cases d <;> try exact (hn.no rfl).elim
      case map kt e => rw [ho] at hcls; simp only [compOp0, hu] at hcls; exact absurd (show (4 : Nat) = 1 from hcls) (by decide)
      simp only at hn
      generalize hxv : (compO x).ev tm = v at hx
      have he : ∀ H nx, exOp (.rangeS (compO x)) tm H nx = xRangeS v H nx := fun H nx => by rw [← hxv]; rfl
      generalize hX : ev x = X at hx ⊢
      cases hx
      case str l n s h1 h2 =>
        obtain ⟨rfl, rfl⟩ := hn.same (mk' := fun k => .ptr k 0) (ob' := .siter l n 0) (fun H nx => by rw [he]; simp only [xRangeS, newObj, setHR_eq])
        exact NewRun.next (nRange (undT_eq P hu) h1 h2)
      all_goals exact (hn.no (he _ _)).elim
  | convert a b x =>
    unfold execOp; simp only [ho]
    have hx := m1 x (by simp [ho, Op.operands])
    rw [ho] at hn hcls; simp only [compOp0] at hn hcls
    cases ha : undT P a with
    | none => rw [ha] at hn; exact (hn.no rfl).elim
    | some da =>
      cases hb : undT P b with
      | none => rw [ha, hb] at hn; cases da <;> exact (hn.no rfl).elim
      | some db =>
        rw [ha, hb] at hn hcls
        cases da <;> try exact (hn.no rfl).elim
        case int k0 =>
          cases db <;> first | exact (hn.no rfl).elim | cases hcls
        case string =>
          cases db <;> try exact (hn.no rfl).elim
          rename_i e
          simp only at hn
          cases he : undT P e with
          | none => rw [he] at hn; exact (hn.no rfl).elim
          | some de =>
            rw [he] at hn
            cases de <;> try exact (hn.no rfl).elim
            rename_i k
            cases k <;> try exact (hn.no rfl).elim
            simp only at hn
            generalize hxv : (compO x).ev tm = v at hx
            have hee : ∀ H nx, exOp (.convSB e (compO x)) tm H nx = xConvSB e v H nx := fun H nx => by rw [← hxv]; rfl
            generalize hX : ev x = X at hx ⊢
            cases hx
            case str l n s h1 h2 =>
              obtain ⟨rfl, rfl⟩ := hn.same (mk' := fun k => .slice k 0 l none 1) (fun H nx => by rw [hee]; simp only [xConvSB, newCells_eq]; rfl)
              exact NewRun.next (nConvSB (undT_eq P ha) (undT_eq P hb) (undT_eq P he) h1)
            all_goals exact (hn.no (hee _ _)).elim
        case slice e =>
          cases db <;> try exact (hn.no rfl).elim
          simp only at hn hcls
          cases he : undT P e with
          | none => rw [he] at hn; exact (hn.no rfl).elim
          | some de =>
            rw [he] at hn hcls
            cases de <;> try exact (hn.no rfl).elim
            rename_i k
            cases k <;> first | exact (hn.no rfl).elim | cases hcls
  | call c => rw [ho] at hcls; exact absurd hcls (compCall_cls c)
  | next x b => exfalso; rw [ho] at hcls; cases b <;> exact absurd (show (4 : Nat) = 1 from hcls) (by decide)
  | _ =>
    exfalso
    rw [ho] at hcls
    first
      | exact absurd (show (4 : Nat) = 1 from hcls) (by decide)
      | exact absurd (show (0 : Nat) = 1 from hcls) (by decide)
      | (simp only [compOp0, Bool.cond_eq_ite] at hcls
         repeat' split at hcls
         all_goals first
           | exact absurd (show (4 : Nat) = 1 from hcls) (by decide)
           | exact absurd (show (0 : Nat) = 1 from hcls) (by decide)
           | exact absurd (show (2 : Nat) = 1 from hcls) (by decide)
           | exact absurd (show (3 : Nat) = 1 from hcls) (by decide))
      | (simp only [compOp0] at hcls
         repeat' split at hcls
         all_goals first
           | exact absurd (show (4 : Nat) = 1 from hcls) (by decide)
           | exact absurd (show (0 : Nat) = 1 from hcls) (by decide)
           | exact absurd (show (2 : Nat) = 1 from hcls) (by decide)
           | exact absurd (show (3 : Nat) = 1 from hcls) (by decide))
end
end Go.Exo
