/-
  ClausesWithout: out of the law's walk, the row and the card. Own text, after the guide's worked proofs.
-/
import Derived.Test.YtjcpnonpiiipgaaGreatDoorFr9
set_option linter.all false
namespace Go.Proofs.YtjcpnonpiiipgaaGreatDoor.clausesWithout
open Go.ChangeShapes Go.WideShapes Go.ChangeAt Go.RowKit Go.Exo Go.Proofs.Wo
set_option maxRecDepth 100000
def Known:Prop:=∀ w',Base9 w'→Calls Tryz.prog 6 #[] w' (ContC w' true)
theorem k_r26:Tryz.prog.readableRec 26=true:=by kernel_rfl
theorem k_r27:Tryz.prog.readableRec 27=true:=by kernel_rfl
theorem k_kds26:kdsT Tryz.prog 4 26=some vK:=by kernel_rfl
theorem k_kds27:kdsT Tryz.prog 4 27=some [.sl 2]:=by kernel_rfl
theorem k_rows:(26<Tryz.prog.types.size)∧27<Tryz.prog.types.size:=⟨of_decide_eq_true (by kernel_rfl),of_decide_eq_true (by kernel_rfl)⟩
theorem open26 {H:Type}{enc:TypeId×Value→H}{w:World}{r:Reach}{b0:Nat}{v:Value}{d:DataW H}{pl:List MemPlace}(hv:Value.okWide Tryz.prog w r b0 26 v)(h:DataW.Trod enc Tryz.prog w 0 (fun _=>true) true 26 v d pl) :
  ∃ (ka:Int)(ba:Bool)(na:Int)(sa:ByteArray)(a4:Option Addr)(l4 c4:Nat)(a5:Option Addr)(l5 c5:Nat)(r:List Cl),v=.agg #[.int .i64 ka,.bool ba,.int .i64 na,.string sa,.slice a4 l4 c4,.slice a5 l5 c5]∧CRs (cellsW w) vK (c6 ka ba na sa a4 l4 c4 a5 l5 c5) r:=by
 obtain⟨cs,rfl,hsz⟩:=okWide_struct Tryz.underlying26 hv
 obtain⟨fuel,hf⟩:=h
 obtain⟨cls,hc⟩:=open_trod datTs fuel 4 26 _ _ vK (by simp[TT]) hf k_kds26
 obtain⟨l⟩:=cs
 change CRs (cellsW w) vK l cls at hc
 cases hc with
 |cons h0 hc=>cases hc with
 |cons h1 hc=>cases hc with
 |cons h2 hc=>cases hc with
 |cons h3 hc=>cases hc with
 |cons h4 hc=>cases hc with
 |cons h5 hc=>cases hc with
 |nil=>
  obtain⟨ka,rfl⟩:=cr_int h0
  obtain⟨ba,rfl⟩:=cr_bool h1
  obtain⟨na,rfl⟩:=cr_int h2
  obtain⟨sa,rfl⟩:=cr_str h3
  obtain⟨⟨a4,l4,c4,rfl⟩,_⟩:=cr_sl h4
  obtain⟨⟨a5,l5,c5,rfl⟩,_⟩:=cr_sl h5
  exact⟨ka,ba,na,sa,a4,l4,c4,a5,l5,c5,_,rfl,.cons h0 (.cons h1 (.cons h2 (.cons h3 (.cons h4 (.cons h5 .nil)))))⟩
theorem open27 {H:Type}{enc:TypeId×Value→H}{w:World}{r:Reach}{b0:Nat}{v:Value}{d:DataW H}{pl:List MemPlace}(hv:Value.okWide Tryz.prog w r b0 27 v)(h:DataW.Trod enc Tryz.prog w 0 (fun _=>true) true 27 v d pl) :
  ∃ (a:Option Addr)(l c:Nat)(b:Bool)(N:List (List Cl)),v=.slice a l c∧CR (cellsW w) (.sl 2) (.slice a l c) (.sl b N):=by
 obtain⟨a,l,c,rfl⟩:=okWide_slice Tryz.underlying27 hv
 obtain⟨fuel,hf⟩:=h
 obtain⟨cls,hc⟩:=open_trod datTs fuel 4 27 _ _ [.sl 2] (by simp[TT]) hf k_kds27
 change CRs (cellsW w) [.sl 2] [.slice a l c] cls at hc
 cases hc with
 |cons h0 hc=>
  obtain⟨_,b,N,rfl⟩:=cr_sl h0
  exact⟨a,l,c,b,N,rfl,h0⟩
theorem walk (hK:Known){w:World}(hb:Base9 w){ka:Int}{ba:Bool}{na:Int}{sa:ByteArray}{a4:Option Addr}{l4 c4:Nat}{a5:Option Addr}{l5 c5:Nat}{r:List Cl}(hr:CRs (cellsW w) vK (c6 ka ba na sa a4 l4 c4 a5 l5 c5) r)
  {aN:Option Addr}{lN cN:Nat}{nn:Bool}{N:List (List Cl)}(hN:CR (cellsW w) (.sl 2) (.slice aN lN cN) (.sl nn N)){aR:Option Addr}{lR cR:Nat}{rn:Bool}{R:List (List Cl)}(hR:CR (cellsW w) (.sl 2) (.slice aR lR cR) (.sl rn R)) :
  Calls Tryz.prog 3 #[.agg #[.int .i64 ka,.bool ba,.int .i64 na,.string sa,.slice a4 l4 c4,.slice a5 l5 c5],.slice aN lN cN,.slice aR lR cR] w (ContC w true):=
 law_c (φ:=fun b o=>w.cell? ⟨b,o,none⟩) base9_gd (by omega) (by show Tryz.prog.globals.size≤9;exact of_decide_eq_true (by kernel_rfl)) hK hb (fun _ _ _ h=>h) hN hR hr
theorem lifted (hK:Known)(os:Os)(started:os.Started)(H:Type)(enc:TypeId×Value→H) :
  ReturnsInHanded {} Tryz.checked os 3 .any (fun w args=>(Rows.clausesWithoutSpec.pre enc Tryz.prog Tryz.f3 Rows.clausesWithoutRow.domain false w args∧laidMetH Tryz.prog Rows.clausesWithoutRow.laid w)∧sizedMet enc Tryz.prog Tryz.f3 (OpenSpec.ofChange Rows.clausesWithoutSpec) false w args)
   (Rows.clausesWithoutSpec.post enc Tryz.prog Tryz.f3 false true false false):=by
 refine returnsInHanded_of_calls (C:=Tryz.checked) k_own started (by kernel_rfl)
  (ChangeSpec.witness_shaped (enc:=enc) (C:=Tryz.checked) (os:=os) (fn:=Tryz.f3) (X:=fun w _=>laidMetH Tryz.prog Rows.clausesWithoutRow.laid w) false (laidWorld os) #[.agg #[.int .i64 0,.bool false,.int .i64 0,.string ⟨#[]⟩,.slice none 0 0,.slice none 0 0],.slice none 0 0,.slice none 0 0] 8 (World.laidAll_os _ _ _) (shaped os _) (by kernel_rfl) (by kernel_rfl) (by kernel_rfl) (laid_met os _)) ?_
 intro w tape i _ hsh _ hok hpre _
 obtain⟨_,_,_,fn',hfn',_,_,_,_,hval0⟩:=hok
 have e:fn'=Tryz.f3:=Option.some.inj (hfn'.symm.trans Tryz.func3)
 subst e
 obtain⟨⟨⟨ds,gs,before,hw,_⟩,hL⟩,hZ⟩:=hpre
 clear hZ hL
 have hW:DataW.Whole enc Tryz.prog Tryz.f3.params.toList Rows.clausesWithoutSpec.vars false (w.forCall tape i) i.args.toList ds gs before:=DataW.Whole.of_heap (w':=w.forCall tape i) (by rfl) hw
 have hval1:∀ (j:Nat) t v,Tryz.f3.params[j]? = some t→i.args[j]? = some v→Value.okWide Tryz.prog (w.forCall tape i) .any w.heap.size t v:=hval0
 refine Calls.mono (R:=fun e W'=>∃ v,e=.returned v∧Rows.clausesWithoutSpec.post enc Tryz.prog Tryz.f3 false true false false (w.forCall tape i) i.args v W') ?_ fun e W' ⟨v,he,hp⟩=>by subst he;exact ChangeSpec.post_blind hp
 generalize w.forCall tape i=W at hW hsh hval1
 generalize i.args=args at hW hval1
 generalize w.heap.size=base at hval1
 have hval:∀ (j:Nat) t v,Tryz.f3.params[j]? = some t→args[j]? = some v→Value.okWide Tryz.prog W .any base t v:=hval1
 have hW':=hW
 have hlt:=hW.lt
 obtain⟨p,q,hA0,hV,rfl,hfz,hnd⟩:=hW
 have hA:DataW.TrodAll enc Tryz.prog W 0 (fun _=>true) true Tryz.f3.params.toList args.toList ds p:=hA0
 rw[Tryz.params3] at hA hval
 obtain⟨v0,vs0,d0,ds0,p0,q0,hargs,rfl,rfl,h0,r0⟩:=trodAll_cons hA
 obtain⟨v1,vs1,d1,ds1,p1,q1,rfl,rfl,rfl,h1,r1⟩:=trodAll_cons r0
 obtain⟨v2,vs2,d2,ds2,p2,q2,rfl,rfl,rfl,h2,r2⟩:=trodAll_cons r1
 obtain⟨rfl,rfl,rfl⟩:=trodAll_nil r2
 obtain rfl:args=#[v0,v1,v2]:=by cases args;simp_all
 obtain⟨rfl,rfl⟩:=trodVars_none hV
 obtain⟨ka,ba,na,sa,a4,l4,c4,a5,l5,c5,r,rfl,hr⟩:=open26 (hval 0 26 v0 rfl rfl) h0
 obtain⟨aN,lN,cN,nn,N,rfl,hN⟩:=open27 (hval 1 27 v1 rfl rfl) h1
 obtain⟨aR,lR,cR,rn,R,rfl,hR⟩:=open27 (hval 2 27 v2 rfl rfl) h2
 refine (walk hK (base_of hsh) hr hN hR).mono fun e W' ⟨he,hg⟩=>?_
 subst he
 have l0:∀ x∈p0,x.block<W.heap.size:=fun x hx=>hlt x (by simp[hx])
 have l1:∀ x∈p1,x.block<W.heap.size:=fun x hx=>hlt x (by simp[hx])
 have l2:∀ x∈p2,x.block<W.heap.size:=fun x hx=>hlt x (by simp[hx])
 refine⟨_,rfl,_,_,_,[],p0++(p1++p2),[],hW',?_,?_,?_,hg.frame _,fun h=>by cases h⟩
 ·exact trodAll_cons_mk (shut_bool Tryz.underlying4 _) trodAll_mk0
 ·exact trodAll_mk3 (Below.trod k_laid k_r26 k_rows.1 h0 hg l0) (Below.trod k_laid k_r27 k_rows.2 h1 hg l1) (Below.trod k_laid k_r27 k_rows.2 h2 hg l2)
 ·rfl
theorem over (hK:Known):Rows.clausesWithoutRow.holds Tryz.pinned (OpenSpec.ofChange Rows.clausesWithoutSpec):=
 OpenClaim.holds_of_wide 3 Tryz.f3 rfl rfl rfl rfl rfl rfl rfl ⟨rfl,rfl,rfl,rfl,rfl⟩ rfl rfl rfl rfl rfl k_fnamed Tryz.func3 closed
  k_inst (by unfold Func.isWrapper;first|(rw[if_pos (by decide +kernel)];kernel_rfl)|(rw[if_neg (by decide +kernel)];exact⟨rfl,rfl⟩))
  (fun os started H enc _=>lifted hK os started H enc)
theorem card (hK:Known):Rows.ClausesWithoutCardSaid:=
 Claim7.holds_tied_plain_at .later [] [.pinned,.data,.pinned,.sentinel,.sentinel,.data,.data,.data] true Rows.clausesWithoutCard.stood.harness true
  (over hK) (fun _ h=>by cases h) k_wft (fun _ h=>by cases h) clausesWithout_row_tie rfl ⟨rfl,rfl⟩ k_mainIs rfl
  (fun f fn hf hfn=>by
   obtain rfl:f=3:=Option.some.inj (k_fnamed.symm.trans hf) |>.symm
   obtain rfl:fn=Tryz.f3:=(Option.some.inj (Tryz.func3.symm.trans hfn)).symm
   exact⟨k_looks,fun j t ht=>by
    rw[Tryz.params3] at ht
    have hm:t∈[26,27,27]:=by
     have:=Array.mem_of_getElem? ht
     simpa using this
    have hall:([26,27,27].all fun u=>!Tryz.prog.wantsStandIn u)=true:=by kernel_rfl
    exact (show Tryz.prog.wantsStandIn t=false by simpa using List.all_eq_true.1 hall t hm)⟩)
  k_goes
end Go.Proofs.YtjcpnonpiiipgaaGreatDoor.clausesWithout
