/-
  QuerySame's second form: out of the law's walk, the row and the card. Own text, after the guide's worked proofs.
-/
import Derived.Test.YtbddnchfoojacaaGreatDoorFr10
import Derived.Test.YtbddnchfoojacaaGreatDoorQsTie
set_option linter.all false
namespace Go.Proofs.YtbddnchfoojacaaGreatDoor.querySame
open Go.ChangeShapes Go.WideShapes Go.ChangeAt Go.RowKit Go.Exo Go.Proofs.Wo
set_option maxRecDepth 100000
def args0:Array Value:=#[.agg #[.slice none 0 0,.slice none 0 0],.agg #[.slice none 0 0,.slice none 0 0]]
theorem lifted (hK:Known)(os:Os)(started:os.Started)(H:Type)(enc:TypeId×Value→H)(F:Stop.Interp) :
  ReturnsInHanded {} Tryz.checked os 3 .any ((Rows.OpenSpec.upto Rows.querySameSpec).preRow enc Tryz.prog Tryz.f3 Rows.querySameUptoRow.domain false Rows.querySameUptoRow.laid) (((Rows.OpenSpec.upto Rows.querySameSpec).at F).post enc Tryz.prog Tryz.f3 false true false false):=by
 refine returnsInHanded_of_row (C:=Tryz.checked) (s:=Rows.OpenSpec.upto Rows.querySameSpec) k_own started (by kernel_rfl) Tryz.func3
  ⟨laidWorld os,fun _ _=>0,⟨#[],args0,[]⟩,World.laidAll_os _ _ _,shaped os _,rfl,(Input.okWide_of_okWideB (by kernel_rfl)).2,?_,by simp[Assume.holds]⟩ ?_
 ·obtain⟨x,hx,hx1⟩:∃ x:List (DataW H)×List (DataW H)×List MemPlace,DataW.whole enc Tryz.prog ((laidWorld os).forCall (fun _ _=>0) ⟨#[],args0,[]⟩).memory Tryz.f3.params.toList (Rows.OpenSpec.upto Rows.querySameSpec).vars false args0.toList 8=some x∧
    x=([.agg [.nil,.nil],.agg [.nil,.nil]],[],[]):=⟨_,by kernel_rfl,rfl⟩
  subst hx1
  exact OpenSpec.preRow_of_cond 8 hx (by kernel_rfl) (fun k hk=>by cases hk;kernel_rfl) (by kernel_rfl) (laid_met os _)
 intro W base args ds gs before hval0 hW _ hcond _ hL hsh _
 have hval:∀ (j:Nat) t v,Tryz.f3.params[j]? = some t→args[j]? = some v→Value.okWide Tryz.prog W .any base t v:=hval0
 have hW':=hW
 have hlt:=hW.lt
 obtain⟨p,q,hA0,hV,rfl,hfz,hnd⟩:=hW
 have hA:DataW.TrodAll enc Tryz.prog W 0 (fun _=>true) true Tryz.f3.params.toList args.toList ds p:=hA0
 rw[Tryz.params3] at hA hval
 obtain⟨v0,vs0,d0,ds0,p0,q0,hargs,rfl,rfl,h0,r0⟩:=trodAll_cons hA
 obtain⟨v1,vs1,d1,ds1,p1,q1,rfl,rfl,rfl,h1,r1⟩:=trodAll_cons r0
 obtain⟨rfl,rfl,rfl⟩:=trodAll_nil r1
 obtain rfl:args=#[v0,v1]:=by cases args;simp_all
 obtain⟨rfl,rfl⟩:=trodVars_none hV
 obtain⟨x0,c0,rfl,g0,m0⟩:=open25 (hval 0 25 v0 rfl rfl) h0
 obtain⟨x1,c1,rfl,g1,m1⟩:=open25 (hval 1 25 v1 rfl rfl) h1
 have hc:Rows.uptoBulkAll ([d0,d1]++[])≤1048576:=of_decide_eq_true (hcond Rows.uptoSmall rfl)
 have hm:massL c0+massL c1≤1048576:=by
  simp only[List.append_nil,Rows.uptoBulkAll] at hc
  omega
 refine (walk hK ⟨base_of hsh,tabs_of hL⟩ g0 g1 hm).mono fun e W' ⟨he,hg⟩=>?_
 subst he
 have l0:∀ x∈p0,x.block<W.heap.size:=fun x hx=>hlt x (by simp[hx])
 have l1:∀ x∈p1,x.block<W.heap.size:=fun x hx=>hlt x (by simp[hx])
 refine⟨_,rfl,_,_,_,[],p0++p1,[],hW',?_,?_,?_,hg.frame _,fun h=>by cases h⟩
 ·exact trodAll_cons_mk (shut_bool Tryz.underlying4 _) trodAll_mk0
 ·exact trodAll_mk2 (Below.trod k_laid k_r25 k_rows h0 hg l0) (Below.trod k_laid k_r25 k_rows h1 hg l1)
 ·rfl
theorem over (hK:Known):Rows.QuerySameUptoSaid:=
 OpenClaim.holds_of_cond 3 Tryz.f3 rfl rfl rfl rfl rfl rfl rfl ⟨rfl,rfl,rfl,rfl,rfl⟩ rfl rfl rfl rfl rfl k_fnamed Tryz.func3 closed
  k_inst (by unfold Func.isWrapper;first|(rw[if_pos (by decide +kernel)];kernel_rfl)|(rw[if_neg (by decide +kernel)];exact⟨rfl,rfl⟩))
  (fun os started H enc _ F=>by rw[OpenClaim.pre_eq_preRow];exact lifted hK os started H enc F)
theorem card (hK:Known):Rows.QuerySameUptoCardSaid:=
 Claim7.holds_tied_plain_at .later [] [.pinned,.data,.pinned,.sentinel,.sentinel,.data,.data,.data] true Rows.querySameUptoCard.stood.harness true
  (over hK) (fun _ h=>by cases h) k_wft (fun _ h=>by cases h) querySameUpto_row_tie rfl ⟨rfl,rfl⟩ k_mainIs rfl
  (fun f fn hf hfn=>by
   obtain rfl:f=3:=Option.some.inj (k_fnamed.symm.trans hf) |>.symm
   obtain rfl:fn=Tryz.f3:=(Option.some.inj (Tryz.func3.symm.trans hfn)).symm
   exact⟨k_looks,fun j t ht=>by
    rw[Tryz.params3] at ht
    have hm:t∈[25,25]:=by
     have:=Array.mem_of_getElem? ht
     simpa using this
    have hall:([25,25].all fun u=>!Tryz.prog.wantsStandIn u)=true:=by kernel_rfl
    exact (show Tryz.prog.wantsStandIn t=false by simpa using List.all_eq_true.1 hall t hm)⟩)
  k_goes
end Go.Proofs.YtbddnchfoojacaaGreatDoor.querySame
