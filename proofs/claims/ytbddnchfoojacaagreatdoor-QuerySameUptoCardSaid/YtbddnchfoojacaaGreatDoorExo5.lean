/-
  EXO, part X: what the abstract machine has done ahead is done. Own text.
-/
import Derived.Test.YtbddnchfoojacaaGreatDoorExo4
import Derived.Orders
set_option linter.all false
namespace Go.Exo
set_option linter.unusedSectionVars false
variable [Sx] [Dc]
section
variable {P:Program}{w0:Bs}{cs0:List Frame}{E:Env}{ih:Ih}
theorem Ord.tail {ops:Array Oper}{i:Nat}{is:List Nat}(h:Ord P ops (i::is)):Ord P ops is:=by
 obtain⟨h1,h2,h3,h4,h5⟩:=h
 refine⟨(List.nodup_cons.1 h1).2,fun j hj=>h2 j (List.mem_cons_of_mem _ hj),fun j hj k hk=>h3 j (List.mem_cons_of_mem _ hj) k (List.mem_cons_of_mem _ hk),fun a j b e=>?_,fun x hx j hj=>⟨fun hn hm=>?_,fun a b e=>?_⟩⟩
 ·exact h4 (i::a) j b (by rw[e];rfl)
 ·obtain⟨g1,g2⟩:=h5 x hx j hj
  by_cases e:x.1.idx=i
  ·exact g2 [] is (by rw[e];rfl) (List.mem_cons_of_mem _ hm)
  ·refine g1 (fun hh=>?_) (List.mem_cons_of_mem _ hm)
   cases hh with
   |head=>exact e rfl
   |tail _ hh=>exact hn hh
 ·exact (h5 x hx j hj).2 (i::a) b (by rw[e];rfl)
theorem Compat.tail {ops:Array Oper}{i:Nat}{is:List Nat}(hnd:i∉is):∀ {l:List PStep},Compat P ops l (i::is)→(∀ s∈l,s.idx≠i)→Compat P ops l is
 |[],_,_=>trivial
 |s::r,⟨h1,h2,h3,h4,h5,h6⟩,hi=>by
  have hne:=hi s (List.mem_cons_self ..)
  refine⟨h1,?_,h3,h4,fun d hd j hj hp hw=>h5 d hd j (List.mem_cons_of_mem _ hj) hp (hw.imp id fun⟨x,y,e,hy⟩=>⟨i::x,y,by rw[e];rfl,hy⟩),?_⟩
  ·cases h2 with
   |head=>exact absurd rfl hne
   |tail _ h=>exact h
  ·rcases h6 with⟨g1,g2,g3⟩|⟨g1,a,b,g2,g3,g4,g5⟩
   ·exact .inl ⟨g1,g2,Compat.tail hnd g3 fun s hs=>hi s (List.mem_cons_of_mem _ hs)⟩
   ·cases a with
    |nil=>simp only[List.nil_append,List.cons.injEq] at g2;exact absurd g2.1.symm hne
    |cons x a=>
     simp only[List.cons_append,List.cons.injEq] at g2
     exact .inr ⟨g1,a,b,g2.2,fun j hj=>g3 j (List.mem_cons_of_mem _ hj),g4,g5⟩
theorem fitZ_mem {T1 T2:List PStep}{z:PStep}{i:Nat}:(∀ s∈T1++T2++[z],s.idx≠i)↔∀ s∈T1++z0Of z::T2,s.idx≠i:=by
 constructor
 ·intro h s hs
  rcases List.mem_append.1 hs with hs|hs
  ·exact h s (by simp[hs])
  ·cases hs with
   |head=>exact h z (by simp)
   |tail _ hs=>
    have hs':s∈T2:=hs
    exact h s (by simp[hs'])
 ·intro h s hs
  rcases List.mem_append.1 hs with hs|hs
  ·rcases List.mem_append.1 hs with hs|hs
   ·exact h s (by simp[hs])
   ·exact h s (by simp[hs])
  ·have:s=z:=by simpa using hs
   subst this
   exact h (z0Of s) (by simp)
theorem FitZ.tail {ops:Array Oper}{i:Nat}{is:List Nat}(hnd:i∉is){l:List PStep}(h:FitZ P ops l (i::is))(hi:∀ s∈l,s.idx≠i):FitZ P ops l is:=by
 rcases h with h|⟨T1,T2,z,rfl,h1,h2,h3,h4⟩
 ·exact .inl (h.tail hnd hi)
 ·exact .inr ⟨T1,T2,z,rfl,h1,h2,h3,h4.tail hnd (fitZ_mem.1 hi)⟩
theorem cls0 {o:AOp}(h:o.cls=0)(tm:T V)(H H':T AObj)(nx nx':Nat):exOp o tm H nx=exOp o tm H' nx':=by
 cases o<;>first|rfl|(simp[AOp.cls] at h)
theorem cls2 {o:AOp}(h:o.cls=2)(tm:T V)(H:T AObj)(nx nx':Nat):exOp o tm H nx=exOp o tm H nx':=by
 cases o<;>first|rfl|(simp[AOp.cls] at h)
theorem yes_ok (hdc:DecE E){ops:Array Oper}{o:Oper}{tmps:Array Value}{tm:T V}(hbad:gdBad ops o=false)(hv:∀ t∈looks ops o,VR E (getU tm t) (tmps.getD t undef))(h:GYes (gdOf ops o) tm):Region.wanted o (yielded ops tmps)=true:=by
 cases hg:o.guard with
 |none=>exact wanted_none hg
 |some jw=>
  obtain⟨j,want⟩:=jw
  unfold gdBad at hbad
  rw[hg] at hbad;simp only at hbad
  cases hd:(ops[j]?).bind (·.dst) with
  |none=>rw[hd] at hbad;cases hbad
  |some t=>
   have hgo:gdOf ops o=some (t,want):=by unfold gdOf;rw[hg];simp only[hd]
   rcases h with h|⟨t',want',h1,h2⟩
   ·rw[hgo] at h;cases h
   ·rw[hgo] at h1;cases h1
    have:=hv t (by unfold looks;rw[hgo];simp)
    have hx:=gB_ok hdc this h2
    rw[wanted_bool hg hd hx];simp
theorem no_ok (hdc:DecE E){ops:Array Oper}{o:Oper}{tmps:Array Value}{tm:T V}(hv:∀ t∈looks ops o,VR E (getU tm t) (tmps.getD t undef))(h:GNo (gdOf ops o) tm):Region.wanted o (yielded ops tmps)=false:=by
 obtain⟨t,want,h1,h2⟩:=h
 have:=hv t (by unfold looks;rw[h1];simp)
 unfold gdOf at h1
 cases hg:o.guard with
 |none=>rw[hg] at h1;cases h1
 |some jw=>
  obtain⟨j,w'⟩:=jw
  rw[hg] at h1;simp only at h1
  cases hd:(ops[j]?).bind (·.dst) with
  |none=>rw[hd] at h1;cases h1
  |some t'=>
   rw[hd] at h1;cases h1
   rcases h2 with⟨b,h2,h3⟩|⟨vs,h2⟩
   ·have hx:=gB_ok hdc this h2
    rw[wanted_bool hg hd hx]
    cases b<;>cases want<;>simp_all
   ·generalize hx:tmps.getD t undef=x at this
    rw[h2] at this;cases this
    exact wanted_tup hg hd hx
theorem flush1 {b:Nat}{c:Ctx}{fr:Frame}{cs:List Frame}{w:World}(hc:Cur P w0 cs0 E b c fr cs w){ops:Array Oper}{i:Nat}{is:List Nat}{k':List Item}(ht:fr.todo=.inRegion ops (i::is)::k'){l:List PStep}{tm:T V}
  (hd:DInv P E c.H b c.nx ops l (i::is) tm fr.tmps true)(hp:∀ s∈l,s.idx≠i) :
  ∃ E' fr' w',Steps P (lone fr cs w) (lone fr' cs w')∧E.le E'∧Cur P w0 cs0 E' b c fr' cs w'∧fr'.todo=.inRegion ops is::k'∧DInv P E' c.H b c.nx ops l is tm fr'.tmps true:=by
 obtain⟨hord,hfit,htm,hsz,pl,hinj,hpf⟩:=hd
 have hnd:i∉is:=(List.nodup_cons.1 hord.1).1
 obtain⟨o,tm0,ho,hag,hcase⟩:=hpf i (List.mem_cons_self ..) hp
 have hdst:dstOf ops i=o.dst:=by simp[dstOf,ho]
 have hlook:∀ t∈looks ops o,VR E (getU tm0 t) (fr.tmps.getD t undef):=fun t htl=>by
  rw[hag t htl]
  exact htm t fun j hj hjp=>hord.2.2.2.1 [] i is rfl o ho t htl j hj (hpf j hj hjp).early
 have hev:∀ x∈o.op.operands.toList,opnFine P.globals.size x=true→VR E ((compO x).ev tm0) (fr.eval x):=fun x hx hf=>opVal_hev hc.gl hf fun t e=>hlook t (by
  unfold looks opTmps;subst e;exact List.mem_append.2 (.inl (List.mem_filterMap.2 ⟨_,hx,rfl⟩)))
 have fin:∀ (E':Env)(w':World)(v:V)(x:Value),E.le E'→Go.step P (lone fr cs w)=.next (lone (fr.finish x) cs w')→WR w0 E' c.H c.nx w'→KeepB b E E' c.H c.H→VR E' v x→(∀ d,o.dst=some d→getU tm d=v)→
   (∀ j∈is,(∀ s∈l,s.idx≠j)→∀ lj,pl j=some lj→E lj=none→E' lj=none)→
   ∃ E' fr' w',Steps P (lone fr cs w) (lone fr' cs w')∧E.le E'∧Cur P w0 cs0 E' b c fr' cs w'∧fr'.todo=.inRegion ops is::k'∧DInv P E' c.H b c.nx ops l is tm fr'.tmps true:=by
  intro E' w' v x hE hst hwr hkb hv hvd hnone
  refine⟨E',fr.finish x,w',.one hst,hE,?_,?_,?_⟩
  ·rw[finish_op ht ho]
   have:=hc.mono hE hkb (Nat.le_refl _) hwr
   exact this.to _ _ (by cases o.dst<;>simp)
  ·rw[finish_op ht ho]
  ·rw[finish_op ht ho]
   have hszE:∀ d,o.dst=some d→d<fr.tmps.size:=fun d hd=>hsz i (List.mem_cons_self ..) hp d (by rw[hdst,hd])
   refine⟨hord.tail,hfit.tail hnd hp,?_,?_,pl,hinj,?_⟩
   ·intro t hts
    cases hd2:o.dst with
    |none=>
     simp only
     refine (htm t fun j hj hjp=>?_).mono hE
     cases hj with
     |head=>rw[hdst,hd2];intro h;cases h
     |tail _ hj=>exact hts j hj hjp
    |some d=>
     simp only
     by_cases e:t=d
     ·subst e
      rw[hvd t hd2]
      have:(fr.tmps.setIfInBounds t x).getD t undef=x:=by simp[hszE t hd2]
      rw[this];exact hv
     ·have:(fr.tmps.setIfInBounds d x).getD t undef=fr.tmps.getD t undef:=by simp[Ne.symm e]
      rw[this]
      refine (htm t fun j hj hjp=>?_).mono hE
      cases hj with
      |head=>rw[hdst,hd2];intro h;cases h;exact e rfl
      |tail _ hj=>exact hts j hj hjp
   ·intro j hj hjp d hdj
    have:=hsz j (List.mem_cons_of_mem _ hj) hjp d hdj
    cases o.dst<;>simpa using this
   ·intro j hj hjp
    obtain⟨o',tm1,g1,g2,g3⟩:=hpf j (List.mem_cons_of_mem _ hj) hjp
    refine⟨o',tm1,g1,g2,g3.imp id fun⟨gy,v',gv,gg⟩=>⟨gy,v',gv,?_⟩⟩
    rcases gg with gg|gg|⟨c1,lj,mk,a1,a2,a3,a4,a5,a6⟩
    ·exact .inl gg
    ·exact .inr (.inl gg)
    ·exact .inr (.inr ⟨c1,lj,mk,a1,a2,a3,hnone j hj hjp lj a1 a4,a5,a6⟩)
 rcases hcase with⟨hno,hund⟩|⟨hyes,v,hvd,hh⟩
 ·
  exact fin E w undefV undef (Env.le.refl E) (st_opSkip hc.mode ht (by rw[ho];exact no_ok hc.wr.decE hlook hno)) hc.wr (fun _ _ h _=>⟨h,rfl⟩) (VR.undef E) hund (fun _ _ _ _ _ h=>h)
 ·have hop:gdBad ops o=false∧(pstep P ops i o).op=compOp P o:=by
   cases hb:gdBad ops o with
   |false=>exact⟨rfl,by simp only[pstep,hb,cond_false]⟩
   |true=>
    have hbad:(pstep P ops i o).op=.bad:=by simp only[pstep,hb,cond_true]
    rw[hbad] at hh
    rcases hh with⟨h1,_⟩|⟨h1,_⟩|⟨h1,_⟩<;>cases h1
  obtain⟨hbad,hop⟩:=hop
  rw[hop] at hh
  have hw:=yes_ok hc.wr.decE hbad hlook hyes
  have hnd2:(∀ d,exOp (compOp P o) tm0 c.H c.nx≠.defer d)→(∀ n,exOp (compOp P o) tm0 c.H c.nx≠.fail n)→fr.roundOf=none∨∀ c,o.op≠.defer c:=by
   intro h1 h2
   refine .inr fun cc hcc=>?_
   rcases defer_res (P:=P) hcc tm0 c.H c.nx with⟨n,e⟩|⟨d,e⟩
   ·exact h2 n e
   ·exact h1 d e
  have hval:exOp (compOp P o) tm0 c.H c.nx=.val v→∃ E' fr' w',Steps P (lone fr cs w) (lone fr' cs w')∧E.le E'∧Cur P w0 cs0 E' b c fr' cs w'∧fr'.todo=.inRegion ops is::k'∧DInv P E' c.H b c.nx ops l is tm fr'.tmps true:=by
   intro hx
   have hgood:=compOp_ok (tm:=tm0) (ev:=fr.eval) hc.wr o hev
   rw[hx] at hgood
   obtain⟨n,x,h1,h2,h3⟩:=hgood
   exact fin E w v x (Env.le.refl E) (st_opVal hc.mode ht ho hw (hnd2 (by rw[hx];intro _ e;cases e) (by rw[hx];intro _ e;cases e)) h1 h2) hc.wr (fun _ _ h _=>⟨h,rfl⟩) h3 hvd (fun _ _ _ _ _ h=>h)
  rcases hh with⟨c1,h1⟩|⟨c1,h1⟩|⟨c1,lx,mk,a1,a2,a3,a4,a5,a6⟩
  ·exact hval (h1 _ _)
  ·obtain⟨nx',h1⟩:=h1 rfl
   exact hval (by rw[cls2 c1 tm0 c.H c.nx nx'];exact h1)
  ·have hfine:o.op.operands.toList.all (opnFine P.globals.size)=true:=by
    cases hb:o.op.operands.toList.all (opnFine P.globals.size) with
    |true=>rfl
    |false=>unfold compOp at c1;rw[hb] at c1;cases c1
   have hc0:compOp P o=compOp0 P o.op:=by unfold compOp;rw[hfine];rfl
   rw[hc0] at c1 a5
   obtain⟨X,obj,sz,d,r1,r2⟩:=new_run (E:=E) (w:=w) o (fun x hx=>hev x hx (List.all_eq_true.1 hfine x hx)) c1 a5
   have hle:E.le (E.set lx ⟨w.heap.size,0,sz,undef,noOb,[]⟩):=Env.le_set _ a4
   obtain⟨r3,r4⟩:=r2 lx _ hle (Env.set_self _ _ _)
   have hx:∀ n,exOp (compOp P o) tm0 c.H c.nx≠.fail n:=fun n e=>by rw[hc0,a5.ex] at e;cases e
   have hx2:∀ n,exOp (compOp P o) tm0 c.H c.nx≠.defer n:=fun n e=>by rw[hc0,a5.ex] at e;cases e
   refine fin _ _ v X hle (st_opVal hc.mode ht ho hw (hnd2 hx2 hx) r1 rfl) (hc.wr.made a4 a3 obj sz d a5.cls a5.isc (r4 c.H)) ?_ (by rw[a6];exact r3) hvd ?_
   ·intro k hk hE _
    have:k≠lx:=by omega
    exact⟨by rw[Env.set_other _ _ _ _ this];exact hE,rfl⟩
   ·intro j hj hjp lj hpj hEj
    have:lj≠lx:=fun e=>by
     subst e
     have:=hinj _ _ _ a1 hpj
     subst this;exact hnd hj
    rw[Env.set_other _ _ _ _ this];exact hEj
theorem flush {b:Nat}{c:Ctx}{cs:List Frame}{ops:Array Oper}{k':List Item}{l:List PStep}{tm:T V}:∀ (a is:List Nat)(E:Env)(fr:Frame)(w:World),Cur P w0 cs0 E b c fr cs w→fr.todo=.inRegion ops (a++is)::k'→
  DInv P E c.H b c.nx ops l (a++is) tm fr.tmps true→(∀ i∈a,∀ s∈l,s.idx≠i)→
  ∃ E' fr' w',Steps P (lone fr cs w) (lone fr' cs w')∧E.le E'∧Cur P w0 cs0 E' b c fr' cs w'∧fr'.todo=.inRegion ops is::k'∧DInv P E' c.H b c.nx ops l is tm fr'.tmps true
 |[],is,E,fr,w,hc,ht,hd,_=>⟨E,fr,w,.refl _ _,Env.le.refl E,hc,ht,hd⟩
 |i::a,is,E,fr,w,hc,ht,hd,hp=>by
  obtain⟨E1,fr1,w1,h1,h2,h3,h4,h5⟩:=flush1 hc ht hd (hp i (List.mem_cons_self ..))
  obtain⟨E2,fr2,w2,g1,g2,g3,g4,g5⟩:=flush a is E1 fr1 w1 h3 h4 h5 fun j hj=>hp j (List.mem_cons_of_mem _ hj)
  exact⟨E2,fr2,w2,h1.trans g1,h2.trans g2,g3,g4,g5⟩
end
end Go.Exo

namespace Go.Exo
set_option linter.unusedSectionVars false
variable [Sx] [Dc]
def isVF:Res→Prop
 |.val _|.fail _=>True
 |_=>False
theorem isVF.elim {r:Res}(h:isVF r):(∃ v,r=.val v)∨∃ n,r=.fail n:=by
 cases r<;>first|exact .inl ⟨_,rfl⟩|exact .inr ⟨_,rfl⟩|exact False.elim h
theorem isVF.v (v:V):isVF (.val v):=True.intro
theorem isVF.cond {b:Bool}{x y:Res}(h1:isVF x)(h2:isVF y):isVF (cond b x y):=by cases b<;>assumption
theorem isVF.nat {d:Nat}{x:Option V}{k:Nat→Res}(h:∀ n,isVF (k n)):isVF (natOf d x k):=by
 cases x with
 |none=>exact h d
 |some v=>
  cases v<;>first|exact True.intro|skip
  rename_i kk n
  cases n with
  |ofNat n=>exact h n
  |negSucc n=>exact True.intro
theorem isVF.fill {tm:T V}{k:List V→Res}(h:∀ l,isVF (k l)):∀ (ps:List (Nat×Nat×AO))(cs:List V),isVF (fillL tm ps cs k)
 |[],cs=>h cs
 |(off,size,x)::r,cs=>by
  simp only[fillL]
  exact isVF.cond (isVF.fill h r _) True.intro
theorem isVF.binI (op:BinOp)(k:IntKind)(a b:Int):isVF (Exo.binI op k a b):=by
 cases op<;>first|exact True.intro|exact isVF.cond True.intro True.intro
theorem isVF.binS (op:BinOp)(l n l' n':Nat):isVF (Exo.binS op l n l' n'):=by
 cases op<;>first|exact True.intro|exact isVF.cond True.intro True.intro
theorem isVF.binII (op:BinOp)(k k':IntKind)(a b:Int):isVF (Exo.binII op k a k' b):=by
 cases op<;>first
  |exact isVF.cond (isVF.binI _ _ _ _) True.intro
  |(cases b<;>exact True.intro)
theorem isVF.binV (op:BinOp)(x y:V):isVF (Exo.binV op x y):=by
 cases x<;>first|exact True.intro|(cases y<;>first|exact True.intro|exact isVF.binII _ _ _ _ _|exact isVF.binS _ _ _ _ _)
theorem isVF.rd1 (l off:Nat)(H:T AObj):isVF (Exo.rd1 l off H):=by
 unfold Exo.rd1
 cases getH H l<;>first|exact True.intro|exact isVF.cond True.intro True.intro
theorem isVF.rdN (l off n:Nat)(H:T AObj){k:List V→Res}(h:∀ l,isVF (k l)):isVF (Exo.rdN l off n H k):=by
 unfold Exo.rdN
 cases getH H l<;>first|exact True.intro|exact isVF.cond (h _) True.intro
theorem isVF.pack:∀ (vs:List V){k:Nat→Res},(∀ n,isVF (k n))→isVF (packV vs k)
 |[],_,h=>h 0
 |v::r,k,h=>by
  simp only[packV]
  cases v<;>first|exact True.intro|skip
  rename_i kk n
  cases kk<;>first|exact True.intro|skip
  cases n with
  |ofNat n=>exact isVF.pack r fun m=>h _
  |negSucc n=>exact True.intro
theorem isVF.findK (k:V){no:Res}{yes:V→Res}(h1:isVF no)(h2:∀ v,isVF (yes v)):∀ es,isVF (Exo.findK k no yes es)
 |[]=>h1
 |(a,v,_)::r=>by
  simp only[Exo.findK]
  cases keyEq k a with
  |none=>exact True.intro
  |some b=>cases b<;>first|exact isVF.findK k h1 h2 r|exact h2 v
theorem isVF.cnd {b:Bool}{x y:Res}(h1:isVF x)(h2:isVF y):isVF (Exo.cnd b x y):=by cases b<;>assumption
theorem sx_vf {o:AOp}{tm:T V}{r:Res}(h:sxOp o tm=some r):isVF r:=by
 have hx:∀ {v:V}{f:X→Res}{r:Res},(∀ t,isVF (f t))→onX v f=some r→isVF r:=fun hf h=>by
  unfold onX at h;split at h<;>cases h;exact hf _
 have ha:∀ {v:V}{f:X→X→Nat→Res}{r:Res},(∀ s i j,isVF (f s i j))→onA v f=some r→isVF r:=fun hf h=>by
  unfold onA at h;split at h<;>cases h;exact hf _ _ _
 have h2:∀ {u v:V}{q r:Res},isVF q→onX2 u v q=some r→isVF r:=fun hf h=>by
  unfold onX2 at h
  split at h
  ·cases h;exact hf
  ·split at h<;>cases h;exact hf
 have hy:∀ {t:X}{q:Res},isVF q→isVF (yes t q):=fun hf=>by unfold yes;split<;>first|exact hf|exact True.intro
 cases o<;>simp only[sxOp] at h<;>try (cases h;done)
 case pick c a b=>exact hx (fun t=>by unfold sxPick;split<;>exact True.intro) h
 case load1 x=>exact ha (fun s i j=>by unfold sxLd1;split<;>first|exact True.intro|(split<;>exact True.intro)) h
 case loadN n x=>exact ha (fun s i j=>by unfold sxLdN;split<;>first|exact True.intro|(split<;>exact True.intro)) h
 case nilck x=>exact ha (f:=fun s i j=>.val (.xa s i j)) (fun s i j=>True.intro) h
 case bin op x y=>
  refine h2 ?_ h
  unfold sxBin
  split<;>try exact True.intro
  split<;>try exact True.intro
  split
  ·unfold sxInt
   split<;>try exact True.intro
   refine isVF.cond ?_ True.intro
   split<;>first|exact True.intro|exact hy True.intro
  ·refine isVF.cond ?_ True.intro
   unfold sxStr
   refine isVF.cond ?_ True.intro
   split<;>first|exact hy (hy True.intro)|exact isVF.cond True.intro True.intro
 case eqv neg cst d x y=>
  refine h2 ?_ h
  unfold sxEqv
  split<;>try exact True.intro
  ·split<;>try exact True.intro
   split<;>try exact True.intro
   exact isVF.cond True.intro True.intro
  ·split
   ·split<;>exact True.intro
   ·split<;>first|exact True.intro|(split<;>exact True.intro)
 case un op x=>exact hx (fun t=>by unfold sxUn;split<;>first|exact isVF.cond True.intro True.intro|exact True.intro|(split<;>exact True.intro)) h
 case convI k x=>exact hx (fun t=>by unfold sxConv;split<;>exact True.intro) h
 case slStr x lo hi=>exact hx (fun t=>by unfold sxSlStr;refine isVF.cond ?_ True.intro;split<;>first|exact True.intro|exact hy True.intro) h
 case slSl esz x lo hi mx=>exact hx (fun t=>by unfold sxSlSl;split<;>first|exact True.intro|(refine isVF.cond ?_ True.intro;split<;>first|exact True.intro|exact hy True.intro)) h
 case faddr off x=>exact ha (f:=fun s i j=>.val (.xa s i (Nat.add j off))) (fun s i j=>True.intro) h
 case idxSl esz x i=>exact hx (fun t=>by unfold sxIdx;split<;>first|exact True.intro|(split<;>first|exact True.intro|exact isVF.cond (hy True.intro) True.intro)) h
 case idxStr x i=>exact hx (fun t=>by unfold sxIdxStr;split<;>first|exact True.intro|(split<;>first|exact True.intro|exact isVF.cond (hy True.intro) True.intro)) h
 case len sh x=>exact hx (fun t=>by unfold sxLen;split<;>first|exact True.intro|exact isVF.cond True.intro True.intro) h
 case maxI x y=>exact h2 (by unfold sxMax;split<;>first|exact True.intro|(split<;>first|exact True.intro|(refine isVF.cond ?_ True.intro;split<;>exact True.intro))) h
 case extCmp x y=>exact h2 (by unfold sxCmp;split<;>first|exact True.intro|exact isVF.cond True.intro True.intro) h
theorem vf0' {o:AOp}(h:o.cls=0)(tm:T V)(H:T AObj)(nx:Nat):isVF (exOp0 o tm H nx):=by
 cases o<;>try (simp[AOp.cls] at h;done)
 case mv x=>exact True.intro
 case pick c a b=>show isVF (xPick _ _ _);unfold xPick;split<;>exact True.intro
 case build z ps=>exact isVF.fill (k:=fun cs=>.val (.agg cs)) (fun _=>isVF.v _) ps z
 case nilck x=>show isVF (xNil _);unfold xNil;split<;>exact True.intro
 case bin op x y=>exact isVF.binV _ _ _
 case eqv neg cst d x y=>show isVF (eqvR _ _ _ _ _);unfold eqvR;split<;>exact True.intro
 case un op x=>show isVF (unV _ _);unfold unV;split<;>exact True.intro
 case convI k x=>show isVF (xConvI _ _);unfold xConvI;split<;>exact True.intro
 case mkIface t x=>exact True.intro
 case mkFunc fn f c=>exact True.intro
 case slStr x lo hi=>show isVF (xSlStr _ _ _);unfold xSlStr;split<;>first|exact True.intro|exact isVF.nat fun _=>isVF.nat fun _=>isVF.cond True.intro True.intro
 case slSl es x lo hi mx=>
  show isVF (xSlSl _ _ _ _ _);unfold xSlSl
  split
  ·split
   ·exact isVF.nat fun _=>isVF.nat fun _=>isVF.cond True.intro True.intro
   ·exact True.intro
  ·refine isVF.cond ?_ True.intro
   split
   ·refine isVF.nat fun _=>isVF.nat fun _=>?_
    split<;>first|exact isVF.cond True.intro True.intro|exact isVF.cond True.intro (isVF.cond True.intro True.intro)
   ·split
    ·exact True.intro
    ·exact isVF.nat fun _=>isVF.nat fun _=>isVF.nat fun _=>isVF.cond True.intro True.intro
  ·exact True.intro
 case slArr n esz x lo hi=>show isVF (xSlArr _ _ _ _ _);unfold xSlArr;split<;>first|exact True.intro|exact isVF.nat fun _=>isVF.nat fun _=>isVF.cond True.intro True.intro
 case faddr off x=>show isVF (xFaddr _ _);unfold xFaddr;split<;>exact True.intro
 case field size off x=>
  show isVF (xField _ _ _);unfold xField
  split
  ·split<;>exact isVF.cond True.intro True.intro
  ·exact True.intro
 case idxSl esz x i=>show isVF (xIdxSl _ _ _);unfold xIdxSl;(repeat' split)<;>first|exact True.intro|exact isVF.cond True.intro True.intro
 case idxArr n esz x i=>show isVF (xIdxArr _ _ _ _);unfold xIdxArr;(repeat' split)<;>first|exact True.intro|exact isVF.cond True.intro True.intro
 case idxStr x i=>show isVF (xIdxStr _ _);unfold xIdxStr;(repeat' split)<;>first|exact True.intro|exact isVF.cond True.intro True.intro
 case tassert t ok z x=>
  show isVF (xTassert _ _ _ _);unfold xTassert
  split
  ·exact isVF.cond True.intro (isVF.cond True.intro True.intro)
  ·exact isVF.cond True.intro True.intro
  ·exact True.intro
 case extract x i=>show isVF (xExtract _ _);unfold xExtract;split<;>first|exact True.intro|exact isVF.cond True.intro True.intro
 case extIB x y=>show isVF (xExtIB _ _);unfold xExtIB;split<;>first|exact True.intro|exact isVF.cond True.intro True.intro
 case maxI x y=>show isVF (xMax _ _);unfold xMax;split<;>first|exact True.intro|exact isVF.cond True.intro True.intro
 case idxAgg n esz g x i=>show isVF (xIdxAgg _ _ _ _ _);unfold xIdxAgg;(repeat' split)<;>first|exact True.intro|exact isVF.cond (isVF.cond (isVF.cond True.intro True.intro) (isVF.cond True.intro True.intro)) True.intro
 case capv x=>show isVF (xCap _);unfold xCap;split<;>exact True.intro
 case extCmp x y=>show isVF (xExtCmp _ _);unfold xExtCmp;split<;>exact True.intro
 case eqAgg neg ks x y=>
  show isVF (xEqAgg _ _ _ _);unfold xEqAgg
  split
  ·refine isVF.cond ?_ True.intro
   split<;>exact True.intro
  ·exact True.intro
theorem vf0 {o:AOp}(h:o.cls=0)(tm:T V)(H:T AObj)(nx:Nat):isVF (exOp o tm H nx):=by
 unfold exOp
 cases hs:sxOp o tm with
 |none=>exact vf0' h tm H nx
 |some r=>exact sx_vf hs
theorem vf2' {o:AOp}(h:o.cls=2)(tm:T V)(H:T AObj)(nx:Nat):isVF (exOp0 o tm H nx):=by
 cases o<;>try (simp[AOp.cls] at h;done)
 case load1 x=>show isVF (xLoad1 _ _);unfold xLoad1;split<;>first|exact True.intro|exact isVF.rd1 _ _ _
 case loadN n x=>show isVF (xLoadN _ _ _);unfold xLoadN;split<;>first|exact True.intro|exact isVF.rdN _ _ _ _ fun _=>isVF.v _
 case convBS x=>show isVF (xConvBS _ _);unfold xConvBS;split<;>first|exact True.intro|exact isVF.rdN _ _ _ _ fun _=>isVF.pack _ fun _=>isVF.v _
 case lookup kd ks z ok x k=>
  show isVF (cnd _ (xLookup _ _ _ _ _) _)
  refine isVF.cnd ?_ True.intro
  unfold xLookup
  split
  ·exact True.intro
  ·split<;>first|exact True.intro|exact isVF.findK _ (isVF.v _) (fun _=>isVF.v _) _
  ·exact True.intro
 case len sh x=>
  show isVF (xLen _ _ _);unfold xLen
  split<;>first|exact True.intro|exact isVF.cond True.intro True.intro|skip
  refine isVF.cond ?_ True.intro
  split<;>exact True.intro
theorem vf2 {o:AOp}(h:o.cls=2)(tm:T V)(H:T AObj)(nx:Nat):isVF (exOp o tm H nx):=by
 unfold exOp
 cases hs:sxOp o tm with
 |none=>exact vf2' h tm H nx
 |some r=>exact sx_vf hs
theorem res1 {o:AOp}(h:o.cls=1)(tm:T V):(∃ n,∀ H nx,exOp o tm H nx=.fail n)∨∃ mk ob,NewOp o tm mk ob:=by
 cases o<;>try (simp[AOp.cls] at h;done)
 case alloc vs len elem=>exact .inr ⟨fun l=>.ptr l 0,.cells vs len elem 0 0 0 false,⟨fun H nx=>by show xAlloc _ H nx=_;simp only[xAlloc,newObj,setHR_eq],rfl,rfl⟩⟩
 case box t x=>
  cases hr:(x.ev tm).real with
  |false=>exact .inl ⟨301,fun H nx=>by show xBox _ _ H nx=_;simp only[xBox,hr];rfl⟩
  |true=>exact .inr ⟨fun l=>.ptr l 0,.cells (putL .bad (x.ev tm).cells 0 .e) (x.ev tm).cells.length t 0 0 0 false,⟨fun H nx=>by show xBox _ _ H nx=_;simp only[xBox,newCells_eq,hr,cond_true],rfl,rfl⟩⟩
 case bslice elem esz len z ps=>
  have key:∀ (ps:List (Nat×Nat×AO))(cs:List V),(∃ n,∀ k,fillL tm ps cs k=.fail n)∨∃ cs',∀ k,fillL tm ps cs k=k cs':=by
   intro ps
   induction ps with
   |nil=>intro cs;exact .inr ⟨cs,fun _=>rfl⟩
   |cons p r ih=>
    intro cs
    obtain⟨off,size,x⟩:=p
    cases hb:(Nat.beq (x.ev tm).cells.length size&&Nat.ble (Nat.add off size) cs.length&&(x.ev tm).real) with
    |false=>exact .inl ⟨21,fun k=>by simp only[fillL,hb];rfl⟩
    |true=>
     have e:∀ k,fillL tm ((off,size,x)::r) cs k=fillL tm r (placeL (x.ev tm).cells off cs) k:=fun k=>by simp only[fillL,hb];rfl
     rcases ih (placeL (x.ev tm).cells off cs) with⟨n,hn⟩|⟨cs',hk⟩
     ·exact .inl ⟨n,fun k=>by rw[e];exact hn k⟩
     ·exact .inr ⟨cs',fun k=>by rw[e];exact hk k⟩
  rcases key ps z with⟨n,hn⟩|⟨cs,hk⟩
  ·exact .inl ⟨n,fun H nx=>hn _⟩
  ·exact .inr ⟨fun k=>.slice k 0 len (some len) esz,_,⟨fun H nx=>by
    show fillL tm ps z (fun cs=>newCells elem cs 0 H nx (.slice nx 0 len (some len) esz))=_
    rw[hk,newCells_eq],rfl,rfl⟩⟩
 case mkSl e esz bytes z l c=>
  have he:∀ H nx,exOp (.mkSl e esz bytes z l c) tm H nx=xMkSl e esz bytes z (l.ev tm) (c.ev tm) H nx:=fun _ _=>rfl
  by_cases hx:∃ n m,l.ev tm=.int .i64 (.ofNat n)∧c.ev tm=.int .i64 (.ofNat m)
  ·obtain⟨n,m,e1,e2⟩:=hx
   rw[e1,e2] at he
   cases hb2:(Nat.beq n m&&Nat.ble (Nat.mul n bytes) 16777216&&Nat.ble n 16777216) with
   |false=>exact .inl ⟨171,fun H nx=>by rw[he];simp only[xMkSl,hb2];rfl⟩
   |true=>exact .inr ⟨fun k=>.slice k 0 n (some n) esz,_,⟨fun H nx=>by rw[he];simp only[xMkSl,hb2,cond_true,newCells_eq];rfl,rfl,rfl⟩⟩
  ·have hf:∃ f,∀ H nx,xMkSl e esz bytes z (l.ev tm) (c.ev tm) H nx=.fail f:=by
    generalize l.ev tm=lv at hx
    generalize c.ev tm=cv at hx
    unfold xMkSl
    split
    ·rename_i n
     split
     ·rename_i m
      exact absurd ⟨n,m,rfl,rfl⟩ hx
     ·exact⟨172,fun _ _=>rfl⟩
    ·exact⟨173,fun _ _=>rfl⟩
   obtain⟨f,hf⟩:=hf
   exact .inl ⟨f,fun H nx=>(he H nx).trans (hf H nx)⟩
 case mkMap=>exact .inr ⟨fun l=>.map l,.map [] 0,⟨fun H nx=>by show newObj (.map [] 0) H nx (fun H nx'=>.valH (.map nx) H nx')=_;simp only[newObj,setHR_eq],rfl,rfl⟩⟩
 case convSB elem x=>
  have he:∀ H nx,exOp (.convSB elem x) tm H nx=xConvSB elem (x.ev tm) H nx:=fun _ _=>rfl
  cases hx:x.ev tm<;>rw[hx] at he<;>first
   |exact .inl ⟨28,fun H nx=>by rw[he];rfl⟩
   |skip
  rename_i l n
  exact .inr ⟨fun k=>.slice k 0 l none 1,_,⟨fun H nx=>by rw[he];simp only[xConvSB,newCells_eq];rfl,rfl,rfl⟩⟩
 case rangeS x=>
  have he:∀ H nx,exOp (.rangeS x) tm H nx=xRangeS (x.ev tm) H nx:=fun _ _=>rfl
  cases hx:x.ev tm<;>rw[hx] at he<;>first
   |exact .inl ⟨60,fun H nx=>by rw[he];rfl⟩
   |skip
  rename_i l n
  exact .inr ⟨fun k=>.ptr k 0,.siter l n 0,⟨fun H nx=>by rw[he];simp only[xRangeS,newObj,setHR_eq],rfl,rfl⟩⟩
section
variable {H H':T AObj}{nx:Nat}(hno:getH H nx=.no)(hs:∀ k,k≠nx→getH H' k=getH H k)
include hno hs
theorem get_keep {l:Nat}{o:AObj}(h:getH H l=o)(hn:o≠.no):getH H' l=o:=by
 rw[hs l (fun e=>by subst e;rw[hno] at h;exact hn h.symm)];exact h
theorem rdOk_keep {l cls pos:Nat}(h:rdOk H l cls pos=true):rdOk H' l cls pos=true:=by
 cases cls with
 |zero=>rfl
 |succ c=>
  simp only[rdOk,clsOk] at h ⊢
  cases hc:getH H (c+1) with
  |cls a b d=>rw[hc] at h;rw[get_keep hno hs hc (by simp)];exact h
  |_=>rw[hc] at h;cases h
theorem rd1_keep {l off:Nat}{v:V}(h:rd1 l off H=.val v):rd1 l off H'=.val v:=by
 unfold rd1 at h ⊢
 cases hc:getH H l with
 |cells cs len elem cls rel fz ro=>
  rw[hc] at h;rw[get_keep hno hs hc (by simp)]
  simp only at h ⊢
  cases hb:(Nat.ble (Nat.succ off) len&&rdOk H l cls (Nat.add rel (Nat.succ off))) with
  |false=>rw[hb] at h;cases h
  |true=>
   rw[hb] at h
   simp only[Bool.and_eq_true] at hb
   rw[hb.1,rdOk_keep hno hs hb.2];exact h
 |_=>rw[hc] at h;cases h
theorem rdN_keep {l off n:Nat}{k:List V→Res}{v:V}(h:rdN l off n H k=.val v):rdN l off n H' k=.val v:=by
 unfold rdN at h ⊢
 cases hc:getH H l with
 |cells cs len elem cls rel fz ro=>
  rw[hc] at h;rw[get_keep hno hs hc (by simp)]
  simp only at h ⊢
  cases hb:(Nat.ble (Nat.add off n) len&&rdOk H l cls (Nat.add rel (Nat.add off n))) with
  |false=>rw[hb] at h;cases h
  |true=>
   rw[hb] at h
   simp only[Bool.and_eq_true] at hb
   rw[hb.1,rdOk_keep hno hs hb.2];exact h
 |_=>rw[hc] at h;cases h
theorem read_keep0 {o:AOp}(hcl:o.cls=2){tm:T V}{n:Nat}{v:V}(h:exOp0 o tm H n=.val v):exOp0 o tm H' n=.val v:=by
 cases o<;>try (simp[AOp.cls] at hcl;done)
 case load1 x=>
  change xLoad1 (x.ev tm) H=_ at h
  show xLoad1 (x.ev tm) H'=_
  cases hx:x.ev tm<;>rw[hx] at h<;>first|exact rd1_keep hno hs h|cases h
 case loadN m x=>
  change xLoadN m (x.ev tm) H=_ at h
  show xLoadN m (x.ev tm) H'=_
  cases hx:x.ev tm<;>rw[hx] at h<;>first|exact rdN_keep (k:=fun cs=>.val (.agg cs)) hno hs h|cases h
 case convBS x=>
  change xConvBS (x.ev tm) H=_ at h
  show xConvBS (x.ev tm) H'=_
  cases hx:x.ev tm<;>rw[hx] at h<;>first|exact h|cases h|exact rdN_keep (k:=fun cs=>packV cs fun m=>.val (.str _ m)) hno hs h
 case lookup kd ks z ok x k=>
  change cnd (keyK kd ks (k.ev tm)) (xLookup z ok (x.ev tm) (k.ev tm) H) (.fail 98)=_ at h
  show cnd (keyK kd ks (k.ev tm)) (xLookup z ok (x.ev tm) (k.ev tm) H') (.fail 98)=_
  cases hb:keyK kd ks (k.ev tm) with
  |false=>rw[hb] at h;cases h
  |true=>
   rw[hb] at h
   change xLookup z ok (x.ev tm) (k.ev tm) H=_ at h
   show xLookup z ok (x.ev tm) (k.ev tm) H'=_
   cases hx:x.ev tm<;>rw[hx] at h<;>first|exact h|(cases h;done)|skip
   rename_i l
   simp only[xLookup] at h ⊢
   cases hc:getH H l with
   |map es cl=>rw[hc] at h;rw[get_keep hno hs hc (by simp)];exact h
   |mapR es cl=>rw[hc] at h;rw[get_keep hno hs hc (by simp)];exact h
   |_=>rw[hc] at h;cases h
 case len sh x=>
  change xLen sh (x.ev tm) H=_ at h
  show xLen sh (x.ev tm) H'=_
  cases hx:x.ev tm<;>rw[hx] at h<;>first|exact h|(cases h;done)|skip
  rename_i l
  simp only[xLen] at h ⊢
  cases hb:Nat.beq sh 2 with
  |false=>rw[hb] at h;cases h
  |true=>
   rw[hb] at h
   simp only[cond_true] at h ⊢
   cases hc:getH H l with
   |map es cl=>rw[hc] at h;rw[get_keep hno hs hc (by simp)];exact h
   |mapR es cl=>rw[hc] at h;rw[get_keep hno hs hc (by simp)];exact h
   |_=>rw[hc] at h;cases h
theorem read_keep {o:AOp}(hcl:o.cls=2){tm:T V}{n:Nat}{v:V}(h:exOp o tm H n=.val v):exOp o tm H' n=.val v:=by
 unfold exOp at h ⊢
 cases hq:sxOp o tm with
 |none=>rw[hq] at h;exact read_keep0 hno hs hcl h
 |some r=>rw[hq] at h;exact h
end
theorem kNum_inj {a b:IntKind}(h:Nat.beq (kNum a) (kNum b)=true):a=b:=by
 cases a<;>cases b<;>first|rfl|cases h
theorem opN_inj {a b:BinOp}(h:Nat.beq (opN a) (opN b)=true):a=b:=by
 cases a<;>cases b<;>first|rfl|cases h
theorem unN_inj {a b:UnOp}(h:Nat.beq (unN a) (unN b)=true):a=b:=by
 cases a<;>cases b<;>first|rfl|cases h
theorem Kd.beq_eq {a b:Kd}(h:Kd.beq a b=true):a=b:=by
 cases a<;>cases b<;>simp only[Kd.beq] at h<;>first|rfl|(cases h;done)|(rw[kNum_inj h])|(rw[Nat.eq_of_beq_eq_true h])
theorem X.beq_eq:∀ {a b:X},X.beq a b=true→a=b:=by
 intro a
 induction a with
 |var l i k=>intro b h;cases b<;>simp only[X.beq] at h<;>first|(cases h;done)|(simp only[Bool.and_eq_true] at h;rw[Nat.eq_of_beq_eq_true h.1.1,Nat.eq_of_beq_eq_true h.1.2,Kd.beq_eq h.2])
 |int k n=>intro b h;cases b<;>simp only[X.beq] at h<;>first|(cases h;done)|(simp only[Bool.and_eq_true,eqF_eq,beq_iff_eq] at h;rw[kNum_inj h.1,h.2])
 |bool b=>intro b h;cases b<;>simp only[X.beq] at h<;>first|(cases h;done)|(simp only[beq_iff_eq] at h;rw[h])
 |str l n=>intro b h;cases b<;>simp only[X.beq] at h<;>first|(cases h;done)|(simp only[Bool.and_eq_true] at h;rw[Nat.eq_of_beq_eq_true h.1,Nat.eq_of_beq_eq_true h.2])
 |nil e=>intro b h;cases b<;>simp only[X.beq] at h<;>first|(cases h;done)|(rw[Nat.eq_of_beq_eq_true h])
 |bin op a b iha ihb=>intro c h;cases c<;>simp only[X.beq] at h<;>first|(cases h;done)|(simp only[Bool.and_eq_true] at h;rw[opN_inj h.1.1,iha h.1.2,ihb h.2])
 |un op a ih=>intro c h;cases c<;>simp only[X.beq] at h<;>first|(cases h;done)|(simp only[Bool.and_eq_true] at h;rw[unN_inj h.1,ih h.2])
 |conv k a ih=>intro c h;cases c<;>simp only[X.beq] at h<;>first|(cases h;done)|(simp only[Bool.and_eq_true] at h;rw[kNum_inj h.1,ih h.2])
 |len a ih=>intro c h;cases c<;>simp only[X.beq] at h<;>first|(cases h;done)|(rw[ih h])
 |inr a b iha ihb=>intro c h;cases c<;>simp only[X.beq] at h<;>first|(cases h;done)|(simp only[Bool.and_eq_true] at h;rw[iha h.1,ihb h.2])
 |rng a b c iha ihb ihc=>intro d h;cases d<;>simp only[X.beq] at h<;>first|(cases h;done)|(simp only[Bool.and_eq_true] at h;rw[iha h.1.1,ihb h.1.2,ihc h.2])
 |cmp a b iha ihb=>intro c h;cases c<;>simp only[X.beq] at h<;>first|(cases h;done)|(simp only[Bool.and_eq_true] at h;rw[iha h.1,ihb h.2])
 |atx a b iha ihb=>intro c h;cases c<;>simp only[X.beq] at h<;>first|(cases h;done)|(simp only[Bool.and_eq_true] at h;rw[iha h.1,ihb h.2])
 |sub a b c iha ihb ihc=>intro d h;cases d<;>simp only[X.beq] at h<;>first|(cases h;done)|(simp only[Bool.and_eq_true] at h;rw[iha h.1.1,ihb h.1.2,ihc h.2])
 |el a b j k iha ihb=>intro c h;cases c<;>simp only[X.beq] at h<;>first|(cases h;done)|(simp only[Bool.and_eq_true] at h;rw[Nat.eq_of_beq_eq_true h.1.1.1,Kd.beq_eq h.1.1.2,iha h.1.2,ihb h.2])
 |cut a b c iha ihb ihc=>intro d h;cases d<;>simp only[X.beq] at h<;>first|(cases h;done)|(simp only[Bool.and_eq_true] at h;rw[iha h.1.1,ihb h.1.2,ihc h.2])
 |isnil a ih=>intro c h;cases c<;>simp only[X.beq] at h<;>first|(cases h;done)|(rw[ih h])
 |snoc a b iha ihb=>intro c h;cases c<;>simp only[X.beq] at h<;>first|(cases h;done)|(simp only[Bool.and_eq_true] at h;rw[iha h.1,ihb h.2])
 |cat a b iha ihb=>intro c h;cases c<;>simp only[X.beq] at h<;>first|(cases h;done)|(simp only[Bool.and_eq_true] at h;rw[iha h.1,ihb h.2])
 |app l f a k ih=>intro c h;cases c<;>simp only[X.beq] at h<;>first|(cases h;done)|(simp only[Bool.and_eq_true] at h;rw[Nat.eq_of_beq_eq_true h.1.1.1,Nat.eq_of_beq_eq_true h.1.1.2,Kd.beq_eq h.1.2,ih h.2])
 |nilA=>intro c h;cases c<;>simp only[X.beq] at h<;>first|(cases h;done)|rfl
 |cons a b iha ihb=>intro c h;cases c<;>simp only[X.beq] at h<;>first|(cases h;done)|(simp only[Bool.and_eq_true] at h;rw[iha h.1,ihb h.2])
mutual
theorem eqB_eq:∀ {a b:V},V.eqB a b=true→a=b
 |.bool a,.bool b,h=>by simp only[V.eqB,beq_iff_eq] at h;rw[h]
 |.int k a,.int k' b,h=>by
  simp only[V.eqB,Bool.and_eq_true,eqF_eq,beq_iff_eq] at h
  rw[kNum_inj h.1,h.2]
 |.str l n,.str l' n',h=>by
  simp only[V.eqB,Bool.and_eq_true] at h
  rw[Nat.eq_of_beq_eq_true h.1,Nat.eq_of_beq_eq_true h.2]
 |.nilp,.nilp,_=>rfl
 |.nils,.nils,_=>rfl
 |.nilm,.nilm,_=>rfl
 |.nilf,.nilf,_=>rfl
 |.nili,.nili,_=>rfl
 |.ptr l o,.ptr l' o',h=>by
  simp only[V.eqB,Bool.and_eq_true] at h
  rw[Nat.eq_of_beq_eq_true h.1,Nat.eq_of_beq_eq_true h.2]
 |.slice l o n c e,.slice l' o' n' c' e',h=>by
  simp only[V.eqB,Bool.and_eq_true,beq_iff_eq] at h
  obtain⟨⟨⟨⟨h1,h2⟩,h3⟩,h4⟩,h5⟩:=h
  rw[Nat.eq_of_beq_eq_true h1,Nat.eq_of_beq_eq_true h2,Nat.eq_of_beq_eq_true h3,h4,Nat.eq_of_beq_eq_true h5]
 |.map l,.map l',h=>by simp only[V.eqB] at h;rw[Nat.eq_of_beq_eq_true h]
 |.func fn a b,.func fn' a' b',h=>by
  simp only[V.eqB,Bool.and_eq_true,decide_eq_true_eq] at h
  rw[h.1.1,eqL_eq h.1.2,eqL_eq h.2]
 |.iface t v,.iface t' v',h=>by
  simp only[V.eqB,Bool.and_eq_true] at h
  rw[Nat.eq_of_beq_eq_true h.1,eqB_eq h.2]
 |.agg a,.agg b,h=>by simp only[V.eqB] at h;rw[eqL_eq h]
 |.tup a,.tup b,h=>by simp only[V.eqB] at h;rw[eqL_eq h]
 |.sym l,.sym l',h=>by simp only[V.eqB] at h;rw[Nat.eq_of_beq_eq_true h]
 |.top l,.top l',h=>by simp only[V.eqB] at h;rw[Nat.eq_of_beq_eq_true h]
 |.emp l o,.emp l' o',h=>by
  simp only[V.eqB,Bool.and_eq_true] at h
  rw[Nat.eq_of_beq_eq_true h.1,Nat.eq_of_beq_eq_true h.2]
 |.x t,.x t',h=>by simp only[V.eqB] at h;rw[X.beq_eq h]
 |.xa s i j,.xa s' i' j',h=>by
  simp only[V.eqB,Bool.and_eq_true] at h
  rw[Nat.eq_of_beq_eq_true h.1.1,X.beq_eq h.1.2,X.beq_eq h.2]
 |.lst l t,.lst l' t',h=>by simp only[V.eqB,Bool.and_eq_true] at h;rw[Nat.eq_of_beq_eq_true h.1,X.beq_eq h.2]
 |.bad,.bad,h=>by simp[V.eqB] at h
theorem eqL_eq:∀ {a b:List V},V.eqL a b=true→a=b
 |[],[],_=>rfl
 |a::r,b::s,h=>by
  simp only[V.eqL,Bool.and_eq_true] at h
  rw[eqB_eq h.1,eqL_eq h.2]
end
end Go.Exo

namespace Go.Exo
set_option linter.unusedSectionVars false
variable [Sx] [Dc]
section
variable {P:Program}{w0:Bs}{cs0:List Frame}{E:Env}{ih:Ih}
theorem gd_abs {g:Gd}{tm:T V}{yes no:Out}{i:Nat}{fr:Frame}{cs:List Frame}{w:World}(hy:GYes g tm→Fin P w0 cs0 yes fr cs w)(hn:GNo g tm→Fin P w0 cs0 no fr cs w):Fin P w0 cs0 (gdGo g tm yes no i) fr cs w:=by
 cases g with
 |none=>exact hy (.inl rfl)
 |some tw=>
  obtain⟨t,want⟩:=tw
  unfold gdGo
  simp only
  cases hu:getU tm t with
  |bool b=>
   simp only
   refine Fin.cond (fun hb=>hy (.inr ⟨t,want,rfl,?_⟩)) fun hb=>hn ⟨t,want,rfl,.inl ⟨b,by rw[hu];rfl,fun e=>by rw[e] at hb;simp at hb⟩⟩
   rw[hu];rw[beq_iff_eq] at hb;rw[hb];rfl
  |x u=>
   simp only
   cases hdu:Dc.dec u with
   |none=>exact Fin.fail
   |some b=>
    have hg:gB (getU tm t)=some b:=by rw[hu];exact hdu
    simp only
    refine Fin.cond (fun hb=>hy (.inr ⟨t,want,rfl,?_⟩)) fun hb=>hn ⟨t,want,rfl,.inl ⟨b,hg,fun e=>by rw[e] at hb;simp at hb⟩⟩
    rw[beq_iff_eq] at hb;rw[hg,hb]
  |tup vs=>exact hn ⟨t,want,rfl,.inr ⟨vs,hu⟩⟩
  |_=>exact Fin.fail
theorem GYes.no {g:Gd}{tm:T V}(hy:GYes g tm)(hn:GNo g tm):False:=by
 obtain⟨t,want,h1,h2⟩:=hn
 rcases hy with h|⟨t',want',h3,h4⟩
 ·rw[h] at h1;cases h1
 ·rw[h3] at h1;cases h1
  rcases h2 with⟨b,h2,h5⟩|⟨vs,h2⟩
  ·rw[h4] at h2;cases h2;exact h5 rfl
  ·rw[h2] at h4;cases h4
theorem again_ok {tm:T V}{H:T AObj}{nx:Nat}{k:Out}{fr:Frame}{cs:List Frame}{w:World}:∀ (l:List (Nat×Gd×AOp)),
  ((∀ d g o,(d,g,o)∈l→GNo g tm∨exOp o tm H nx=.val (getU tm d))→Fin P w0 cs0 k fr cs w)→Fin P w0 cs0 (againGo tm H nx k l) fr cs w
 |[],h=>h fun _ _ _ hm=>by cases hm
 |(d,g,o)::r,h=>by
  simp only[againGo]
  refine gd_abs (fun _=>?_) (fun hn=>again_ok r fun hr=>h fun d' g' o' hm=>?_)
  ·cases he:exOp o tm H nx<;>try exact Fin.fail
   rename_i v
   refine Fin.cond (fun hb=>again_ok r fun hr=>h fun d' g' o' hm=>?_) fun _=>Fin.fail
   cases hm with
   |head=>exact .inr (by rw[he,eqB_eq hb])
   |tail _ hm=>exact hr d' g' o' hm
  ·cases hm with
   |head=>exact .inl hn
   |tail _ hm=>exact hr d' g' o' hm
theorem DInv.looks {H:T AObj}{lo hi:Nat}{ops:Array Oper}{l:List PStep}{i:Nat}{is:List Nat}{tm:T V}{tmps:Array Value}{rd:Bool}(hd:DInv P E H lo hi ops l (i::is) tm tmps rd){o:Oper}(ho:ops[i]? = some o) :
  ∀ t∈looks ops o,VR E (getU tm t) (tmps.getD t undef):=fun t htl=>hd.slots t fun j hj hjp=>by
 obtain⟨pl,_,hpf⟩:=hd.pend
 exact hd.ord.2.2.2.1 [] i is rfl o ho t htl j hj (hpf j hj hjp).early
theorem PF.put {H:T AObj}{lo hi:Nat}{ops:Array Oper}{tm:T V}{pl:Nat→Option Nat}{rd:Bool}{j:Nat}(h:PF P E H lo hi ops tm pl rd j){d:Nat}{v:V}(h1:∀ o,ops[j]? = some o→d∉Exo.looks ops o)(h2:dstOf ops j≠some d) :
  PF P E H lo hi ops (Exo.put undefV tm d v) pl rd j:=by
 obtain⟨o,tm0,g1,g2,g3⟩:=h
 have hd:o.dst≠some d:=by simpa[dstOf,g1] using h2
 have hu:∀ e,o.dst=some e→getU (Exo.put undefV tm d v) e=getU tm e:=fun e he=>by rw[getU_put,if_neg (fun e2=>by subst e2;exact hd he)]
 refine⟨o,tm0,g1,fun t ht=>?_,?_⟩
 ·rw[getU_put,if_neg (fun e=>by subst e;exact h1 o g1 ht)];exact g2 t ht
 ·rcases g3 with⟨a,b⟩|⟨a,v',b,c⟩
  ·exact .inl ⟨a,fun e he=>by rw[hu e he];exact b e he⟩
  ·exact .inr ⟨a,v',fun e he=>by rw[hu e he];exact b e he,c⟩
theorem after_act {b:Nat}{c:Ctx}{fr:Frame}{cs:List Frame}{w:World}(hc:Cur P w0 cs0 E b c fr cs w){ops:Array Oper}{s:PStep}{r:List PStep}{is:List Nat}{k':List Item}
  (ht:fr.todo=.inRegion ops (s.idx::is)::k')(hso:SOf P ops s)(hord:Ord P ops (s.idx::is))
  (hlk:∀ d,s.dst=some d→∀ i∈is,(∀ s'∈s::r,s'.idx≠i)→∀ o,ops[i]? = some o→d∉looks ops o){tm:T V}{rd:Bool}
  (hag:rd=false→∀ i∈is,(∀ s'∈r,s'.idx≠i)→∀ o,ops[i]? = some o→(pstep P ops i o).op.cls=2→∃ d,o.dst=some d∧(d,gdOf ops o,(pstep P ops i o).op)∈s.again)
  (hd:DInv P E c.H b c.nx ops r is tm fr.tmps rd){v:V}{x:Value}(hv:VR E v x){g:Go1}
  (hrec:∀ tm' fr',Cur P w0 cs0 E b c fr' cs w→fr'.todo=.inRegion ops is::k'→DInv P E c.H b c.nx ops r is tm' fr'.tmps true→Fin P w0 cs0 (g tm' c) fr' cs w) :
  Fin P w0 cs0 (setD s.dst v tm c.sz fun tm'=>cond rd (g tm' c) (goOn s g c tm')) (fr.finish x) cs w:=by
 obtain⟨o,ho,hop,hdst,hgd,hfast⟩:=hso
 have hnd:s.idx∉is:=(List.nodup_cons.1 hord.1).1
 have hdo:dstOf ops s.idx=o.dst:=by simp[dstOf,ho]
 have hpend:∀ i∈is,(∀ s'∈r,s'.idx≠i)→∀ s'∈s::r,s'.idx≠i:=fun i hi hp s' hs'=>by
  cases hs' with
  |head=>exact fun e=>hnd (e ▸ hi)
  |tail _ hs'=>exact hp s' hs'
 have key:∀ tm' fr',Cur P w0 cs0 E b c fr' cs w→fr'.todo=.inRegion ops is::k'→DInv P E c.H b c.nx ops r is tm' fr'.tmps rd→Fin P w0 cs0 (cond rd (g tm' c) (goOn s g c tm')) fr' cs w:=by
  intro tm' fr' h1 h2 h3
  cases rd with
  |true=>exact hrec tm' fr' h1 h2 h3
  |false=>
   show Fin P w0 cs0 (goOn s g c tm') fr' cs w
   unfold goOn
   refine again_ok s.again fun hall=>hrec tm' fr' h1 h2 ?_
   obtain⟨a1,a2,a3,a4,pl,a5,a6⟩:=h3
   refine⟨a1,a2,a3,a4,pl,a5,fun i hi hp=>?_⟩
   obtain⟨o',tm0,g1,g2,g3⟩:=a6 i hi hp
   rcases g3 with g3|⟨gy,v',gv,gg⟩
   ·exact⟨o',tm0,g1,g2,.inl g3⟩
   ·rcases gg with gg|⟨c1,_⟩|gg
    ·exact⟨o',tm0,g1,g2,.inr ⟨gy,v',gv,.inl gg⟩⟩
    ·obtain⟨d,hd1,hd2⟩:=hag rfl i hi hp o' g1 c1
     have gy':GYes (gdOf ops o') tm':=by
      rcases gy with gy|⟨t,want,e1,e2⟩
      ·exact .inl gy
      ·exact .inr ⟨t,want,e1,by rw[← g2 t (by unfold looks;rw[e1];simp)];exact e2⟩
     refine⟨o',tm',g1,fun _ _=>rfl,.inr ⟨gy',getU tm' d,fun e he=>by rw[hd1] at he;cases he;rfl,.inr (.inl ⟨c1,fun _=>⟨c.nx,?_⟩⟩)⟩⟩
     rcases hall d _ _ hd2 with h|h
     ·exact (gy'.no h).elim
     ·exact h
    ·exact⟨o',tm0,g1,g2,.inr ⟨gy,v',gv,.inr (.inr gg)⟩⟩
 rw[finish_op ht ho]
 obtain⟨a1,a2,a3,a4,pl,a5,a6⟩:=hd
 refine Fin.setD (fun hn=>?_) fun t hn hlt=>?_
 ·rw[hdst] at hn;rw[hn]
  exact key tm _ (hc.to _ _ rfl) rfl ⟨a1,a2,a3,a4,pl,a5,a6⟩
 ·have hn':=hn
  rw[hdst] at hn;rw[hn]
  have hts:t<fr.tmps.size:=by rw[hc.size];exact hlt
  have hne:∀ i∈is,dstOf ops i≠some t:=fun i hi e=>by
   have:=hord.2.2.1 s.idx (List.mem_cons_self ..) i (List.mem_cons_of_mem _ hi) t (by rw[hdo,hn]) e
   subst this;exact hnd hi
  refine key _ _ (hc.to _ _ (by simp)) rfl ⟨a1,a2,?_,?_,pl,a5,?_⟩
  ·intro u hu
   show VR E (getU (put undefV tm t v) u) ((fr.tmps.setIfInBounds t x).getD u undef)
   rw[getU_put]
   by_cases e:u=t
   ·subst e
    rw[if_pos rfl]
    have:(fr.tmps.setIfInBounds u x).getD u undef=x:=by simp[hts]
    rw[this];exact hv
   ·rw[if_neg e]
    have:(fr.tmps.setIfInBounds t x).getD u undef=fr.tmps.getD u undef:=by simp[Ne.symm e]
    rw[this];exact a3 u hu
  ·intro i hi hp d hdi
   have:=a4 i hi hp d hdi
   simpa using this
  ·intro i hi hp
   exact (a6 i hi hp).put (hlk t hn' i hi (hpend i hi hp)) (hne i hi)
end
end Go.Exo

namespace Go.Exo
set_option linter.unusedSectionVars false
variable [Sx] [Dc]
section
variable {P:Program}{w0:Bs}{cs0:List Frame}{E:Env}{ih:Ih}
theorem PF.up {H:T AObj}{lo hi hi':Nat}{ops:Array Oper}{tm:T V}{pl:Nat→Option Nat}{rd:Bool}{j:Nat}(h:PF P E H lo hi ops tm pl rd j)(hh:hi≤hi'):PF P E H lo hi' ops tm pl rd j:=by
 obtain⟨o,tm0,g1,g2,g3⟩:=h
 refine⟨o,tm0,g1,g2,g3.imp id fun⟨a,v,b,c⟩=>⟨a,v,b,c.imp id (Or.imp id fun⟨c1,l,mk,a1,a2,a3,a4⟩=>⟨c1,l,mk,a1,a2,by omega,a4⟩)⟩⟩
theorem DInv.up {H:T AObj}{lo hi hi':Nat}{ops:Array Oper}{l:List PStep}{is:List Nat}{tm:T V}{tmps:Array Value}{rd:Bool}(h:DInv P E H lo hi ops l is tm tmps rd)(hh:hi≤hi'):DInv P E H lo hi' ops l is tm tmps rd:=by
 obtain⟨a1,a2,a3,a4,pl,a5,a6⟩:=h
 exact⟨a1,a2,a3,a4,pl,a5,fun i hi hp=>(a6 i hi hp).up hh⟩
theorem PF.unrd {H:T AObj}{lo hi:Nat}{ops:Array Oper}{tm:T V}{pl:Nat→Option Nat}{j:Nat}(h:PF P E H lo hi ops tm pl true j):PF P E H lo hi ops tm pl false j:=by
 obtain⟨o,tm0,g1,g2,g3⟩:=h
 exact⟨o,tm0,g1,g2,g3.imp id fun⟨a,v,b,c⟩=>⟨a,v,b,c.imp id (Or.imp (fun h=>⟨h.1,fun e=>by cases e⟩) id)⟩⟩
theorem DInv.unrd {H:T AObj}{lo hi:Nat}{ops:Array Oper}{l:List PStep}{is:List Nat}{tm:T V}{tmps:Array Value}(h:DInv P E H lo hi ops l is tm tmps true):DInv P E H lo hi ops l is tm tmps false:=by
 obtain⟨a1,a2,a3,a4,pl,a5,a6⟩:=h
 exact⟨a1,a2,a3,a4,pl,a5,fun i hi hp=>(a6 i hi hp).unrd⟩
theorem DInv.lazy {H:T AObj}{lo nx:Nat}{ops:Array Oper}{s:PStep}{r:List PStep}{is:List Nat}{tm:T V}{tmps:Array Value}(hd:DInv P E H lo nx ops (s::r) is tm tmps true)
  (hso:SOf P ops s)(b2:s.idx∈is)(b3:∀ s'∈r,s'.idx≠s.idx)(b5:∀ d,s.dst=some d→∀ i∈is,(∀ s'∈s::r,s'.idx≠i)→∀ o,ops[i]? = some o→d∉Exo.looks ops o)
  (hfit:FitZ P ops r is){H':T AObj}{nx':Nat}(hn:nx≤nx')(hno:getH H nx=.no)(hs:∀ k,k≠nx→getH H' k=getH H k){v:V}{tm':T V}
  (htm:(s.dst=none∧tm'=tm)∨∃ d,s.dst=some d∧d<tmps.size∧tm'=put undefV tm d v)
  (hpf:∀ pl:Nat→Option Nat,pl s.idx=some nx→PF P E H' lo nx' ops tm' pl true s.idx):DInv P E H' lo nx' ops r is tm' tmps true:=by
 obtain⟨o,ho,hop,hdst,hgd,hfast⟩:=hso
 obtain⟨a1,_,a3,a4,pl,a5,a6⟩:=hd
 have hdo:dstOf ops s.idx=o.dst:=by simp[dstOf,ho]
 have hpend:∀ i,i≠s.idx→(∀ s'∈r,s'.idx≠i)→∀ s'∈s::r,s'.idx≠i:=fun i hi hp s' hs'=>by
  cases hs' with
  |head=>exact fun e=>hi e.symm
  |tail _ hs'=>exact hp s' hs'
 refine⟨a1,hfit,?_,?_,fun i=>if i=s.idx then some nx else if pl i=some nx then none else pl i,?_,?_⟩
 ·intro t hts
  have hne:s.dst≠some t:=by rw[hdst,← hdo];exact hts s.idx b2 b3
  have e:getU tm' t=getU tm t:=by
   rcases htm with⟨_,rfl⟩|⟨d,h1,_,rfl⟩
   ·rfl
   ·rw[getU_put,if_neg (fun e=>by subst e;exact hne h1)]
  rw[e]
  refine a3 t fun i hi hp=>?_
  exact hts i hi fun s' hs'=>hp s' (List.mem_cons_of_mem _ hs')
 ·intro i hi hp d hdi
  by_cases e:i=s.idx
  ·subst e
   rw[hdo,← hdst] at hdi
   rcases htm with⟨h1,_⟩|⟨d',h1,h2,_⟩
   ·rw[h1] at hdi;cases hdi
   ·rw[h1] at hdi;cases hdi;exact h2
  ·exact a4 i hi (hpend i e hp) d hdi
 ·intro i j x hi hj
  simp only at hi hj
  by_cases ei:i=s.idx<;>by_cases ej:j=s.idx
  ·rw[ei,ej]
  ·rw[if_pos ei] at hi;cases hi
   rw[if_neg ej] at hj
   split at hj
   ·cases hj
   ·rename_i h;exact absurd hj h
  ·rw[if_pos ej] at hj;cases hj
   rw[if_neg ei] at hi
   split at hi
   ·cases hi
   ·rename_i h;exact absurd hi h
  ·rw[if_neg ei] at hi;rw[if_neg ej] at hj
   split at hi
   ·cases hi
   ·split at hj
    ·cases hj
    ·exact a5 i j x hi hj
 ·intro i hi hp
  by_cases e:i=s.idx
  ·subst e;exact hpf _ (if_pos rfl)
  ·have hold:=a6 i hi (hpend i e hp)
   have hold2:PF P E H lo nx ops tm' pl true i:=by
    rcases htm with⟨_,rfl⟩|⟨d,h1,_,rfl⟩
    ·exact hold
    ·refine hold.put (b5 d h1 i hi (hpend i e hp)) fun h2=>e ?_
     exact (a1.2.2.1 s.idx b2 i hi d (by rw[hdo,← hdst];exact h1) h2).symm
   obtain⟨o',tm0,g1,g2,g3⟩:=hold2
   refine⟨o',tm0,g1,g2,g3.imp id fun⟨gy,v',gv,gg⟩=>⟨gy,v',gv,?_⟩⟩
   rcases gg with gg|⟨c1,gg⟩|⟨c1,lj,mk,m1,m2,m3,m4,m5,m6⟩
   ·exact .inl gg
   ·refine .inr (.inl ⟨c1,fun _=>?_⟩)
    obtain⟨n,hh⟩:=gg rfl
    exact⟨n,read_keep hno hs c1 hh⟩
   ·refine .inr (.inr ⟨c1,lj,mk,?_,m2,by omega,m4,by rw[hs lj (by omega)];exact m5,m6⟩)
    simp only
    rw[if_neg e,if_neg (fun h=>by rw[m1] at h;cases h;omega)]
    exact m1
theorem DInv.act {H:T AObj}{lo nx:Nat}{ops:Array Oper}{s:PStep}{r:List PStep}{is:List Nat}{tm:T V}{tmps:Array Value}{rd:Bool}(hd:DInv P E H lo nx ops (s::r) (s.idx::is) tm tmps rd)
  (hfit:FitZ P ops r is):DInv P E H lo nx ops r is tm tmps rd:=by
 obtain⟨a1,a2,a3,a4,pl,a5,a6⟩:=hd
 have hnd:s.idx∉is:=(List.nodup_cons.1 a1.1).1
 have hpend:∀ i∈is,(∀ s'∈r,s'.idx≠i)→∀ s'∈s::r,s'.idx≠i:=fun i hi hp s' hs'=>by
  cases hs' with
  |head=>exact fun e=>hnd (e ▸ hi)
  |tail _ hs'=>exact hp s' hs'
 refine⟨a1.tail,hfit,fun t hts=>a3 t fun i hi hp=>?_,fun i hi hp=>a4 i (List.mem_cons_of_mem _ hi) (hpend i hi hp),pl,a5,fun i hi hp=>a6 i (List.mem_cons_of_mem _ hi) (hpend i hi hp)⟩
 cases hi with
 |head=>exact absurd rfl (hp s (List.mem_cons_self ..))
 |tail _ hi=>exact hts i hi fun s' hs'=>hp s' (List.mem_cons_of_mem _ hs')
theorem xCons_ok {s:PStep}{ops:Array Oper}(hso:SOf P ops s)(hap:s.apart=[]){r:List PStep}{g:Go1}{tm:T V}{c:Ctx}{R:Reg}{fr:Frame}{cs:List Frame}{w:World}
  (hy:GYes s.guard tm→Fin P w0 cs0 (resGo P (exOp s.op tm c.H c.nx) s r g tm c R) fr cs w)(hn:GNo s.guard tm→Fin P w0 cs0 (setD s.dst undefV tm c.sz fun tm=>g tm c) fr cs w) :
  Fin P w0 cs0 (xCons P R s r g tm c) fr cs w:=by
 obtain⟨o,ho,hop,hdst,hgd,hfast⟩:=hso
 unfold xCons
 cases hf:s.fast with
 |true=>
  obtain⟨h1,h2,h3⟩:=hfast hf
  show Fin P w0 cs0 (xFast P s r g tm c R) fr cs w
  unfold xFast
  rw[resGoF_eq h2]
  exact hy (.inl h1)
 |false=>
  show Fin P w0 cs0 (xSlow P s r g tm c R) fr cs w
  unfold xSlow
  rw[hap]
  exact gd_abs hy hn
theorem xs_step (hs:Sound P w0 cs0 ih)(ops:Array Oper)(k:List AItem)(k':List Item){s:PStep}{r:List PStep}{E:Env}{b:Nat}{c:Ctx}{tm:T V}{fr:Frame}{cs:List Frame}{w:World}{is:List Nat}
  (hc:Cur P w0 cs0 E b c fr cs w)(ht:fr.todo=.inRegion ops is::k')(hk:TodoR E k k')(hd:DInv P E c.H b c.nx ops (s::r) is tm fr.tmps true){g:Go1}
  (hso:SOf P ops s)(b2:s.idx∈is)(b3:∀ s'∈r,s'.idx≠s.idx)(b4:s.apart=[])(b5:∀ d,s.dst=some d→∀ i∈is,(∀ s'∈s::r,s'.idx≠i)→(s.op.cls≤2∨∃ x y,is=x++s.idx::y∧i∈y)→∀ o,ops[i]? = some o→d∉looks ops o)
  (b6:(s.op.cls≤2∧s.again=[]∧FitZ P ops r is∧∀ E b c tm fr cs w,Cur P w0 cs0 E b c fr cs w→fr.todo=.inRegion ops is::k'→TodoR E k k'→DInv P E c.H b c.nx ops r is tm fr.tmps true→Fin P w0 cs0 (g tm c) fr cs w)∨
   (2<s.op.cls∧∃ a is',is=a++s.idx::is'∧(∀ i∈a,∀ s'∈s::r,s'.idx≠i)∧
    (∀ i∈is',(∀ s'∈r,s'.idx≠i)→∀ o,ops[i]? = some o→(pstep P ops i o).op.cls=2→∃ d,o.dst=some d∧(d,gdOf ops o,(pstep P ops i o).op)∈s.again)∧
    FitZ P ops r is'∧∀ E b c tm fr cs w,Cur P w0 cs0 E b c fr cs w→fr.todo=.inRegion ops is'::k'→TodoR E k k'→DInv P E c.H b c.nx ops r is' tm fr.tmps true→Fin P w0 cs0 (g tm c) fr cs w)) :
  Fin P w0 cs0 (xCons P { ops,draw:=true,k,ih } s r g tm c) fr cs w:=by
 obtain⟨o,ho,hop,hdst,hgd,hfast⟩:=id hso
 have hdo:dstOf ops s.idx=o.dst:=by simp[dstOf,ho]
 rcases b6 with⟨hcl,hag,hfr,hrec⟩|⟨hcl,a,is',his,hpa,hag,hfr,hrec⟩
 ·
  have hgo:∀ (c:Ctx) tm',goOn s g c tm'=g tm' c:=fun c tm'=>by unfold goOn;rw[hag];rfl
  have hn:=hc.wr.fresh c.nx (Nat.le_refl _)
  have hown:∀ t∈looks ops o,s.dst≠some t:=fun t htl=>by
   obtain⟨x,y,hxy⟩:=List.append_of_mem b2
   rw[hdst,← hdo]
   exact hd.ord.2.2.2.1 x s.idx y hxy o ho t htl s.idx (List.mem_cons_self ..) ⟨o,ho,.inl (by rw[← hop];exact hcl)⟩
  have hlooks:∀ {tm':T V}{v:V},((s.dst=none∧tm'=tm)∨∃ d,s.dst=some d∧d<fr.tmps.size∧tm'=put undefV tm d v)→∀ t∈looks ops o,getU tm t=getU tm' t:=by
   intro tm' v htm t htl
   rcases htm with⟨_,rfl⟩|⟨d,h1,_,rfl⟩
   ·rfl
   ·rw[getU_put,if_neg (fun e=>by subst e;exact hown t htl h1)]
  have hslot:∀ {tm':T V}{v:V},((s.dst=none∧tm'=tm)∨∃ d,s.dst=some d∧d<fr.tmps.size∧tm'=put undefV tm d v)→∀ d,o.dst=some d→getU tm' d=v:=by
   intro tm' v htm d hdd
   rw[← hdst] at hdd
   rcases htm with⟨h1,rfl⟩|⟨d',h1,_,rfl⟩
   ·rw[h1] at hdd;cases hdd
   ·rw[h1] at hdd;cases hdd;rw[getU_put,if_pos rfl]
  have next:∀ (c':Ctx)(v:V),(c'.sz=c.sz)→Cur P w0 cs0 E b c' fr cs w→
    (∀ tm',((s.dst=none∧tm'=tm)∨∃ d,s.dst=some d∧d<fr.tmps.size∧tm'=put undefV tm d v)→DInv P E c'.H b c'.nx ops r is tm' fr.tmps true)→
    Fin P w0 cs0 (setD s.dst v tm c.sz fun tm'=>g tm' c') fr cs w:=by
   intro c' v hsz hc' hdi
   refine Fin.setD (fun h0=>hrec E b c' tm fr cs w hc' ht hk (hdi tm (.inl ⟨h0,rfl⟩))) fun t h0 hlt=>?_
   exact hrec E b c' _ fr cs w hc' ht hk (hdi _ (.inr ⟨t,h0,by rw[hc.size];exact hlt,rfl⟩))
  refine xCons_ok hso b4 (fun hy=>?_) (fun hno=>?_)
  ·rw[hgd] at hy
   have hcases:s.op.cls=0∨s.op.cls=1∨s.op.cls=2:=by omega
   have hval:∀ v,exOp s.op tm c.H c.nx=.val v→((s.op.cls=0∧∀ H nx,exOp s.op tm H nx=.val v)∨s.op.cls=2)→Fin P w0 cs0 (resGo P (exOp s.op tm c.H c.nx) s r g tm c { ops,draw:=true,k,ih }) fr cs w:=by
    intro v hv hcl2
    rw[hv]
    show Fin P w0 cs0 (setD s.dst v tm c.sz fun tm=>goOn s g c tm) fr cs w
    simp only[hgo]
    refine next c v rfl hc fun tm' htm=>?_
    refine hd.lazy hso b2 b3 (fun d hdd i hi hp=>b5 d hdd i hi hp (.inl hcl)) hfr (Nat.le_refl _) hn.2 (fun _ _=>rfl) htm fun pl _=>?_
    refine⟨o,tm,ho,hlooks htm,.inr ⟨hy,v,hslot htm,?_⟩⟩
    rw[← hop]
    rcases hcl2 with⟨h0,h1⟩|h2
    ·exact .inl ⟨h0,h1⟩
    ·exact .inr (.inl ⟨h2,fun _=>⟨c.nx,hv⟩⟩)
   rcases hcases with h0|h1|h2
   ·rcases (vf0 h0 tm c.H c.nx).elim with⟨v,hv⟩|⟨n,hv⟩
    ·exact hval v hv (.inl ⟨h0,fun H nx=>by rw[cls0 h0 tm H c.H nx c.nx];exact hv⟩)
    ·rw[hv];exact Fin.fail
   ·rcases res1 h1 tm with⟨n,hv⟩|⟨mk,ob,hnew⟩
    ·rw[hv];exact Fin.fail
    ·rw[hnew.ex]
     show Fin P w0 cs0 (setD s.dst (mk c.nx) tm c.sz fun tm=>goOn s g (c.setH (put .no c.H c.nx ob) (c.nx+1)) tm) fr cs w
     simp only[hgo]
     have hkb:KeepB b E E c.H (put .no c.H c.nx ob):=fun k hk hE _=>⟨hE,by rw[getH_put,if_neg (by have:=hc.ble;omega)]⟩
     refine next (c.setH (put .no c.H c.nx ob) (c.nx+1)) (mk c.nx) rfl (hc.mono (Env.le.refl E) hkb (Nat.le_succ _) (hc.wr.lazy ob hnew.cls)) fun tm' htm=>?_
     have hself:getH (put .no c.H c.nx ob) c.nx=ob:=by rw[getH_put,if_pos rfl]
     refine hd.lazy hso b2 b3 (fun d hdd i hi hp=>b5 d hdd i hi hp (.inl hcl)) hfr (H':=put .no c.H c.nx ob) (nx':=c.nx+1) (Nat.le_succ _) hn.2 (fun k hk=>by rw[getH_put,if_neg hk]) htm fun pl hpl=>?_
     refine⟨o,tm,ho,hlooks htm,.inr ⟨hy,mk c.nx,hslot htm,.inr (.inr ⟨by rw[← hop];exact h1,c.nx,mk,hpl,hc.ble,Nat.lt_succ_self _,hn.1,?_,rfl⟩)⟩⟩
     rw[hself,← hop];exact hnew
   ·rcases (vf2 h2 tm c.H c.nx).elim with⟨v,hv⟩|⟨n,hv⟩
    ·exact hval v hv (.inr h2)
    ·rw[hv];exact Fin.fail
  ·rw[hgd] at hno
   refine next c undefV rfl hc fun tm' htm=>?_
   exact hd.lazy hso b2 b3 (fun d hdd i hi hp=>b5 d hdd i hi hp (.inl hcl)) hfr (Nat.le_refl _) hn.2 (fun _ _=>rfl) htm fun pl _=>⟨o,tm,ho,hlooks htm,.inl ⟨hno,hslot htm⟩⟩
 ·
  subst his
  obtain⟨E1,fr1,w1,h1,h2,h3,h4,h5⟩:=flush a (s.idx::is') E fr w hc ht hd (fun i hi s' hs'=>hpa i hi s' hs')
  refine Fin.steps h1 ?_
  clear hd ht hc
  have hk1:=hk.mono h2
  have hlk:=h5.looks ho
  have hord:=h5.ord
  have hb5:∀ d,s.dst=some d→∀ i∈is',(∀ s'∈s::r,s'.idx≠i)→∀ o,ops[i]? = some o→d∉looks ops o:=
   fun d hdd i hi hp=>b5 d hdd i (List.mem_append.2 (.inr (List.mem_cons_of_mem _ hi))) hp (.inr ⟨a,is',rfl,hi⟩)
  have hact:=h5.act hfr
  refine xCons_ok hso b4 (fun hy=>?_) (fun hno=>?_)
  ·rw[hgd] at hy
   cases hbad:gdBad ops o with
   |true=>
    have:s.op=.bad:=by rw[hop];simp only[pstep,hbad,cond_true]
    rw[this]
    exact Fin.fail
   |false=>
    have hopc:s.op=compOp P o:=by rw[hop];simp only[pstep,hbad,cond_false]
    have hw:=yes_ok h3.wr.decE hbad hlk hy
    have hev:∀ x∈o.op.operands.toList,opnFine P.globals.size x=true→VR E1 ((compO x).ev tm) (fr1.eval x):=fun x hx hf=>opVal_hev h3.gl hf fun t e=>hlk t (by
     unfold looks opTmps;subst e;exact List.mem_append.2 (.inl (List.mem_filterMap.2 ⟨_,hx,rfl⟩)))
    refine resGo_ok hs h3 (s:=s) (draw:=true) h4 ho hw hopc hk1 hev (.inr ⟨rfl,hso,hord,b3,hb5,hag,hact.unrd⟩) (fun e=>by cases e) ?_ ?_
    ·intro E' H' nx' w' v x hE hkk hn hc' hv
     have hd':DInv P E' H' b nx' ops r is' tm fr1.tmps false:=(hact.mono hE hkk).up hn
     exact after_act hc' h4 hso hord hb5 (fun _=>hag) hd' hv (g:=g) fun tm' fr' c1 c2 c3=>hrec E' b _ tm' fr' cs w' c1 c2 (hk1.mono hE) c3
    ·intro c' fr' cs' v x e1 e2 e3 hc' e4 e5 hv
     rw[← e3]
     have hd':DInv P E1 c'.H b c'.nx ops r is' tm fr'.tmps true:=by rw[e1,e2,e5];exact hact
     exact after_act hc' (by rw[e4];exact h4) hso hord hb5 (fun e=>by cases e) hd' hv (g:=g) fun tm' fr'' c1 c2 c3=>hrec E1 b c' tm' fr'' cs' w1 c1 c2 hk1 c3
  ·rw[hgd] at hno
   refine Fin.step (st_opSkip h3.mode h4 (by rw[ho];exact no_ok h3.wr.decE hlk hno)) ?_
   exact after_act h3 h4 hso hord hb5 (fun e=>by cases e) hact (VR.undef E1) (g:=g) fun tm' fr'' c1 c2 c3=>hrec E1 b c tm' fr'' cs w1 c1 c2 hk1 c3
theorem xs_end (hs:Sound P w0 cs0 ih)(ops:Array Oper)(k:List AItem)(k':List Item){E:Env}{b:Nat}{c:Ctx}{tm:T V}{fr:Frame}{cs:List Frame}{w:World}{is:List Nat}
  (hc:Cur P w0 cs0 E b c fr cs w)(ht:fr.todo=.inRegion ops is::k')(hk:TodoR E k k')(hd:DInv P E c.H b c.nx ops [] is tm fr.tmps true) :
  Fin P w0 cs0 (xs P { ops,draw:=true,k,ih } [] tm c) fr cs w:=by
 obtain⟨E',fr',w',h1,h2,h3,h4,h5⟩:=flush is [] E fr w hc (by rw[List.append_nil];exact ht) (by rw[List.append_nil];exact hd) (fun _ _ _ h=>by cases h)
 refine Fin.steps h1 (Fin.step (st_regionEnd h3.mode h4) ?_)
 have hc':=h3.to fr'.tmps k' rfl
 have htr:TR E' tm fr'.tmps:=fun i=>h5.slots i fun _ hm=>by cases hm
 exact hs E' _ _ _ _ _ _ (hc'.mr (hk.mono h2) htr)
theorem xs_drawC (hs:Sound P w0 cs0 ih)(ops:Array Oper)(k:List AItem)(k':List Item):∀ (l:List PStep)(E:Env)(b:Nat)(c:Ctx)(tm:T V)(fr:Frame)(cs:List Frame)(w:World)(is:List Nat),
  Compat P ops l is→Cur P w0 cs0 E b c fr cs w→fr.todo=.inRegion ops is::k'→TodoR E k k'→DInv P E c.H b c.nx ops l is tm fr.tmps true→
  Fin P w0 cs0 (xs P { ops,draw:=true,k,ih } l tm c) fr cs w
 |[],E,b,c,tm,fr,cs,w,is,_,hc,ht,hk,hd=>xs_end hs ops k k' hc ht hk hd
 |s::r,E,b,c,tm,fr,cs,w,is,hfit,hc,ht,hk,hd=>by
  have hrec:=xs_drawC hs ops k k' r
  show Fin P w0 cs0 (xCons P { ops,draw:=true,k,ih } s r (xs P { ops,draw:=true,k,ih } r) tm c) fr cs w
  generalize hgg:xs P { ops,draw:=true,k,ih } r=g at hrec ⊢
  obtain⟨hso,b2,b3,b4,b5,b6⟩:=hfit
  refine xs_step hs ops k k' hc ht hk hd hso b2 b3 b4 b5 ?_
  rcases b6 with⟨hcl,hag,hfr⟩|⟨hcl,a,is',his,hpa,hag,hfr⟩
  ·exact .inl ⟨hcl,hag,.inl hfr,fun E b c tm fr cs w h1 h2 h3 h4=>hrec E b c tm fr cs w is hfr h1 h2 h3 h4⟩
  ·exact .inr ⟨hcl,a,is',his,hpa,hag,.inl hfr,fun E b c tm fr cs w h1 h2 h3 h4=>hrec E b c tm fr cs w is' hfr h1 h2 h3 h4⟩
end
end Go.Exo

namespace Go.Exo
set_option linter.unusedSectionVars false
variable [Sx] [Dc]
section
variable {ops:Array Oper}{md:Region.Mode}
def Back (mx:Bool)(ops:Array Oper):Prop:=∀ (i:Nat)(o:Oper),ops[i]? = some o→∀ e∈o.after,(mx=true→Region.binds .any e=true)→e.on<i
def BackM (md:Region.Mode)(ops:Array Oper):Prop:=∀ (i:Nat)(o:Oper),ops[i]? = some o→∀ e∈o.after,Region.binds md e=true→e.on<i
theorem ready_ne (hb:BackM md ops){listed:Array Bool}(hsz:listed.size=ops.size):∀ (n i:Nat),i<n→i<ops.size→listed.getD i true=false→∃ j,j∈Region.ready md ops listed
 |0,_,h,_,_=>by omega
 |n+1,i,h,hi,hl=>by
  by_cases hex:∃ j,j<i∧listed.getD j true=false
  ·obtain⟨j,h1,h2⟩:=hex
   exact ready_ne hb hsz n j (by omega) (by omega) h2
  ·refine⟨i,mem_ready.2 ⟨hl,ops[i],Array.getElem?_eq_getElem hi,fun e he hbd=>?_⟩⟩
   have hlt:=hb i _ (Array.getElem?_eq_getElem hi) e he hbd
   cases hx:listed.getD e.on true with
   |false=>exact absurd ⟨e.on,hlt,hx⟩ hex
   |true=>
    have hls:e.on<listed.size:=by omega
    have h1:listed[e.on]? = some listed[e.on]:=Array.getElem?_eq_getElem hls
    rw[Array.getD_eq_getD_getElem?,h1] at hx ⊢
    exact hx
structure Lin (md:Region.Mode)(ops:Array Oper)(listed:Array Bool)(σ:List Nat):Prop where
 nodup:σ.Nodup
 lt:∀ i∈σ,i<ops.size∧listed.getD i true=false
 all:∀ i,i<ops.size→listed.getD i true=false→i∈σ
 edge:∀ a i b,σ=a++i::b→∀ o,ops[i]? = some o→∀ e∈o.after,Region.binds md e=true→listed.getD e.on false=true∨e.on∈a
theorem getD_set_self {listed:Array Bool}{i:Nat}(h:i<listed.size)(d:Bool):(listed.setIfInBounds i true).getD i d=true:=by
 simp[h]
theorem lin_go (hb:BackM md ops):∀ (fuel t:Nat)(listed:Array Bool)(U:List Nat),listed.size=ops.size→U.length≤fuel→(∀ i,i<ops.size→listed.getD i true=false→i∈U)→
  Lin md ops listed (Region.linearise.go md ops fuel t listed [])
 |0,t,listed,U,hsz,hU,hall=>by
  have:U=[]:=List.eq_nil_of_length_eq_zero (by omega)
  subst this
  refine⟨List.nodup_nil,(fun _ h=>by simp[Region.linearise.go] at h),fun i h1 h2=>?_,fun a i b h=>?_⟩
  ·cases hall i h1 h2
  ·simp[Region.linearise.go] at h
 |fuel+1,t,listed,U,hsz,hU,hall=>by
  simp only[Region.linearise.go]
  change Lin md ops listed (match (Region.ready md ops listed)[t % (Region.ready md ops listed).length]? with
   |some i=>Region.linearise.go md ops fuel (t / (Region.ready md ops listed).length) (listed.setIfInBounds i true) [i]
   |none=>[].reverse)
  cases hi:(Region.ready md ops listed)[t % (Region.ready md ops listed).length]? with
  |none=>
   have hnil:Region.ready md ops listed=[]:=by
    cases hr:Region.ready md ops listed with
    |nil=>rfl
    |cons x xs=>
     rw[hr] at hi
     have hlt:t % (x::xs).length<(x::xs).length:=Nat.mod_lt _ (by simp)
     rw[List.getElem?_eq_none_iff] at hi
     omega
   refine⟨List.nodup_nil,(fun _ h=>by cases h),fun i h1 h2=>?_,fun a i b h=>?_⟩
   ·obtain⟨j,hj⟩:=ready_ne hb hsz (i+1) i (Nat.lt_succ_self _) h1 h2
    rw[hnil] at hj;cases hj
   ·simp at h
  |some i=>
   simp only
   rw[linearise_go_acc,List.reverse_singleton,List.singleton_append]
   have hmem:=List.mem_of_getElem? hi
   obtain⟨h0,o,ho,hed⟩:=mem_ready.1 hmem
   have hilt:i<ops.size:=(Array.getElem?_eq_some_iff.1 ho).1
   have hils:i<listed.size:=by omega
   have hiU:=hall i hilt h0
   have hlen:(U.erase i).length≤fuel:=by rw[List.length_erase_of_mem hiU];omega
   have ih:=lin_go hb fuel (t / (Region.ready md ops listed).length) (listed.setIfInBounds i true) (U.erase i) (by simpa using hsz) hlen fun j hj hl=>by
    by_cases e:j=i
    ·subst e;rw[getD_set_self hils] at hl;cases hl
    ·rw[getD_set_ne true (Ne.symm e)] at hl
     exact (List.mem_erase_of_ne e).2 (hall j hj hl)
   generalize hσ:Region.linearise.go md ops fuel (t / (Region.ready md ops listed).length) (listed.setIfInBounds i true) []=σ at ih
   refine⟨?_,?_,?_,?_⟩
   ·refine List.nodup_cons.2 ⟨fun hin=>?_,ih.nodup⟩
    have:=(ih.lt i hin).2
    rw[getD_set_self hils] at this;cases this
   ·intro j hj
    cases hj with
    |head=>exact⟨hilt,h0⟩
    |tail _ hj=>
     have:=ih.lt j hj
     refine⟨this.1,?_⟩
     by_cases e:j=i
     ·subst e;exact h0
     ·rw[getD_set_ne true (Ne.symm e)] at this;exact this.2
   ·intro j hj hl
    by_cases e:j=i
    ·subst e;exact List.mem_cons_self ..
    ·exact List.mem_cons_of_mem _ (ih.all j hj (by rw[getD_set_ne true (Ne.symm e)];exact hl))
   ·intro a j b h oj hoj e he hbd
    cases a with
    |nil=>
     simp only[List.nil_append,List.cons.injEq] at h
     obtain⟨rfl,_⟩:=h
     rw[ho] at hoj;cases hoj
     exact .inl (hed e he hbd)
    |cons x a=>
     simp only[List.cons_append,List.cons.injEq] at h
     obtain⟨rfl,h⟩:=h
     rcases ih.edge a j b h oj hoj e he hbd with h1|h1
     ·by_cases e2:e.on=i
      ·exact .inr (by rw[e2];exact List.mem_cons_self ..)
      ·rw[getD_set_ne false (Ne.symm e2)] at h1;exact .inl h1
     ·exact .inr (List.mem_cons_of_mem _ h1)
structure Sched (ops:Array Oper)(σ:List Nat):Prop where
 nodup:σ.Nodup
 lt:∀ i∈σ,i<ops.size
 all:∀ i,i<ops.size→i∈σ
 edge:∀ a i b,σ=a++i::b→∀ o,ops[i]? = some o→∀ e∈o.after,Region.binds .any e=true→e.on∈a
theorem binds_any {e:Edge}(h:Region.binds .any e=true)(md:Region.Mode):Region.binds md e=true:=by
 unfold Region.binds at h ⊢
 generalize e.ground=g at h ⊢
 cases g<;>simp_all
theorem lin_sched (hb:BackM md ops)(t:Nat):Sched ops (Region.linearise md ops t):=by
 unfold Region.linearise
 have h0:∀ i d,i<ops.size→(Array.replicate ops.size false).getD i d=false:=fun i d h=>by simp[h]
 have:=lin_go (md:=md) hb ops.size t (Array.replicate ops.size false) (List.range ops.size) (by simp) (by simp) fun i hi _=>List.mem_range.2 hi
 refine⟨this.nodup,fun i hi=>(this.lt i hi).1,fun i hi=>this.all i hi (h0 i true hi),fun a i b h o ho e he hbd=>?_⟩
 rcases this.edge a i b h o ho e he (binds_any hbd md) with h1|h1
 ·have hlt:=hb i o ho e he (binds_any hbd md)
  have hi2:i<ops.size:=(Array.getElem?_eq_some_iff.1 ho).1
  rw[h0 e.on false (by omega)] at h1;cases h1
 ·exact h1
theorem schedule_sched (mixed:Bool)(hb:Back mixed ops)(t:Nat):Sched ops (Region.schedule mixed ops t):=by
 unfold Region.schedule
 have h0:mixed=false→∀ md,BackM md ops:=fun hm md i o ho e he _=>hb i o ho e he fun h=>by rw[hm] at h;cases h
 cases mixed with
 |true=>exact lin_sched (md:=.any) (fun i o ho e he h=>hb i o ho e he fun _=>h) _
 |false=>
  split
  ·exact lin_sched (h0 rfl _) _
  ·exact lin_sched (h0 rfl _) _
end
end Go.Exo

namespace Go.Exo
set_option linter.unusedSectionVars false
variable [Sx] [Dc]
theorem cond_and {b x:Bool}(h:cond b x false=true):b=true∧x=true:=by cases b<;>simp_all
theorem bitOf_test (i j:Nat):(bitOf i).testBit j=decide (i=j):=by
 show (1 <<< i).testBit j=_
 rw[Nat.one_shiftLeft,Nat.testBit_two_pow]
theorem bit_free {i d:Nat}:Nat.beq (Nat.land (bitOf i) d) 0=true↔d.testBit i=false:=by
 rw[Nat.beq_eq]
 constructor
 ·intro h
  have:=congrArg (fun x=>Nat.testBit x i) h
  simp only[Nat.zero_testBit] at this
  have e:Nat.land (bitOf i) d=bitOf i &&& d:=rfl
  rw[e,Nat.testBit_and,bitOf_test] at this
  simpa using this
 ·intro h
  apply Nat.eq_of_testBit_eq
  intro j
  have e:Nat.land (bitOf i) d=bitOf i &&& d:=rfl
  rw[e,Nat.testBit_and,bitOf_test,Nat.zero_testBit]
  by_cases c:i=j
  ·subst c;simp[h]
  ·simp[c]
theorem bit_in {i d:Nat}(h:Nat.beq (Nat.land (bitOf i) d) (bitOf i)=true):d.testBit i=true:=by
 rw[Nat.beq_eq] at h
 have:=congrArg (fun x=>Nat.testBit x i) h
 have e:Nat.land (bitOf i) d=bitOf i &&& d:=rfl
 simp only[e,Nat.testBit_and,bitOf_test] at this
 simpa using this
theorem sub_iff {a b:Nat}:sub a b=true↔∀ j,a.testBit j=true→b.testBit j=true:=by
 unfold sub
 rw[Nat.beq_eq]
 have e:Nat.land a b=a &&& b:=rfl
 rw[e]
 constructor
 ·intro h j hj
  have:=congrArg (fun x=>Nat.testBit x j) h
  simp only[Nat.testBit_and,hj,Bool.true_and] at this
  exact this
 ·intro h
  apply Nat.eq_of_testBit_eq
  intro j
  rw[Nat.testBit_and]
  cases hj:a.testBit j with
  |false=>rfl
  |true=>rw[h j hj];rfl
theorem lor_bit {d i j:Nat}:(Nat.lor d (bitOf i)).testBit j=(d.testBit j || decide (i=j)):=by
 have e:Nat.lor d (bitOf i)=d ||| bitOf i:=rfl
 rw[e,Nat.testBit_or,bitOf_test]
theorem nodup_le:∀ (n:Nat)(l:List Nat),l.Nodup→(∀ x∈l,x<n)→l.length≤n
 |0,l,_,h=>by
  cases l with
  |nil=>exact Nat.le_refl _
  |cons x l=>have:=h x (List.mem_cons_self ..);omega
 |n+1,l,hn,h=>by
  have h1:=nodup_le n (l.erase n) (hn.erase n) fun x hx=>by
   have h2:=h x (List.mem_of_mem_erase hx)
   have h3:x≠n:=fun e=>by subst e;exact (List.Nodup.not_mem_erase hn) hx
   omega
  have h2:l.length≤(l.erase n).length+1:=by
   by_cases hm:n∈l
   ·rw[List.length_erase_of_mem hm];omega
   ·rw[List.erase_of_not_mem hm];omega
  omega
theorem nodup_all {n:Nat}{l:List Nat}(hn:l.Nodup)(h:∀ x∈l,x<n)(hl:l.length=n){i:Nat}(hi:i<n):i∈l:=by
 by_cases c:i∈l
 ·exact c
 ·have:=nodup_le n (i::l) (List.nodup_cons.2 ⟨c,hn⟩) fun x hx=>by
   cases hx with
   |head=>exact hi
   |tail _ hx=>exact h x hx
  simp at this;omega
section
variable {P:Program}{ops:Array Oper}{σ:List Nat}
def Bef (σ:List Nat)(j i:Nat):Prop:=∀ a b,σ=a++i::b→j∈a
theorem Bef.trans {k j i:Nat}(h:Bef σ k j)(h':Bef σ j i):Bef σ k i:=by
 intro a b e
 obtain⟨x,y,hxy⟩:=List.append_of_mem (h' a b e)
 have:=h x (y++i::b) (by rw[e,hxy];simp)
 rw[hxy];exact List.mem_append.2 (.inl this)
def BitsB (σ:List Nat)(b i:Nat):Prop:=∀ j,b.testBit j=true→Bef σ j i
theorem befE_ok (hs:Sched ops σ){t:T Nat}(ht:∀ i,BitsB σ (t.get 0 i) i){i:Nat}{o:Oper}(ho:ops[i]? = some o):∀ (es:List Edge)(s:Nat),(∀ e∈es,e∈o.after)→BitsB σ s i→BitsB σ (befE t es s) i
 |[],s,_,h=>h
 |e::r,s,he,h=>by
  refine befE_ok hs ht ho r _ (fun e' he'=>he e' (List.mem_cons_of_mem _ he')) ?_
  cases hb:Region.binds .any e with
  |false=>exact h
  |true=>
   have h1:Bef σ e.on i:=fun a b h2=>hs.edge a i b h2 o ho e (he e (List.mem_cons_self ..)) hb
   intro j hj
   simp only[cond_true] at hj
   have e1:Nat.lor s (Nat.lor (bitOf e.on) (t.get 0 e.on))=s ||| (bitOf e.on ||| t.get 0 e.on):=rfl
   rw[e1,Nat.testBit_or,Nat.testBit_or,bitOf_test] at hj
   simp only[Bool.or_eq_true,decide_eq_true_eq] at hj
   rcases hj with hj|hj|hj
   ·exact h j hj
   ·subst hj;exact h1
   ·exact (ht e.on j hj).trans h1
abbrev Ent:=PStep×Nat
def opChk (all:List Ent)(o:Oper)(x:Ent):Prop:=
 (∀ t∈opTmps o,boundTo all x.2 x.1.idx t=true)∧guardOk all x.2 x.1.guard=true∧(x.1.op.cls=2→x.1.dst.isSome=true)
def EntOk (P:Program)(ops:Array Oper)(σ:List Nat)(all:List Ent)(x:Ent):Prop:=
 ∃ o,ops[x.1.idx]? = some o∧x.1=pstep P ops x.1.idx o∧BitsB σ x.2 x.1.idx∧opChk all o x
theorem ents_ok (hs:Sched ops σ)(all:List Ent):∀ (os:List Oper)(i:Nat)(t:T Nat),ops.toList.drop i=os→(∀ i,BitsB σ (t.get 0 i) i)→opsOk all os (zipB (planS P ops os i) (befL os i t))=true→
  (∀ x∈zipB (planS P ops os i) (befL os i t),EntOk P ops σ all x)∧∀ j,i≤j→j<ops.size→∃ x∈zipB (planS P ops os i) (befL os i t),x.1.idx=j
 |[],i,t,hd,_,_=>by
  refine⟨fun x hx=>by simp[planS,zipB] at hx,fun j h1 h2=>?_⟩
  have:=List.drop_eq_nil_iff.1 hd
  simp at this;omega
 |o::r,i,t,hd,ht,hok=>by
  have hlt:i<ops.size:=by
   have:i<ops.toList.length:=by
    rcases Nat.lt_or_ge i ops.toList.length with h|h
    ·exact h
    ·rw[List.drop_eq_nil_of_le h] at hd;cases hd
   simpa using this
  have hd2:=hd
  rw[List.drop_eq_getElem_cons (by simpa using hlt)] at hd2
  simp only[List.cons.injEq] at hd2
  have ho:ops[i]? = some o:=by
   rw[Array.getElem?_eq_getElem hlt,← hd2.1];simp
  have hb:=befE_ok hs ht ho o.after.toList 0 (fun e he=>by simpa using he) (fun j hj=>by simp at hj)
  simp only[planS,befL,setK_eq,zipB] at hok ⊢
  generalize hbe:befE t o.after.toList 0=be at hb hok ⊢
  have ht2:∀ k,BitsB σ ((put 0 t i be).get 0 k) k:=fun k=>by
   rw[get_put]
   by_cases e:k=i
   ·rw[if_pos e];subst e;exact hb
   ·rw[if_neg e];exact ht k
  obtain⟨hc,hok⟩:=cond_and hok
  ·obtain⟨g1,g2⟩:=ents_ok hs all r (i+1) _ hd2.2 ht2 hok
   refine⟨fun x hx=>?_,fun j h1 h2=>?_⟩
   ·cases hx with
    |head=>
     refine⟨o,ho,rfl,hb,?_⟩
     simp only[Bool.and_eq_true,List.all_eq_true] at hc
     refine⟨hc.1.1,hc.1.2,fun h=>?_⟩
     have:=hc.2
     simp only at h
     rw[h] at this
     exact this
    |tail _ hx=>exact g1 x hx
   ·by_cases e:j=i
    ·subst e;exact⟨_,List.mem_cons_self ..,rfl⟩
    ·obtain⟨x,hx,he⟩:=g2 j (by omega) h2
     exact⟨x,List.mem_cons_of_mem _ hx,he⟩
theorem zip_idx:∀ (os:List Oper)(i:Nat)(bs:List Nat),∀ x∈zipB (planS P ops os i) bs,i≤x.1.idx
 |[],_,_,x,hx=>by simp[planS,zipB] at hx
 |o::r,i,[],x,hx=>by simp[planS,zipB] at hx
 |o::r,i,b::bs,x,hx=>by
  simp only[planS,zipB] at hx
  cases hx with
  |head=>exact Nat.le_refl _
  |tail _ hx=>have:=zip_idx r (i+1) bs x hx;omega
theorem zip_uniq:∀ (os:List Oper)(i:Nat)(bs:List Nat),∀ x∈zipB (planS P ops os i) bs,∀ y∈zipB (planS P ops os i) bs,x.1.idx=y.1.idx→x=y
 |[],_,_,x,hx,_,_,_=>by simp[planS,zipB] at hx
 |o::r,i,[],x,hx,_,_,_=>by simp[planS,zipB] at hx
 |o::r,i,b::bs,x,hx,y,hy,e=>by
  simp only[planS,zipB] at hx hy
  cases hx with
  |head=>
   cases hy with
   |head=>rfl
   |tail _ hy=>have:=zip_idx r (i+1) bs y hy;have e':i=y.1.idx:=e;omega
  |tail _ hx=>
   cases hy with
   |head=>have:=zip_idx r (i+1) bs x hx;have e':x.1.idx=i:=e;omega
   |tail _ hy=>exact zip_uniq r (i+1) bs x hx y hy e
theorem hasDst_some {t j:Nat}:∀ {all:List Ent},hasDst t all=some j→∃ x∈all,x.1.dst=some t∧x.1.idx=j
 |[],h=>by cases h
 |(s,b)::r,h=>by
  simp only[hasDst] at h
  cases hd:s.dst with
  |none=>
   rw[hd] at h
   obtain⟨x,h1,h2⟩:=hasDst_some h
   exact⟨x,List.mem_cons_of_mem _ h1,h2⟩
  |some d=>
   rw[hd] at h;simp only[Bool.cond_eq_ite] at h
   split at h
   ·rename_i hc
    cases h
    rw[Nat.beq_eq] at hc
    exact⟨_,List.mem_cons_self ..,by rw[hd,hc],rfl⟩
   ·obtain⟨x,h1,h2⟩:=hasDst_some h
    exact⟨x,List.mem_cons_of_mem _ h1,h2⟩
theorem hasDst_none {t:Nat}:∀ {all:List Ent},hasDst t all=none→∀ x∈all,x.1.dst≠some t
 |[],_,x,hx=>by cases hx
 |(s,b)::r,h,x,hx=>by
  simp only[hasDst] at h
  cases hd:s.dst with
  |none=>
   rw[hd] at h
   cases hx with
   |head=>rw[hd];intro e;cases e
   |tail _ hx=>exact hasDst_none h x hx
  |some d=>
   rw[hd] at h;simp only[Bool.cond_eq_ite] at h
   split at h
   ·cases h
   ·rename_i hc
    cases hx with
    |head=>rw[hd];intro e;cases e;simp at hc
    |tail _ hx=>exact hasDst_none h x hx
theorem distinct_ok:∀ {all:List Ent},distinct all=true→∀ x∈all,∀ y∈all,∀ d,x.1.dst=some d→y.1.dst=some d→x.1.idx=y.1.idx
 |[],_,x,hx,_,_,_,_,_=>by cases hx
 |(s,b)::r,h,x,hx,y,hy,d,h1,h2=>by
  obtain⟨hc,h⟩:=cond_and h
  ·cases hx with
   |head=>
    cases hy with
    |head=>rfl
    |tail _ hy=>
     simp only at h1;rw[h1] at hc
     simp only[Option.isNone_iff_eq_none] at hc
     exact absurd h2 (hasDst_none hc y hy)
   |tail _ hx=>
    cases hy with
    |head=>
     simp only at h2;rw[h2] at hc
     simp only[Option.isNone_iff_eq_none] at hc
     exact absurd h1 (hasDst_none hc x hx)
    |tail _ hy=>exact distinct_ok h x hx y hy d h1 h2
structure AllOk (P:Program)(ops:Array Oper)(σ:List Nat)(all:List Ent):Prop where
 sched:Sched ops σ
 ents:∀ x∈all,EntOk P ops σ all x
 full:∀ j,j<ops.size→∃ x∈all,x.1.idx=j
 uniq:∀ x∈all,∀ y∈all,x.1.idx=y.1.idx→x=y
 dist:∀ x∈all,∀ y∈all,∀ d,x.1.dst=some d→y.1.dst=some d→x.1.idx=y.1.idx
theorem lateB_ok {i t:Nat}:∀ {all:List Ent},lateB i t all=true→∃ y∈all,y.1.dst=some t∧y.2.testBit i=true∧2<y.1.op.cls∧y.1.guard=none
 |[],h=>by cases h
 |(s,b)::r,h=>by
  simp only[lateB,Bool.cond_true_left,Bool.or_eq_true] at h
  rcases h with hc|h
  ·simp only[Bool.and_eq_true,Option.isNone_iff_eq_none] at hc
   obtain⟨⟨⟨h1,h2⟩,h3⟩,h4⟩:=hc
   refine⟨_,List.mem_cons_self ..,?_,bit_in h2,Nat.le_of_ble_eq_true h3,h4⟩
   cases hd:s.dst with
   |none=>rw[hd] at h1;cases h1
   |some d=>rw[hd] at h1;exact congrArg some (Nat.eq_of_beq_eq_true h1)
  ·obtain⟨y,h1,h2⟩:=lateB_ok h
   exact⟨y,List.mem_cons_of_mem _ h1,h2⟩
def Late (P:Program)(ops:Array Oper)(σ:List Nat)(j i:Nat):Prop:=¬Early P ops j∧Bef σ i j
theorem AllOk.look {all:List Ent}(h:AllOk P ops σ all){x:Ent}(hx:x∈all){o:Oper}(ho:ops[x.1.idx]? = some o){t:Nat}(ht:t∈looks ops o){j:Nat}(hj:dstOf ops j=some t):x.2.testBit j=true∨Late P ops σ j x.1.idx:=by
 obtain⟨o',ho',hp,hb,hc1,hc2,_⟩:=h.ents x hx
 rw[ho] at ho';cases ho'
 have hjs:∃ oj,ops[j]? = some oj∧oj.dst=some t:=by
  unfold dstOf at hj
  cases hoj:ops[j]? with
  |none=>rw[hoj] at hj;cases hj
  |some oj=>rw[hoj] at hj;exact⟨oj,rfl,hj⟩
 obtain⟨oj,hoj,hdj⟩:=hjs
 obtain⟨y,hy,hyi⟩:=h.full j (Array.getElem?_eq_some_iff.1 hoj).1
 have hyd:y.1.dst=some t:=by
  obtain⟨o2,h1,h2,_⟩:=h.ents y hy
  rw[hyi,hoj] at h1;cases h1
  rw[h2];exact hdj
 have key:∀ j0,hasDst t all=some j0→j0=j:=fun j0 h0=>by
  obtain⟨z,hz,hzd,hzi⟩:=hasDst_some h0
  rw[← hzi,← hyi];exact h.dist z hz y hy t hzd hyd
 unfold looks at ht
 rcases List.mem_append.1 ht with ht|ht
 ·have:=hc1 t ht
  unfold boundTo at this
  cases h0:hasDst t all with
  |none=>exact absurd hyd (hasDst_none h0 y hy)
  |some j0=>
   rw[h0] at this
   rw[key j0 h0] at this
   simp only[Bool.cond_true_left,Bool.or_eq_true] at this
   rcases this with hb2|this
   ·exact .inl (bit_in hb2)
   ·obtain⟨z,hz,hzd,hzb,hzc,hzg⟩:=lateB_ok this
    have hzi:z.1.idx=j:=by rw[← hyi];exact h.dist z hz y hy t hzd hyd
    obtain⟨oz,hoz,hpz,hbz,_⟩:=h.ents z hz
    rw[hzi] at hoz hpz hbz
    refine .inr ⟨fun⟨oe,hoe,he⟩=>?_,hbz _ hzb⟩
    rw[hoz] at hoe;cases hoe
    rcases he with he|he
    ·rw[← hpz] at he;omega
    ·apply he
     have:z.1.guard=gdOf ops oz:=by rw[hpz];rfl
     rw[← this];exact hzg
 ·have hg:x.1.guard=gdOf ops o:=by rw[hp];rfl
  rw[hg] at hc2
  cases hgo:gdOf ops o with
  |none=>rw[hgo] at ht;cases ht
  |some tw=>
   obtain⟨t',w⟩:=tw
   rw[hgo] at ht hc2
   have:t=t':=by simpa using ht
   subst this
   unfold guardOk at hc2
   simp only at hc2
   cases h0:hasDst t all with
   |none=>rw[h0] at hc2;cases hc2
   |some j0=>
    rw[h0] at hc2
    rw[key j0 h0] at hc2
    exact .inl (bit_in hc2)
theorem AllOk.ord {all:List Ent}(h:AllOk P ops σ all)(hall:allOf P ops=all):Ord P ops σ:=by
 have hdst:∀ i d,dstOf ops i=some d→∃ x∈all,x.1.idx=i∧x.1.dst=some d:=by
  intro i d hd
  unfold dstOf at hd
  cases ho:ops[i]? with
  |none=>rw[ho] at hd;cases hd
  |some o=>
   rw[ho] at hd
   obtain⟨x,hx,hxi⟩:=h.full i (Array.getElem?_eq_some_iff.1 ho).1
   refine⟨x,hx,hxi,?_⟩
   obtain⟨o2,h1,h2,_⟩:=h.ents x hx
   rw[hxi,ho] at h1;cases h1
   rw[h2];exact hd
 refine⟨h.sched.nodup,h.sched.lt,fun i _ j _ d h1 h2=>?_,fun a i b e o ho t ht j hj hea hd=>?_,fun x hx j hj=>?_⟩
 ·obtain⟨x,hx,hxi,hxd⟩:=hdst i d h1
  obtain⟨y,hy,hyi,hyd⟩:=hdst j d h2
  rw[← hxi,← hyi];exact h.dist x hx y hy d hxd hyd
 ·obtain⟨x,hx,hxi⟩:=h.full i (Array.getElem?_eq_some_iff.1 ho).1
  subst hxi
  have hbit:x.2.testBit j=true:=(h.look hx ho ht hd).resolve_right fun hl=>hl.1 hea
  obtain⟨_,_,_,hb,_⟩:=h.ents x hx
  have hja:=hb j hbit a b e
  have hnd:=h.sched.nodup
  rw[e,List.nodup_append] at hnd
  exact hnd.2.2 j hja j hj rfl
 ·rw[hall] at hx
  obtain⟨o,ho,_,hb,_⟩:=h.ents x hx
  refine⟨fun hn=>absurd (h.sched.all _ (Array.getElem?_eq_some_iff.1 ho).1) hn,fun a b e hm=>?_⟩
  have hnd:=h.sched.nodup
  rw[e,List.nodup_append] at hnd
  exact hnd.2.2 j (hb j hj a b e) j hm rfl
end
end Go.Exo
