/-
  EXO, part Y: a region whose order is drawn. Own text.
-/
import Derived.Test.YtihaakenfdkgnaaGreatDoorPart10
import Derived.Orders
set_option linter.all false
noncomputable section
namespace Go.Exo
variable [Sx] [Dc]
section
variable {P:Program}{w0:Bs}{cs0:List Frame}{E:Env}{ih:Ih}
theorem gd_abs {g:Gd}{tm:T V}{yes no:Out}{i:Nat}{fr:Frame}{cs:List Frame}{w:World}(hy:GYes g tm->Fin P w0 cs0 yes fr cs w)(hn:GNo g tm->Fin P w0 cs0 no fr cs w):Fin P w0 cs0 (gdGo g tm yes no i) fr cs w:=by
 cases g with
 |none=>exact hy (.inl rfl)
 |some tw=>
  obtain⟨t,want⟩:=tw;unfold gdGo;simp only;cases hu:getU tm t with
  |bool b=>
   simp only;refine Fin.cond (fun hb=>hy (.inr ⟨t,want,rfl,?_⟩)) fun hb=>hn ⟨t,want,rfl,.inl ⟨b,by rw[hu];rfl,fun e=>by rw[e] at hb;simp at hb⟩⟩
   rw[hu];rw[beq_iff_eq] at hb;rw[hb];rfl
  |x u=>
   simp only;cases hdu:Dc.dec u with
   |none=>exact Fin.fail
   |some b=>
    have hg:gB (getU tm t)=some b:=by rw[hu];exact hdu
    simp only;refine Fin.cond (fun hb=>hy (.inr ⟨t,want,rfl,?_⟩)) fun hb=>hn ⟨t,want,rfl,.inl ⟨b,hg,fun e=>by rw[e] at hb;simp at hb⟩⟩
    rw[beq_iff_eq] at hb;rw[hg,hb]
  |tup vs=>exact hn ⟨t,want,rfl,.inr ⟨vs,hu⟩⟩
  |_=>exact Fin.fail
theorem GYes.no {g:Gd}{tm:T V}(hy:GYes g tm)(hn:GNo g tm):False:=by
 obtain⟨t,want,h1,h2⟩:=hn;rcases hy with h|⟨t',want',h3,h4⟩
 ·rw[h] at h1;cases h1
 ·rw[h3] at h1;cases h1
  rcases h2 with⟨b,h2,h5⟩|⟨vs,h2⟩
  ·rw[h4] at h2;cases h2;exact h5 rfl
  ·rw[h2] at h4;cases h4
theorem nW {tm:T V}{H:T AObj}{nx:Nat}{k:Out}{fr:Frame}{cs:List Frame}{w:World}:∀ (l:List (Nat×Gd×AOp)),
  ((∀ d g o,(d,g,o)∈l->GNo g tm\/exOp o tm H nx=.val (getU tm d))->Fin P w0 cs0 k fr cs w)->Fin P w0 cs0 (ft tm H nx k l) fr cs w
 |[],h=>h fun _ _ _ hm=>by cases hm
 |(d,g,o)::r,h=>by
  simp only[ft];refine gd_abs (fun _=>?_) (fun hn=>nW r fun hr=>h fun d' g' o' hm=>?_)
  ·cases he:exOp o tm H nx<;>try exact Fin.fail
   rename_i v;refine Fin.cond (fun hb=>nW r fun hr=>h fun d' g' o' hm=>?_) fun _=>Fin.fail
   cases hm with
   |head=>exact .inr (by rw[he,fG hb])
   |tail _ hm=>exact hr d' g' o' hm
  ·cases hm with
   |head=>exact .inl hn
   |tail _ hm=>exact hr d' g' o' hm
theorem DInv.looks {H:T AObj}{lo hi:Nat}{ops:Array Oper}{l:List PStep}{i:Nat}{is:List Nat}{tm:T V}{tmps:Array Value}{rd:Bool}(hd:DInv P E H lo hi ops l (i::is) tm tmps rd){o:Oper}(ho:ops[i]? = some o) :
  ∀ t∈looks ops o,VR E (getU tm t) (tmps.getD t undef):=fun t htl=>hd.slots t fun j hj hjp=>by
 obtain⟨pl,_,hpf⟩:=hd.pend;exact hd.ord.2.2.2.1 [] i is rfl o ho t htl j hj (hpf j hj hjp).early
theorem PF.put {H:T AObj}{lo hi:Nat}{ops:Array Oper}{tm:T V}{pl:Nat->Option Nat}{rd:Bool}{j:Nat}(h:PF P E H lo hi ops tm pl rd j){d:Nat}{v:V}(h1:∀ o,ops[j]? = some o->d∉Exo.looks ops o)(h2:bR ops j≠some d) :
  PF P E H lo hi ops (Exo.put au tm d v) pl rd j:=by
 obtain⟨o,tm0,g1,g2,g3⟩:=h;have hd:o.dst≠some d:=by simpa[bR,g1] using h2
 have hu:∀ e,o.dst=some e->getU (Exo.put au tm d v) e=getU tm e:=fun e he=>by rw[aD,if_neg (fun e2=>by subst e2;exact hd he)]
 refine⟨o,tm0,g1,fun t ht=>?_,?_⟩
 ·rw[aD,if_neg (fun e=>by subst e;exact h1 o g1 ht)];exact g2 t ht
 ·rcases g3 with⟨a,b⟩|⟨a,v',b,c⟩
  ·exact .inl ⟨a,fun e he=>by rw[hu e he];exact b e he⟩
  ·exact .inr ⟨a,v',fun e he=>by rw[hu e he];exact b e he,c⟩
theorem iq {b:Nat}{c:Ctx}{fr:Frame}{cs:List Frame}{w:World}(hc:Cur P w0 cs0 E b c fr cs w){ops:Array Oper}{s:PStep}{r:List PStep}{is:List Nat}{k':List Item}
  (ht:fr.todo=.inRegion ops (s.idx::is)::k')(hso:SOf P ops s)(hord:Ord P ops (s.idx::is))
  (hlk:∀ d,s.dst=some d->∀ i∈is,(∀ s'∈s::r,s'.idx≠i)->∀ o,ops[i]? = some o->d∉looks ops o){tm:T V}{rd:Bool}
  (hag:rd=false->∀ i∈is,(∀ s'∈r,s'.idx≠i)->∀ o,ops[i]? = some o->(aF P ops i o).op.cls=2->∃ d,o.dst=some d/\(d,gdOf ops o,(aF P ops i o).op)∈s.again)
  (hd:DInv P E c.H b c.nx ops r is tm fr.tmps rd){v:V}{x:Value}(hv:VR E v x){g:Go1}
  (hrec:∀ tm' fr',Cur P w0 cs0 E b c fr' cs w->fr'.todo=.inRegion ops is::k'->DInv P E c.H b c.nx ops r is tm' fr'.tmps true->Fin P w0 cs0 (g tm' c) fr' cs w) :
  Fin P w0 cs0 (setD s.dst v tm c.sz fun tm'=>cond rd (g tm' c) (goOn s g c tm')) (fr.finish x) cs w:=by
 obtain⟨o,ho,hop,hdst,hgd,hfast⟩:=hso;have hnd:s.idx∉is:=(List.nodup_cons.1 hord.1).1;have hdo:bR ops s.idx=o.dst:=by simp[bR,ho]
 have hpend:∀ i∈is,(∀ s'∈r,s'.idx≠i)->∀ s'∈s::r,s'.idx≠i:=fun i hi hp s' hs'=>by
  cases hs' with
  |head=>exact fun e=>hnd (e ▸ hi)
  |tail _ hs'=>exact hp s' hs'
 have key:∀ tm' fr',Cur P w0 cs0 E b c fr' cs w->fr'.todo=.inRegion ops is::k'->DInv P E c.H b c.nx ops r is tm' fr'.tmps rd->Fin P w0 cs0 (cond rd (g tm' c) (goOn s g c tm')) fr' cs w:=by
  intro tm' fr' h1 h2 h3;cases rd with
  |true=>exact hrec tm' fr' h1 h2 h3
  |false=>
   show Fin P w0 cs0 (goOn s g c tm') fr' cs w;unfold goOn;refine nW s.again fun hall=>hrec tm' fr' h1 h2 ?_
   obtain⟨a1,a2,a3,a4,pl,a5,a6⟩:=h3;refine⟨a1,a2,a3,a4,pl,a5,fun i hi hp=>?_⟩;obtain⟨o',tm0,g1,g2,g3⟩:=a6 i hi hp;rcases g3 with g3|⟨gy,v',gv,gg⟩
   ·exact⟨o',tm0,g1,g2,.inl g3⟩
   ·rcases gg with gg|⟨c1,_⟩|gg
    ·exact⟨o',tm0,g1,g2,.inr ⟨gy,v',gv,.inl gg⟩⟩
    ·obtain⟨d,hd1,hd2⟩:=hag rfl i hi hp o' g1 c1
     have gy':GYes (gdOf ops o') tm':=by
      rcases gy with gy|⟨t,want,e1,e2⟩
      ·exact .inl gy
      ·exact .inr ⟨t,want,e1,by rw[<- g2 t (by unfold looks;rw[e1];simp)];exact e2⟩
     refine⟨o',tm',g1,fun _ _=>rfl,.inr ⟨gy',getU tm' d,fun e he=>by rw[hd1] at he;cases he;rfl,.inr (.inl ⟨c1,fun _=>⟨c.nx,?_⟩⟩)⟩⟩;rcases hall d _ _ hd2 with h|h
     ·exact (gy'.no h).elim
     ·exact h
    ·exact⟨o',tm0,g1,g2,.inr ⟨gy,v',gv,.inr (.inr gg)⟩⟩
 rw[cS ht ho];obtain⟨a1,a2,a3,a4,pl,a5,a6⟩:=hd;refine Fin.setD (fun hn=>?_) fun t hn hlt=>?_
 ·rw[hdst] at hn;rw[hn]
  exact key tm _ (hc.to _ _ rfl) rfl ⟨a1,a2,a3,a4,pl,a5,a6⟩
 ·have hn':=hn
  rw[hdst] at hn;rw[hn];have hts:t<fr.tmps.size:=by rw[hc.size];exact hlt
  have hne:∀ i∈is,bR ops i≠some t:=fun i hi e=>by
   have:=hord.2.2.1 s.idx (aj ..) i (ai _ hi) t (by rw[hdo,hn]) e;subst this;exact hnd hi
  refine key _ _ (hc.to _ _ (by simp)) rfl ⟨a1,a2,?_,?_,pl,a5,?_⟩
  ·intro u hu
   show VR E (getU (put au tm t v) u) ((fr.tmps.setIfInBounds t x).getD u undef);rw[aD];by_cases e:u=t
   ·subst e
    rw[if_pos rfl];have:(fr.tmps.setIfInBounds u x).getD u undef=x:=by simp[hts]
    rw[this];exact hv
   ·rw[if_neg e]
    have:(fr.tmps.setIfInBounds t x).getD u undef=fr.tmps.getD u undef:=by simp[Ne.symm e]
    rw[this];exact a3 u hu
  ·intro i hi hp d hdi
   have:=a4 i hi hp d hdi;simpa using this
  ·intro i hi hp
   exact (a6 i hi hp).put (hlk t hn' i hi (hpend i hi hp)) (hne i hi)
end
end Go.Exo
end

noncomputable section
namespace Go.Exo
variable [Sx] [Dc]
section
variable {P:Program}{w0:Bs}{cs0:List Frame}{E:Env}{ih:Ih}
theorem PF.up {H:T AObj}{lo hi hi':Nat}{ops:Array Oper}{tm:T V}{pl:Nat->Option Nat}{rd:Bool}{j:Nat}(h:PF P E H lo hi ops tm pl rd j)(hh:hi<=hi'):PF P E H lo hi' ops tm pl rd j:=by
 obtain⟨o,tm0,g1,g2,g3⟩:=h;refine⟨o,tm0,g1,g2,g3.imp id fun⟨a,v,b,c⟩=>⟨a,v,b,c.imp id (Or.imp id fun⟨c1,l,mk,a1,a2,a3,a4⟩=>⟨c1,l,mk,a1,a2,by omega,a4⟩)⟩⟩
theorem DInv.up {H:T AObj}{lo hi hi':Nat}{ops:Array Oper}{l:List PStep}{is:List Nat}{tm:T V}{tmps:Array Value}{rd:Bool}(h:DInv P E H lo hi ops l is tm tmps rd)(hh:hi<=hi'):DInv P E H lo hi' ops l is tm tmps rd:=by
 obtain⟨a1,a2,a3,a4,pl,a5,a6⟩:=h;exact⟨a1,a2,a3,a4,pl,a5,fun i hi hp=>(a6 i hi hp).up hh⟩
theorem PF.unrd {H:T AObj}{lo hi:Nat}{ops:Array Oper}{tm:T V}{pl:Nat->Option Nat}{j:Nat}(h:PF P E H lo hi ops tm pl true j):PF P E H lo hi ops tm pl false j:=by
 obtain⟨o,tm0,g1,g2,g3⟩:=h;exact⟨o,tm0,g1,g2,g3.imp id fun⟨a,v,b,c⟩=>⟨a,v,b,c.imp id (Or.imp (fun h=>⟨h.1,fun e=>by cases e⟩) id)⟩⟩
theorem DInv.unrd {H:T AObj}{lo hi:Nat}{ops:Array Oper}{l:List PStep}{is:List Nat}{tm:T V}{tmps:Array Value}(h:DInv P E H lo hi ops l is tm tmps true):DInv P E H lo hi ops l is tm tmps false:=by
 obtain⟨a1,a2,a3,a4,pl,a5,a6⟩:=h;exact⟨a1,a2,a3,a4,pl,a5,fun i hi hp=>(a6 i hi hp).unrd⟩
theorem DInv.lazy {H:T AObj}{lo nx:Nat}{ops:Array Oper}{s:PStep}{r:List PStep}{is:List Nat}{tm:T V}{tmps:Array Value}(hd:DInv P E H lo nx ops (s::r) is tm tmps true)
  (hso:SOf P ops s)(b2:s.idx∈is)(b3:∀ s'∈r,s'.idx≠s.idx)(b5:∀ d,s.dst=some d->∀ i∈is,(∀ s'∈s::r,s'.idx≠i)->∀ o,ops[i]? = some o->d∉Exo.looks ops o)
  (hfit:FitZ P ops r is){H':T AObj}{nx':Nat}(hn:nx<=nx')(hno:getH H nx=.no)(hs:∀ k,k≠nx->getH H' k=getH H k){v:V}{tm':T V}
  (htm:(s.dst=none/\tm'=tm)\/∃ d,s.dst=some d/\d<tmps.size/\tm'=put au tm d v)
  (hpf:∀ pl:Nat->Option Nat,pl s.idx=some nx->PF P E H' lo nx' ops tm' pl true s.idx):DInv P E H' lo nx' ops r is tm' tmps true:=by
 obtain⟨o,ho,hop,hdst,hgd,hfast⟩:=hso;obtain⟨a1,_,a3,a4,pl,a5,a6⟩:=hd;have hdo:bR ops s.idx=o.dst:=by simp[bR,ho]
 have hpend:∀ i,i≠s.idx->(∀ s'∈r,s'.idx≠i)->∀ s'∈s::r,s'.idx≠i:=fun i hi hp s' hs'=>by
  cases hs' with
  |head=>exact fun e=>hi e.symm
  |tail _ hs'=>exact hp s' hs'
 refine⟨a1,hfit,?_,?_,fun i=>if i=s.idx then some nx else if pl i=some nx then none else pl i,?_,?_⟩
 ·intro t hts
  have hne:s.dst≠some t:=by rw[hdst,<- hdo];exact hts s.idx b2 b3
  have e:getU tm' t=getU tm t:=by
   rcases htm with⟨_,rfl⟩|⟨d,h1,_,rfl⟩
   ·rfl
   ·rw[aD,if_neg (fun e=>by subst e;exact hne h1)]
  rw[e];refine a3 t fun i hi hp=>?_
  exact hts i hi fun s' hs'=>hp s' (ai _ hs')
 ·intro i hi hp d hdi
  by_cases e:i=s.idx
  ·subst e
   rw[hdo,<- hdst] at hdi;rcases htm with⟨h1,_⟩|⟨d',h1,h2,_⟩
   ·rw[h1] at hdi;cases hdi
   ·rw[h1] at hdi;cases hdi;exact h2
  ·exact a4 i hi (hpend i e hp) d hdi
 ·intro i j x hi hj
  simp only at hi hj;by_cases ei:i=s.idx<;>by_cases ej:j=s.idx
  ·rw[ei,ej]
  ·rw[if_pos ei] at hi;cases hi
   rw[if_neg ej] at hj;split at hj
   ·cases hj
   ·rename_i h;exact absurd hj h
  ·rw[if_pos ej] at hj;cases hj
   rw[if_neg ei] at hi;split at hi
   ·cases hi
   ·rename_i h;exact absurd hi h
  ·rw[if_neg ei] at hi;rw[if_neg ej] at hj
   split at hi
   ·cases hi
   ·split at hj
    ·cases hj
    ·exact a5 i j x hi hj
 ·intro i hi hp
  by_cases e:i=s.idx
  ·subst e;exact hpf _ (if_pos rfl)
  ·have hold:=a6 i hi (hpend i e hp)
   have hold2:PF P E H lo nx ops tm' pl true i:=by
    rcases htm with⟨_,rfl⟩|⟨d,h1,_,rfl⟩
    ·exact hold
    ·refine hold.put (b5 d h1 i hi (hpend i e hp)) fun h2=>e ?_
     exact (a1.2.2.1 s.idx b2 i hi d (by rw[hdo,<- hdst];exact h1) h2).symm
   obtain⟨o',tm0,g1,g2,g3⟩:=hold2;refine⟨o',tm0,g1,g2,g3.imp id fun⟨gy,v',gv,gg⟩=>⟨gy,v',gv,?_⟩⟩;rcases gg with gg|⟨c1,gg⟩|⟨c1,lj,mk,m1,m2,m3,m4,m5,m6⟩
   ·exact .inl gg
   ·refine .inr (.inl ⟨c1,fun _=>?_⟩)
    obtain⟨n,hh⟩:=gg rfl;exact⟨n,Ap hno hs c1 hh⟩
   ·refine .inr (.inr ⟨c1,lj,mk,?_,m2,by omega,m4,by rw[hs lj (by omega)];exact m5,m6⟩)
    simp only;rw[if_neg e,if_neg (fun h=>by rw[m1] at h;cases h;omega)];exact m1
theorem DInv.act {H:T AObj}{lo nx:Nat}{ops:Array Oper}{s:PStep}{r:List PStep}{is:List Nat}{tm:T V}{tmps:Array Value}{rd:Bool}(hd:DInv P E H lo nx ops (s::r) (s.idx::is) tm tmps rd)
  (hfit:FitZ P ops r is):DInv P E H lo nx ops r is tm tmps rd:=by
 obtain⟨a1,a2,a3,a4,pl,a5,a6⟩:=hd;have hnd:s.idx∉is:=(List.nodup_cons.1 a1.1).1
 have hpend:∀ i∈is,(∀ s'∈r,s'.idx≠i)->∀ s'∈s::r,s'.idx≠i:=fun i hi hp s' hs'=>by
  cases hs' with
  |head=>exact fun e=>hnd (e ▸ hi)
  |tail _ hs'=>exact hp s' hs'
 refine⟨a1.tail,hfit,fun t hts=>a3 t fun i hi hp=>?_,fun i hi hp=>a4 i (ai _ hi) (hpend i hi hp),pl,a5,fun i hi hp=>a6 i (ai _ hi) (hpend i hi hp)⟩;cases hi with
 |head=>exact absurd rfl (hp s (aj ..))
 |tail _ hi=>exact hts i hi fun s' hs'=>hp s' (ai _ hs')
theorem uN {s:PStep}{ops:Array Oper}(hso:SOf P ops s)(hap:s.apart=[]){r:List PStep}{g:Go1}{tm:T V}{c:Ctx}{R:Reg}{fr:Frame}{cs:List Frame}{w:World}
  (hy:GYes s.guard tm->Fin P w0 cs0 (jX P (exOp s.op tm c.H c.nx) s r g tm c R) fr cs w)(hn:GNo s.guard tm->Fin P w0 cs0 (setD s.dst au tm c.sz fun tm=>g tm c) fr cs w) :
  Fin P w0 cs0 (iS P R s r g tm c) fr cs w:=by
 obtain⟨o,ho,hop,hdst,hgd,hfast⟩:=hso;unfold iS;cases hf:s.fast with
 |true=>
  obtain⟨h1,h2,h3⟩:=hfast hf;show Fin P w0 cs0 (nG P s r g tm c R) fr cs w;unfold nG;rw[qi h2];exact hy (.inl h1)
 |false=>
  show Fin P w0 cs0 (ui P s r g tm c R) fr cs w;unfold ui;rw[hap];exact gd_abs hy hn
theorem xs_step (hs:Sound P w0 cs0 ih)(ops:Array Oper)(k:List AItem)(k':List Item){s:PStep}{r:List PStep}{E:Env}{b:Nat}{c:Ctx}{tm:T V}{fr:Frame}{cs:List Frame}{w:World}{is:List Nat}
  (hc:Cur P w0 cs0 E b c fr cs w)(ht:fr.todo=.inRegion ops is::k')(hk:aU E k k')(hd:DInv P E c.H b c.nx ops (s::r) is tm fr.tmps true){g:Go1}
  (hso:SOf P ops s)(b2:s.idx∈is)(b3:∀ s'∈r,s'.idx≠s.idx)(b4:s.apart=[])(b5:∀ d,s.dst=some d->∀ i∈is,(∀ s'∈s::r,s'.idx≠i)->(s.op.cls<=2\/∃ x y,is=x++s.idx::y/\i∈y)->∀ o,ops[i]? = some o->d∉looks ops o)
  (b6:(s.op.cls<=2/\s.again=[]/\FitZ P ops r is/\∀ E b c tm fr cs w,Cur P w0 cs0 E b c fr cs w->fr.todo=.inRegion ops is::k'->aU E k k'->DInv P E c.H b c.nx ops r is tm fr.tmps true->Fin P w0 cs0 (g tm c) fr cs w)\/ (2<s.op.cls/\∃ a is',is=a++s.idx::is'/\(∀ i∈a,∀ s'∈s::r,s'.idx≠i)/\ (∀ i∈is',(∀ s'∈r,s'.idx≠i)->∀ o,ops[i]? = some o->(aF P ops i o).op.cls=2->∃ d,o.dst=some d/\(d,gdOf ops o,(aF P ops i o).op)∈s.again)/\ FitZ P ops r is'/\∀ E b c tm fr cs w,Cur P w0 cs0 E b c fr cs w->fr.todo=.inRegion ops is'::k'->aU E k k'->DInv P E c.H b c.nx ops r is' tm fr.tmps true->Fin P w0 cs0 (g tm c) fr cs w)) :
  Fin P w0 cs0 (iS P { ops,draw:=true,k,ih } s r g tm c) fr cs w:=by
 obtain⟨o,ho,hop,hdst,hgd,hfast⟩:=id hso;have hdo:bR ops s.idx=o.dst:=by simp[bR,ho]
 rcases b6 with⟨hcl,hag,hfr,hrec⟩|⟨hcl,a,is',his,hpa,hag,hfr,hrec⟩
 ·
  have hgo:∀ (c:Ctx) tm',goOn s g c tm'=g tm' c:=fun c tm'=>by unfold goOn;rw[hag];rfl
  have hn:=hc.wr.fresh c.nx (am _)
  have hown:∀ t∈looks ops o,s.dst≠some t:=fun t htl=>by
   obtain⟨x,y,hxy⟩:=List.append_of_mem b2;rw[hdst,<- hdo];exact hd.ord.2.2.2.1 x s.idx y hxy o ho t htl s.idx (aj ..) ⟨o,ho,.inl (by rw[<- hop];exact hcl)⟩
  have hlooks:∀ {tm':T V}{v:V},((s.dst=none/\tm'=tm)\/∃ d,s.dst=some d/\d<fr.tmps.size/\tm'=put au tm d v)->∀ t∈looks ops o,getU tm t=getU tm' t:=by
   intro tm' v htm t htl;rcases htm with⟨_,rfl⟩|⟨d,h1,_,rfl⟩
   ·rfl
   ·rw[aD,if_neg (fun e=>by subst e;exact hown t htl h1)]
  have hslot:∀ {tm':T V}{v:V},((s.dst=none/\tm'=tm)\/∃ d,s.dst=some d/\d<fr.tmps.size/\tm'=put au tm d v)->∀ d,o.dst=some d->getU tm' d=v:=by
   intro tm' v htm d hdd;rw[<- hdst] at hdd;rcases htm with⟨h1,rfl⟩|⟨d',h1,_,rfl⟩
   ·rw[h1] at hdd;cases hdd
   ·rw[h1] at hdd;cases hdd;rw[aD,if_pos rfl]
  have next:∀ (c':Ctx)(v:V),(c'.sz=c.sz)->Cur P w0 cs0 E b c' fr cs w->
    (∀ tm',((s.dst=none/\tm'=tm)\/∃ d,s.dst=some d/\d<fr.tmps.size/\tm'=put au tm d v)->DInv P E c'.H b c'.nx ops r is tm' fr.tmps true)->
    Fin P w0 cs0 (setD s.dst v tm c.sz fun tm'=>g tm' c') fr cs w:=by
   intro c' v hsz hc' hdi;refine Fin.setD (fun h0=>hrec E b c' tm fr cs w hc' ht hk (hdi tm (.inl ⟨h0,rfl⟩))) fun t h0 hlt=>?_
   exact hrec E b c' _ fr cs w hc' ht hk (hdi _ (.inr ⟨t,h0,by rw[hc.size];exact hlt,rfl⟩))
  refine uN hso b4 (fun hy=>?_) (fun hno=>?_)
  ·rw[hgd] at hy
   have hcases:s.op.cls=0\/s.op.cls=1\/s.op.cls=2:=by omega
   have hval:∀ v,exOp s.op tm c.H c.nx=.val v->((s.op.cls=0/\∀ H nx,exOp s.op tm H nx=.val v)\/s.op.cls=2)->Fin P w0 cs0 (jX P (exOp s.op tm c.H c.nx) s r g tm c { ops,draw:=true,k,ih }) fr cs w:=by
    intro v hv hcl2;rw[hv];show Fin P w0 cs0 (setD s.dst v tm c.sz fun tm=>goOn s g c tm) fr cs w;simp only[hgo];refine next c v rfl hc fun tm' htm=>?_
    refine hd.lazy hso b2 b3 (fun d hdd i hi hp=>b5 d hdd i hi hp (.inl hcl)) hfr (am _) hn.2 (fun _ _=>rfl) htm fun pl _=>?_
    refine⟨o,tm,ho,hlooks htm,.inr ⟨hy,v,hslot htm,?_⟩⟩;rw[<- hop];rcases hcl2 with⟨h0,h1⟩|h2
    ·exact .inl ⟨h0,h1⟩
    ·exact .inr (.inl ⟨h2,fun _=>⟨c.nx,hv⟩⟩)
   rcases hcases with h0|h1|h2
   ·rcases (vf0 h0 tm c.H c.nx).elim with⟨v,hv⟩|⟨n,hv⟩
    ·exact hval v hv (.inl ⟨h0,fun H nx=>by rw[cls0 h0 tm H c.H nx c.nx];exact hv⟩)
    ·rw[hv];exact Fin.fail
   ·rcases res1 h1 tm with⟨n,hv⟩|⟨mk,ob,hnew⟩
    ·rw[hv];exact Fin.fail
    ·rw[hnew.ex]
     show Fin P w0 cs0 (setD s.dst (mk c.nx) tm c.sz fun tm=>goOn s g (c.setH (put .no c.H c.nx ob) (c.nx+1)) tm) fr cs w;simp only[hgo];have hkb:bM b E E c.H (put .no c.H c.nx ob):=fun k hk hE _=>⟨hE,by rw[ar,if_neg (by have:=hc.ble;omega)]⟩
     refine next (c.setH (put .no c.H c.nx ob) (c.nx+1)) (mk c.nx) rfl (hc.mono (Env.le.refl E) hkb (Nat.le_succ _) (hc.wr.lazy ob hnew.cls)) fun tm' htm=>?_
     have hself:getH (put .no c.H c.nx ob) c.nx=ob:=by rw[ar,if_pos rfl]
     refine hd.lazy hso b2 b3 (fun d hdd i hi hp=>b5 d hdd i hi hp (.inl hcl)) hfr (H':=put .no c.H c.nx ob) (nx':=c.nx+1) (Nat.le_succ _) hn.2 (fun k hk=>by rw[ar,if_neg hk]) htm fun pl hpl=>?_
     refine⟨o,tm,ho,hlooks htm,.inr ⟨hy,mk c.nx,hslot htm,.inr (.inr ⟨by rw[<- hop];exact h1,c.nx,mk,hpl,hc.ble,Nat.lt_succ_self _,hn.1,?_,rfl⟩)⟩⟩;rw[hself,<- hop];exact hnew
   ·rcases (vf2 h2 tm c.H c.nx).elim with⟨v,hv⟩|⟨n,hv⟩
    ·exact hval v hv (.inr h2)
    ·rw[hv];exact Fin.fail
  ·rw[hgd] at hno
   refine next c au rfl hc fun tm' htm=>?_
   exact hd.lazy hso b2 b3 (fun d hdd i hi hp=>b5 d hdd i hi hp (.inl hcl)) hfr (am _) hn.2 (fun _ _=>rfl) htm fun pl _=>⟨o,tm,ho,hlooks htm,.inl ⟨hno,hslot htm⟩⟩
 ·
  subst his;obtain⟨E1,fr1,w1,h1,h2,h3,h4,h5⟩:=flush a (s.idx::is') E fr w hc ht hd (fun i hi s' hs'=>hpa i hi s' hs');refine Fin.steps h1 ?_;clear hd ht hc;have hk1:=hk.mono h2;have hlk:=h5.looks ho;have hord:=h5.ord
  have hb5:∀ d,s.dst=some d->∀ i∈is',(∀ s'∈s::r,s'.idx≠i)->∀ o,ops[i]? = some o->d∉looks ops o:=
   fun d hdd i hi hp=>b5 d hdd i (List.mem_append.2 (.inr (ai _ hi))) hp (.inr ⟨a,is',rfl,hi⟩)
  have hact:=h5.act hfr;refine uN hso b4 (fun hy=>?_) (fun hno=>?_)
  ·rw[hgd] at hy
   cases hbad:eP ops o with
   |true=>
    have:s.op=.bad:=by rw[hop];simp only[aF,hbad,cond_true]
    rw[this];exact Fin.fail
   |false=>
    have hopc:s.op=bK P o:=by rw[hop];simp only[aF,hbad,cond_false]
    have hw:=yes_ok h3.wr.decE hbad hlk hy
    have hev:∀ x∈o.op.operands.toList,ce P.globals.size x=true->VR E1 ((ap x).ev tm) (fr1.eval x):=fun x hx hf=>lA h3.gl hf fun t e=>hlk t (by
     unfold looks nE;subst e;exact List.mem_append.2 (.inl (List.mem_filterMap.2 ⟨_,hx,rfl⟩)))
    refine uK hs h3 (s:=s) (draw:=true) h4 ho hw hopc hk1 hev (.inr ⟨rfl,hso,hord,b3,hb5,hag,hact.unrd⟩) (fun e=>by cases e) ?_ ?_
    ·intro E' H' nx' w' v x hE hkk hn hc' hv
     have hd':DInv P E' H' b nx' ops r is' tm fr1.tmps false:=(hact.mono hE hkk).up hn;exact iq hc' h4 hso hord hb5 (fun _=>hag) hd' hv (g:=g) fun tm' fr' c1 c2 c3=>hrec E' b _ tm' fr' cs w' c1 c2 (hk1.mono hE) c3
    ·intro c' fr' cs' v x e1 e2 e3 hc' e4 e5 hv
     rw[<- e3];have hd':DInv P E1 c'.H b c'.nx ops r is' tm fr'.tmps true:=by rw[e1,e2,e5];exact hact
     exact iq hc' (by rw[e4];exact h4) hso hord hb5 (fun e=>by cases e) hd' hv (g:=g) fun tm' fr'' c1 c2 c3=>hrec E1 b c' tm' fr'' cs' w1 c1 c2 hk1 c3
  ·rw[hgd] at hno
   refine Fin.step (lz h3.mode h4 (by rw[ho];exact no_ok h3.wr.decE hlk hno)) ?_;exact iq h3 h4 hso hord hb5 (fun e=>by cases e) hact (VR.undef E1) (g:=g) fun tm' fr'' c1 c2 c3=>hrec E1 b c tm' fr'' cs w1 c1 c2 hk1 c3
theorem xs_end (hs:Sound P w0 cs0 ih)(ops:Array Oper)(k:List AItem)(k':List Item){E:Env}{b:Nat}{c:Ctx}{tm:T V}{fr:Frame}{cs:List Frame}{w:World}{is:List Nat}
  (hc:Cur P w0 cs0 E b c fr cs w)(ht:fr.todo=.inRegion ops is::k')(hk:aU E k k')(hd:DInv P E c.H b c.nx ops [] is tm fr.tmps true) :
  Fin P w0 cs0 (xs P { ops,draw:=true,k,ih } [] tm c) fr cs w:=by
 obtain⟨E',fr',w',h1,h2,h3,h4,h5⟩:=flush is [] E fr w hc (by rw[List.append_nil];exact ht) (by rw[List.append_nil];exact hd) (fun _ _ _ h=>by cases h);refine Fin.steps h1 (Fin.step (fF h3.mode h4) ?_);have hc':=h3.to fr'.tmps k' rfl;have htr:TR E' tm fr'.tmps:=fun i=>h5.slots i fun _ hm=>by cases hm
 exact hs E' _ _ _ _ _ _ (hc'.mr (hk.mono h2) htr)
theorem uO (hs:Sound P w0 cs0 ih)(ops:Array Oper)(k:List AItem)(k':List Item):∀ (l:List PStep)(E:Env)(b:Nat)(c:Ctx)(tm:T V)(fr:Frame)(cs:List Frame)(w:World)(is:List Nat),
  fE P ops l is->Cur P w0 cs0 E b c fr cs w->fr.todo=.inRegion ops is::k'->aU E k k'->DInv P E c.H b c.nx ops l is tm fr.tmps true->
  Fin P w0 cs0 (xs P { ops,draw:=true,k,ih } l tm c) fr cs w
 |[],E,b,c,tm,fr,cs,w,is,_,hc,ht,hk,hd=>xs_end hs ops k k' hc ht hk hd
 |s::r,E,b,c,tm,fr,cs,w,is,hfit,hc,ht,hk,hd=>by
  have hrec:=uO hs ops k k' r;show Fin P w0 cs0 (iS P { ops,draw:=true,k,ih } s r (xs P { ops,draw:=true,k,ih } r) tm c) fr cs w;generalize hgg:xs P { ops,draw:=true,k,ih } r=g at hrec ⊢;obtain⟨hso,b2,b3,b4,b5,b6⟩:=hfit;refine xs_step hs ops k k' hc ht hk hd hso b2 b3 b4 b5 ?_;rcases b6 with⟨hcl,hag,hfr⟩|⟨hcl,a,is',his,hpa,hag,hfr⟩
  ·exact .inl ⟨hcl,hag,.inl hfr,fun E b c tm fr cs w h1 h2 h3 h4=>hrec E b c tm fr cs w is hfr h1 h2 h3 h4⟩
  ·exact .inr ⟨hcl,a,is',his,hpa,hag,.inl hfr,fun E b c tm fr cs w h1 h2 h3 h4=>hrec E b c tm fr cs w is' hfr h1 h2 h3 h4⟩
end
end Go.Exo
end

noncomputable section
namespace Go.Exo
variable [Sx] [Dc]
section
variable {ops:Array Oper}{md:Region.Mode}
def Back (mx:Bool)(ops:Array Oper):Prop:=∀ (i:Nat)(o:Oper),ops[i]? = some o->∀ e∈o.after,(mx=true->Region.binds .any e=true)->e.on<i
def BackM (md:Region.Mode)(ops:Array Oper):Prop:=∀ (i:Nat)(o:Oper),ops[i]? = some o->∀ e∈o.after,Region.binds md e=true->e.on<i
theorem uP (hb:BackM md ops){listed:Array Bool}(hsz:listed.size=ops.size):∀ (n i:Nat),i<n->i<ops.size->listed.getD i true=false->∃ j,j∈Region.ready md ops listed
 |0,_,h,_,_=>by omega
 |n+1,i,h,hi,hl=>by
  by_cases hex:∃ j,j<i/\listed.getD j true=false
  ·obtain⟨j,h1,h2⟩:=hex
   exact uP hb hsz n j (by omega) (by omega) h2
  ·refine⟨i,mem_ready.2 ⟨hl,ops[i],Array.getElem?_eq_getElem hi,fun e he hbd=>?_⟩⟩
   have hlt:=hb i _ (Array.getElem?_eq_getElem hi) e he hbd;cases hx:listed.getD e.on true with
   |false=>exact absurd ⟨e.on,hlt,hx⟩ hex
   |true=>
    have hls:e.on<listed.size:=by omega
    have h1:listed[e.on]? = some listed[e.on]:=Array.getElem?_eq_getElem hls;rw[Array.getD_eq_getD_getElem?,h1] at hx ⊢;exact hx
structure Lin (md:Region.Mode)(ops:Array Oper)(listed:Array Bool)(σ:List Nat):Prop where
 nodup:σ.Nodup
 lt:∀ i∈σ,i<ops.size/\listed.getD i true=false
 all:∀ i,i<ops.size->listed.getD i true=false->i∈σ
 edge:∀ a i b,σ=a++i::b->∀ o,ops[i]? = some o->∀ e∈o.after,Region.binds md e=true->listed.getD e.on false=true\/e.on∈a
theorem iW {listed:Array Bool}{i:Nat}(h:i<listed.size)(d:Bool):(listed.setIfInBounds i true).getD i d=true:=by
 simp[h]
theorem lin_go (hb:BackM md ops):∀ (fuel t:Nat)(listed:Array Bool)(U:List Nat),listed.size=ops.size->U.length<=fuel->(∀ i,i<ops.size->listed.getD i true=false->i∈U)->
  Lin md ops listed (Region.linearise.go md ops fuel t listed [])
 |0,t,listed,U,hsz,hU,hall=>by
  have:U=[]:=List.eq_nil_of_length_eq_zero (by omega);subst this;refine⟨List.nodup_nil,(fun _ h=>by simp[Region.linearise.go] at h),fun i h1 h2=>?_,fun a i b h=>?_⟩
  ·cases hall i h1 h2
  ·simp[Region.linearise.go] at h
 |fuel+1,t,listed,U,hsz,hU,hall=>by
  simp only[Region.linearise.go]
  change Lin md ops listed (match (Region.ready md ops listed)[t % (Region.ready md ops listed).length]? with
   |some i=>Region.linearise.go md ops fuel (t / (Region.ready md ops listed).length) (listed.setIfInBounds i true) [i]
   |none=>[].reverse)
  cases hi:(Region.ready md ops listed)[t % (Region.ready md ops listed).length]? with
  |none=>
   have hnil:Region.ready md ops listed=[]:=by
    cases hr:Region.ready md ops listed with
    |nil=>rfl
    |cons x xs=>
     rw[hr] at hi;have hlt:t % (x::xs).length<(x::xs).length:=Nat.mod_lt _ (by simp);rw[List.getElem?_eq_none_iff] at hi;omega
   refine⟨List.nodup_nil,(fun _ h=>by cases h),fun i h1 h2=>?_,fun a i b h=>?_⟩
   ·obtain⟨j,hj⟩:=uP hb hsz (i+1) i (Nat.lt_succ_self _) h1 h2
    rw[hnil] at hj;cases hj
   ·simp at h
  |some i=>
   simp only;rw[linearise_go_acc,List.reverse_singleton,List.singleton_append];have hmem:=List.mem_of_getElem? hi;obtain⟨h0,o,ho,hed⟩:=mem_ready.1 hmem;have hilt:i<ops.size:=(ag.1 ho).1;have hils:i<listed.size:=by omega
   have hiU:=hall i hilt h0;have hlen:(U.erase i).length<=fuel:=by rw[List.length_erase_of_mem hiU];omega
   have ih:=lin_go hb fuel (t / (Region.ready md ops listed).length) (listed.setIfInBounds i true) (U.erase i) (by simpa using hsz) hlen fun j hj hl=>by
    by_cases e:j=i
    ·subst e;rw[iW hils] at hl;cases hl
    ·rw[getD_set_ne true (Ne.symm e)] at hl
     exact (List.mem_erase_of_ne e).2 (hall j hj hl)
   generalize hσ:Region.linearise.go md ops fuel (t / (Region.ready md ops listed).length) (listed.setIfInBounds i true) []=σ at ih;refine⟨?_,?_,?_,?_⟩
   ·refine List.nodup_cons.2 ⟨fun hin=>?_,ih.nodup⟩
    have:=(ih.lt i hin).2;rw[iW hils] at this;cases this
   ·intro j hj
    cases hj with
    |head=>exact⟨hilt,h0⟩
    |tail _ hj=>
     have:=ih.lt j hj;refine⟨this.1,?_⟩;by_cases e:j=i
     ·subst e;exact h0
     ·rw[getD_set_ne true (Ne.symm e)] at this;exact this.2
   ·intro j hj hl
    by_cases e:j=i
    ·subst e;exact aj ..
    ·exact ai _ (ih.all j hj (by rw[getD_set_ne true (Ne.symm e)];exact hl))
   ·intro a j b h oj hoj e he hbd
    cases a with
    |nil=>
     simp only[List.nil_append,List.cons.injEq] at h;obtain⟨rfl,_⟩:=h;rw[ho] at hoj;cases hoj;exact .inl (hed e he hbd)
    |cons x a=>
     simp only[List.cons_append,List.cons.injEq] at h;obtain⟨rfl,h⟩:=h;rcases ih.edge a j b h oj hoj e he hbd with h1|h1
     ·by_cases e2:e.on=i
      ·exact .inr (by rw[e2];exact aj ..)
      ·rw[getD_set_ne false (Ne.symm e2)] at h1;exact .inl h1
     ·exact .inr (ai _ h1)
structure Sched (ops:Array Oper)(σ:List Nat):Prop where
 nodup:σ.Nodup
 lt:∀ i∈σ,i<ops.size
 all:∀ i,i<ops.size->i∈σ
 edge:∀ a i b,σ=a++i::b->∀ o,ops[i]? = some o->∀ e∈o.after,Region.binds .any e=true->e.on∈a
theorem qk {e:Edge}(h:Region.binds .any e=true)(md:Region.Mode):Region.binds md e=true:=by
 unfold Region.binds at h ⊢;generalize e.ground=g at h ⊢;cases g<;>simp_all
theorem lC (hb:BackM md ops)(t:Nat):Sched ops (Region.linearise md ops t):=by
 unfold Region.linearise;have h0:∀ i d,i<ops.size->(Array.replicate ops.size false).getD i d=false:=fun i d h=>by simp[h]
 have:=lin_go (md:=md) hb ops.size t (Array.replicate ops.size false) (List.range ops.size) (by simp) (by simp) fun i hi _=>List.mem_range.2 hi
 refine⟨this.nodup,fun i hi=>(this.lt i hi).1,fun i hi=>this.all i hi (h0 i true hi),fun a i b h o ho e he hbd=>?_⟩;rcases this.edge a i b h o ho e he (qk hbd md) with h1|h1
 ·have hlt:=hb i o ho e he (qk hbd md)
  have hi2:i<ops.size:=(ag.1 ho).1;rw[h0 e.on false (by omega)] at h1;cases h1
 ·exact h1
theorem nX (mixed:Bool)(hb:Back mixed ops)(t:Nat):Sched ops (Region.schedule mixed ops t):=by
 unfold Region.schedule;have h0:mixed=false->∀ md,BackM md ops:=fun hm md i o ho e he _=>hb i o ho e he fun h=>by rw[hm] at h;cases h
 cases mixed with
 |true=>exact lC (md:=.any) (fun i o ho e he h=>hb i o ho e he fun _=>h) _
 |false=>
  split
  ·exact lC (h0 rfl _) _
  ·exact lC (h0 rfl _) _
end
end Go.Exo
end

noncomputable section
namespace Go.Exo
variable [Sx] [Dc]
theorem bk {b x:Bool}(h:cond b x false=true):b=true/\x=true:=by cases b<;>simp_all
theorem dT (i j:Nat):(aW i).testBit j=decide (i=j):=by
 show (1 <<< i).testBit j=_;rw[Nat.one_shiftLeft,Nat.testBit_two_pow]
theorem ki {i d:Nat}:Nat.beq (Nat.land (aW i) d) 0=true<->d.testBit i=false:=by
 rw[Nat.beq_eq];constructor
 ·intro h
  have:=congrArg (fun x=>Nat.testBit x i) h;simp only[Nat.zero_testBit] at this;have e:Nat.land (aW i) d=aW i &&& d:=rfl;rw[e,Nat.testBit_and,dT] at this;simpa using this
 ·intro h
  apply Nat.eq_of_testBit_eq;intro j;have e:Nat.land (aW i) d=aW i &&& d:=rfl;rw[e,Nat.testBit_and,dT,Nat.zero_testBit];by_cases c:i=j
  ·subst c;simp[h]
  ·simp[c]
theorem sD {i d:Nat}(h:Nat.beq (Nat.land (aW i) d) (aW i)=true):d.testBit i=true:=by
 rw[Nat.beq_eq] at h;have:=congrArg (fun x=>Nat.testBit x i) h;have e:Nat.land (aW i) d=aW i &&& d:=rfl;simp only[e,Nat.testBit_and,dT] at this;simpa using this
theorem sE {a b:Nat}:sub a b=true<->∀ j,a.testBit j=true->b.testBit j=true:=by
 unfold sub;rw[Nat.beq_eq];have e:Nat.land a b=a &&& b:=rfl;rw[e];constructor
 ·intro h j hj
  have:=congrArg (fun x=>Nat.testBit x j) h;simp only[Nat.testBit_and,hj,Bool.true_and] at this;exact this
 ·intro h
  apply Nat.eq_of_testBit_eq;intro j;rw[Nat.testBit_and];cases hj:a.testBit j with
  |false=>rfl
  |true=>rw[h j hj];rfl
theorem bJ {d i j:Nat}:(Nat.lor d (aW i)).testBit j=(d.testBit j || decide (i=j)):=by
 have e:Nat.lor d (aW i)=d ||| aW i:=rfl;rw[e,Nat.testBit_or,dT]
theorem uQ:∀ (n:Nat)(l:List Nat),l.Nodup->(∀ x∈l,x<n)->l.length<=n
 |0,l,_,h=>by
  cases l with
  |nil=>exact am _
  |cons x l=>have:=h x (aj ..);omega
 |n+1,l,hn,h=>by
  have h1:=uQ n (l.erase n) (hn.erase n) fun x hx=>by
   have h2:=h x (List.mem_of_mem_erase hx);have h3:x≠n:=fun e=>by subst e;exact (List.Nodup.not_mem_erase hn) hx
   omega
  have h2:l.length<=(l.erase n).length+1:=by
   by_cases hm:n∈l
   ·rw[List.length_erase_of_mem hm];omega
   ·rw[List.erase_of_not_mem hm];omega
  omega
theorem Aq {n:Nat}{l:List Nat}(hn:l.Nodup)(h:∀ x∈l,x<n)(hl:l.length=n){i:Nat}(hi:i<n):i∈l:=by
 by_cases c:i∈l
 ·exact c
 ·have:=uQ n (i::l) (List.nodup_cons.2 ⟨c,hn⟩) fun x hx=>by
   cases hx with
   |head=>exact hi
   |tail _ hx=>exact h x hx
  simp at this;omega
section
variable {P:Program}{ops:Array Oper}{σ:List Nat}
def Bef (σ:List Nat)(j i:Nat):Prop:=∀ a b,σ=a++i::b->j∈a
theorem Bef.trans {k j i:Nat}(h:Bef σ k j)(h':Bef σ j i):Bef σ k i:=by
 intro a b e;obtain⟨x,y,hxy⟩:=List.append_of_mem (h' a b e);have:=h x (y++i::b) (by rw[e,hxy];simp);rw[hxy];exact List.mem_append.2 (.inl this)
def nY (σ:List Nat)(b i:Nat):Prop:=∀ j,b.testBit j=true->Bef σ j i
theorem yL (hs:Sched ops σ){t:T Nat}(ht:∀ i,nY σ (t.get 0 i) i){i:Nat}{o:Oper}(ho:ops[i]? = some o):∀ (es:List Edge)(s:Nat),(∀ e∈es,e∈o.after)->nY σ s i->nY σ (befE t es s) i
 |[],s,_,h=>h
 |e::r,s,he,h=>by
  refine yL hs ht ho r _ (fun e' he'=>he e' (ai _ he')) ?_;cases hb:Region.binds .any e with
  |false=>exact h
  |true=>
   have h1:Bef σ e.on i:=fun a b h2=>hs.edge a i b h2 o ho e (he e (aj ..)) hb
   intro j hj;simp only[cond_true] at hj;have e1:Nat.lor s (Nat.lor (aW e.on) (t.get 0 e.on))=s ||| (aW e.on ||| t.get 0 e.on):=rfl;rw[e1,Nat.testBit_or,Nat.testBit_or,dT] at hj;simp only[Bool.or_eq_true,decide_eq_true_eq] at hj;rcases hj with hj|hj|hj
   ·exact h j hj
   ·subst hj;exact h1
   ·exact (ht e.on j hj).trans h1
abbrev Ent:=PStep×Nat
def opChk (all:List Ent)(o:Oper)(x:Ent):Prop:=
 (∀ t∈nE o,rQ all x.2 x.1.idx t=true)/\rR all x.2 x.1.guard=true/\(x.1.op.cls=2->x.1.dst.isSome=true)
def EntOk (P:Program)(ops:Array Oper)(σ:List Nat)(all:List Ent)(x:Ent):Prop:=
 ∃ o,ops[x.1.idx]? = some o/\x.1=aF P ops x.1.idx o/\nY σ x.2 x.1.idx/\opChk all o x
theorem yM (hs:Sched ops σ)(all:List Ent):∀ (os:List Oper)(i:Nat)(t:T Nat),ops.toList.drop i=os->(∀ i,nY σ (t.get 0 i) i)->opsOk all os (zipB (bH P ops os i) (befL os i t))=true->
  (∀ x∈zipB (bH P ops os i) (befL os i t),EntOk P ops σ all x)/\∀ j,i<=j->j<ops.size->∃ x∈zipB (bH P ops os i) (befL os i t),x.1.idx=j
 |[],i,t,hd,_,_=>by
  refine⟨fun x hx=>by simp[bH,zipB] at hx,fun j h1 h2=>?_⟩;have:=List.drop_eq_nil_iff.1 hd;simp at this;omega
 |o::r,i,t,hd,ht,hok=>by
  have hlt:i<ops.size:=by
   have:i<ops.toList.length:=by
    rcases Nat.lt_or_ge i ops.toList.length with h|h
    ·exact h
    ·rw[List.drop_eq_nil_of_le h] at hd;cases hd
   simpa using this
  have hd2:=hd;rw[List.drop_eq_getElem_cons (by simpa using hlt)] at hd2;simp only[List.cons.injEq] at hd2
  have ho:ops[i]? = some o:=by
   rw[Array.getElem?_eq_getElem hlt,<- hd2.1];simp
  have hb:=yL hs ht ho o.after.toList 0 (fun e he=>by simpa using he) (fun j hj=>by simp at hj);simp only[bH,befL,bO,zipB] at hok ⊢;generalize hbe:befE t o.after.toList 0=be at hb hok ⊢
  have ht2:∀ k,nY σ ((put 0 t i be).get 0 k) k:=fun k=>by
   rw[jZ];by_cases e:k=i
   ·rw[if_pos e];subst e;exact hb
   ·rw[if_neg e];exact ht k
  obtain⟨hc,hok⟩:=bk hok
  ·obtain⟨g1,g2⟩:=yM hs all r (i+1) _ hd2.2 ht2 hok
   refine⟨fun x hx=>?_,fun j h1 h2=>?_⟩
   ·cases hx with
    |head=>
     refine⟨o,ho,rfl,hb,?_⟩;simp only[Bool.and_eq_true,List.all_eq_true] at hc;refine⟨hc.1.1,hc.1.2,fun h=>?_⟩;have:=hc.2;simp only at h;rw[h] at this;exact this
    |tail _ hx=>exact g1 x hx
   ·by_cases e:j=i
    ·subst e;exact⟨_,aj ..,rfl⟩
    ·obtain⟨x,hx,he⟩:=g2 j (by omega) h2
     exact⟨x,ai _ hx,he⟩
theorem sF:∀ (os:List Oper)(i:Nat)(bs:List Nat),∀ x∈zipB (bH P ops os i) bs,i<=x.1.idx
 |[],_,_,x,hx=>by simp[bH,zipB] at hx
 |o::r,i,[],x,hx=>by simp[bH,zipB] at hx
 |o::r,i,b::bs,x,hx=>by
  simp only[bH,zipB] at hx;cases hx with
  |head=>exact am _
  |tail _ hx=>have:=sF r (i+1) bs x hx;omega
theorem uR:∀ (os:List Oper)(i:Nat)(bs:List Nat),∀ x∈zipB (bH P ops os i) bs,∀ y∈zipB (bH P ops os i) bs,x.1.idx=y.1.idx->x=y
 |[],_,_,x,hx,_,_,_=>by simp[bH,zipB] at hx
 |o::r,i,[],x,hx,_,_,_=>by simp[bH,zipB] at hx
 |o::r,i,b::bs,x,hx,y,hy,e=>by
  simp only[bH,zipB] at hx hy;cases hx with
  |head=>
   cases hy with
   |head=>rfl
   |tail _ hy=>have:=sF r (i+1) bs y hy;have e':i=y.1.idx:=e;omega
  |tail _ hx=>
   cases hy with
   |head=>have:=sF r (i+1) bs x hx;have e':x.1.idx=i:=e;omega
   |tail _ hy=>exact uR r (i+1) bs x hx y hy e
theorem gQ {t j:Nat}:∀ {all:List Ent},dl t all=some j->∃ x∈all,x.1.dst=some t/\x.1.idx=j
 |[],h=>by cases h
 |(s,b)::r,h=>by
  simp only[dl] at h;cases hd:s.dst with
  |none=>
   rw[hd] at h;obtain⟨x,h1,h2⟩:=gQ h;exact⟨x,ai _ h1,h2⟩
  |some d=>
   rw[hd] at h;simp only[Bool.cond_eq_ite] at h;split at h
   ·rename_i hc
    cases h;rw[Nat.beq_eq] at hc;exact⟨_,aj ..,by rw[hd,hc],rfl⟩
   ·obtain⟨x,h1,h2⟩:=gQ h
    exact⟨x,ai _ h1,h2⟩
theorem dc {t:Nat}:∀ {all:List Ent},dl t all=none->∀ x∈all,x.1.dst≠some t
 |[],_,x,hx=>by cases hx
 |(s,b)::r,h,x,hx=>by
  simp only[dl] at h;cases hd:s.dst with
  |none=>
   rw[hd] at h;cases hx with
   |head=>rw[hd];intro e;cases e
   |tail _ hx=>exact dc h x hx
  |some d=>
   rw[hd] at h;simp only[Bool.cond_eq_ite] at h;split at h
   ·cases h
   ·rename_i hc
    cases hx with
    |head=>rw[hd];intro e;cases e;simp at hc
    |tail _ hx=>exact dc h x hx
theorem mo:∀ {all:List Ent},jV all=true->∀ x∈all,∀ y∈all,∀ d,x.1.dst=some d->y.1.dst=some d->x.1.idx=y.1.idx
 |[],_,x,hx,_,_,_,_,_=>by cases hx
 |(s,b)::r,h,x,hx,y,hy,d,h1,h2=>by
  obtain⟨hc,h⟩:=bk h
  ·cases hx with
   |head=>
    cases hy with
    |head=>rfl
    |tail _ hy=>
     simp only at h1;rw[h1] at hc;simp only[Option.isNone_iff_eq_none] at hc;exact absurd h2 (dc hc y hy)
   |tail _ hx=>
    cases hy with
    |head=>
     simp only at h2;rw[h2] at hc;simp only[Option.isNone_iff_eq_none] at hc;exact absurd h1 (dc hc x hx)
    |tail _ hy=>exact mo h x hx y hy d h1 h2
structure AllOk (P:Program)(ops:Array Oper)(σ:List Nat)(all:List Ent):Prop where
 sched:Sched ops σ
 ents:∀ x∈all,EntOk P ops σ all x
 full:∀ j,j<ops.size->∃ x∈all,x.1.idx=j
 uniq:∀ x∈all,∀ y∈all,x.1.idx=y.1.idx->x=y
 dist:∀ x∈all,∀ y∈all,∀ d,x.1.dst=some d->y.1.dst=some d->x.1.idx=y.1.idx
theorem uS {i t:Nat}:∀ {all:List Ent},lateB i t all=true->∃ y∈all,y.1.dst=some t/\y.2.testBit i=true/\2<y.1.op.cls/\y.1.guard=none
 |[],h=>by cases h
 |(s,b)::r,h=>by
  simp only[lateB,Bool.cond_true_left,Bool.or_eq_true] at h;rcases h with hc|h
  ·simp only[Bool.and_eq_true,Option.isNone_iff_eq_none] at hc
   obtain⟨⟨⟨h1,h2⟩,h3⟩,h4⟩:=hc;refine⟨_,aj ..,?_,sD h2,ab h3,h4⟩;cases hd:s.dst with
   |none=>rw[hd] at h1;cases h1
   |some d=>rw[hd] at h1;exact congrArg some (aa h1)
  ·obtain⟨y,h1,h2⟩:=uS h
   exact⟨y,ai _ h1,h2⟩
def Late (P:Program)(ops:Array Oper)(σ:List Nat)(j i:Nat):Prop:=¬Early P ops j/\Bef σ i j
theorem AllOk.look {all:List Ent}(h:AllOk P ops σ all){x:Ent}(hx:x∈all){o:Oper}(ho:ops[x.1.idx]? = some o){t:Nat}(ht:t∈looks ops o){j:Nat}(hj:bR ops j=some t):x.2.testBit j=true\/Late P ops σ j x.1.idx:=by
 obtain⟨o',ho',hp,hb,hc1,hc2,_⟩:=h.ents x hx;rw[ho] at ho';cases ho'
 have hjs:∃ oj,ops[j]? = some oj/\oj.dst=some t:=by
  unfold bR at hj;cases hoj:ops[j]? with
  |none=>rw[hoj] at hj;cases hj
  |some oj=>rw[hoj] at hj;exact⟨oj,rfl,hj⟩
 obtain⟨oj,hoj,hdj⟩:=hjs;obtain⟨y,hy,hyi⟩:=h.full j (ag.1 hoj).1
 have hyd:y.1.dst=some t:=by
  obtain⟨o2,h1,h2,_⟩:=h.ents y hy;rw[hyi,hoj] at h1;cases h1;rw[h2];exact hdj
 have key:∀ j0,dl t all=some j0->j0=j:=fun j0 h0=>by
  obtain⟨z,hz,hzd,hzi⟩:=gQ h0;rw[<- hzi,<- hyi];exact h.dist z hz y hy t hzd hyd
 unfold looks at ht;rcases List.mem_append.1 ht with ht|ht
 ·have:=hc1 t ht
  unfold rQ at this;cases h0:dl t all with
  |none=>exact absurd hyd (dc h0 y hy)
  |some j0=>
   rw[h0] at this;rw[key j0 h0] at this;simp only[Bool.cond_true_left,Bool.or_eq_true] at this;rcases this with hb2|this
   ·exact .inl (sD hb2)
   ·obtain⟨z,hz,hzd,hzb,hzc,hzg⟩:=uS this
    have hzi:z.1.idx=j:=by rw[<- hyi];exact h.dist z hz y hy t hzd hyd
    obtain⟨oz,hoz,hpz,hbz,_⟩:=h.ents z hz;rw[hzi] at hoz hpz hbz;refine .inr ⟨fun⟨oe,hoe,he⟩=>?_,hbz _ hzb⟩;rw[hoz] at hoe;cases hoe;rcases he with he|he
    ·rw[<- hpz] at he;omega
    ·apply he
     have:z.1.guard=gdOf ops oz:=by rw[hpz];rfl
     rw[<- this];exact hzg
 ·have hg:x.1.guard=gdOf ops o:=by rw[hp];rfl
  rw[hg] at hc2;cases hgo:gdOf ops o with
  |none=>rw[hgo] at ht;cases ht
  |some tw=>
   obtain⟨t',w⟩:=tw;rw[hgo] at ht hc2;have:t=t':=by simpa using ht
   subst this;unfold rR at hc2;simp only at hc2;cases h0:dl t all with
   |none=>rw[h0] at hc2;cases hc2
   |some j0=>
    rw[h0] at hc2;rw[key j0 h0] at hc2;exact .inl (sD hc2)
theorem AllOk.ord {all:List Ent}(h:AllOk P ops σ all)(hall:uh P ops=all):Ord P ops σ:=by
 have hdst:∀ i d,bR ops i=some d->∃ x∈all,x.1.idx=i/\x.1.dst=some d:=by
  intro i d hd;unfold bR at hd;cases ho:ops[i]? with
  |none=>rw[ho] at hd;cases hd
  |some o=>
   rw[ho] at hd;obtain⟨x,hx,hxi⟩:=h.full i (ag.1 ho).1;refine⟨x,hx,hxi,?_⟩;obtain⟨o2,h1,h2,_⟩:=h.ents x hx;rw[hxi,ho] at h1;cases h1;rw[h2];exact hd
 refine⟨h.sched.nodup,h.sched.lt,fun i _ j _ d h1 h2=>?_,fun a i b e o ho t ht j hj hea hd=>?_,fun x hx j hj=>?_⟩
 ·obtain⟨x,hx,hxi,hxd⟩:=hdst i d h1
  obtain⟨y,hy,hyi,hyd⟩:=hdst j d h2;rw[<- hxi,<- hyi];exact h.dist x hx y hy d hxd hyd
 ·obtain⟨x,hx,hxi⟩:=h.full i (ag.1 ho).1
  subst hxi;have hbit:x.2.testBit j=true:=(h.look hx ho ht hd).resolve_right fun hl=>hl.1 hea
  obtain⟨_,_,_,hb,_⟩:=h.ents x hx;have hja:=hb j hbit a b e;have hnd:=h.sched.nodup;rw[e,List.nodup_append] at hnd;exact hnd.2.2 j hja j hj rfl
 ·rw[hall] at hx
  obtain⟨o,ho,_,hb,_⟩:=h.ents x hx;refine⟨fun hn=>absurd (h.sched.all _ (ag.1 ho).1) hn,fun a b e hm=>?_⟩;have hnd:=h.sched.nodup;rw[e,List.nodup_append] at hnd;exact hnd.2.2 j (hb j hj a b e) j hm rfl
end
end Go.Exo
end

noncomputable section
namespace Go.Exo
variable [Sx] [Dc]
section
variable {P:Program}{ops:Array Oper}{σ:List Nat}{all:List Ent}
theorem dU {done:Nat}{fits:AOp->Bool}{x:Ent}:∀ {l:List Ent},ready done fits l=some x->x∈l/\done.testBit x.1.idx=false/\sub x.2 done=true/\fits x.1.op=true
 |[],h=>by cases h
 |(s,b)::r,h=>by
  simp only[ready] at h;cases hc:(Nat.beq (Nat.land (aW s.idx) done) 0&&sub b done&&fits s.op) with
  |true=>
   rw[hc] at h;cases h;simp only[Bool.and_eq_true] at hc;exact⟨aj ..,ki.1 hc.1.1,hc.1.2,hc.2⟩
  |false=>
   rw[hc] at h;obtain⟨h1,h2⟩:=dU (l:=r) h;exact⟨ai _ h1,h2⟩
theorem jx {done:Nat}{fits:AOp->Bool}{x:Ent}:∀ {l:List Ent},ready done fits l=none->x∈l->done.testBit x.1.idx=false->sub x.2 done=true->fits x.1.op=false
 |[],_,h,_,_=>by cases h
 |(s,b)::r,h,hx,h1,h2=>by
  simp only[ready] at h;cases hc:(Nat.beq (Nat.land (aW s.idx) done) 0&&sub b done&&fits s.op) with
  |true=>rw[hc] at h;cases h
  |false=>
   rw[hc] at h;cases hx with
   |head=>
    have e:=ki.2 h1;simp only at e h2;rw[e,h2] at hc;simpa using hc
   |tail _ hx=>exact jx (l:=r) h hx h1 h2
theorem mp {b:Nat}{s:PStep}{d:Nat}:∀ {l:List PStep},s∈l->s.dst=some d->s.op.cls=2->b.testBit s.idx=false->(d,s.guard,s.op)∈du b l
 |[],h,_,_,_=>by cases h
 |x::r,h,hd,hc,hb=>by
  simp only[du];cases h with
  |head=>
   rw[hd];simp only;have e:(Nat.beq s.op.cls 2&&Nat.beq (Nat.land (aW s.idx) b) 0)=true:=by rw[hc,ki.2 hb];rfl
   rw[e];exact aj ..
  |tail _ h=>
   have ih:=mp h hd hc hb;cases hx:x.dst with
   |none=>exact ih
   |some dx=>
    simp only;cases (Nat.beq x.op.cls 2&&Nat.beq (Nat.land (aW x.idx) b) 0) with
    |true=>exact ai _ ih
    |false=>exact ih
theorem mq {b:Nat}:∀ {l:List PStep},ep b l=[]->∀ s∈l,b.testBit s.idx=true
 |[],_,_,h=>by cases h
 |x::r,h,s,hs=>by
  simp only[ep] at h;cases hc:Nat.beq (Nat.land (aW x.idx) b) 0 with
  |true=>rw[hc] at h;cases h
  |false=>
   rw[hc] at h;cases hs with
   |head=>
    cases hb:b.testBit x.idx with
    |true=>rfl
    |false=>rw[ki.2 hb] at hc;cases hc
   |tail _ hs=>exact mq h s hs
theorem fH:∀ {l:List PStep},fq l=true->∀ s∈l,s.apart=[]
 |[],_,_,h=>by cases h
 |x::r,h,s,hs=>by
  unfold fq at h;split at h
  ·rename_i he
   cases hs with
   |head=>exact he
   |tail _ hs=>exact fH h s hs
  ·cases h
theorem dd (ha:AllOk P ops σ all):∀ (n done:Nat)(acts reads:List PStep),∀ s∈co all n done acts reads,
  done.testBit s.idx=false/\(∃ o,ops[s.idx]? = some o/\s.op=(aF P ops s.idx o).op)
 |0,done,acts,reads,s,hs=>by simp[co] at hs
 |n+1,done,acts,reads,s,hs=>by
  unfold co at hs;cases hr:ready done (fun o=>Nat.ble o.cls 2) all with
  |some x=>
   obtain⟨sx,bx⟩:=x;rw[hr] at hs;simp only at hs;obtain⟨h1,h2,h3,h4⟩:=dU hr;cases hs with
   |head=>
    obtain⟨o,ho,hp,_⟩:=ha.ents _ h1;refine⟨h2,⟨o,ho,?_⟩⟩;simp only at hp ho ⊢;rw[<- hp]
   |tail _ hs=>
    obtain⟨g1,g2⟩:=dd ha n _ _ _ s hs;rw[bJ] at g1;simp only[Bool.or_eq_false_iff] at g1;exact⟨g1.1,g2⟩
  |none=>
   rw[hr] at hs;simp only at hs;cases hr2:ready done (fun _=>true) all with
   |none=>rw[hr2] at hs;cases hs
   |some x=>
    obtain⟨sx,bx⟩:=x;rw[hr2] at hs;simp only at hs;obtain⟨h1,h2,h3,h4⟩:=dU hr2;obtain⟨o,ho,hp,hb,_⟩:=ha.ents _ h1;cases hs with
    |head=>
     refine⟨h2,⟨o,ho,?_⟩⟩;simp only at hp ho ⊢;rw[<- hp]
    |tail _ hs=>
     obtain⟨g1,g2⟩:=dd ha n _ _ _ s hs;rw[bJ] at g1;simp only[Bool.or_eq_false_iff] at g1;exact⟨g1.1,g2⟩
inductive Took (all:List Ent)(done:Nat)(acts reads:List PStep):PStep->Nat->List PStep->List PStep->Prop where
 |non (s:PStep)(b:Nat):(s,b)∈all->done.testBit s.idx=false->sub b done=true->s.op.cls<=2->Took all done acts reads s b acts (cond (Nat.beq s.op.cls 2) (s::reads) reads)
 |act (s:PStep)(b:Nat):(s,b)∈all->done.testBit s.idx=false->sub b done=true->2<s.op.cls->ready done (fun o=>Nat.ble o.cls 2) all=none->
   Took all done acts reads { s with again:=du b reads,apart:=ep b acts,fast:=s.fast&&(du b reads).isEmpty&&(ep b acts).isEmpty } b (s::acts) reads
theorem ir {n done:Nat}{acts reads:List PStep}{s:PStep}{r:List PStep}(h:co all n done acts reads=s::r) :
  ∃ m b acts' reads',n=m+1/\Took all done acts reads s b acts' reads'/\r=co all m (Nat.lor done (aW s.idx)) acts' reads':=by
 cases n with
 |zero=>simp[co] at h
 |succ n=>
  unfold co at h;cases hr:ready done (fun o=>Nat.ble o.cls 2) all with
  |some x=>
   obtain⟨sx,bx⟩:=x;rw[hr] at h;simp only[List.cons.injEq] at h;obtain⟨rfl,h⟩:=h;obtain⟨h1,h2,h3,h4⟩:=dU hr;exact⟨n,bx,_,_,rfl,.non sx bx h1 h2 h3 (ab h4),h.symm⟩
  |none=>
   rw[hr] at h;simp only at h;cases hr2:ready done (fun _=>true) all with
   |none=>rw[hr2] at h;cases h
   |some x=>
    obtain⟨sx,bx⟩:=x;rw[hr2] at h;simp only[List.cons.injEq] at h;obtain⟨rfl,h⟩:=h;obtain⟨h1,h2,h3,h4⟩:=dU hr2;refine⟨n,bx,_,_,rfl,.act sx bx h1 h2 h3 ?_ hr,h.symm⟩;have:=jx hr h1 h2 h3;simp only at this;rcases Nat.lt_or_ge 2 sx.op.cls with h|h
    ·exact h
    ·rw[an h] at this;cases this
theorem Took.facts {done:Nat}{acts reads:List PStep}{s:PStep}{b:Nat}{acts' reads':List PStep}(h:Took all done acts reads s b acts' reads')(ha:AllOk P ops σ all) :
  done.testBit s.idx=false/\sub b done=true/\nY σ b s.idx/\(∀ x∈acts,x∈acts')/\
  ∃ s0 o,(s0,b)∈all/\s0.idx=s.idx/\ops[s.idx]? = some o/\s0=aF P ops s.idx o/\s.op=s0.op/\s.dst=o.dst/\s.guard=gdOf ops o/\(s.fast=true->s.guard=none/\s.again=[]/\s.apart=[]):=by
 cases h with
 |non s b h1 h2 h3 h4=>
  obtain⟨o,ho,hp,hb,_⟩:=ha.ents _ h1;simp only at ho hp hb;have hgd:s.guard=gdOf ops o:=by rw[hp];rfl
  refine⟨h2,h3,hb,fun _ h=>h,s,o,h1,rfl,ho,hp,rfl,by rw[hp];rfl,hgd,fun hf=>⟨?_,by rw[hp];rfl,by rw[hp];rfl⟩⟩;rw[hp] at hf;simp only[aF,Option.isNone_iff_eq_none] at hf;rw[hgd];exact (lB hf).1
 |act s b h1 h2 h3 h4 h5=>
  obtain⟨o,ho,hp,hb,_⟩:=ha.ents _ h1;simp only at ho hp hb;have hgd:s.guard=gdOf ops o:=by rw[hp];rfl
  have hdd:s.dst=o.dst:=by rw[hp];rfl
  refine⟨h2,h3,hb,fun _ h=>ai _ h,s,o,h1,rfl,ho,hp,rfl,hdd,hgd,fun hf=>?_⟩;simp only[Bool.and_eq_true,List.isEmpty_iff] at hf;refine⟨?_,hf.1.2,hf.2⟩;have hf1:=hf.1.1;rw[hp] at hf1;simp only[aF,Option.isNone_iff_eq_none] at hf1;show s.guard=none;rw[hgd];exact (lB hf1).1
theorem Took.sof {done:Nat}{acts reads:List PStep}{s:PStep}{b:Nat}{acts' reads':List PStep}(h:Took all done acts reads s b acts' reads')(ha:AllOk P ops σ all):SOf P ops s:=by
 obtain⟨_,_,_,_,s0,o,h1,h2,h3,h4,h5,h6,h7,h8⟩:=h.facts ha;exact⟨o,h3,by rw[h5,h4],h6,h7,h8⟩
theorem gR {s:PStep}{r:List PStep}(h:fq (s::r)=true):fq r=true:=by
 unfold fq at h;split at h
 ·exact h
 ·cases h
theorem nZ (ha:AllOk P ops σ all):∀ (T:List PStep)(n done:Nat)(acts reads:List PStep)(Z:List PStep),co all n done acts reads=T++Z->fq T=true->∀ s∈T,2<s.op.cls->∀ a∈acts,Bef σ a.idx s.idx
 |[],_,_,_,_,_,_,_,s,hs,_,_,_=>by cases hs
 |t::T,n,done,acts,reads,Z,h,hok,s,hs,hc,a,haa=>by
  obtain⟨m,b,acts',reads',rfl,htook,hr⟩:=ir h;obtain⟨_,_,hb,hsub,_⟩:=htook.facts ha;cases hs with
  |head=>
   have hap:=fH hok t (aj ..);cases htook with
   |non s b h1 h2 h3 h4=>omega
   |act s b h1 h2 h3 h4 h5=>exact hb _ (mq hap a haa)
  |tail _ hs=>exact nZ ha T m _ acts' reads' Z hr.symm (gR hok) s hs hc a (hsub a haa)
theorem mt (ha:AllOk P ops σ all):∀ (T:List PStep)(n done:Nat)(acts reads:List PStep)(Z:List PStep),co all n done acts reads=T++Z->∀ s∈T,∀ x∈all,x.1.idx=s.idx->∀ z∈Z,x.2.testBit z.idx=false
 |[],_,_,_,_,_,_,s,hs,_,_,_,_,_=>by cases hs
 |t::T,n,done,acts,reads,Z,h,s,hs,x,hx,hxi,z,hz=>by
  obtain⟨m,b,acts',reads',rfl,htook,hr⟩:=ir h;obtain⟨_,hsub,_,_,s0,o,g1,g2,_⟩:=htook.facts ha;cases hs with
  |head=>
   have e:=ha.uniq _ hx _ g1 (by rw[hxi,g2]);have hz2:=(dd ha m _ acts' reads' z (by rw[<- hr];exact List.mem_append.2 (.inr hz))).1;rw[bJ] at hz2;simp only[Bool.or_eq_false_iff] at hz2;cases hbz:x.2.testBit z.idx with
   |false=>rfl
   |true=>
    rw[e] at hbz;have:=sE.1 hsub _ hbz;rw[hz2.1] at this;cases this
  |tail _ hs=>exact mt ha T m _ acts' reads' Z hr.symm s hs x hx hxi z hz
theorem ql (done:Nat):∀ (is:List Nat)(i:Nat),i∈is->done.testBit i=false->∃ a x c,is=a++x::c/\(∀ j∈a,done.testBit j=true)/\done.testBit x=false
 |[],_,h,_=>by cases h
 |y::r,i,h,hd=>by
  cases hy:done.testBit y with
  |false=>exact⟨[],y,r,rfl,(fun _ h=>by cases h),hy⟩
  |true=>
   have hir:i∈r:=by
    cases h with
    |head=>rw[hd] at hy;cases hy
    |tail _ h=>exact h
   obtain⟨a,x,c,h1,h2,h3⟩:=ql done r i hir hd;refine⟨y::a,x,c,by rw[h1];rfl,fun j hj=>?_,h3⟩;cases hj with
   |head=>exact hy
   |tail _ hj=>exact h2 j hj
structure Inv (P:Program)(ops:Array Oper)(σ:List Nat)(done:Nat)(reads:List PStep)(L:List PStep):Prop where
 full:∀ i,i<ops.size->done.testBit i=true\/∃ s∈L,s.idx=i
 rd:∀ i o,done.testBit i=true->ops[i]? = some o->(aF P ops i o).op.cls=2->aF P ops i o∈reads
 lk:∀ i o,done.testBit i=true->ops[i]? = some o->∀ t∈looks ops o,∀ j,bR ops j=some t->done.testBit j=true\/Late P ops σ j i
theorem Inv.next (ha:AllOk P ops σ all){done:Nat}{acts reads:List PStep}{s:PStep}{b:Nat}{acts' reads':List PStep}{L:List PStep}(ht:Took all done acts reads s b acts' reads')(h:Inv P ops σ done reads (s::L)) :
  Inv P ops σ (Nat.lor done (aW s.idx)) reads' L:=by
 obtain⟨_,hsub,_,_,s0,o,g1,g2,g3,g4,g5,g6,g7,_⟩:=ht.facts ha;refine⟨fun i hi=>?_,fun i oi hi hoi hc=>?_,fun i oi hi hoi t htl j hj=>?_⟩
 ·rcases h.full i hi with h|⟨s',hs',e⟩
  ·exact .inl (by rw[bJ,h];rfl)
  ·cases hs' with
   |head=>exact .inl (by rw[bJ];simp[e])
   |tail _ hs'=>exact .inr ⟨s',hs',e⟩
 ·rw[bJ] at hi
  simp only[Bool.or_eq_true,decide_eq_true_eq] at hi;cases ht with
  |non s b h1 h2 h3 h4=>
   rcases hi with hi|hi
   ·have:=h.rd i oi hi hoi hc
    cases Nat.beq s.op.cls 2
    ·exact this
    ·exact ai _ this
   ·subst hi
    rw[g3] at hoi;cases hoi;obtain⟨o',ho',hp',_⟩:=ha.ents _ h1;simp only at ho' hp';rw[g3] at ho';cases ho';rw[<- hp'] at hc ⊢;rw[hc];exact aj ..
  |act s b h1 h2 h3 h4 h5=>
   rcases hi with hi|hi
   ·exact h.rd i oi hi hoi hc
   ·simp only at hi g3
    subst hi;rw[g3] at hoi;cases hoi;rw[<- g4,<- g5] at hc;simp only at hc;omega
 ·rw[bJ] at hi ⊢
  simp only[Bool.or_eq_true,decide_eq_true_eq] at hi ⊢;rcases hi with hi|hi
  ·rcases h.lk i oi hi hoi t htl j hj with h|h
   ·exact .inl (.inl h)
   ·exact .inr h
  ·subst hi
   rcases ha.look g1 (by rw[g2];exact hoi) htl hj with this|this
   ·exact .inl (.inl (sE.1 hsub j this))
   ·rw[g2] at this;exact .inr this
theorem uT (ha:AllOk P ops σ all):∀ (T:List PStep)(n done dz:Nat)(acts reads:List PStep)(Z:List PStep)(pre is:List Nat),co all n done acts reads=T++Z->fq T=true->σ=pre++is->
  (∀ j,dz.testBit j=true<->done.testBit j=true\/∃ z∈Z,z.idx=j)->(∀ j∈pre,dz.testBit j=true)->(∀ z∈Z,z.idx∈pre)->Inv P ops σ done reads (T++Z)->fE P ops T is
 |[],_,_,_,_,_,_,_,_,_,_,_,_,_,_,_=>trivial
 |s::T,n,done,dz,acts,reads,Z,pre,is,hL,hok,hσ,hdz,hpre,hZ,hinv=>by
  have hnd:(pre++is).Nodup:=hσ ▸ ha.sched.nodup;obtain⟨m,b,acts',reads',rfl,htook,hr⟩:=ir hL;have hsof:=htook.sof ha;obtain⟨hsd,hsub,hbits,hacts,s0,o,g1,g2,g3,g4,g5,g6,g7,g8⟩:=htook.facts ha;have hlt:s.idx<ops.size:=(ag.1 g3).1
  have hrest:∀ s'∈T++Z,s'.idx≠s.idx:=fun s' hs' e=>by
   have:=(dd ha m _ acts' reads' s' (by rw[<- hr];exact hs')).1;rw[bJ,e] at this;simp at this
  have hsz:dz.testBit s.idx=false:=by
   cases h:dz.testBit s.idx with
   |false=>rfl
   |true=>
    rcases (hdz _).1 h with h|⟨z,hz,e⟩
    ·rw[hsd] at h;cases h
    ·exact absurd e (hrest z (List.mem_append.2 (.inr hz)))
  have hin:∀ i,i<ops.size->dz.testBit i=false->i∈is:=fun i hi hd=>by
   have:i∈pre++is:=hσ ▸ ha.sched.all i hi;rcases List.mem_append.1 this with h|h
   ·rw[hpre i h] at hd;cases hd
   ·exact h
  have hdone:∀ i∈is,i<ops.size->(∀ s'∈s::T,s'.idx≠i)->done.testBit i=true:=fun i hi hil hp=>by
   rcases hinv.full i hil with h|⟨s',hs',e⟩
   ·exact h
   ·rw[List.cons_append] at hs'
    rcases List.mem_append.1 (show s'∈(s::T)++Z from hs') with h|h
    ·exact absurd e (hp s' h)
    ·exact absurd rfl ((List.nodup_append.1 hnd).2.2 i (e ▸ hZ s' h) i hi)
  have hlook:∀ d,s.dst=some d->∀ i∈is,(∀ s'∈s::T,s'.idx≠i)->(s.op.cls<=2\/∃ x y,is=x++s.idx::y/\i∈y)->∀ o,ops[i]? = some o->d∉looks ops o:=by
   intro d hd i hi hp hw oi hoi hl;rcases hinv.lk i oi (hdone i hi (ag.1 hoi).1 hp) hoi d hl s.idx (by simp[bR,g3,<- g6,hd]) with this|⟨hne,hbef⟩
   ·rw[hsd] at this;cases this
   ·rcases hw with hw|⟨x,y,e,hy⟩
    ·exact hne ⟨o,g3,.inl (by rw[<- g4,<- g5];exact hw)⟩
    ·have:=hbef (pre++x) y (by rw[hσ,e];simp)
     rw[e] at hnd;have hnd2:((pre++x)++(s.idx::y)).Nodup:=by simpa using hnd
     exact absurd rfl ((List.nodup_append.1 hnd2).2.2 i this i (ai _ hy))
  have hdz':∀ j,(Nat.lor dz (aW s.idx)).testBit j=true<->(Nat.lor done (aW s.idx)).testBit j=true\/∃ z∈Z,z.idx=j:=fun j=>by
   rw[bJ,bJ];simp only[Bool.or_eq_true,decide_eq_true_eq,hdz j];constructor
   ·rintro ((h|h)|h)
    ·exact .inl (.inl h)
    ·exact .inr h
    ·exact .inl (.inr h)
   ·rintro ((h|h)|h)
    ·exact .inl (.inl h)
    ·exact .inr h
    ·exact .inl (.inr h)
  have hnext:=Inv.next ha htook hinv;have hap:=fH hok s (aj ..);have hrec:=fun pre is h1 h2 h3=>uT ha T m _ _ acts' reads' Z pre is hr.symm (gR hok) h1 hdz' h2 h3 hnext
  refine⟨hsof,hin s.idx hlt hsz,fun s' hs'=>hrest s' (List.mem_append.2 (.inl hs')),hap,hlook,?_⟩;cases htook with
  |non s b h1 h2 h3 h4=>
   refine .inl ⟨h4,?_,hrec pre is hσ (fun j hj=>by rw[bJ,hpre j hj];rfl) hZ⟩;obtain⟨o',_,hp',_⟩:=ha.ents _ h1;simp only at hp';rw[hp'];rfl
  |act s b h1 h2 h3 h4 h5=>
   simp only at hsd hbits g1 g2 g3 g4 g5 g6 g7 hlt hrest hsz;obtain⟨a,x,c,e1,e2,e3⟩:=ql dz is s.idx (hin s.idx hlt hsz) hsz
   have hxs:x=s.idx:=by
    have hxσ:x∈σ:=by rw[hσ,e1];simp
    have hxlt:=ha.sched.lt x hxσ
    have hxT:x=s.idx\/∃ s2∈T,s2.idx=x:=by
     rcases hinv.full x hxlt with h|⟨s2,hs2,e⟩
     ·have:=(hdz x).2 (.inl h);rw[e3] at this;cases this
     ·rw[List.cons_append] at hs2
      cases hs2 with
      |head=>exact .inl e.symm
      |tail _ hs2=>
       rcases List.mem_append.1 hs2 with h|h
       ·exact .inr ⟨s2,h,e⟩
       ·have:=(hdz x).2 (.inr ⟨s2,h,e⟩);rw[e3] at this;cases this
    rcases hxT with h|⟨s2,hs2,hs2i⟩
    ·exact h
    ·exfalso
     obtain⟨⟨sx,bx⟩,hx1,hx2⟩:=ha.full x hxlt;simp only at hx2;obtain⟨ox,hox,hpx,hbx,_⟩:=ha.ents _ hx1;simp only at hox hpx hbx;have hnoZ:=mt ha T m _ _ _ Z hr.symm s2 hs2 _ hx1 (by simp only[hx2,hs2i])
     have hsubx:sub bx done=true:=sE.2 fun j hj=>by
      have:=hbx j hj (pre++a) c (by rw[hσ,e1,hx2];simp)
      have hdzj:dz.testBit j=true:=by
       rcases List.mem_append.1 this with h|h
       ·exact hpre j h
       ·exact e2 j h
      rcases (hdz j).1 hdzj with h|⟨z,hz,e⟩
      ·exact h
      ·have h6:=hnoZ z hz
       simp only at h6;rw[e,hj] at h6;cases h6
     have hxd:done.testBit x=false:=by
      cases h:done.testBit x with
      |false=>rfl
      |true=>have:=(hdz x).2 (.inl h);rw[e3] at this;cases this
     have hclx:2<sx.op.cls:=by
      have:=jx h5 hx1 (by simp only[hx2];exact hxd) hsubx;simp only at this;rcases Nat.lt_or_ge 2 sx.op.cls with h|h
      ·exact h
      ·rw[an h] at this;cases this
     obtain⟨_,o2,ho2,hop2⟩:=dd ha m _ _ _ s2 (by rw[<- hr];exact List.mem_append.2 (.inl hs2))
     have hcl2:2<s2.op.cls:=by
      rw[hop2];rw[hpx] at hclx;rw[hx2] at hclx hox;rw[hs2i] at ho2 ⊢;rw[hox] at ho2;cases ho2;exact hclx
     have:=nZ ha T m _ _ _ Z hr.symm (gR hok) s2 hs2 hcl2 s (aj ..) (pre++a) c (by rw[hσ,e1,hs2i];simp)
     have hd:dz.testBit s.idx=true:=by
      rcases List.mem_append.1 this with h|h
      ·exact hpre _ h
      ·exact e2 _ h
     rw[hsz] at hd;cases hd
   subst hxs
   have hnotc:s.idx∉c:=by
    rw[e1] at hnd;have:=(List.nodup_append.1 hnd).2.1;have:=(List.nodup_append.1 this).2.1;exact (List.nodup_cons.1 this).1
   refine .inr ⟨h4,a,c,e1,fun i hi s' hs' e=>?_,fun i hi hpd oi hoi hci=>?_,?_⟩
   ·have hdi:=e2 i hi
    cases hs' with
    |head=>simp only at e;rw[<- e,hsz] at hdi;cases hdi
    |tail _ hs'=>
     rcases (hdz i).1 hdi with h|⟨z,hz,ez⟩
     ·have:=(dd ha m _ _ _ s' (by rw[<- hr];exact List.mem_append.2 (.inl hs'))).1
      rw[bJ,e,h] at this;cases this
     ·have hzp:i∈pre:=ez ▸ hZ z hz
      rw[e1] at hnd;exact absurd rfl ((List.nodup_append.1 hnd).2.2 i hzp i (List.mem_append.2 (.inl hi)))
   ·have hil:i<ops.size:=(ag.1 hoi).1
    have hii:i∈is:=by rw[e1];exact List.mem_append.2 (.inr (ai _ hi))
    have hdi:=hdone i hii hil fun s' hs'=>by
     cases hs' with
     |head=>exact fun e=>hnotc (e ▸ hi)
     |tail _ hs'=>exact hpd s' hs'
    have hread:=hinv.rd i oi hdi hoi hci
    have hbit:b.testBit i=false:=by
     cases hbi:b.testBit i with
     |false=>rfl
     |true=>
      have:=hbits i hbi (pre++a) c (by rw[hσ,e1];simp);rw[e1] at hnd;have hnd2:((pre++a)++(s.idx::c)).Nodup:=by simpa using hnd
      exact absurd rfl ((List.nodup_append.1 hnd2).2.2 i this i (ai _ hi))
    obtain⟨⟨sy,by'⟩,hy1,hy2⟩:=ha.full i hil;obtain⟨oy,hoy,hpy,_,hcy⟩:=ha.ents _ hy1;simp only at hy2 hoy hpy;rw[hy2] at hoy;rw[hoi] at hoy;cases hoy;rw[hy2] at hpy
    have hds:(aF P ops i oi).dst.isSome=true:=by
     have:=hcy.2.2;simp only[hpy] at this;exact this hci
    have hds2:oi.dst.isSome=true:=hds;obtain⟨d,hd⟩:=Option.isSome_iff_exists.1 hds2;exact⟨d,hd,mp hread hd hci hbit⟩
   ·refine hrec (pre++a++[s.idx]) c (by rw[hσ,e1];simp) (fun j hj=>?_) fun z hz=>?_
    ·rw[bJ]
     simp only[List.mem_append,List.mem_singleton] at hj;rcases hj with (hj|hj)|hj
     ·rw[hpre j hj];rfl
     ·rw[e2 j hj];rfl
     ·simp[hj]
    ·exact List.mem_append.2 (.inl (List.mem_append.2 (.inl (hZ z hz))))
end
end Go.Exo
end

noncomputable section
namespace Go.Exo
variable [Sx] [Dc]
section
variable {P:Program}{w0:Bs}{cs0:List Frame}{E:Env}{ih:Ih}
def HE (H H':T AObj):Prop:=∀ l,getH H l=getH H' l
theorem HE.refl (H:T AObj):HE H H:=fun _=>rfl
theorem HE.symm {H H':T AObj}(h:HE H H'):HE H' H:=fun l=>(h l).symm
theorem HE.trans {H H' H'':T AObj}(h:HE H H')(h':HE H' H''):HE H H'':=fun l=>(h l).trans (h' l)
theorem WR.ext {H H':T AObj}{nx:Nat}{w:World}(h:WR w0 E H nx w)(he:HE H H'):WR w0 E H' nx w:=by
 refine⟨fun l p hp=>?_,fun l hl=>?_,fun l l' p p' a b d e=>?_,fun l hl=>?_,fun l p hp=>?_,h.old,h.size,h.os,h.output,h.tape,h.le,fun l p hp b o v hf=>⟨(h.dat l p hp b o v hf).1,fun l' p' hl' hb'=>by rw[<- he l'];exact (h.dat l p hp b o v hf).2 l' p' hl' hb'⟩,h.dec,h.fzo⟩
 ·rw[<- he l]
  refine (h.objs l p hp).trans (Env.le.refl E) fun pos ho=>?_
  exact ho.same fun _=>(he _).symm
 ·rw[<- he l];exact h.fresh l hl
 ·rw[<- he l,<- he l'];exact h.sep l l' p p' a b d e
 ·rw[<- he l] at hl ⊢
  rw[<- he];exact h.cls l hl
 ·rw[<- he l];exact h.own l p hp
theorem MR.ext {m:AMode}{t:List AItem}{c:Ctx}{fr:Frame}{cs:List Frame}{w:World}(h:MR P w0 cs0 E m t c fr cs w){H':T AObj}(he:HE c.H H'):MR P w0 cs0 E m t { c with H:=H' } fr cs w:=by
 obtain⟨b,hb,hf⟩:=h.frs;exact⟨h.wr.ext he,h.gl,⟨b,hb,hf.mono (Env.le.refl E) fun l _ hE _=>⟨hE,(he l).symm⟩⟩,h.fn,h.kind,h.round,h.defers,h.mode,h.size,h.rest⟩
end
end Go.Exo
end

noncomputable section
namespace Go.Exo
variable [Sx] [Dc]
section
variable {P:Program}{w0:Bs}{cs0:List Frame}{E:Env}{ih:Ih}
theorem yN (hs:Sound P w0 cs0 ih)(ops:Array Oper)(k:List AItem)(k':List Item):∀ (l:List PStep)(E:Env)(b:Nat)(c:Ctx)(tm:T V)(fr:Frame)(cs:List Frame)(w:World)(is:List Nat),
  Cur P w0 cs0 E b c fr cs w->fr.todo=.inRegion ops is::k'->aU E k k'->DInv P E c.H b c.nx ops l is tm fr.tmps true->
  Fin P w0 cs0 (xs P { ops,draw:=true,k,ih } l tm c) fr cs w:=by
 intro l E b c tm fr cs w is hc ht hk hd;rcases hd.fit with hfit|h
 ·exact uO hs ops k k' _ E b c tm fr cs w is hfit hc ht hk hd
 ·exact h.elim
end
end Go.Exo
end

noncomputable section
namespace Go.Exo
variable [Sx] [Dc]
section
variable {P:Program}{ops:Array Oper}{σ:List Nat}{all:List Ent}
end
end Go.Exo
end
