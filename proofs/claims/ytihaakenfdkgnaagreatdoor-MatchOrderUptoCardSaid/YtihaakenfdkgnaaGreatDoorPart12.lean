/-
  EXO, part Z4: a value comes back; a region is begun; a frame returns. Own text.
-/
import Derived.Test.YtihaakenfdkgnaaGreatDoorPart11
set_option linter.all false
noncomputable section
namespace Go.Exo
variable [Sx] [Dc]
section
variable {P:Program}{w0:Bs}{cs0:List Frame}{E:Env}{ih:Ih}
theorem uU {mx:Bool}{i:Nat}:∀ {es:List Edge},backE mx i es=true->∀ e∈es,(mx=true->Region.binds .any e=true)->e.on<i
 |[],_,_,h,_=>by cases h
 |x::r,h,e,he,hm=>by
  obtain⟨h1,h2⟩:=bk h;cases he with
  |head=>
   simp only[Bool.or_eq_true,Bool.and_eq_true,Bool.not_eq_true'] at h1;rcases h1 with h1|⟨h1,h3⟩
   ·exact ab h1
   ·rw[hm h1] at h3;cases h3
  |tail _ he=>exact uU h2 e he hm
theorem uV {mx:Bool}:∀ {os:List Oper}{i:Nat},ug mx os i=true->∀ (j:Nat)(o:Oper),os[j]? = some o->∀ e∈o.after,(mx=true->Region.binds .any e=true)->e.on<i+j
 |[],_,_,j,o,h,_,_,_=>by simp at h
 |x::r,i,h,j,o,ho,e,he,hm=>by
  obtain⟨h1,h2⟩:=bk h;cases j with
  |zero=>
   simp at ho;subst ho;exact uU h1 e (by simpa using he) hm
  |succ j=>
   have:=uV h2 j o (by simpa using ho) e he hm;omega
theorem back_of {mx:Bool}{ops:Array Oper}(h:ug mx ops.toList 0=true):Back mx ops:=fun i o ho e he hm=>by
 have:=uV h i o (by simpa using ho) e he hm;omega
theorem n7 {i:Nat}:∀ {all:List Ent},(∃ x∈all,x.1.idx=i)->∃ s,(s,rO i all)∈all/\s.idx=i
 |[],⟨_,h,_⟩=>by cases h
 |(s,b)::r,⟨x,hx,he⟩=>by
  simp only[rO];cases hb:Nat.beq s.idx i with
  |true=>exact⟨s,aj ..,aa hb⟩
  |false=>
   cases hx with
   |head=>simp only at he;rw[he] at hb;simp at hb
   |tail _ hx=>
    obtain⟨s',h1,h2⟩:=n7 (all:=r) ⟨x,hx,he⟩;exact⟨s',ai _ h1,h2⟩
theorem uW (P:Program)(ops:Array Oper):(∃ s,s.op=.bad/\s.fast=true/\pU P ops=[s])\/
  (Back (P.follows .mixedOrders) ops/\∀ σ,Sched ops σ->Ord P ops σ/\FitZ P ops (pU P ops) σ/\∀ i∈σ,∃ s∈pU P ops,s.idx=i):=by
 unfold pU;simp only;generalize hall:uh P ops=all;generalize hl:co all ops.toList.length 0 [] []=l;cases hc:(rP all l&&ug (P.follows .mixedOrders) ops.toList 0&&jV all&&opsOk all ops.toList all&&Nat.beq l.length ops.toList.length) with
 |false=>exact .inl ⟨_,rfl,rfl,rfl⟩
 |true=>
  simp only[Bool.and_eq_true] at hc;obtain⟨⟨⟨⟨c1,c2⟩,c3⟩,c4⟩,c5⟩:=hc;have hb:=back_of c2;refine .inr ⟨hb,fun σ hs=>?_⟩;simp only[cond_true];have hall':zipB (bH P ops ops.toList 0) (befL ops.toList 0 .e)=all:=hall;have he:=yM (P:=P) hs all ops.toList 0 .e (by simp) (fun i j hj=>by simp[gD] at hj) (by rw[hall'];exact c4);rw[hall'] at he;have ha:AllOk P ops σ all:=⟨hs,he.1,fun j hj=>he.2 j (Nat.zero_le _) hj,by rw[<- hall'];exact uR _ _ _,mo c3⟩
  have hlen:l.length=ops.size:=by
   have:=aa c5;simpa using this
  have hmem:∀ s∈l,s.idx<ops.size:=fun s hs'=>by
   rw[<- hl] at hs';obtain⟨_,o,ho,_⟩:=dd ha _ _ _ _ s hs';exact (ag.1 ho).1
  have hnd:(l.map (·.idx)).Nodup:=by
   have:∀ (l:List PStep)(n done:Nat)(acts reads:List PStep),co all n done acts reads=l->(l.map (·.idx)).Nodup:=by
    intro l;induction l with
    |nil=>intro n done acts reads _;simp
    |cons s r ih=>
     intro n done acts reads h;obtain⟨m,b,acts',reads',rfl,htook,hr⟩:=ir h;rw[List.map_cons,List.nodup_cons];refine⟨fun hm=>?_,ih m _ acts' reads' hr.symm⟩;obtain⟨s',h1,h2⟩:=List.mem_map.1 hm;have:=(dd ha m _ acts' reads' s' (by rw[<- hr];exact h1)).1;rw[bJ,h2] at this;simp at this
   exact this l _ _ _ _ hl
  have hfull:∀ i,i<ops.size->∃ s∈l,s.idx=i:=fun i hi=>by
   have:=Aq hnd (fun x hx=>by
    obtain⟨s,h1,h2⟩:=List.mem_map.1 hx
    rw[<- h2];exact hmem s h1) (by rw[List.length_map];exact hlen) hi
   obtain⟨s,h1,h2⟩:=List.mem_map.1 this;exact⟨s,h1,h2⟩
  have hinv:Inv P ops σ 0 [] l:=⟨fun i hi=>.inr (hfull i hi),fun i o h=>by simp at h,fun i o h=>by simp at h⟩
  refine⟨ha.ord hall,?_,fun i hi=>hfull i (hs.lt i hi)⟩;unfold rP at c1;exact .inl (uT ha l _ 0 0 [] [] [] [] σ (by rw[hl];simp) c1 rfl (fun j=>by simp) (fun _ h=>by cases h) (fun _ h=>by cases h) (by simpa using hinv))
theorem uX {ops:Array Oper}:∀ (os:List Oper)(i:Nat)(t:T Nat)(j:Nat),i<=j->j<i+os.length->∃ x∈zipB (bH P ops os i) (befL os i t),x.1.idx=j
 |[],i,t,j,h1,h2=>by simp at h2;omega
 |o::r,i,t,j,h1,h2=>by
  simp only[bH,befL,bO,zipB];by_cases e:j=i
  ·subst e;exact⟨_,aj ..,rfl⟩
  ·obtain⟨x,hx,he⟩:=uX r (i+1) (put 0 t i (befE t o.after.toList 0)) j (by omega) (by simp at h2;omega)
   exact⟨x,ai _ hx,he⟩
theorem qm {i:Nat}:∀ {r:List PStep},rS i r=true->∃ s∈r,s.idx=i
 |[],h=>by cases h
 |s::r,h=>by
  simp only[rS,Bool.cond_true_left,Bool.or_eq_true] at h;rcases h with h|h
  ·exact⟨s,aj ..,aa h⟩
  ·obtain⟨s',h1,h2⟩:=qm h
   exact⟨s',ai _ h1,h2⟩
theorem qn {m si:Nat}{r:List PStep}:∀ {n:Nat},wC m si r n=true->∀ i,i<n->i=si\/m.testBit i=true\/∃ s∈r,s.idx=i
 |0,_,_,h=>absurd h (by omega)
 |n+1,h,i,hi=>by
  obtain⟨h1,h2⟩:=bk h;by_cases e:i=n
  ·subst e
   simp only[Bool.or_eq_true] at h1;rcases h1 with (h1|h1)|h1
   ·exact .inl (aa h1)
   ·exact .inr (.inl (sD h1))
   ·exact .inr (.inr (qm h1))
  ·exact qn h2 i (by omega)
theorem uY {H:T AObj}{lo hi:Nat}{ops:Array Oper}{s:PStep}{r:List PStep}{is:List Nat}{tm:T V}{tmps:Array Value}{rd:Bool}(hz:quietB P ops s r=true)(hso:SOf P ops s)(hord:Ord P ops (s.idx::is))(hd:DInv P E H lo hi ops r is tm tmps rd):TR E tm tmps:=by
 intro t;refine hd.slots t fun i hi hp=>?_
 exfalso;have hil:i<ops.size:=hord.2.1 i (ai _ hi);obtain⟨o,ho,_⟩:=hso;have hsl:s.idx<ops.size:=(ag.1 ho).1;obtain⟨s',h1,h2⟩:=n7 (uX (P:=P) (ops:=ops) ops.toList 0 .e s.idx (Nat.zero_le _) (by simpa using hsl));rcases qn hz i (by simpa using hil) with h|h|⟨s2,h3,h4⟩
 ·subst h;exact (List.nodup_cons.1 hord.1).1 hi
 ·exact (hord.2.2.2.2 _ h1 i h).2 [] is (by rw[h2];rfl) (ai _ hi)
 ·exact hp s2 h3 h4
theorem MR.cur {t:List AItem}{c:Ctx}{fr:Frame}{cs:List Frame}{w:World}(h:MR P w0 cs0 E .run t c fr cs w):∃ b,Cur P w0 cs0 E b c fr cs w:=by
 obtain⟨b,hb,hf⟩:=h.frs;exact⟨b,h.wr,h.gl,hf,hb,h.fn,h.kind,h.round,h.defers,h.mode,h.size⟩
theorem Ar (hs:Sound P w0 cs0 ih){id:Nat}{ops:Array Oper}{draw:Bool}{k:List AItem}{c:Ctx}{fr:Frame}{cs:List Frame}{w:World}(h:MR P w0 cs0 E .run (.code (.region id ops draw)::k) c fr cs w) :
  Fin P w0 cs0 (rW P ops draw c k ih) fr cs w:=by
 obtain⟨b,hc⟩:=h.cur;obtain⟨⟨i,k',ht,hi,hk⟩,htr⟩:=h.rest;cases hi;unfold rW;cases draw with
 |false=>
  refine Fin.step (qg hc.mode ht) ?_;have hc':=hc.to fr.tmps (.inRegion ops (List.range ops.size)::k') rfl;have:=xw hs ops k k' ops.size 0 (by omega) E b c c.tm _ cs w hc' (by simp only[List.range_eq_range']) hk htr;simpa[yn] using this
 |true=>
  have hst:=xk (P:=P) (cs:=cs) (w:=w) hc.mode ht;refine Fin.step hst ?_;show Fin P w0 cs0 (xs P { ops,draw:=true,k,ih } (pU P ops) c.tm c) _ cs _;rcases uW P ops with⟨s,h1,h2,h3⟩|⟨hb,hplan⟩
  ·rw[h3]
   show Fin P w0 cs0 (iS P { ops,draw:=true,k,ih } s [] _ c.tm c) _ cs _;unfold iS;rw[h2];show Fin P w0 cs0 (nG P s [] _ c.tm c { ops,draw:=true,k,ih }) _ cs _;unfold nG;rw[h1];exact Fin.fail
  ·generalize hσ:Region.schedule (P.follows .mixedOrders) ops (w.tape w.drawn (.order fr.fn id))=σ
   have hsch:Sched ops σ:=by rw[<- hσ];exact nX _ hb _
   obtain⟨g1,g2,g3⟩:=hplan σ hsch
   have hc':Cur P w0 cs0 E b c { fr with todo:=.inRegion ops σ::k' } cs { w with drawn:=w.drawn+1 }:=
    ⟨hc.wr.draw _,hc.gl,hc.frs,hc.ble,hc.fn,hc.kind,hc.round,hc.defers,hc.mode,hc.size⟩
   refine yN hs ops k k' _ E b c c.tm _ cs _ σ hc' rfl hk ⟨g1,g2,fun t _=>htr t,fun i hi hp=>?_,fun _=>none,(fun _ _ _ h=>by cases h),fun i hi hp=>?_⟩
   ·obtain⟨s,h1,h2⟩:=g3 i hi
    exact absurd h2 (hp s h1)
   ·obtain⟨s,h1,h2⟩:=g3 i hi
    exact absurd h2 (hp s h1)
theorem As (hs:Sound P w0 cs0 ih){H:T AObj}{nx b:Nat}{w:World}(hwr:WR w0 E H nx w)(hgl:∀ g,g<P.globals.size->∃ s,E g=some ⟨g,0,s,undef,noOb,[]⟩)(hb:b<=nx){f:AFrame}{fs:List AFrame}{lo:Nat}{fr:Frame}{r:List Frame}
  (hlo:lo<=b)(hsr:SR P E H lo b f fr)(hfr:FrsR P cs0 E H lo fs r){v:V}{x:Value}(hv:VR E v x):Fin P w0 cs0 (finish P f v fs H nx ih) (fr.finish x) r w:=by
 obtain⟨a1,a2,a3,a4,a5,a6,a7⟩:=hsr;unfold finish;cases hm:f.mode with
 |returning=>exact Fin.fail
 |panicking _=>exact Fin.fail
 |run=>
  rw[hm] at a5 a7;simp only at a7 ⊢;have hcur:Cur P w0 cs0 E lo (jW f fs H nx) fr r w:=⟨hwr,hgl,hfr,Nat.le_trans hlo hb,a1,a2,a3,a4,a5,a6⟩
  split at a7
  ·rename_i s rr ops draw k heq
   obtain⟨is,k',b1,b2,b3⟩:=a7;rw[heq];simp only;rcases b3 with⟨rfl,o,i,c1,rfl,c3,rfl,c5⟩|⟨rfl,c1,c2,c3,c4,c5,c6⟩
   ·have:=kf (v:=v) (x:=x) (kk:=fun tm=>ft tm H nx (xs P { ops,draw:=false,k,ih } rr tm (jW f fs H nx)) (aF P ops i o).again) hcur b1 c1 c5 hv fun tm' fr' d1 d2 d3=>by
     show Fin P w0 cs0 (xs P { ops,draw:=false,k,ih } rr tm' (jW f fs H nx)) fr' r w;rw[c3];have hlt:i<ops.size:=(ag.1 c1).1;exact xw hs ops k k' _ (i+1) (by omega) E lo _ tm' fr' r w d1 d2 b2 d3
    exact this
   ·have:=iq (rd:=false) hcur b1 c1 c2 c4 (fun _=>c5) (c6.up hb) hv (g:=xs P { ops,draw:=true,k,ih } rr) fun tm' fr' d1 d2 d3=>yN hs ops k k' rr E lo _ tm' fr' r w is d1 d2 b2 d3
    exact this
  ·rename_i l k heq
   obtain⟨p,k',b1,b2,b3,b4⟩:=a7;rw[heq];simp only;have hfin:fr.finish x={ fr with todo:=.endRangeFunc p.blk::k' }:=by unfold Frame.finish;rw[b2]
   rw[hfin];have hcur':=hcur.to fr.tmps (.endRangeFunc p.blk::k') rfl;exact hs E _ _ _ _ _ _ (hcur'.mr (t:=.endRF l::k) ⟨_,_,rfl,⟨p,b1,rfl⟩,b3⟩ b4)
  ·exact a7.elim
end
end Go.Exo
end

noncomputable section
namespace Go.Exo
variable [Sx] [Dc]
section
variable {P:Program}{w0:Bs}{cs0:List Frame}{E:Env}{ih:Ih}
theorem cell1_ok {H:T AObj}{nx:Nat}{w:World}(hwr:WR w0 E H nx w){t:TypeId}{d:TypeDesc}(hu:undT P t=some d)(hd:aggD d=false){a:V}{A:Value}(ha:VR E a A){v:V}(h:dK a H=.val v) :
  ∃ x,(do loadVar t (<- asAddr A):Sem Value).run P w=.ok x w/\VR E v x:=by
 have hg:=p9 (P:=P) hwr (t:=t) (fun w=>by rw[cH hu w,hd]) ha;rw[h] at hg;obtain⟨x,h1,h2⟩:=hg;refine⟨x,?_,h2⟩;cases ha<;>first|exact h1|(simp only[dK] at h;cases h)
theorem cellN_ok {H:T AObj}{nx:Nat}{w:World}(hwr:WR w0 E H nx w){t:TypeId}{d:TypeDesc}{i:TypeInfo}(hu:undT P t=some d)(hd:aggD d=true)(hi:P.info? t=some i){a:V}{A:Value}(ha:VR E a A){v:V}(h:dL i.size a H=.val v) :
  ∃ x,(do loadVar t (<- asAddr A):Sem Value).run P w=.ok x w/\VR E v x:=by
 have hg:=qa (P:=P) hwr (t:=t) (fun w=>by rw[cH hu w,hd]) hi ha;rw[h] at hg;obtain⟨x,h1,h2⟩:=hg;refine⟨x,?_,h2⟩;cases ha<;>first|exact h1|(simp only[dL] at h;cases h)
theorem mV {H:T AObj}{nx:Nat}{w:World}(hwr:WR w0 E H nx w){tm:T V}{tmps:Array Value}(htr:TR E tm tmps){g:ResultVar->Sem Value}(hg1:∀ t,g (.tmp t)=pure (tmps.getD t undef))
  (hg2:∀ a t,g (.cell a t)=(do loadVar t (<- asAddr (tmps.getD a undef)))){sz:ResultVar->Option Nat}(hs1:∀ t,sz (.tmp t)=none)(hs2:∀ a t,sz (.cell a t)=if dg P t then some (eN P t) else none) :
  ∀ (rs:List ResultVar)(k:List V->Res)(v:V),nF P rs=true->resK tm H rs (rs.map sz) k=.val v->∃ l xs,k l=.val v/\VRs E l xs/\(rs.mapM g).run P w=.ok xs w
 |[],k,v,_,h=>⟨[],[],h,.nil,by simp⟩
 |.tmp t::r,k,v,ho,h=>by
  simp only[List.map_cons,resK,hs1] at h;obtain⟨l,xs,h1,h2,h3⟩:=mV hwr htr hg1 hg2 hs1 hs2 r _ v ho h;refine⟨_,_,h1,.cons _ _ _ _ (htr t) h2,?_⟩;simp[hg1,h3]
 |.cell a t::r,k,v,ho,h=>by
  obtain⟨ho1,ho2⟩:=bk ho;cases hty:tyOf P t with
  |none=>rw[hty] at ho1;cases ho1
  |some di=>
   obtain⟨d,i⟩:=di;obtain⟨q1,q2,q3,q4⟩:=eu hty;have hagg:dg P t=aggD d:=by unfold dg;rw[q1]
   have hsz:eN P t=i.size:=by unfold eN;rw[q4]
   simp only[List.map_cons,hs2,hagg,hsz] at h;cases hd:aggD d with
   |false=>
    rw[hd] at h;simp only[Bool.false_eq_true,if_false,resK] at h;cases hx:dK (getU tm a) H with
    |val u=>
     rw[hx] at h;simp only at h;obtain⟨x,g1,g2⟩:=cell1_ok hwr q1 hd (htr a) hx;obtain⟨l,xs,h1,h2,h3⟩:=mV hwr htr hg1 hg2 hs1 hs2 r _ v ho2 h;refine⟨_,_,h1,.cons _ _ _ _ g2 h2,?_⟩;rw[List.mapM_cons,hg2];simp only[Sem.run_bind] at g1 ⊢;rw[g1];simp[h3]
    |_=>rw[hx] at h;cases h
   |true=>
    rw[hd] at h;simp only[if_true,resK] at h;cases hx:dL i.size (getU tm a) H with
    |val u=>
     rw[hx] at h;simp only at h;obtain⟨x,g1,g2⟩:=cellN_ok hwr q1 hd q3 (htr a) hx;obtain⟨l,xs,h1,h2,h3⟩:=mV hwr htr hg1 hg2 hs1 hs2 r _ v ho2 h;refine⟨_,_,h1,.cons _ _ _ _ g2 h2,?_⟩;rw[List.mapM_cons,hg2];simp only[Sem.run_bind] at g1 ⊢;rw[g1];simp[h3]
    |_=>rw[hx] at h;cases h
theorem sG {H:T AObj}{nx:Nat}{w:World}(hwr:WR w0 E H nx w){tm:T V}{tmps:Array Value}(htr:TR E tm tmps){f:Nat}{v:V}(h:resV P f tm H=.val v) :
  ∃ fn x,P.funcs[f]? = some fn/\(results fn tmps).run P w=.ok x w/\VR E v x:=by
 unfold resV at h;cases hf:fnOf P f with
 |none=>rw[hf] at h;cases h
 |some a=>
  rw[hf] at h;simp only at h;have hro:=xc hf;obtain⟨fn,body,h1,_,_,h4⟩:=lr hf;subst h4;simp only at h hro;obtain⟨l,xs,g1,g2,g3⟩:=mV (P:=P) hwr htr (g:=fun|.tmp t=>pure (tmps.getD t undef)|.cell a t=>do loadVar t (<- asAddr (tmps.getD a undef))) (fun _=>rfl) (fun _ _=>rfl) (fun _=>rfl) (fun _ _=>rfl) fn.results.toList _ v hro h
  have hres:(results fn tmps).run P w=.ok (if h:xs.toArray.size=1 then xs.toArray[0] else .tuple xs.toArray) w:=by
   unfold results;rw[Array.mapM_eq_mapM_toList];simp only[map_eq_pure_bind,bind_assoc,pure_bind,Sem.run_bind];refine (congrArg (fun r=>Result.andThen r (fun a w'=>Sem.run P (pure (if h:a.toArray.size=1 then a.toArray[0] else Value.tuple a.toArray)) w')) g3).trans ?_;rfl
  refine⟨fn,_,h1,hres,?_⟩;cases g2 with
  |nil=>simp at g1;subst g1;exact .tup _ _ .nil
  |cons a x as xs ha has=>
   cases has with
   |nil=>simp at g1;subst g1;simpa using ha
   |cons b y bs ys hb hbs=>
    simp at g1;subst g1;have:¬ (x::y::ys).toArray.size=1:=by simp
    rw[dif_neg this];exact .tup _ _ (.cons _ _ _ _ ha (.cons _ _ _ _ hb hbs))
theorem qo {m:AMode}{M:FrameMode}(h:iV E m M)(hm:m≠.run):fu m≠.run/\iV E (fu m) (settle M):=by
 cases m with
 |run=>exact absurd rfl hm
 |returning=>cases h;exact⟨fun e=>by simp[fu] at e,rfl⟩
 |panicking ch=>
  obtain⟨es,rfl,hch⟩:=h;cases ch with
  |nil=>cases hch;exact⟨fun e=>by simp[fu] at e,_,rfl,rfl⟩
  |cons vb old=>
   obtain⟨v,bb⟩:=vb;obtain⟨x,t,rfl,hx,hold⟩:=id hch;cases bb with
   |false=>exact⟨fun e=>by simp[fu] at e,_,rfl,hch⟩
   |true=>
    refine⟨fun e=>by simp[fu] at e,?_⟩
    have:∀ {as:List (V×Bool)}{es:List PanicEntry},ChR E as es->es.dropWhile (!·.goexit)=[]:=by
     intro as;induction as with
     |nil=>intro es h;cases h;rfl
     |cons a as ih=>
      intro es h;obtain⟨v,b⟩:=a;obtain⟨x,t,rfl,_,h2⟩:=h;simpa using ih h2
    show settle _=.returning;simp only[settle,this hold]
theorem qp {H:T AObj}{lo hi:Nat}{f:AFrame}{fr:Frame}(h:SR P E H lo hi f fr)(hm:f.mode≠.run):TR E f.tmps fr.tmps:=by
 have:=h.2.2.2.2.2.2;cases hf:f.mode with
 |run=>exact absurd hf hm
 |returning=>rw[hf] at this;exact this
 |panicking _=>rw[hf] at this;exact this
theorem kj {m:AMode}{M:FrameMode}{t:List AItem}{H:T AObj}{nx b lo:Nat}{w:World}(hwr:WR w0 E H nx w)(hgl:∀ g,g<P.globals.size->∃ s,E g=some ⟨g,0,s,undef,noOb,[]⟩)(hb:b<=nx){f:AFrame}{fs:List AFrame}{fr:Frame}{r:List Frame}
  (hlo:lo<=b)(hsr:SR P E H lo b f fr)(hfr:FrsR P cs0 E H lo fs r)(hm:iV E m M)(hmr:m≠.run)(htr:TR E f.tmps fr.tmps\/(f.defers=[]/\∃ ch,m=.panicking ch)) :
  MR P w0 cs0 E m t (jW f fs H nx) { fr with mode:=M } r w:=by
 obtain⟨a1,a2,a3,a4,a5,a6,a7⟩:=hsr;refine⟨hwr,hgl,⟨lo,Nat.le_trans hlo hb,hfr⟩,a1,a2,a3,a4,hm,a6,?_⟩;cases m with
 |run=>exact absurd rfl hmr
 |returning=>
  rcases htr with h|⟨_,ch,h⟩
  ·exact h
  ·cases h
 |panicking ch=>
  rcases htr with h|⟨h,_⟩
  ·exact .inr h
  ·exact .inl h
theorem n8 (hs:Sound P w0 cs0 ih){c:Ctx}{fr:Frame}{cs:List Frame}{w w':World}(hwr:WR w0 E c.H c.nx w')(hgl:∀ g,g<P.globals.size->∃ s,E g=some ⟨g,0,s,undef,noOb,[]⟩){b:Nat}(hb:b<=c.nx)(hfrs:FrsR P cs0 E c.H b c.cs cs)
  {v:V}{x:Value}(hv:VR E v x)(hN:c.kind=.normal->∀ f1 r,cs=f1::r->Go.step P (lone fr cs w)=.next (lone (f1.finish x) r w'))
  (hD:c.kind=.deferred->∀ f1 r,cs=f1::r->Go.step P (lone fr cs w)=.next (lone { f1 with mode:=settle f1.mode } r w')):Fin P w0 cs0 (uj P c v ih) fr cs w:=by
 unfold uj;cases hcc:c.cs with
 |nil=>exact Fin.fail
 |cons f fs=>
  rw[hcc] at hfrs;obtain⟨lo,f1,r,rfl,hlo,hsr,hfr⟩:=hfrs;simp only;cases hk:c.kind with
  |normal=>exact Fin.step (hN hk f1 r rfl) (As hs hwr hgl hb hlo hsr hfr hv)
  |deferred=>
   simp only;cases hm:f.mode with
   |run=>exact Fin.fail
   |returning=>
    have hne:f.mode≠.run:=by rw[hm];intro h;cases h
    obtain⟨s1,s2⟩:=qo hsr.2.2.2.2.1 hne;rw[hm] at s1 s2;exact Fin.step (hD hk f1 r rfl) (hs E _ _ _ _ _ _ (kj hwr hgl hb hlo hsr hfr s2 s1 (.inl (qp hsr hne))))
   |panicking ch=>
    have hne:f.mode≠.run:=by rw[hm];intro h;cases h
    obtain⟨s1,s2⟩:=qo hsr.2.2.2.2.1 hne;rw[hm] at s1 s2;exact Fin.step (hD hk f1 r rfl) (hs E _ _ _ _ _ _ (kj hwr hgl hb hlo hsr hfr s2 s1 (.inl (qp hsr hne))))
  |_=>exact Fin.fail
theorem ko (hs:Sound P w0 cs0 ih){b:Nat}{c:Ctx}{fr:Frame}{cs:List Frame}{w:World}(hc:Cur P w0 cs0 E b c fr cs w)(htr:TR E c.tm fr.tmps){jump:Option Code}(hl:leaving fr.todo=some jump):Fin P w0 cs0 (pV P jump c ih) fr cs w:=by
 unfold pV;have hround:=hc.round;cases hr:c.round with
 |none=>
  rw[hr] at hround;change fr.roundOf=none at hround;simp only
  have key:(jump=none\/jump=some .ret)->Fin P w0 cs0 (ih .returning [] c) fr cs w:=by
   intro hj
   have ht:∃ k,fr.todo=[]\/fr.todo=.code .ret::k:=by
    unfold leaving at hl;split at hl
    ·rename_i e;exact⟨[],.inl e⟩
    ·rename_i k e;exact⟨k,.inr e⟩
    ·split at hl
     ·cases hl;rcases hj with h|h<;>cases h
     ·cases hl
    ·split at hl
     ·cases hl;rcases hj with h|h<;>cases h
     ·cases hl
    ·cases hl
   obtain⟨k,ht⟩:=ht;refine Fin.step (st_ret hc.mode ht hround) ?_;exact hs E _ _ _ _ _ _ ⟨hc.wr,hc.gl,⟨b,hc.ble,hc.frs⟩,hc.fn,hc.kind,by rw[hr];exact hround,hc.defers,rfl,hc.size,htr⟩
  split
  ·exact key (.inl rfl)
  ·exact key (.inr rfl)
  ·exact Fin.fail
 |some l=>
  rw[hr] at hround;obtain⟨p,hp,hro⟩:=hround;simp only;cases hk:c.kind with
  |normal=>
   cases ho:getH c.H l with
   |loop st pd fn tm sz ps assign body d=>
    simp only[dN];have hobj:=hc.wr.objs l p hp;rw[ho] at hobj;obtain⟨tmps,q,h1,h2,h3,h4⟩:=hobj;have hblk:p.blk<w.heap.size:=(hc.wr.own l p hp).1;generalize hLo:Obj.loop { state:=(if jump.isNone then .ready else .done),pending:=jump,fn,tmps,params:=ps.toArray,assign,body,defers:=q.blk }=lo
    have he:(Instr.endRound p.blk jump).run P w=.ok (.bool jump.isNone) { w with heap:=w.heap.setIfInBounds p.blk lo }:=by
     have hg:(getObj p.blk).run P w=.ok (.loop { state:=st,pending:=pd,fn,tmps,params:=ps.toArray,assign,body,defers:=q.blk }) w:=by simp only[getObj,Sem.run,h4]
     simp only[Instr.endRound,Instr.getLoop,Sem.run_bind,hg,Result.andThen_ok,Sem.run_pure];rw[<- hLo];simp only[setObj,Sem.run,h4];rfl
    have hwr':WR w0 E (put .no c.H l (.loop (match (generalizing:=false) jump with|none=>.ready|some _=>.done) jump fn tm sz ps assign body d)) c.nx { w with heap:=w.heap.setIfInBounds p.blk lo }:=by
     refine hc.wr.upd l p hp _ (by rw[ho];intro h;cases h) (by rw[ho];rfl) (by rw[ho];rfl) (by rw[ho];rfl) (by rw[ho];rfl) rfl _ lo (by simp) (fun k hk=>by
      show (w.heap.setIfInBounds p.blk lo)[k]? = _
      rw[Array.getElem?_setIfInBounds_ne (Ne.symm hk)]) (by
      show (w.heap.setIfInBounds p.blk lo)[p.blk]? = _
      rw[Array.getElem?_setIfInBounds_self_of_lt hblk]) rfl rfl rfl ?_
     refine⟨tmps,q,h1,h2,h3,?_⟩;rw[<- hLo];cases jump<;>rfl
    have hkb:bM b E E c.H (put .no c.H l (.loop (match (generalizing:=false) jump with|none=>.ready|some _=>.done) jump fn tm sz ps assign body d)):=fun k _ hE _=>⟨hE,by
     rw[ar,if_neg (fun e=>by subst e;rw[hp] at hE;cases hE)]⟩
    have hh:=n8 hs (c:={ c with H:=put .no c.H l (.loop (match (generalizing:=false) jump with|none=>.ready|some _=>.done) jump fn tm sz ps assign body d) }) (fr:=fr) (w:=w) hwr' hc.gl hc.ble (hc.frs.mono (Env.le.refl E) hkb) (.bool jump.isNone) (fun _ f1 r e=>by
     subst e
     exact st_round hc.mode hl hro he (by rw[hc.kind,hk])) (fun h=>by
     simp only[hk] at h;cases h)
    simp only[hr,hk] at hh;exact hh
   |_=>exact Fin.fail
  |_=>exact Fin.fail
theorem unw_ok (hs:Sound P w0 cs0 ih){m:AMode}(hm:m≠.run){t:List AItem}{c:Ctx}{fr:Frame}{cs:List Frame}{w:World}(h:MR P w0 cs0 E m t c fr cs w):Fin P w0 cs0 (unw P m t c ih) fr cs w:=by
 have hmode:fr.mode≠.run:=by
  have:=h.mode;cases m with
  |run=>exact absurd rfl hm
  |returning=>change fr.mode=_ at this;rw[this];intro h;cases h
  |panicking ch=>obtain⟨es,h1,_⟩:=this;rw[h1];intro h;cases h
 have htr:c.ds≠[]\/m=.returning->TR E c.tm fr.tmps:=by
  intro hor;have:=h.rest;cases m with
  |run=>exact absurd rfl hm
  |returning=>exact this
  |panicking ch=>
   rcases this with h1|h1
   ·rcases hor with h2|h2
    ·exact absurd h1 h2
    ·cases h2
   ·exact h1
 obtain⟨b,hb,hfrs⟩:=h.frs;have hdf:=h.defers;unfold unw;cases hds:c.ds with
 |nil=>
  rw[hds] at hdf;have hd0:fr.defers=[]:=hdf;simp only;cases hcc:c.cs with
  |nil=>
   simp only;intro m' t' c' e;cases e;exact⟨E,fr,cs,w,.refl _ _,h⟩
  |cons f fs=>
   simp only;cases m with
   |run=>exact absurd rfl hm
   |returning=>
    simp only;cases hr:resV P c.fn c.tm c.H with
    |val v=>
     simp only;obtain⟨fn,x,h1,h2,h3⟩:=sG h.wr (htr (.inr rfl)) hr;have hf:P.funcs[fr.fn]? = some fn:=by rw[h.fn];exact h1
     have hrm:fr.mode=.returning:=h.mode;refine n8 hs h.wr h.gl hb hfrs h3 (fun hk f1 r e=>?_) (fun hk f1 r e=>?_)
     ·subst e
      exact An hrm hd0 hf h2 (by rw[h.kind,hk])
     ·subst e
      exact xr hrm hd0 hf h2 (by rw[h.kind,hk])
    |_=>exact Fin.fail
   |panicking chain=>
    simp only;refine Fin.cond (fun hc2=>?_) fun _=>Fin.fail
    simp only[Bool.and_eq_true] at hc2;obtain⟨hz,hfo⟩:=hc2;rw[hcc] at hfrs;obtain⟨lo,f1,r,rfl,hlo,hsr,hfr⟩:=hfrs;obtain⟨fn,hfn⟩:=Option.isSome_iff_exists.1 hfo;have hf:P.funcs[fr.fn]? = some fn:=by rw[h.fn];exact gF P hfn
    obtain⟨es,hes,hch⟩:=h.mode;refine Fin.step (st_raise hes hd0 hf) ?_;have hmode1:=hsr.2.2.2.2.1;have hraise:f1.raise es={ f1 with mode:=raised f1.mode es }:=Frame.raise_mode f1 es;rw[hraise]
    have hmr:raise f.mode chain≠.run/\iV E (raise f.mode chain) (raised f1.mode es):=by
     cases hfm:f.mode with
     |run=>rw[hfm] at hmode1;change f1.mode=_ at hmode1;rw[hmode1];exact⟨fun e=>by simp[raise] at e,_,rfl,hch⟩
     |returning=>rw[hfm] at hmode1;change f1.mode=_ at hmode1;rw[hmode1];exact⟨fun e=>by simp[raise] at e,_,rfl,hch⟩
     |panicking old=>
      rw[hfm] at hmode1;obtain⟨es0,h1,h2⟩:=hmode1;rw[h1];exact⟨fun e=>by simp[raise] at e,_,rfl,hch.append h2⟩
    refine hs E _ _ _ _ _ _ (kj h.wr h.gl hb hlo hsr hfr hmr.2 hmr.1 ?_)
    have hpan:∃ ch,raise f.mode chain=.panicking ch:=by
     unfold raise;split<;>exact⟨_,rfl⟩
    cases hfm:f.mode with
    |returning=>exact .inl (qp hsr (by rw[hfm];intro h;cases h))
    |panicking _=>exact .inl (qp hsr (by rw[hfm];intro h;cases h))
    |run=>
     have h7:=hsr.2.2.2.2.2.2;rw[hfm] at h7;simp only at h7;split at h7
     ·rename_i s rr ops draw k heq
      obtain⟨is,k',b1,b2,b3⟩:=h7;rcases b3 with⟨rfl,o,i,c1,rfl,c3,rfl,c5⟩|⟨rfl,hreg⟩
      ·exact .inl c5
      ·unfold rzOk at hz
       rw[hfm,heq] at hz;cases hfd:f.defers with
       |nil=>exact .inr ⟨rfl,by rw[hfm] at hpan;exact hpan⟩
       |cons _ _=>rw[hfd] at hz;exact .inl (uY hz hreg.1 hreg.2.1 hreg.2.2.2.2.2)
     ·obtain⟨p,k',b1,b2,b3,b4⟩:=h7
      exact .inl b4
     ·exact h7.elim
 |cons d ds=>
  have htr':=htr (.inl (by rw[hds];intro h;cases h));rw[hds] at hdf;obtain⟨D,rd,hD,hdr,hdrs⟩:=hdf;cases d with
  |collected l=>
   simp only;obtain⟨p,hp,rfl⟩:=hdr;cases ho:getH c.H l with
   |defd=>
    simp only[dN];have hobj:=h.wr.objs l p hp;rw[ho] at hobj;change w.heap[p.blk]? = some (.deferred (some [])) at hobj;have hblk:p.blk<w.heap.size:=(h.wr.own l p hp).1
    have he:(Instr.takeDeferred p.blk).run P w=.ok [] { w with heap:=w.heap.setIfInBounds p.blk (.deferred none) }:=by
     have hg:(getObj p.blk).run P w=.ok (.deferred (some [])) w:=by simp only[getObj,Sem.run,hobj]
     simp only[Instr.takeDeferred,Sem.run_bind,hg,Result.andThen_ok];simp only[setObj,Sem.run,hobj];rfl
    refine Fin.step (sA hmode hD he) ?_
    have hwr':WR w0 E (put .no c.H l .no) c.nx { w with heap:=w.heap.setIfInBounds p.blk (.deferred none) }:=by
     refine h.wr.upd l p hp _ (by rw[ho];intro h;cases h) (by rw[ho];rfl) (by rw[ho];rfl) (by rw[ho];rfl) (by rw[ho];rfl) rfl _ (.deferred none) (by simp) (fun k hk=>by
      show (w.heap.setIfInBounds p.blk _)[k]? = _
      rw[Array.getElem?_setIfInBounds_ne (Ne.symm hk)]) (by
      show (w.heap.setIfInBounds p.blk _)[p.blk]? = _
      rw[Array.getElem?_setIfInBounds_self_of_lt hblk]) rfl rfl rfl trivial
    have hkb:bM b E E c.H (put .no c.H l .no):=fun k _ hE _=>⟨hE,by
     rw[ar,if_neg (fun e=>by subst e;rw[hp] at hE;cases hE)]⟩
    refine hs E _ _ _ _ _ _ ⟨hwr',h.gl,⟨b,hb,hfrs.mono (Env.le.refl E) hkb⟩,h.fn,h.kind,h.round,hdrs,h.mode,h.size,?_⟩;cases m with
    |run=>exact absurd rfl hm
    |returning=>exact htr'
    |panicking _=>exact .inr htr'
   |_=>exact Fin.fail
  |call fn captured args=>
   obtain⟨fn',cs',xs,hfn,hcap,hargs,rfl⟩:=hdr;cases fn with
   |func g=>
    simp only[FnR] at hfn;subst hfn;simp only;cases hfo:fnOf P g with
    |none=>unfold cq;rw[hfo];exact Fin.fail
    |some a=>
     have hinv:(invoke (.fn (.func g) cs'.toArray) xs.toArray).run P w=.ok (.enter g (xs++cs').toArray) w:=by
      have:=cw hfo (xs.toArray++cs'.toArray) w;simp only[invoke];rw[this];simp
     refine Fin.step (step_defer hmode hD rfl hinv) ?_
     have hsr:SR P E c.H b c.nx { fn:=c.fn,tmps:=c.tm,size:=c.sz,todo:=t,defers:=ds,mode:=m,kind:=c.kind,round:=c.round } { fr with defers:=rd }:=by
      refine⟨h.fn,h.kind,h.round,hdrs,h.mode,h.size,?_⟩;cases m with
      |run=>exact absurd rfl hm
      |returning=>exact htr'
      |panicking _=>exact htr'
     exact gO hs h.wr h.gl (afs:=_::c.cs) (frs:=_::cs) ⟨b,_,cs,rfl,hb,hsr,hfrs⟩ (hargs.append hcap) .deferred
   |_=>exact Fin.fail
end
end Go.Exo
end

noncomputable section
namespace Go.Exo
variable [Sx] [Dc]
mutual
def V.pls:V->List Nat
 |.ptr l _=>[l]
 |.slice l _ _ _ _=>[l]
 |.map l=>[l]
 |.sym l=>[l]
 |.top l=>[l]
 |.emp l _=>[l]
 |.func (.yield l) a b=>l::(V.plsL a++V.plsL b)
 |.func _ a b=>V.plsL a++V.plsL b
 |.iface _ v=>v.pls
 |.agg cs=>V.plsL cs
 |.tup cs=>V.plsL cs
 |.lst l _=>[l]
 |_=>[]
def V.plsL:List V->List Nat
 |[]=>[]
 |v::r=>v.pls++V.plsL r
end
theorem V.noXL_mem:∀ {vs:List V},V.noXL vs=true->∀ v∈vs,v.noX=true
 |[],_,_,h=>by cases h
 |u::r,h,v,hv=>by
  simp only[V.noXL,Bool.and_eq_true] at h;cases hv with
  |head=>exact h.1
  |tail _ hv=>exact V.noXL_mem h.2 v hv
theorem V.plsL_mem {l:Nat}:∀ {vs:List V},l∈V.plsL vs<->∃ v∈vs,l∈v.pls
 |[]=>by simp[V.plsL]
 |v::r=>by simp[V.plsL,V.plsL_mem (vs:=r)]
section
variable {E E':Env}
mutual
theorem VR.at:∀ {v:V}{x:Value},VR E v x->∀ l∈v.pls,∃ p,E l=some p
 |.bool _,_,_,l,hl=>by simp[V.pls] at hl
 |.int _ _,_,_,l,hl=>by simp[V.pls] at hl
 |.str _ _,_,_,l,hl=>by simp[V.pls] at hl
 |.nilp,_,_,l,hl=>by simp[V.pls] at hl
 |.nils,_,_,l,hl=>by simp[V.pls] at hl
 |.nilm,_,_,l,hl=>by simp[V.pls] at hl
 |.nilf,_,_,l,hl=>by simp[V.pls] at hl
 |.nili,_,_,l,hl=>by simp[V.pls] at hl
 |.bad,_,h,_,_=>by cases h
 |.ptr k _,_,.ptr _ _ p hp,l,hl=>by simp[V.pls] at hl;subst hl;exact⟨p,hp⟩
 |.slice k _ _ _ _,_,.slice _ _ _ _ _ p _ hp _ _ _,l,hl=>by simp[V.pls] at hl;subst hl;exact⟨p,hp⟩
 |.map k,_,.map _ p hp,l,hl=>by simp[V.pls] at hl;subst hl;exact⟨p,hp⟩
 |.sym k,_,.sym _ p _ hp _ _ _,l,hl=>by simp[V.pls] at hl;subst hl;exact⟨p,hp⟩
 |.top k,_,.top _ p _ hp _ _,l,hl=>by simp[V.pls] at hl;subst hl;exact⟨p,hp⟩
 |.emp k _,_,.emp _ _ p _ _ hp _,l,hl=>by simp[V.pls] at hl;subst hl;exact⟨p,hp⟩
 |.lst k _,_,.lst _ p _ _ _ _ _ hp _ _ _ _ _,l,hl=>by simp[V.pls] at hl;subst hl;exact⟨p,hp⟩
 |.x _,_,_,l,hl=>by simp[V.pls] at hl
 |.xa _ _ _,_,_,l,hl=>by simp[V.pls] at hl
 |.junk,_,_,l,hl=>by simp[V.pls] at hl
 |.func f a b,_,.func _ g _ _ c d hf h1 h2,l,hl=>by
  cases f with
  |yield k=>
   simp only[V.pls,List.mem_cons,List.mem_append] at hl;rcases hl with hl|hl|hl
   ·subst hl;obtain⟨p,hp,_⟩:=hf;exact⟨p,hp⟩
   ·exact VRs.at h1 l hl
   ·exact VRs.at h2 l hl
  |func k=>
   simp only[V.pls,List.mem_append] at hl;rcases hl with hl|hl
   ·exact VRs.at h1 l hl
   ·exact VRs.at h2 l hl
  |_=>exact hf.elim
 |.iface t v,_,.iface _ _ x h1,l,hl=>VR.at h1 l (by simpa only[V.pls] using hl)
 |.agg a,_,.agg _ b h1,l,hl=>VRs.at h1 l (by simpa only[V.pls] using hl)
 |.tup a,_,.tup _ b h1,l,hl=>VRs.at h1 l (by simpa only[V.pls] using hl)
theorem VRs.at:∀ {vs:List V}{xs:List Value},VRs E vs xs->∀ l∈V.plsL vs,∃ p,E l=some p
 |[],_,_,l,hl=>by simp[V.plsL] at hl
 |v::vs,_,.cons _ x _ xs h1 h2,l,hl=>by
  simp only[V.plsL,List.mem_append] at hl;rcases hl with hl|hl
  ·exact VR.at h1 l hl
  ·exact VRs.at h2 l hl
end
mutual
theorem VR.move:∀ {v:V}{x:Value},(∀ l∈v.pls,∀ p,E l=some p->E' l=some p)->VR E v x->v.noX=true->VR E' v x
 |.bool _,_,_,.bool b,hn=>.bool b
 |.int _ _,_,_,.int k n,hn=>.int k n
 |.str _ _,_,_,.str l n s h1 h2,hn=>.str l n s h1 h2
 |.nilp,_,_,.nilp,hn=>.nilp
 |.nils,_,_,.nils,hn=>.nils
 |.nilm,_,_,.nilm,hn=>.nilm
 |.nilf,_,_,.nilf,hn=>.nilf
 |.nili,_,_,.nili,hn=>.nili
 |.bad,_,_,h,hn=>by cases h
 |.ptr k o,_,h,.ptr _ _ p hp,hn=>.ptr k o p (h k (by simp[V.pls]) p hp)
 |.slice k o n c e,_,h,.slice _ _ _ _ _ p q hp h1 h2 h3,hn=>.slice k o n c e p q (h k (by simp[V.pls]) p hp) h1 h2 h3
 |.map k,_,h,.map _ p hp,hn=>.map k p (h k (by simp[V.pls]) p hp)
 |.sym k,_,h,.sym _ p x hp h1 h2 h3,hn=>.sym k p x (h k (by simp[V.pls]) p hp) h1 h2 h3
 |.top k,_,h,.top _ p x hp h1 h2,hn=>.top k p x (h k (by simp[V.pls]) p hp) h1 h2
 |.emp k e,_,h,.emp _ _ p o c hp h1,hn=>.emp k e p o c (h k (by simp[V.pls]) p hp) h1
 |.func f a b,_,h,.func _ g _ _ c d hf h1 h2,hn=>by
  simp only[V.noX,Bool.and_eq_true] at hn;cases f with
  |yield k=>
   obtain⟨p,hp,e⟩:=hf;exact .func _ g a b c d ⟨p,h k (by simp[V.pls]) p hp,e⟩ (VRs.move (fun l hl=>h l (by simp[V.pls,hl])) h1 hn.1) (VRs.move (fun l hl=>h l (by simp[V.pls,hl])) h2 hn.2)
  |func k=>exact .func _ g a b c d hf (VRs.move (fun l hl=>h l (by simp[V.pls,hl])) h1 hn.1) (VRs.move (fun l hl=>h l (by simp[V.pls,hl])) h2 hn.2)
  |_=>exact hf.elim
 |.iface t v,_,h,.iface _ _ x h1,hn=>.iface t v x (VR.move (fun l hl=>h l (by simpa only[V.pls] using hl)) h1 (by simpa only[V.noX] using hn))
 |.agg a,_,h,.agg _ b h1,hn=>.agg a b (VRs.move (fun l hl=>h l (by simpa only[V.pls] using hl)) h1 (by simpa only[V.noX] using hn))
 |.tup a,_,h,.tup _ b h1,hn=>.tup a b (VRs.move (fun l hl=>h l (by simpa only[V.pls] using hl)) h1 (by simpa only[V.noX] using hn))
theorem VRs.move:∀ {vs:List V}{xs:List Value},(∀ l∈V.plsL vs,∀ p,E l=some p->E' l=some p)->VRs E vs xs->V.noXL vs=true->VRs E' vs xs
 |[],_,_,.nil,_=>.nil
 |v::vs,_,h,.cons _ x _ xs h1 h2,hn=>by
  simp only[V.noXL,Bool.and_eq_true] at hn;exact .cons v x vs xs (VR.move (fun l hl=>h l (by simp[V.plsL,hl])) h1 hn.1) (VRs.move (fun l hl=>h l (by simp[V.plsL,hl])) h2 hn.2)
end
end
section
variable {P:Program}{w0:Bs}
structure Ext (w w':World):Prop where
 old:∀ b,b<w.heap.size->w'.heap[b]? = w.heap[b]?
 size:w.heap.size<=w'.heap.size
 os:w'.os=w.os
 output:w'.output=w.output
 tape:w'.tape=w.tape
theorem WR.grow {E:Env}{H:T AObj}{nx:Nat}{w w':World}(h:WR w0 E H nx w)(he:Ext w w'):WR w0 E H nx w':=by
 refine⟨fun l p hp=>?_,h.fresh,h.sep,h.cls,fun l p hp=>?_,fun b hb=>?_,Nat.le_trans h.size he.size,he.os.trans h.os,he.output.trans h.output,he.tape.trans h.tape,h.le,fun l p hp b o v hf=>⟨(bG (he.old b (fA (h.dat l p hp b o v hf).1))).trans (h.dat l p hp b o v hf).1,(h.dat l p hp b o v hf).2⟩,h.dec,h.fzo⟩
 ·rw[he.old _ (h.own l p hp).1];exact h.objs l p hp
 ·have:=h.own l p hp
  exact⟨Nat.lt_of_lt_of_le this.1 he.size,this.2⟩
 ·rw[he.old b (h.lt_old hb)];exact h.old b hb
structure Gd0 (k:Nat)(G:World->Prop):Prop where
 keep:∀ w w',(∀ b,b<k->w'.heap[b]? = w.heap[b]?)->G w->G w'
 size:∀ w,G w->k<=w.heap.size
class Tb where
 tab:Option (Nat×(Nat->List Cl->Cl))
variable [Tb]
def Env.okT (E:Env):Prop:=∀ pl fn,Tb.tab=some (pl,fn)->∃ p,E pl=some p/\p.ob.fn=fn
theorem Env.okT.mono {E E':Env}(h:E.okT)(hle:E.le E'):E'.okT:=fun pl fn ht=>by
 obtain⟨p,h1,h2⟩:=h pl fn ht;exact⟨p,hle _ _ h1,h2⟩
def GB (k:Nat)(G:World->Prop)(b:Bs):Prop:=(∀ i,i<k->b.old i)/\G b.w/\b.env.okT
theorem GB.at {k:Nat}{G:World->Prop}(hG:Gd0 k G)(h:GB k G w0){E:Env}{H:T AObj}{nx:Nat}{w:World}(hw:WR w0 E H nx w):G w:=
 hG.keep w0.w w (fun b hb=>hw.old b (h.1 b hb)) h.2.1
mutual
theorem VR.ofFine {E E':Env}:∀ {v:V}{x:Value},v.fine=true->VR E v x->VR E' v x
 |_,_,_,.bool b=>.bool b
 |_,_,_,.int k n=>.int k n
 |_,_,_,.str l n s h1 h2=>.str l n s h1 h2
 |_,_,_,.nilp=>.nilp
 |_,_,_,.nils=>.nils
 |_,_,_,.nilm=>.nilm
 |_,_,_,.nilf=>.nilf
 |_,_,_,.nili=>.nili
 |.ptr _ _,_,h,_=>by simp[V.fine] at h
 |.slice _ _ _ _ _,_,h,_=>by simp[V.fine] at h
 |.map _,_,h,_=>by simp[V.fine] at h
 |.sym _,_,h,_=>by simp[V.fine] at h
 |.func f a b,_,h,.func _ g _ _ c d hf h1 h2=>by
  cases f with
  |func k=>
   simp only[V.fine,Bool.and_eq_true] at h;exact .func _ g a b c d hf (VRs.ofFine h.1 h1) (VRs.ofFine h.2 h2)
  |_=>simp[V.fine] at h
 |.iface t v,_,h,.iface _ _ x h1=>.iface t v x (VR.ofFine (by simpa only[V.fine] using h) h1)
 |.agg a,_,h,.agg _ b h1=>.agg a b (VRs.ofFine (by simpa only[V.fine] using h) h1)
 |.tup a,_,h,.tup _ b h1=>.tup a b (VRs.ofFine (by simpa only[V.fine] using h) h1)
theorem VRs.ofFine {E E':Env}:∀ {vs:List V}{xs:List Value},V.fineL vs=true->VRs E vs xs->VRs E' vs xs
 |_,_,_,.nil=>.nil
 |v::vs,_,h,.cons _ x _ xs h1 h2=>by
  simp only[V.fineL,Bool.and_eq_true] at h;exact .cons v x vs xs (VR.ofFine h.1 h1) (VRs.ofFine h.2 h2)
end
theorem Au {E:Env}{v:V}{x:Value}(h:VR E v x):panV v=none:=by
 unfold panV;split
 ·cases h with
  |tup _ _ h1=>cases h1 with|cons _ _ _ _ h2 _=>cases h2
 ·rfl
def dV (w0:Bs)(E:Env)(H:T AObj)(nx:Nat)(v:V)(H':T AObj)(nx':Nat)(e:Ending)(w':World):Prop:=
 match panV v with
 |none=>∃ x E',e=.returned x/\E.le E'/\VR E' v x/\WR w0 E' H' nx' w'/\nx<=nx'/\Keep E E' H H' nx
 |some u=>∃ x E',e=.panicked [{ v:=x,recovered:=false }]/\E.le E'/\VR E' u x/\WR w0 E' H' nx' w'/\nx<=nx'/\Keep E E' H H' nx
theorem dV.ret {w0:Bs}{E:Env}{H:T AObj}{nx:Nat}{v:V}{H':T AObj}{nx':Nat}{e:Ending}{w':World}
  (h:∃ x E',e=.returned x/\E.le E'/\VR E' v x/\WR w0 E' H' nx' w'/\nx<=nx'/\Keep E E' H H' nx):dV w0 E H nx v H' nx' e w':=by
 obtain⟨x,E',h1,h2,h3,h4⟩:=h;unfold dV;rw[Au h3];exact⟨x,E',h1,h2,h3,h4⟩
def HookOk (P:Program)(w0:Bs)(hk:Hook):Prop:=
 ∀ E H nx w f args xs v H' nx',WR w0 E H nx w->(∀ g,g<P.globals.size->∃ s,E g=some ⟨g,0,s,undef,noOb,[]⟩)->VRs E args xs->hk f args H nx=some (v,H',nx')->
  Calls P f xs.toArray w (dV w0 E H nx v H' nx')
def aq (P:Program)(k:Nat)(G:World->Prop)(hk:Hook):Prop:=∀ b,GB k G b->HookOk P b hk
end
end Go.Exo
end

noncomputable section
namespace Go.Exo
variable [Sx] [Dc] [Tb]
theorem sel_ro {A B C D A' B' C' D':Nat->AObj}(ha:∀ i,A' i=roO (A i))(hb:∀ i,B' i=roO (B i))(hc:∀ i,C' i=roO (C i))(hd:∀ i,D' i=roO (D i)):∀ m i,sel A' B' C' D' m i=roO (sel A B C D m i)
 |0,i=>ha i
 |1,i=>hb i
 |2,i=>hc i
 |_+3,i=>hd i
theorem n9 (H:T AObj):∀ l,getH (roT H) l=roO (getH H l):=by
 induction H with
 |e=>intro l;rfl
 |n v a b c d iha ihb ihc ihd=>
  intro l;cases l with
  |zero=>rfl
  |succ j=>
   rw[rC,rC];show (T.n (roO v) (roT a) (roT b) (roT c) (roT d)).get .no (j+1)=_;rw[ln,ln];exact sel_ro iha ihb ihc ihd _ _
theorem Av (o:AObj):aw (roO o)=aw o:=by cases o<;>rfl
theorem Aw (o:AObj):iU (roO o)=iU o:=by cases o<;>rfl
theorem sH (o:AObj)(h:a8 o=false):roO o=.no\/isRo (roO o)=true:=by cases o<;>first|exact .inl rfl|exact .inr rfl|cases h
theorem cA {o:AObj}(h:a8 o=true):∃ a b c,o=.cls a b c:=by cases o<;>first|exact⟨_,_,_,rfl⟩|(exact absurd h (by decide))|cases h
theorem OR.ro {E:Env}{H:T AObj}{l:Nat}{p:Pl}{ob:Option Obj}{o:AObj}(h:OR E H l p ob o):OR E H l p ob (roO o):=by
 cases o<;>first|exact h|trivial
section
variable {P:Program}{w0:Bs}{E:Env}{H:T AObj}{nx:Nat}{w w':World}
def Bs.round (w:World)(E:Env)(H:T AObj)(E2:Env):Bs:=⟨w,fun b=>b<w.heap.size/\∀ l p,E l=some p->a8 (getH H l)=true->p.blk≠b,fun _ h=>h.1,E2⟩
theorem WR.noCls (h:WR w0 E H nx w){l l1:Nat}{p p1:Pl}(hl:E l=some p)(hl1:E l1=some p1)(hb:p.blk=p1.blk)(hc:a8 (getH H l1)=true)(hn:getH H l≠.no)(hne:a8 (getH H l)=false):False:=by
 have hll:l≠l1:=fun e=>by subst e;rw[hc] at hne;cases hne
 have h0:aw (getH H l1)=0:=by obtain⟨a,b,c,e⟩:=cA hc;rw[e];rfl
 have h1:isRo (getH H l1)=false:=by obtain⟨a,b,c,e⟩:=cA hc;rw[e];rfl
 rcases h.sep l l1 p p1 hll hl hl1 hb with (h2|h2|h2)|h2
 ·exact hn h2
 ·rw[h2] at hc;cases hc
 ·rw[h0] at h2;exact h2.1 h2.2.1
 ·rw[h1] at h2;cases h2.2
theorem WR.round (h:WR w0 E H nx w){r m:Nat}{pr pm:Pl}{clock b since:Nat}{seen:Array Nat}
  (hr:E r=some pr)(hrno:getH H r=.no)(hrsep:∀ l p,l≠r->E l=some p->p.blk=pr.blk->getH H l=.no)(hrb:pr.base=0)
  (hm:E m=some pm)(hit:w.heap[pr.blk]? = some (.mapIter (some pm.blk) since seen clock))(hbk:seen.back? = some b)
  {E2:Env}{L2:Nat}(hlt:∀ l,l<nx->E2 l=E l)(hnew:∀ l p,nx<=l->E2 l=some p->p.blk<w.heap.size)(hend:∀ l,L2<=l->E2 l=none)(hL2:nx<=L2)(hfz:∀ l p,nx<=l->E2 l=some p->∀ b o,p.ob.fz b o=none) :
  WR (Bs.round w E H E2) E2 (put .no (roT H) r (.mit m b clock)) L2 w:=by
 have hrn:r<nx:=Nat.lt_of_not_le fun hh=>by rw[(h.fresh r hh).1] at hr;cases hr
 have hmn:m<nx:=Nat.lt_of_not_le fun hh=>by rw[(h.fresh m hh).1] at hm;cases hm
 have hself:getH (put .no (roT H) r (.mit m b clock)) r=.mit m b clock:=by rw[ar,if_pos rfl]
 have hget:∀ l,l≠r->getH (put .no (roT H) r (.mit m b clock)) l=roO (getH H l):=fun l e=>by rw[ar,if_neg e,n9]
 have hle:E.le E2:=fun l p hp=>by
  have:l<nx:=Nat.lt_of_not_le fun hh=>by rw[(h.fresh l hh).1] at hp;cases hp
  rw[hlt l this];exact hp
 have hhi:∀ l,nx<=l->getH (put .no (roT H) r (.mit m b clock)) l=.no:=fun l hl=>by rw[hget l (by omega),(h.fresh l hl).2];rfl
 have hcn:∀ l,aw (getH H l)≠0->aw (getH H l)≠r/\aw (getH H l)<nx/\∃ cur lim mk,getH H (aw (getH H l))=.cls cur lim mk:=fun l hc0=>by
  obtain⟨cur,lim,mk,h1,_,_⟩:=h.cls l hc0;refine⟨fun e=>?_,Nat.lt_of_not_le fun hh=>?_,cur,lim,mk,h1⟩
  ·rw[e,hrno] at h1;cases h1
  ·rw[(h.fresh _ hh).2] at h1;cases h1
 have hok:∀ k pos,okAt (put .no (roT H) r (.mit m b clock)) k (aw (getH H k)) pos->okAt H k (aw (getH H k)) pos:=fun k pos ho=>ho.same fun hc0=>by
  obtain⟨h1,_,cur,lim,mk,h3⟩:=hcn k hc0;rw[hget _ h1,h3];rfl
 refine⟨fun l p hl=>?_,fun l hl=>⟨hend l hl,hhi l (by omega)⟩,fun l l' p p' hne hl hl' hb=>?_,fun l hc0=>?_,fun l p hl=>?_,fun _ _=>rfl,am _,rfl,rfl,rfl,Env.le.refl _,?dat,fun t b hd=>⟨X.ok_mono hle (h.decE t b hd).1,by show Cl.hd (t.den E2)=_;rw[X.den_mono hle (h.decE t b hd).1];exact (h.decE t b hd).2⟩,fun l p hl b o v hf _=>⟨l,p,hl,hf⟩⟩
 case dat=>
  intro l p hl bb o v hf;by_cases e:nx<=l
  ·rw[hfz l p e hl] at hf;cases hf
  rw[hlt l (by omega)] at hl;obtain⟨h1,h2⟩:=h.dat l p hl bb o v hf;refine⟨h1,fun l' p' hl' hb'=>?_⟩;by_cases e':nx<=l'
  ·rw[hhi l' e'];exact .inl rfl
  by_cases e2:l'=r
  ·subst e2;rw[hself];exact .inr rfl
  rw[hlt l' (by omega)] at hl';rw[hget l' e2];have h3:=h2 l' p' hl' hb';cases hcc:a8 (getH H l') with
  |true=>obtain⟨a,b',c,e'⟩:=cA hcc;rw[e'] at h3;rcases h3 with h3|h3<;>cases h3
  |false=>
   rcases sH _ hcc with g|g
   ·rw[g];exact .inl rfl
   ·cases hro:roO (getH H l')<;>rw[hro] at g<;>first|exact .inr g|(cases g;done)
 ·by_cases e:nx<=l
  ·rw[hhi l e];trivial
  ·rw[hlt l (by omega)] at hl
   by_cases e2:l=r
   ·subst e2
    rw[hr] at hl;cases hl;rw[hself];exact⟨pm,since,seen,hle _ _ hm,hit,hbk,hrb⟩
   ·rw[hget l e2]
    exact (OR.trans (h.objs l p hl) hle (hok l)).ro
 ·by_cases e:nx<=l
  ·exact .inl (.inl (hhi l e))
  by_cases e':nx<=l'
  ·exact .inl (.inr (.inl (hhi l' e')))
  rw[hlt l (by omega)] at hl;rw[hlt l' (by omega)] at hl';by_cases e2:l=r
  ·subst e2
   rw[hr] at hl;cases hl;exact .inl (.inr (.inl (by rw[hget l' (Ne.symm hne),hrsep l' p' (Ne.symm hne) hl' hb.symm];rfl)))
  by_cases e3:l'=r
  ·subst e3
   rw[hr] at hl';cases hl';exact .inl (.inl (by rw[hget l hne,hrsep l p hne hl hb];rfl))
  rw[hget l e2,hget l' e3];by_cases n1:getH H l=.no
  ·exact .inl (.inl (by rw[n1];rfl))
  by_cases n2:getH H l'=.no
  ·exact .inl (.inr (.inl (by rw[n2];rfl)))
  have c1:a8 (getH H l)=false:=by
   cases hcc:a8 (getH H l) with
   |false=>rfl
   |true=>
    cases hcc':a8 (getH H l') with
    |false=>exact (h.noCls hl' hl hb.symm hcc n2 hcc').elim
    |true=>
     exfalso;have q1:aw (getH H l)=0/\isRo (getH H l)=false:=by obtain⟨a,b,c,e⟩:=cA hcc;rw[e];exact⟨rfl,rfl⟩
     rcases h.sep l l' p p' hne hl hl' hb with (h2|h2|h2)|h2
     ·exact n1 h2
     ·exact n2 h2
     ·exact h2.1 q1.1
     ·rw[q1.2] at h2;cases h2.1
  have c2:a8 (getH H l')=false:=by
   cases hcc:a8 (getH H l') with
   |false=>rfl
   |true=>exact (h.noCls hl hl' hb hcc n1 c1).elim
  rcases sH _ c1 with g1|g1
  ·exact .inl (.inl g1)
  rcases sH _ c2 with g2|g2
  ·exact .inl (.inr (.inl g2))
  exact .inr ⟨g1,g2⟩
 ·by_cases e2:l=r
  ·subst e2;rw[hself] at hc0;exact absurd rfl hc0
  rw[hget l e2,Av] at hc0 ⊢;rw[Aw];obtain⟨cur,lim,mk,h1,h2,h3⟩:=h.cls l hc0;obtain⟨g1,g2,_⟩:=hcn l hc0;exact⟨cur,lim,mk,by rw[hget _ g1,h1];rfl,h2,by rw[hlt _ g2];exact h3⟩
 ·by_cases e:nx<=l
  ·exact⟨hnew l p e hl,.inl (hhi l e)⟩
  rw[hlt l (by omega)] at hl;refine⟨(h.own l p hl).1,?_⟩;by_cases e2:l=r
  ·subst e2;rw[hself];exact .inr (.inl rfl)
  rw[hget l e2];cases hcc:a8 (getH H l) with
  |true=>exact .inr (.inr fun ho=>ho.2 l p hl hcc rfl)
  |false=>
   rcases sH _ hcc with g|g
   ·exact .inl g
   ·exact .inr (.inl g)
theorem WR.back (h:WR w0 E H nx w){E2 E':Env}{H':T AObj}{nx':Nat}(h2:WR (Bs.round w E H E2) E' H' nx' w'):WR w0 E H nx w':=by
 refine⟨fun l p hl=>?_,h.fresh,h.sep,h.cls,fun l p hl=>⟨Nat.lt_of_lt_of_le (h.own l p hl).1 h2.size,(h.own l p hl).2⟩,fun b hb=>?_,Nat.le_trans h.size h2.size,h2.os.trans h.os,h2.output.trans h.output,h2.tape.trans h.tape,h.le,fun l p hl b o v hf=>⟨?dat,(h.dat l p hl b o v hf).2⟩,h.dec,h.fzo⟩
 case dat=>
  obtain⟨h3,h4⟩:=h.dat l p hl b o v hf
  exact (bG (h2.old b ⟨fA h3,fun l1 p1 hl1 hc1 e=>by
   have h5:=h4 l1 p1 hl1 e
   obtain⟨a,b',c,e'⟩:=cA hc1
   rw[e'] at h5;rcases h5 with h5|h5<;>cases h5⟩)).trans h3
 ·by_cases n1:getH H l=.no
  ·rw[n1];trivial
  cases hcc:a8 (getH H l) with
  |true=>obtain⟨a,b,c,e⟩:=cA hcc;rw[e];trivial
  |false=>
   have hold:(Bs.round w E H E2).old p.blk:=⟨(h.own l p hl).1,fun l1 p1 hl1 hc1 e=>h.noCls hl hl1 e.symm hc1 n1 hcc⟩
   have:=h2.old _ hold;rw[this];exact h.objs l p hl
 ·rw[h2.old b ⟨h.lt_old hb,fun l p hl hc e=>by
   rcases (h.own l p hl).2 with g|g|g
   ·rw[g] at hc;cases hc
   ·obtain⟨a,b',c,e'⟩:=cA hc;rw[e'] at g;cases g
   ·rw[e] at g;exact g hb⟩]
  exact h.old b hb
theorem WR.turn (h:WR w0 E H nx w){r:Nat}{pr:Pl}(hr:E r=some pr)(hrno:getH H r=.no)(hrsep:∀ l p,l≠r->E l=some p->p.blk=pr.blk->getH H l=.no)(hrold:¬ w0.old pr.blk)(hz:∀ l p b o v,E l=some p->p.ob.fz b o=some v->b≠pr.blk)
  (hoth:∀ k,k≠pr.blk->w'.heap[k]? = w.heap[k]?)(hsz:w'.heap.size=w.heap.size)(hos:w'.os=w.os)(hout:w'.output=w.output)(htape:w'.tape=w.tape):WR w0 E H nx w':=by
 refine⟨fun l p hl=>?_,h.fresh,h.sep,h.cls,fun l p hl=>by rw[hsz];exact h.own l p hl,fun b hb=>?_,by rw[hsz];exact h.size,hos.trans h.os,hout.trans h.output,htape.trans h.tape,h.le,fun l p hl b o v hf=>⟨(bG (hoth b (hz l p b o v hl hf))).trans (h.dat l p hl b o v hf).1,(h.dat l p hl b o v hf).2⟩,h.dec,h.fzo⟩
 ·by_cases e:p.blk=pr.blk
  ·by_cases e2:l=r
   ·subst e2;rw[hrno];trivial
   ·rw[hrsep l p e2 hl e];trivial
  ·rw[hoth _ e];exact h.objs l p hl
 ·rw[hoth b fun e=>hrold (e ▸ hb)];exact h.old b hb
end
end Go.Exo
end

noncomputable section
namespace Go.Exo
variable [Sx] [Dc] [Tb]
theorem pP {b rest:Code}{t d1 d2:Nat}(h:dE b=some (t,d1,d2,rest)) :
  ∃ id ops o1 o2,b=.seq (.region id ops false) rest/\ops.toList=[o1,o2]/\o1.op=.next (.tmp t) false/\o1.dst=some d1/\o1.guard=none/\o2.op=.extract (.tmp d1) 0/\o2.dst=some d2/\o2.guard=none:=by
 unfold dE at h;split at h
 ·rename_i id ops rest'
  split at h
  ·rename_i o1 o2 ho
   split at h
   ·rename_i t' e1 d e2 a1 a2 a3 a4 a5 a6
    cases hb:Nat.beq d e1 with
    |false=>rw[hb] at h;cases h
    |true=>
     rw[hb] at h;simp only[cond_true,Option.some.injEq,Prod.mk.injEq] at h;obtain⟨rfl,rfl,rfl,rfl⟩:=h;have e:=aa hb;subst e;exact⟨id,ops,o1,o2,rfl,ho,a1,a2,a3,a4,a5,a6⟩
   ·cases h
  ·cases h
 ·cases h
theorem gS {x:Nat}:∀ {l:List Nat},memN x l=true<->x∈l
 |[]=>by simp[memN]
 |y::r=>by
  simp only[memN];cases hb:Nat.beq x y with
  |true=>simp[aa hb]
  |false=>
   have:x≠y:=fun e=>by subst e;simp at hb
   simp[gS (l:=r),this]
theorem uZ:∀ (l:List Nat),(jY l).Nodup/\∀ x,x∈jY l<->x∈l
 |[]=>⟨List.nodup_nil,fun x=>Iff.rfl⟩
 |y::r=>by
  obtain⟨h1,h2⟩:=uZ r;simp only[jY];cases hm:memN y r with
  |true=>
   refine⟨h1,fun x=>?_⟩;have:=gS.1 hm;simp only[cond_true,h2,List.mem_cons];exact⟨.inr,fun h=>h.elim (fun e=>e ▸ this) id⟩
  |false=>
   have:y∉jY r:=fun h=>by rw[h2] at h;rw[gS.2 h] at hm;cases hm
   exact⟨List.nodup_cons.2 ⟨this,h1⟩,fun x=>by simp[h2]⟩
def tops:List Nat->Nat->T V->T V
 |[],_,tm=>tm
 |d::ds,l,tm=>tops ds (l+1) (put au tm d (.top l))
theorem u0 {β:Type}:∀ (ds:List Nat)(l:Nat)(tm:T V)(k:T V->β),topsK ds l tm k=k (tops ds l tm)
 |[],_,_,_=>rfl
 |d::ds,l,tm,k=>by
  simp only[topsK,tops];rw[bO,u0]
theorem dW:∀ (ds:List Nat)(l:Nat)(tm:T V)(i:Nat),i∉ds->getU (tops ds l tm) i=getU tm i
 |[],_,_,_,_=>rfl
 |d::ds,l,tm,i,h=>by
  simp only[tops];rw[dW ds (l+1) _ i (fun hh=>h (.tail _ hh)),aD,if_neg (fun e=>h (by rw[e];exact aj))]
theorem yO:∀ (ds:List Nat)(l:Nat)(tm:T V)(j d:Nat),ds.Nodup->ds[j]? = some d->getU (tops ds l tm) d=.top (l+j)
 |[],_,_,_,_,_,h=>by simp at h
 |e::ds,l,tm,j,d,hn,h=>by
  obtain⟨h1,h2⟩:=List.nodup_cons.1 hn;simp only[tops];cases j with
  |zero=>
   simp at h;subst h;rw[dW ds (l+1) _ _ h1,aD,if_pos rfl,Nat.add_zero]
  |succ j=>
   have h':ds[j]? = some d:=by simpa using h
   have:=yO ds (l+1) (put au tm e (.top l)) j d h2 h';rw[this];congr 1;omega
theorem jy {tm:T V}:∀ {ds:List Nat},fv tm ds=true->∀ d∈ds,(getU tm d).lone=true
 |[],_,d,hd=>by cases hd
 |e::ds,h,d,hd=>by
  simp only[fv] at h;cases hc:(getU tm e).lone with
  |false=>rw[hc] at h;cases h
  |true=>
   rw[hc] at h;cases hd with
   |head=>exact hc
   |tail _ hd=>exact jy h d hd
theorem oa {ds:List Nat}{a b:T V}:∀ {n:Nat},im ds a b n=true->∀ i,i<n->i∉ds->getU a i=getU b i/\(getU a i).noX=true
 |0,_,i,hi,_=>by omega
 |n+1,h,i,hi,hd=>by
  simp only[im] at h;cases hc:(memN n ds || (V.eqB (getU a n) (getU b n)&&(getU a n).noX)) with
  |false=>rw[hc] at h;cases h
  |true=>
   rw[hc] at h;by_cases e:i=n
   ·subst e
    rcases Bool.or_eq_true _ _ ▸ hc with h1|h1
    ·exact absurd (gS.1 h1) hd
    ·simp only[Bool.and_eq_true] at h1;exact⟨fG h1.1,h1.2⟩
   ·exact oa h i (by omega) hd
theorem qr {b:Nat}:∀ {l:List (V×V×Nat)},jj.bornNe b l=true->∀ e∈l,e.2.2≠b
 |[],_,e,he=>by cases he
 |(_,_,c)::r,h,e,he=>by
  simp only[jj.bornNe] at h;cases hb:Nat.beq b c with
  |true=>rw[hb] at h;cases h
  |false=>
   rw[hb] at h;cases he with
   |head=>exact fun e=>by simp at e;subst e;simp at hb
   |tail _ he=>exact qr h e he
theorem qs {since:Nat}:∀ {l:List (V×V×Nat)},jj since l=true->(∀ e∈l,e.2.2<since)/\∀ e∈l,∀ e'∈l,e.2.2=e'.2.2->e=e'
 |[],_=>⟨(fun e he=>by cases he),fun e he=>by cases he⟩
 |(k,v,b)::r,h=>by
  simp only[jj] at h;cases hc:(Nat.ble (Nat.succ b) since&&jj.bornNe b r) with
  |false=>rw[hc] at h;cases h
  |true=>
   rw[hc] at h;simp only[Bool.and_eq_true] at hc;obtain⟨h1,h2⟩:=qs h;have hn:=qr hc.2;refine⟨fun e he=>?_,fun e he e' he' hb=>?_⟩
   ·cases he with
    |head=>exact ab hc.1
    |tail _ he=>exact h1 e he
   ·cases he with
    |head=>cases he' with
     |head=>rfl
     |tail _ he'=>exact absurd hb.symm (hn e' he')
    |tail _ he=>cases he' with
     |head=>exact absurd hb (hn e he)
     |tail _ he'=>exact h2 e he e' he' hb
def TInv (res:V×V×Nat->List V)(l j:Nat)(pre:List (V×V×Nat)):Turn->Prop
 |.no=>∀ e∈pre,(res e)[j]? = some (.top (l+j))
 |.one v=>v.fine=true/\∃ e∈pre,(res e)[j]? = some v/\∀ e'∈pre,e'.2.2≠e.2.2->(res e')[j]? = some (.top (l+j))
 |.many=>True
theorem qt:∀ (vs:List V)(ts:List Turn)(l j:Nat)(v:V)(t:Turn),vs[j]? = some v->ts[j]? = some t->(nK l vs ts)[j]? = some (turnV (l+j) v t)
 |[],_,_,_,_,_,h,_=>by simp at h
 |_::_,[],_,_,_,_,_,h=>by simp at h
 |v0::vs,t0::ts,l,j,v,t,hv,ht=>by
  simp only[nK];cases j with
  |zero=>simp at hv ht;subst hv ht;rfl
  |succ j=>
   have:=qt vs ts (l+1) j v t (by simpa using hv) (by simpa using ht);simp only[List.getElem?_cons_succ];rw[show Nat.succ l=l+1 from rfl,this];congr 2;omega
theorem fI:∀ (vs:List V)(ts:List Turn)(l:Nat),vs.length=ts.length->(nK l vs ts).length=ts.length
 |[],[],_,_=>rfl
 |[],_::_,_,h=>by simp at h
 |_::_,[],_,h=>by simp at h
 |v::vs,t::ts,l,h=>by simp only[nK,List.length_cons];rw[fI vs ts _ (by simpa using h)]
theorem turnV_ok {res:V×V×Nat->List V}{l j:Nat}{pre:List (V×V×Nat)}{e0:V×V×Nat}{v:V}{t:Turn}(h:TInv res l j pre t)(hv:(res e0)[j]? = some v):TInv res l j (pre++[e0]) (turnV (l+j) v t):=by
 have hsplit:∀ e,e∈pre++[e0]->e∈pre\/e=e0:=fun e he=>by simpa using he
 cases t with
 |no=>
  have other:∀ u,v=u->(∀ l',u≠.top l')->TInv res l j (pre++[e0]) (cond u.fine (.one u) .many):=fun u e hu=>by
   cases hf:u.fine with
   |false=>trivial
   |true=>exact⟨hf,e0,by simp,by rw[hv,e],fun e' he' hne=>(hsplit e' he').elim (h e') fun e=>absurd (by rw[e]) hne⟩
  cases v with
  |top l'=>
   show TInv _ _ _ _ (cond (Nat.beq (l+j) l') .no .many);cases hb:Nat.beq (l+j) l' with
   |false=>trivial
   |true=>
    have e:=aa hb;subst e;exact fun e he=>(hsplit e he).elim (h e) fun e'=>by rw[e'];exact hv
  |_=>exact other _ rfl (fun _ e=>by cases e)
 |one u=>
  obtain⟨hf,e1,he1,hr1,ho⟩:=h;cases v with
  |top l'=>
   show TInv _ _ _ _ (cond (Nat.beq (l+j) l') (.one u) .many);cases hb:Nat.beq (l+j) l' with
   |false=>trivial
   |true=>
    have e:=aa hb;subst e;exact⟨hf,e1,by simp[he1],hr1,fun e' he' hne=>(hsplit e' he').elim (fun hh=>ho e' hh hne) fun e=>by rw[e];exact hv⟩
  |_=>trivial
 |many=>trivial
section
variable {rest:Code}{c:Ctx}{H:T AObj}{r m clock d1 d2 L:Nat}{D:List Nat}{tm:T V}{ih:Ih}
theorem qu:∀ {es:List (V×V×Nat)}{ts ts':List Turn}{pre:List (V×V×Nat)},lm rest c H r m clock d1 d2 L D tm ih es ts=some ts'->
  (∀ e vs,ct rest c H r m clock d1 d2 L D tm ih e=some vs->vs.length=D.length)->ts.length=D.length->
  (∀ j t,ts[j]? = some t->TInv (fun e=>(ct rest c H r m clock d1 d2 L D tm ih e).getD []) c.nx j pre t)->
  (∀ e∈es,∃ vs,ct rest c H r m clock d1 d2 L D tm ih e=some vs)/\ts'.length=D.length/\
  ∀ j t,ts'[j]? = some t->TInv (fun e=>(ct rest c H r m clock d1 d2 L D tm ih e).getD []) c.nx j (pre++es) t
 |[],ts,ts',pre,h,_,hl,hi=>by
  simp only[lm,Option.some.injEq] at h;subst h;exact⟨(fun e he=>by cases he),hl,by simpa using hi⟩
 |e::es,ts,ts',pre,h,hlen,hl,hi=>by
  simp only[lm] at h;cases hr:ct rest c H r m clock d1 d2 L D tm ih e with
  |none=>rw[hr] at h;cases h
  |some vs=>
   rw[hr] at h;have hvl:=hlen e vs hr
   obtain⟨h1,h2,h3⟩:=qu (pre:=pre++[e]) h hlen (by rw[fI _ _ _ (by rw[hvl,hl]),hl]) fun j t ht=>by
    have hj:j<(nK c.nx vs ts).length:=(ae.1 ht).1;rw[fI _ _ _ (by rw[hvl,hl])] at hj;obtain⟨v,hv⟩:∃ v,vs[j]? = some v:=⟨_,ah (by omega)⟩
    obtain⟨t0,ht0⟩:∃ t0,ts[j]? = some t0:=⟨_,ah hj⟩
    rw[qt vs ts c.nx j v t0 hv ht0] at ht;cases ht;exact turnV_ok (hi j t0 ht0) (by rw[hr];exact hv)
   refine⟨fun e' he'=>?_,h2,fun j t ht=>by simpa using h3 j t ht⟩;cases he' with
   |head=>exact⟨vs,hr⟩
   |tail _ he'=>exact h1 e' he'
end
def dn:List Nat->List Turn->Nat->T V->T V
 |d::ds,t::ts,l,tm=>dn ds ts (l+1) (match (generalizing:=false) t with|.no=>tm|.one v=>put au tm d v|.many=>put au tm d (.top l))
 |_,_,_,tm=>tm
theorem qv {β:Type}:∀ (ds:List Nat)(ts:List Turn)(l:Nat)(tm:T V)(k:T V->β),gC ds ts l tm k=k (dn ds ts l tm)
 |[],_,_,_,_=>by simp[gC,dn]
 |_::_,[],_,_,_=>by simp[gC,dn]
 |d::ds,t::ts,l,tm,k=>by
  simp only[gC,dn];cases t<;>simp only[bO]<;>exact qv ds ts (l+1) _ k
theorem fJ:∀ (ds:List Nat)(ts:List Turn)(l:Nat)(tm:T V)(i:Nat),i∉ds->getU (dn ds ts l tm) i=getU tm i
 |[],_,_,_,_,_=>by simp[dn]
 |_::_,[],_,_,_,_=>by simp[dn]
 |d::ds,t::ts,l,tm,i,h=>by
  simp only[dn];have hd:i≠d:=fun e=>h (by rw[e];exact aj)
  rw[fJ ds ts (l+1) _ i (fun hh=>h (.tail _ hh))];cases t<;>simp only[aD,if_neg hd]
theorem qw:∀ (ds:List Nat)(ts:List Turn)(l:Nat)(tm:T V)(j d:Nat)(t:Turn),ds.Nodup->ds[j]? = some d->ts[j]? = some t->
  getU (dn ds ts l tm) d=(match t with|.no=>getU tm d|.one v=>v|.many=>.top (l+j))
 |[],_,_,_,_,_,_,_,h,_=>by simp at h
 |_::_,[],_,_,_,_,_,_,_,h=>by simp at h
 |e::ds,t0::ts,l,tm,j,d,t,hn,h,ht=>by
  obtain⟨h1,h2⟩:=List.nodup_cons.1 hn;simp only[dn];cases j with
  |zero=>
   simp at h ht;subst h ht;rw[fJ ds ts (l+1) _ _ h1];cases t0<;>simp only[aD,if_true,Nat.add_zero]
  |succ j=>
   have h':ds[j]? = some d:=by simpa using h
   have ht':ts[j]? = some t:=by simpa using ht
   have hde:d≠e:=fun e'=>h1 (e' ▸ List.mem_of_getElem? h')
   generalize hq:(match (generalizing:=false) t0 with|.no=>tm|.one v=>put au tm e v|.many=>put au tm e (.top l):T V)=tm1
   have hg:getU tm1 d=getU tm d:=by
    rw[<- hq];cases t0<;>simp only[aD,if_neg hde]
   rw[qw ds ts (l+1) tm1 j d t h2 h' ht'];cases t with
   |no=>exact hg
   |one v=>rfl
   |many=>simp only;congr 1;omega
end Go.Exo
end
