/-
  EXO, part Z4: a value comes back; a region is begun; a frame returns. Own text.
-/
import Derived.Test.YtbddnchfoojacaaGreatDoorExo6
set_option linter.all false
namespace Go.Exo
set_option linter.unusedSectionVars false
variable [Sx] [Dc]
section
variable {P:Program}{w0:Bs}{cs0:List Frame}{E:Env}{ih:Ih}
theorem backE_ok {mx:Bool}{i:Nat}:∀ {es:List Edge},backE mx i es=true→∀ e∈es,(mx=true→Region.binds .any e=true)→e.on<i
 |[],_,_,h,_=>by cases h
 |x::r,h,e,he,hm=>by
  obtain⟨h1,h2⟩:=cond_and h
  cases he with
  |head=>
   simp only[Bool.or_eq_true,Bool.and_eq_true,Bool.not_eq_true'] at h1
   rcases h1 with h1|⟨h1,h3⟩
   ·exact Nat.le_of_ble_eq_true h1
   ·rw[hm h1] at h3;cases h3
  |tail _ he=>exact backE_ok h2 e he hm
theorem backL_ok {mx:Bool}:∀ {os:List Oper}{i:Nat},backL mx os i=true→∀ (j:Nat)(o:Oper),os[j]? = some o→∀ e∈o.after,(mx=true→Region.binds .any e=true)→e.on<i+j
 |[],_,_,j,o,h,_,_,_=>by simp at h
 |x::r,i,h,j,o,ho,e,he,hm=>by
  obtain⟨h1,h2⟩:=cond_and h
  cases j with
  |zero=>
   simp at ho;subst ho
   exact backE_ok h1 e (by simpa using he) hm
  |succ j=>
   have:=backL_ok h2 j o (by simpa using ho) e he hm
   omega
theorem back_of {mx:Bool}{ops:Array Oper}(h:backL mx ops.toList 0=true):Back mx ops:=fun i o ho e he hm=>by
 have:=backL_ok h i o (by simpa using ho) e he hm
 omega
theorem pairsB_ok:∀ {T:List PStep},pairsB T=true→PairsOk T
 |[],_=>trivial
 |t::r,h=>by
  unfold pairsB at h
  simp only[Bool.and_eq_true] at h
  refine⟨fun m b y ho s hs d hd=>?_,pairsB_ok h.2⟩
  have h1:=h.1
  rw[ho] at h1
  simp only[List.all_eq_true] at h1
  have:=h1 s hs
  rw[hd] at this
  simpa using this
theorem PairsOk.append:∀ {Y T:List PStep},PairsOk (Y++T)→PairsOk T
 |[],_,h=>h
 |_::Y,T,h=>PairsOk.append (Y:=Y) h.2
theorem tailOk_ok {z:PStep}{bz:Nat}:∀ {T:List PStep},tailOk z bz T=true→∀ Y s T',T=Y++s::T'→2<s.op.cls→bz.testBit s.idx=false→(∀ t∈s::T',okT z t=true)∧PairsOk (s::T')
 |[],_,Y,s,T',e,_,_=>by cases Y<;>cases e
 |x::r,h,Y,s,T',e,hc,hb=>by
  unfold tailOk at h
  cases hf:(Nat.ble 3 x.op.cls&&Nat.beq (Nat.land (bitOf x.idx) bz) 0) with
  |true=>
   rw[hf] at h
   simp only[cond_true,Bool.and_eq_true] at h
   have h1:∀ t∈x::r,okT z t=true:=fun t ht=>List.all_eq_true.1 h.1 t ht
   have h2:=pairsB_ok h.2
   rw[e] at h1 h2
   exact⟨fun t ht=>h1 t (List.mem_append.2 (.inr ht)),h2.append⟩
  |false=>
   rw[hf] at h
   cases Y with
   |nil=>
    simp only[List.nil_append,List.cons.injEq] at e
    obtain⟨rfl,rfl⟩:=e
    rw[bit_free.2 hb,Nat.ble_eq_true_of_le (show 3≤x.op.cls from hc)] at hf
    cases hf
   |cons y Y=>
    simp only[List.cons_append,List.cons.injEq] at e
    obtain⟨rfl,rfl⟩:=e
    exact tailOk_ok h Y s T' rfl hc hb
theorem bitsAt_mem {i:Nat}:∀ {all:List Ent},(∃ x∈all,x.1.idx=i)→∃ s,(s,bitsAt i all)∈all∧s.idx=i
 |[],⟨_,h,_⟩=>by cases h
 |(s,b)::r,⟨x,hx,he⟩=>by
  simp only[bitsAt]
  cases hb:Nat.beq s.idx i with
  |true=>exact⟨s,List.mem_cons_self ..,Nat.eq_of_beq_eq_true hb⟩
  |false=>
   cases hx with
   |head=>simp only at he;rw[he] at hb;simp at hb
   |tail _ hx=>
    obtain⟨s',h1,h2⟩:=bitsAt_mem (all:=r) ⟨x,hx,he⟩
    exact⟨s',List.mem_cons_of_mem _ h1,h2⟩
theorem planOk_append:∀ {T:List PStep}{z:PStep},planOk T=true→z.apart=[]→planOk (T++[z])=true
 |[],z,_,h=>by
  show planOk [z]=true
  unfold planOk;rw[h];rfl
 |t::T,z,hT,h=>by
  unfold planOk at hT
  rw[List.cons_append]
  unfold planOk
  split at hT
  ·rename_i e;exact planOk_append hT h
  ·cases hT
theorem planD_cases (P:Program)(ops:Array Oper):(∃ s,s.op=.bad∧s.fast=true∧planD P ops=[s])∨
  (Back (P.follows .mixedOrders) ops∧∀ σ,Sched ops σ→Ord P ops σ∧FitZ P ops (planD P ops) σ∧∀ i∈σ,∃ s∈planD P ops,s.idx=i):=by
 unfold planD
 simp only
 generalize hall:allOf P ops=all
 generalize hl:planGo all ops.toList.length 0 [] []=l
 cases hc:(planOkZ all l&&backL (P.follows .mixedOrders) ops.toList 0&&distinct all&&opsOk all ops.toList all&&Nat.beq l.length ops.toList.length) with
 |false=>exact .inl ⟨_,rfl,rfl,rfl⟩
 |true=>
  simp only[Bool.and_eq_true] at hc
  obtain⟨⟨⟨⟨c1,c2⟩,c3⟩,c4⟩,c5⟩:=hc
  have hb:=back_of c2
  refine .inr ⟨hb,fun σ hs=>?_⟩
  simp only[cond_true]
  have hall':zipB (planS P ops ops.toList 0) (befL ops.toList 0 .e)=all:=hall
  have he:=ents_ok (P:=P) hs all ops.toList 0 .e (by simp) (fun i j hj=>by simp[get_e] at hj) (by rw[hall'];exact c4)
  rw[hall'] at he
  have ha:AllOk P ops σ all:=⟨hs,he.1,fun j hj=>he.2 j (Nat.zero_le _) hj,by rw[← hall'];exact zip_uniq _ _ _,distinct_ok c3⟩
  have hlen:l.length=ops.size:=by
   have:=Nat.eq_of_beq_eq_true c5
   simpa using this
  have hmem:∀ s∈l,s.idx<ops.size:=fun s hs'=>by
   rw[← hl] at hs'
   obtain⟨_,o,ho,_⟩:=plan_mem ha _ _ _ _ s hs'
   exact (Array.getElem?_eq_some_iff.1 ho).1
  have hnd:(l.map (·.idx)).Nodup:=by
   have:∀ (l:List PStep)(n done:Nat)(acts reads:List PStep),planGo all n done acts reads=l→(l.map (·.idx)).Nodup:=by
    intro l
    induction l with
    |nil=>intro n done acts reads _;simp
    |cons s r ih=>
     intro n done acts reads h
     obtain⟨m,b,acts',reads',rfl,htook,hr⟩:=plan_cons h
     rw[List.map_cons,List.nodup_cons]
     refine⟨fun hm=>?_,ih m _ acts' reads' hr.symm⟩
     obtain⟨s',h1,h2⟩:=List.mem_map.1 hm
     have:=(plan_mem ha m _ acts' reads' s' (by rw[← hr];exact h1)).1
     rw[lor_bit,h2] at this
     simp at this
   exact this l _ _ _ _ hl
  have hfull:∀ i,i<ops.size→∃ s∈l,s.idx=i:=fun i hi=>by
   have:=nodup_all hnd (fun x hx=>by
    obtain⟨s,h1,h2⟩:=List.mem_map.1 hx
    rw[← h2];exact hmem s h1) (by rw[List.length_map];exact hlen) hi
   obtain⟨s,h1,h2⟩:=List.mem_map.1 this
   exact⟨s,h1,h2⟩
  have hinv:Inv P ops σ 0 [] l:=⟨fun i hi=>.inr (hfull i hi),fun i o h=>by simp at h,fun i o h=>by simp at h⟩
  refine⟨ha.ord hall,?_,fun i hi=>hfull i (hs.lt i hi)⟩
  unfold planOkZ at c1
  cases hgl:l.getLast? with
  |none=>
   have:l=[]:=List.getLast?_eq_none_iff.1 hgl
   rw[this];exact .inl trivial
  |some z=>
   rw[hgl] at c1
   simp only[Bool.and_eq_true] at c1
   have hlz:l=l.dropLast++[z]:=by
    obtain⟨ys,hys⟩:=List.getLast?_eq_some_iff.1 hgl
    rw[hys];simp
   generalize l.dropLast=T at c1 hlz
   obtain⟨hT,hzz⟩:=c1
   cases hza:z.apart with
   |nil=>
    refine .inl ?_
    have hok:=planOk_append hT hza
    rw[← hlz] at hok
    exact plan_fit ha l _ 0 0 [] [] [] [] σ (by rw[hl];simp) hok rfl (fun j=>by simp) (fun _ h=>by cases h) (fun _ h=>by cases h) (by simpa using hinv)
   |cons p q=>
    rw[hza] at hzz
    simp only[Bool.and_eq_true] at hzz
    obtain⟨hz,htail⟩:=hzz
    have hzc:2<z.op.cls:=by
     obtain⟨⟨n,a,x,ho⟩,_⟩:=lastZ_ok hz
     rw[ho];exact Nat.lt_succ_self 2
    have hzl:z.idx<ops.size:=hmem z (by rw[hlz];simp)
    have hbz:=bitsAt_mem (ha.full z.idx hzl)
    have hL:planGo all ops.toList.length 0 [] []=T++[z]:=by rw[hl,hlz]
    obtain⟨T1,T2,e,k1,k2⟩:=plan_fitZ ha hz hzc hbz T _ 0 [] [] [] σ hL hT (tailOk_ok htail) rfl (fun _ h=>by cases h) (by rw[← hlz];exact hinv)
    obtain⟨sz,b,acts',reads',_,h2,_⟩:=plan_last ha T _ 0 [] [] hL hzc
    have hzf:z.fast=false:=by
     have hne:(apartOf b acts').isEmpty=false:=by
      have:z.apart=apartOf b acts':=by rw[h2]
      rw[← this,hza];rfl
     rw[h2]
     simp only[hne,Bool.and_false]
    exact .inr ⟨T1,T2,z,by rw[hlz,e],hz,hzf,k1,k2⟩
theorem zip_full {ops:Array Oper}:∀ (os:List Oper)(i:Nat)(t:T Nat)(j:Nat),i≤j→j<i+os.length→∃ x∈zipB (planS P ops os i) (befL os i t),x.1.idx=j
 |[],i,t,j,h1,h2=>by simp at h2;omega
 |o::r,i,t,j,h1,h2=>by
  simp only[planS,befL,setK_eq,zipB]
  by_cases e:j=i
  ·subst e;exact⟨_,List.mem_cons_self ..,rfl⟩
  ·obtain⟨x,hx,he⟩:=zip_full r (i+1) (put 0 t i (befE t o.after.toList 0)) j (by omega) (by simp at h2;omega)
   exact⟨x,List.mem_cons_of_mem _ hx,he⟩
theorem hasIdx_ok {i:Nat}:∀ {r:List PStep},hasIdx i r=true→∃ s∈r,s.idx=i
 |[],h=>by cases h
 |s::r,h=>by
  simp only[hasIdx,Bool.cond_true_left,Bool.or_eq_true] at h
  rcases h with h|h
  ·exact⟨s,List.mem_cons_self ..,Nat.eq_of_beq_eq_true h⟩
  ·obtain⟨s',h1,h2⟩:=hasIdx_ok h
   exact⟨s',List.mem_cons_of_mem _ h1,h2⟩
theorem quietN_ok {m si:Nat}{r:List PStep}:∀ {n:Nat},quietN m si r n=true→∀ i,i<n→i=si∨m.testBit i=true∨∃ s∈r,s.idx=i
 |0,_,_,h=>absurd h (by omega)
 |n+1,h,i,hi=>by
  obtain⟨h1,h2⟩:=cond_and h
  by_cases e:i=n
  ·subst e
   simp only[Bool.or_eq_true] at h1
   rcases h1 with (h1|h1)|h1
   ·exact .inl (Nat.eq_of_beq_eq_true h1)
   ·exact .inr (.inl (bit_in h1))
   ·exact .inr (.inr (hasIdx_ok h1))
  ·exact quietN_ok h2 i (by omega)
theorem quiet_tr {H:T AObj}{lo hi:Nat}{ops:Array Oper}{s:PStep}{r:List PStep}{is:List Nat}{tm:T V}{tmps:Array Value}{rd:Bool}(hz:quietB P ops s r=true)(hso:SOf P ops s)(hord:Ord P ops (s.idx::is))(hd:DInv P E H lo hi ops r is tm tmps rd):TR E tm tmps:=by
 intro t
 refine hd.slots t fun i hi hp=>?_
 exfalso
 have hil:i<ops.size:=hord.2.1 i (List.mem_cons_of_mem _ hi)
 obtain⟨o,ho,_⟩:=hso
 have hsl:s.idx<ops.size:=(Array.getElem?_eq_some_iff.1 ho).1
 obtain⟨s',h1,h2⟩:=bitsAt_mem (zip_full (P:=P) (ops:=ops) ops.toList 0 .e s.idx (Nat.zero_le _) (by simpa using hsl))
 rcases quietN_ok hz i (by simpa using hil) with h|h|⟨s2,h3,h4⟩
 ·subst h;exact (List.nodup_cons.1 hord.1).1 hi
 ·exact (hord.2.2.2.2 _ h1 i h).2 [] is (by rw[h2];rfl) (List.mem_cons_of_mem _ hi)
 ·exact hp s2 h3 h4
theorem MR.cur {t:List AItem}{c:Ctx}{fr:Frame}{cs:List Frame}{w:World}(h:MR P w0 cs0 E .run t c fr cs w):∃ b,Cur P w0 cs0 E b c fr cs w:=by
 obtain⟨b,hb,hf⟩:=h.frs
 exact⟨b,h.wr,h.gl,hf,hb,h.fn,h.kind,h.round,h.defers,h.mode,h.size⟩
theorem region_ok (hs:Sound P w0 cs0 ih){id:Nat}{ops:Array Oper}{draw:Bool}{k:List AItem}{c:Ctx}{fr:Frame}{cs:List Frame}{w:World}(h:MR P w0 cs0 E .run (.code (.region id ops draw)::k) c fr cs w) :
  Fin P w0 cs0 (cRegion P ops draw c k ih) fr cs w:=by
 obtain⟨b,hc⟩:=h.cur
 obtain⟨⟨i,k',ht,hi,hk⟩,htr⟩:=h.rest
 cases hi
 unfold cRegion
 cases draw with
 |false=>
  refine Fin.step (st_region hc.mode ht) ?_
  have hc':=hc.to fr.tmps (.inRegion ops (List.range ops.size)::k') rfl
  have:=xs_seq hs ops k k' ops.size 0 (by omega) E b c c.tm _ cs w hc' (by simp only[List.range_eq_range']) hk htr
  simpa[stepsOf] using this
 |true=>
  have hst:=st_regionD (P:=P) (cs:=cs) (w:=w) hc.mode ht
  refine Fin.step hst ?_
  show Fin P w0 cs0 (xs P { ops,draw:=true,k,ih } (planD P ops) c.tm c) _ cs _
  rcases planD_cases P ops with⟨s,h1,h2,h3⟩|⟨hb,hplan⟩
  ·rw[h3]
   show Fin P w0 cs0 (xCons P { ops,draw:=true,k,ih } s [] _ c.tm c) _ cs _
   unfold xCons
   rw[h2]
   show Fin P w0 cs0 (xFast P s [] _ c.tm c { ops,draw:=true,k,ih }) _ cs _
   unfold xFast
   rw[h1]
   exact Fin.fail
  ·generalize hσ:Region.schedule (P.follows .mixedOrders) ops (w.tape w.drawn (.order fr.fn id))=σ
   have hsch:Sched ops σ:=by rw[← hσ];exact schedule_sched _ hb _
   obtain⟨g1,g2,g3⟩:=hplan σ hsch
   have hc':Cur P w0 cs0 E b c { fr with todo:=.inRegion ops σ::k' } cs { w with drawn:=w.drawn+1 }:=
    ⟨hc.wr.draw _,hc.gl,hc.frs,hc.ble,hc.fn,hc.kind,hc.round,hc.defers,hc.mode,hc.size⟩
   refine xs_draw hs ops k k' _ E b c c.tm _ cs _ σ hc' rfl hk ⟨g1,g2,fun t _=>htr t,fun i hi hp=>?_,fun _=>none,(fun _ _ _ h=>by cases h),fun i hi hp=>?_⟩
   ·obtain⟨s,h1,h2⟩:=g3 i hi
    exact absurd h2 (hp s h1)
   ·obtain⟨s,h1,h2⟩:=g3 i hi
    exact absurd h2 (hp s h1)
theorem finish_ok (hs:Sound P w0 cs0 ih){H:T AObj}{nx b:Nat}{w:World}(hwr:WR w0 E H nx w)(hgl:∀ g,g<P.globals.size→∃ s,E g=some ⟨g,0,s,undef,noOb,[]⟩)(hb:b≤nx){f:AFrame}{fs:List AFrame}{lo:Nat}{fr:Frame}{r:List Frame}
  (hlo:lo≤b)(hsr:SR P E H lo b f fr)(hfr:FrsR P cs0 E H lo fs r){v:V}{x:Value}(hv:VR E v x):Fin P w0 cs0 (finish P f v fs H nx ih) (fr.finish x) r w:=by
 obtain⟨a1,a2,a3,a4,a5,a6,a7⟩:=hsr
 unfold finish
 cases hm:f.mode with
 |returning=>exact Fin.fail
 |panicking _=>exact Fin.fail
 |run=>
  rw[hm] at a5 a7
  simp only at a7 ⊢
  have hcur:Cur P w0 cs0 E lo (ctxOf f fs H nx) fr r w:=⟨hwr,hgl,hfr,Nat.le_trans hlo hb,a1,a2,a3,a4,a5,a6⟩
  split at a7
  ·rename_i s rr ops draw k heq
   obtain⟨is,k',b1,b2,b3⟩:=a7
   rw[heq]
   simp only
   rcases b3 with⟨rfl,o,i,c1,rfl,c3,rfl,c5⟩|⟨rfl,c1,c2,c3,c4,c5,c6⟩
   ·have:=after_ok (v:=v) (x:=x) (kk:=fun tm=>againGo tm H nx (xs P { ops,draw:=false,k,ih } rr tm (ctxOf f fs H nx)) (pstep P ops i o).again) hcur b1 c1 c5 hv fun tm' fr' d1 d2 d3=>by
     show Fin P w0 cs0 (xs P { ops,draw:=false,k,ih } rr tm' (ctxOf f fs H nx)) fr' r w
     rw[c3]
     have hlt:i<ops.size:=(Array.getElem?_eq_some_iff.1 c1).1
     exact xs_seq hs ops k k' _ (i+1) (by omega) E lo _ tm' fr' r w d1 d2 b2 d3
    exact this
   ·have:=after_act (rd:=false) hcur b1 c1 c2 c4 (fun _=>c5) (c6.up hb) hv (g:=xs P { ops,draw:=true,k,ih } rr) fun tm' fr' d1 d2 d3=>xs_draw hs ops k k' rr E lo _ tm' fr' r w is d1 d2 b2 d3
    exact this
  ·rename_i l k heq
   obtain⟨p,k',b1,b2,b3,b4⟩:=a7
   rw[heq]
   simp only
   have hfin:fr.finish x={ fr with todo:=.endRangeFunc p.blk::k' }:=by unfold Frame.finish;rw[b2]
   rw[hfin]
   have hcur':=hcur.to fr.tmps (.endRangeFunc p.blk::k') rfl
   exact hs E _ _ _ _ _ _ (hcur'.mr (t:=.endRF l::k) ⟨_,_,rfl,⟨p,b1,rfl⟩,b3⟩ b4)
  ·exact a7.elim
end
end Go.Exo

namespace Go.Exo
set_option linter.unusedSectionVars false
variable [Sx] [Dc]
section
variable {P:Program}{w0:Bs}{cs0:List Frame}{E:Env}{ih:Ih}
theorem cell1_ok {H:T AObj}{nx:Nat}{w:World}(hwr:WR w0 E H nx w){t:TypeId}{d:TypeDesc}(hu:undT P t=some d)(hd:aggD d=false){a:V}{A:Value}(ha:VR E a A){v:V}(h:xLoad1 a H=.val v) :
  ∃ x,(do loadVar t (← asAddr A):Sem Value).run P w=.ok x w∧VR E v x:=by
 have hg:=xLoad1_ok (P:=P) hwr (t:=t) (fun w=>by rw[aggD_run hu w,hd]) ha
 rw[h] at hg
 obtain⟨x,h1,h2⟩:=hg
 refine⟨x,?_,h2⟩
 cases ha<;>first|exact h1|(simp only[xLoad1] at h;cases h)
theorem cellN_ok {H:T AObj}{nx:Nat}{w:World}(hwr:WR w0 E H nx w){t:TypeId}{d:TypeDesc}{i:TypeInfo}(hu:undT P t=some d)(hd:aggD d=true)(hi:P.info? t=some i){a:V}{A:Value}(ha:VR E a A){v:V}(h:xLoadN i.size a H=.val v) :
  ∃ x,(do loadVar t (← asAddr A):Sem Value).run P w=.ok x w∧VR E v x:=by
 have hg:=xLoadN_ok (P:=P) hwr (t:=t) (fun w=>by rw[aggD_run hu w,hd]) hi ha
 rw[h] at hg
 obtain⟨x,h1,h2⟩:=hg
 refine⟨x,?_,h2⟩
 cases ha<;>first|exact h1|(simp only[xLoadN] at h;cases h)
theorem resK_ok {H:T AObj}{nx:Nat}{w:World}(hwr:WR w0 E H nx w){tm:T V}{tmps:Array Value}(htr:TR E tm tmps){g:ResultVar→Sem Value}(hg1:∀ t,g (.tmp t)=pure (tmps.getD t undef))
  (hg2:∀ a t,g (.cell a t)=(do loadVar t (← asAddr (tmps.getD a undef)))){sz:ResultVar→Option Nat}(hs1:∀ t,sz (.tmp t)=none)(hs2:∀ a t,sz (.cell a t)=if isAggT P t then some (sizeT P t) else none) :
  ∀ (rs:List ResultVar)(k:List V→Res)(v:V),resOk P rs=true→resK tm H rs (rs.map sz) k=.val v→∃ l xs,k l=.val v∧VRs E l xs∧(rs.mapM g).run P w=.ok xs w
 |[],k,v,_,h=>⟨[],[],h,.nil,by simp⟩
 |.tmp t::r,k,v,ho,h=>by
  simp only[List.map_cons,resK,hs1] at h
  obtain⟨l,xs,h1,h2,h3⟩:=resK_ok hwr htr hg1 hg2 hs1 hs2 r _ v ho h
  refine⟨_,_,h1,.cons _ _ _ _ (htr t) h2,?_⟩
  simp[hg1,h3]
 |.cell a t::r,k,v,ho,h=>by
  obtain⟨ho1,ho2⟩:=cond_and ho
  cases hty:tyOf P t with
  |none=>rw[hty] at ho1;cases ho1
  |some di=>
   obtain⟨d,i⟩:=di
   obtain⟨q1,q2,q3,q4⟩:=tyOf_eq hty
   have hagg:isAggT P t=aggD d:=by unfold isAggT;rw[q1]
   have hsz:sizeT P t=i.size:=by unfold sizeT;rw[q4]
   simp only[List.map_cons,hs2,hagg,hsz] at h
   cases hd:aggD d with
   |false=>
    rw[hd] at h
    simp only[Bool.false_eq_true,if_false,resK] at h
    cases hx:xLoad1 (getU tm a) H with
    |val u=>
     rw[hx] at h
     simp only at h
     obtain⟨x,g1,g2⟩:=cell1_ok hwr q1 hd (htr a) hx
     obtain⟨l,xs,h1,h2,h3⟩:=resK_ok hwr htr hg1 hg2 hs1 hs2 r _ v ho2 h
     refine⟨_,_,h1,.cons _ _ _ _ g2 h2,?_⟩
     rw[List.mapM_cons,hg2]
     simp only[Sem.run_bind] at g1 ⊢
     rw[g1]
     simp[h3]
    |_=>rw[hx] at h;cases h
   |true=>
    rw[hd] at h
    simp only[if_true,resK] at h
    cases hx:xLoadN i.size (getU tm a) H with
    |val u=>
     rw[hx] at h
     simp only at h
     obtain⟨x,g1,g2⟩:=cellN_ok hwr q1 hd q3 (htr a) hx
     obtain⟨l,xs,h1,h2,h3⟩:=resK_ok hwr htr hg1 hg2 hs1 hs2 r _ v ho2 h
     refine⟨_,_,h1,.cons _ _ _ _ g2 h2,?_⟩
     rw[List.mapM_cons,hg2]
     simp only[Sem.run_bind] at g1 ⊢
     rw[g1]
     simp[h3]
    |_=>rw[hx] at h;cases h
theorem resV_ok {H:T AObj}{nx:Nat}{w:World}(hwr:WR w0 E H nx w){tm:T V}{tmps:Array Value}(htr:TR E tm tmps){f:Nat}{v:V}(h:resV P f tm H=.val v) :
  ∃ fn x,P.funcs[f]? = some fn∧(results fn tmps).run P w=.ok x w∧VR E v x:=by
 unfold resV at h
 cases hf:fnOf P f with
 |none=>rw[hf] at h;cases h
 |some a=>
  rw[hf] at h;simp only at h
  have hro:=fnOf_resOk hf
  obtain⟨fn,body,h1,_,_,h4⟩:=fnOf_some hf
  subst h4
  simp only at h hro
  obtain⟨l,xs,g1,g2,g3⟩:=resK_ok (P:=P) hwr htr (g:=fun|.tmp t=>pure (tmps.getD t undef)|.cell a t=>do loadVar t (← asAddr (tmps.getD a undef))) (fun _=>rfl) (fun _ _=>rfl) (fun _=>rfl) (fun _ _=>rfl) fn.results.toList _ v hro h
  have hres:(results fn tmps).run P w=.ok (if h:xs.toArray.size=1 then xs.toArray[0] else .tuple xs.toArray) w:=by
   unfold results
   rw[Array.mapM_eq_mapM_toList]
   simp only[map_eq_pure_bind,bind_assoc,pure_bind,Sem.run_bind]
   refine (congrArg (fun r=>Result.andThen r (fun a w'=>Sem.run P (pure (if h:a.toArray.size=1 then a.toArray[0] else Value.tuple a.toArray)) w')) g3).trans ?_
   rfl
  refine⟨fn,_,h1,hres,?_⟩
  cases g2 with
  |nil=>simp at g1;subst g1;exact .tup _ _ .nil
  |cons a x as xs ha has=>
   cases has with
   |nil=>simp at g1;subst g1;simpa using ha
   |cons b y bs ys hb hbs=>
    simp at g1;subst g1
    have:¬ (x::y::ys).toArray.size=1:=by simp
    rw[dif_neg this]
    exact .tup _ _ (.cons _ _ _ _ ha (.cons _ _ _ _ hb hbs))
theorem settle_ok {m:AMode}{M:FrameMode}(h:ModeR E m M)(hm:m≠.run):settleA m≠.run∧ModeR E (settleA m) (settle M):=by
 cases m with
 |run=>exact absurd rfl hm
 |returning=>cases h;exact⟨fun e=>by simp[settleA] at e,rfl⟩
 |panicking ch=>
  obtain⟨es,rfl,hch⟩:=h
  cases ch with
  |nil=>cases hch;exact⟨fun e=>by simp[settleA] at e,_,rfl,rfl⟩
  |cons vb old=>
   obtain⟨v,bb⟩:=vb
   obtain⟨x,t,rfl,hx,hold⟩:=id hch
   cases bb with
   |false=>exact⟨fun e=>by simp[settleA] at e,_,rfl,hch⟩
   |true=>
    refine⟨fun e=>by simp[settleA] at e,?_⟩
    have:∀ {as:List (V×Bool)}{es:List PanicEntry},ChR E as es→es.dropWhile (!·.goexit)=[]:=by
     intro as
     induction as with
     |nil=>intro es h;cases h;rfl
     |cons a as ih=>
      intro es h
      obtain⟨v,b⟩:=a
      obtain⟨x,t,rfl,_,h2⟩:=h
      simpa using ih h2
    show settle _=.returning
    simp only[settle,this hold]
theorem sr_tr {H:T AObj}{lo hi:Nat}{f:AFrame}{fr:Frame}(h:SR P E H lo hi f fr)(hm:f.mode≠.run):TR E f.tmps fr.tmps:=by
 have:=h.2.2.2.2.2.2
 cases hf:f.mode with
 |run=>exact absurd hf hm
 |returning=>rw[hf] at this;exact this
 |panicking _=>rw[hf] at this;exact this
theorem mr_of_sr {m:AMode}{M:FrameMode}{t:List AItem}{H:T AObj}{nx b lo:Nat}{w:World}(hwr:WR w0 E H nx w)(hgl:∀ g,g<P.globals.size→∃ s,E g=some ⟨g,0,s,undef,noOb,[]⟩)(hb:b≤nx){f:AFrame}{fs:List AFrame}{fr:Frame}{r:List Frame}
  (hlo:lo≤b)(hsr:SR P E H lo b f fr)(hfr:FrsR P cs0 E H lo fs r)(hm:ModeR E m M)(hmr:m≠.run)(htr:TR E f.tmps fr.tmps∨(f.defers=[]∧∃ ch,m=.panicking ch)) :
  MR P w0 cs0 E m t (ctxOf f fs H nx) { fr with mode:=M } r w:=by
 obtain⟨a1,a2,a3,a4,a5,a6,a7⟩:=hsr
 refine⟨hwr,hgl,⟨lo,Nat.le_trans hlo hb,hfr⟩,a1,a2,a3,a4,hm,a6,?_⟩
 cases m with
 |run=>exact absurd rfl hmr
 |returning=>
  rcases htr with h|⟨_,ch,h⟩
  ·exact h
  ·cases h
 |panicking ch=>
  rcases htr with h|⟨h,_⟩
  ·exact .inr h
  ·exact .inl h
theorem doRet_ok (hs:Sound P w0 cs0 ih){c:Ctx}{fr:Frame}{cs:List Frame}{w w':World}(hwr:WR w0 E c.H c.nx w')(hgl:∀ g,g<P.globals.size→∃ s,E g=some ⟨g,0,s,undef,noOb,[]⟩){b:Nat}(hb:b≤c.nx)(hfrs:FrsR P cs0 E c.H b c.cs cs)
  {v:V}{x:Value}(hv:VR E v x)(hN:c.kind=.normal→∀ f1 r,cs=f1::r→Go.step P (lone fr cs w)=.next (lone (f1.finish x) r w'))
  (hD:c.kind=.deferred→∀ f1 r,cs=f1::r→Go.step P (lone fr cs w)=.next (lone { f1 with mode:=settle f1.mode } r w')):Fin P w0 cs0 (doRet P c v ih) fr cs w:=by
 unfold doRet
 cases hcc:c.cs with
 |nil=>exact Fin.fail
 |cons f fs=>
  rw[hcc] at hfrs
  obtain⟨lo,f1,r,rfl,hlo,hsr,hfr⟩:=hfrs
  simp only
  cases hk:c.kind with
  |normal=>exact Fin.step (hN hk f1 r rfl) (finish_ok hs hwr hgl hb hlo hsr hfr hv)
  |deferred=>
   simp only
   cases hm:f.mode with
   |run=>exact Fin.fail
   |returning=>
    have hne:f.mode≠.run:=by rw[hm];intro h;cases h
    obtain⟨s1,s2⟩:=settle_ok hsr.2.2.2.2.1 hne
    rw[hm] at s1 s2
    exact Fin.step (hD hk f1 r rfl) (hs E _ _ _ _ _ _ (mr_of_sr hwr hgl hb hlo hsr hfr s2 s1 (.inl (sr_tr hsr hne))))
   |panicking ch=>
    have hne:f.mode≠.run:=by rw[hm];intro h;cases h
    obtain⟨s1,s2⟩:=settle_ok hsr.2.2.2.2.1 hne
    rw[hm] at s1 s2
    exact Fin.step (hD hk f1 r rfl) (hs E _ _ _ _ _ _ (mr_of_sr hwr hgl hb hlo hsr hfr s2 s1 (.inl (sr_tr hsr hne))))
  |_=>exact Fin.fail
theorem leave_ok (hs:Sound P w0 cs0 ih){b:Nat}{c:Ctx}{fr:Frame}{cs:List Frame}{w:World}(hc:Cur P w0 cs0 E b c fr cs w)(htr:TR E c.tm fr.tmps){jump:Option Code}(hl:leaving fr.todo=some jump):Fin P w0 cs0 (leave P jump c ih) fr cs w:=by
 unfold leave
 have hround:=hc.round
 cases hr:c.round with
 |none=>
  rw[hr] at hround
  change fr.roundOf=none at hround
  simp only
  have key:(jump=none∨jump=some .ret)→Fin P w0 cs0 (ih .returning [] c) fr cs w:=by
   intro hj
   have ht:∃ k,fr.todo=[]∨fr.todo=.code .ret::k:=by
    unfold leaving at hl
    split at hl
    ·rename_i e;exact⟨[],.inl e⟩
    ·rename_i k e;exact⟨k,.inr e⟩
    ·split at hl
     ·cases hl;rcases hj with h|h<;>cases h
     ·cases hl
    ·split at hl
     ·cases hl;rcases hj with h|h<;>cases h
     ·cases hl
    ·cases hl
   obtain⟨k,ht⟩:=ht
   refine Fin.step (st_ret hc.mode ht hround) ?_
   exact hs E _ _ _ _ _ _ ⟨hc.wr,hc.gl,⟨b,hc.ble,hc.frs⟩,hc.fn,hc.kind,by rw[hr];exact hround,hc.defers,rfl,hc.size,htr⟩
  split
  ·exact key (.inl rfl)
  ·exact key (.inr rfl)
  ·exact Fin.fail
 |some l=>
  rw[hr] at hround
  obtain⟨p,hp,hro⟩:=hround
  simp only
  cases hk:c.kind with
  |normal=>
   cases ho:getH c.H l with
   |loop st pd fn tm sz ps assign body d=>
    simp only[setHO_eq]
    have hobj:=hc.wr.objs l p hp
    rw[ho] at hobj
    obtain⟨tmps,q,h1,h2,h3,h4⟩:=hobj
    have hblk:p.blk<w.heap.size:=(hc.wr.own l p hp).1
    generalize hLo:Obj.loop { state:=(if jump.isNone then .ready else .done),pending:=jump,fn,tmps,params:=ps.toArray,assign,body,defers:=q.blk }=lo
    have he:(Instr.endRound p.blk jump).run P w=.ok (.bool jump.isNone) { w with heap:=w.heap.setIfInBounds p.blk lo }:=by
     have hg:(getObj p.blk).run P w=.ok (.loop { state:=st,pending:=pd,fn,tmps,params:=ps.toArray,assign,body,defers:=q.blk }) w:=by simp only[getObj,Sem.run,h4]
     simp only[Instr.endRound,Instr.getLoop,Sem.run_bind,hg,Result.andThen_ok,Sem.run_pure]
     rw[← hLo]
     simp only[setObj,Sem.run,h4]
     rfl
    have hwr':WR w0 E (put .no c.H l (.loop (match (generalizing:=false) jump with|none=>.ready|some _=>.done) jump fn tm sz ps assign body d)) c.nx { w with heap:=w.heap.setIfInBounds p.blk lo }:=by
     refine hc.wr.upd l p hp _ (by rw[ho];intro h;cases h) (by rw[ho];rfl) (by rw[ho];rfl) (by rw[ho];rfl) (by rw[ho];rfl) rfl _ lo (by simp) (fun k hk=>by
      show (w.heap.setIfInBounds p.blk lo)[k]? = _
      rw[Array.getElem?_setIfInBounds_ne (Ne.symm hk)]) (by
      show (w.heap.setIfInBounds p.blk lo)[p.blk]? = _
      rw[Array.getElem?_setIfInBounds_self_of_lt hblk]) rfl rfl rfl ?_
     refine⟨tmps,q,h1,h2,h3,?_⟩
     rw[← hLo]
     cases jump<;>rfl
    have hkb:KeepB b E E c.H (put .no c.H l (.loop (match (generalizing:=false) jump with|none=>.ready|some _=>.done) jump fn tm sz ps assign body d)):=fun k _ hE _=>⟨hE,by
     rw[getH_put,if_neg (fun e=>by subst e;rw[hp] at hE;cases hE)]⟩
    have hh:=doRet_ok hs (c:={ c with H:=put .no c.H l (.loop (match (generalizing:=false) jump with|none=>.ready|some _=>.done) jump fn tm sz ps assign body d) }) (fr:=fr) (w:=w) hwr' hc.gl hc.ble (hc.frs.mono (Env.le.refl E) hkb) (.bool jump.isNone) (fun _ f1 r e=>by
     subst e
     exact st_round hc.mode hl hro he (by rw[hc.kind,hk])) (fun h=>by
     simp only[hk] at h;cases h)
    simp only[hr,hk] at hh
    exact hh
   |_=>exact Fin.fail
  |_=>exact Fin.fail
theorem unw_ok (hs:Sound P w0 cs0 ih){m:AMode}(hm:m≠.run){t:List AItem}{c:Ctx}{fr:Frame}{cs:List Frame}{w:World}(h:MR P w0 cs0 E m t c fr cs w):Fin P w0 cs0 (unw P m t c ih) fr cs w:=by
 have hmode:fr.mode≠.run:=by
  have:=h.mode
  cases m with
  |run=>exact absurd rfl hm
  |returning=>change fr.mode=_ at this;rw[this];intro h;cases h
  |panicking ch=>obtain⟨es,h1,_⟩:=this;rw[h1];intro h;cases h
 have htr:c.ds≠[]∨m=.returning→TR E c.tm fr.tmps:=by
  intro hor
  have:=h.rest
  cases m with
  |run=>exact absurd rfl hm
  |returning=>exact this
  |panicking ch=>
   rcases this with h1|h1
   ·rcases hor with h2|h2
    ·exact absurd h1 h2
    ·cases h2
   ·exact h1
 obtain⟨b,hb,hfrs⟩:=h.frs
 have hdf:=h.defers
 unfold unw
 cases hds:c.ds with
 |nil=>
  rw[hds] at hdf
  have hd0:fr.defers=[]:=hdf
  simp only
  cases hcc:c.cs with
  |nil=>
   simp only
   intro m' t' c' e
   cases e
   exact⟨E,fr,cs,w,.refl _ _,h⟩
  |cons f fs=>
   simp only
   cases m with
   |run=>exact absurd rfl hm
   |returning=>
    simp only
    cases hr:resV P c.fn c.tm c.H with
    |val v=>
     simp only
     obtain⟨fn,x,h1,h2,h3⟩:=resV_ok h.wr (htr (.inr rfl)) hr
     have hf:P.funcs[fr.fn]? = some fn:=by rw[h.fn];exact h1
     have hrm:fr.mode=.returning:=h.mode
     refine doRet_ok hs h.wr h.gl hb hfrs h3 (fun hk f1 r e=>?_) (fun hk f1 r e=>?_)
     ·subst e
      exact st_return hrm hd0 hf h2 (by rw[h.kind,hk])
     ·subst e
      exact st_returnD hrm hd0 hf h2 (by rw[h.kind,hk])
    |_=>exact Fin.fail
   |panicking chain=>
    simp only
    refine Fin.cond (fun hc2=>?_) fun _=>Fin.fail
    simp only[Bool.and_eq_true] at hc2
    obtain⟨hz,hfo⟩:=hc2
    rw[hcc] at hfrs
    obtain⟨lo,f1,r,rfl,hlo,hsr,hfr⟩:=hfrs
    obtain⟨fn,hfn⟩:=Option.isSome_iff_exists.1 hfo
    have hf:P.funcs[fr.fn]? = some fn:=by rw[h.fn];exact funcT_eq P hfn
    obtain⟨es,hes,hch⟩:=h.mode
    refine Fin.step (st_raise hes hd0 hf) ?_
    have hmode1:=hsr.2.2.2.2.1
    have hraise:f1.raise es={ f1 with mode:=raised f1.mode es }:=Frame.raise_mode f1 es
    rw[hraise]
    have hmr:raise f.mode chain≠.run∧ModeR E (raise f.mode chain) (raised f1.mode es):=by
     cases hfm:f.mode with
     |run=>rw[hfm] at hmode1;change f1.mode=_ at hmode1;rw[hmode1];exact⟨fun e=>by simp[raise] at e,_,rfl,hch⟩
     |returning=>rw[hfm] at hmode1;change f1.mode=_ at hmode1;rw[hmode1];exact⟨fun e=>by simp[raise] at e,_,rfl,hch⟩
     |panicking old=>
      rw[hfm] at hmode1
      obtain⟨es0,h1,h2⟩:=hmode1
      rw[h1]
      exact⟨fun e=>by simp[raise] at e,_,rfl,hch.append h2⟩
    refine hs E _ _ _ _ _ _ (mr_of_sr h.wr h.gl hb hlo hsr hfr hmr.2 hmr.1 ?_)
    have hpan:∃ ch,raise f.mode chain=.panicking ch:=by
     unfold raise;split<;>exact⟨_,rfl⟩
    cases hfm:f.mode with
    |returning=>exact .inl (sr_tr hsr (by rw[hfm];intro h;cases h))
    |panicking _=>exact .inl (sr_tr hsr (by rw[hfm];intro h;cases h))
    |run=>
     have h7:=hsr.2.2.2.2.2.2
     rw[hfm] at h7
     simp only at h7
     split at h7
     ·rename_i s rr ops draw k heq
      obtain⟨is,k',b1,b2,b3⟩:=h7
      rcases b3 with⟨rfl,o,i,c1,rfl,c3,rfl,c5⟩|⟨rfl,hreg⟩
      ·exact .inl c5
      ·unfold rzOk at hz
       rw[hfm,heq] at hz
       cases hfd:f.defers with
       |nil=>exact .inr ⟨rfl,by rw[hfm] at hpan;exact hpan⟩
       |cons _ _=>rw[hfd] at hz;exact .inl (quiet_tr hz hreg.1 hreg.2.1 hreg.2.2.2.2.2)
     ·obtain⟨p,k',b1,b2,b3,b4⟩:=h7
      exact .inl b4
     ·exact h7.elim
 |cons d ds=>
  have htr':=htr (.inl (by rw[hds];intro h;cases h))
  rw[hds] at hdf
  obtain⟨D,rd,hD,hdr,hdrs⟩:=hdf
  cases d with
  |collected l=>
   simp only
   obtain⟨p,hp,rfl⟩:=hdr
   cases ho:getH c.H l with
   |defd=>
    simp only[setHO_eq]
    have hobj:=h.wr.objs l p hp
    rw[ho] at hobj
    change w.heap[p.blk]? = some (.deferred (some [])) at hobj
    have hblk:p.blk<w.heap.size:=(h.wr.own l p hp).1
    have he:(Instr.takeDeferred p.blk).run P w=.ok [] { w with heap:=w.heap.setIfInBounds p.blk (.deferred none) }:=by
     have hg:(getObj p.blk).run P w=.ok (.deferred (some [])) w:=by simp only[getObj,Sem.run,hobj]
     simp only[Instr.takeDeferred,Sem.run_bind,hg,Result.andThen_ok]
     simp only[setObj,Sem.run,hobj]
     rfl
    refine Fin.step (st_collected hmode hD he) ?_
    have hwr':WR w0 E (put .no c.H l .no) c.nx { w with heap:=w.heap.setIfInBounds p.blk (.deferred none) }:=by
     refine h.wr.upd l p hp _ (by rw[ho];intro h;cases h) (by rw[ho];rfl) (by rw[ho];rfl) (by rw[ho];rfl) (by rw[ho];rfl) rfl _ (.deferred none) (by simp) (fun k hk=>by
      show (w.heap.setIfInBounds p.blk _)[k]? = _
      rw[Array.getElem?_setIfInBounds_ne (Ne.symm hk)]) (by
      show (w.heap.setIfInBounds p.blk _)[p.blk]? = _
      rw[Array.getElem?_setIfInBounds_self_of_lt hblk]) rfl rfl rfl trivial
    have hkb:KeepB b E E c.H (put .no c.H l .no):=fun k _ hE _=>⟨hE,by
     rw[getH_put,if_neg (fun e=>by subst e;rw[hp] at hE;cases hE)]⟩
    refine hs E _ _ _ _ _ _ ⟨hwr',h.gl,⟨b,hb,hfrs.mono (Env.le.refl E) hkb⟩,h.fn,h.kind,h.round,hdrs,h.mode,h.size,?_⟩
    cases m with
    |run=>exact absurd rfl hm
    |returning=>exact htr'
    |panicking _=>exact .inr htr'
   |_=>exact Fin.fail
  |call fn captured args=>
   obtain⟨fn',cs',xs,hfn,hcap,hargs,rfl⟩:=hdr
   cases fn with
   |func g=>
    simp only[FnR] at hfn
    subst hfn
    simp only
    cases hfo:fnOf P g with
    |none=>unfold enterK;rw[hfo];exact Fin.fail
    |some a=>
     have hinv:(invoke (.fn (.func g) cs'.toArray) xs.toArray).run P w=.ok (.enter g (xs++cs').toArray) w:=by
      have:=run_callFunc_enter hfo (xs.toArray++cs'.toArray) w
      simp only[invoke]
      rw[this];simp
     refine Fin.step (step_defer hmode hD rfl hinv) ?_
     have hsr:SR P E c.H b c.nx { fn:=c.fn,tmps:=c.tm,size:=c.sz,todo:=t,defers:=ds,mode:=m,kind:=c.kind,round:=c.round } { fr with defers:=rd }:=by
      refine⟨h.fn,h.kind,h.round,hdrs,h.mode,h.size,?_⟩
      cases m with
      |run=>exact absurd rfl hm
      |returning=>exact htr'
      |panicking _=>exact htr'
     exact enter_ok hs h.wr h.gl (afs:=_::c.cs) (frs:=_::cs) ⟨b,_,cs,rfl,hb,hsr,hfrs⟩ (hargs.append hcap) .deferred
   |_=>exact Fin.fail
end
end Go.Exo

namespace Go.Exo
set_option linter.unusedSectionVars false
variable [Sx] [Dc]
mutual
def V.pls:V→List Nat
 |.ptr l _=>[l]
 |.slice l _ _ _ _=>[l]
 |.map l=>[l]
 |.sym l=>[l]
 |.top l=>[l]
 |.emp l _=>[l]
 |.func (.yield l) a b=>l::(V.plsL a++V.plsL b)
 |.func _ a b=>V.plsL a++V.plsL b
 |.iface _ v=>v.pls
 |.agg cs=>V.plsL cs
 |.tup cs=>V.plsL cs
 |.lst l _=>[l]
 |_=>[]
def V.plsL:List V→List Nat
 |[]=>[]
 |v::r=>v.pls++V.plsL r
end
theorem V.noXL_mem:∀ {vs:List V},V.noXL vs=true→∀ v∈vs,v.noX=true
 |[],_,_,h=>by cases h
 |u::r,h,v,hv=>by
  simp only[V.noXL,Bool.and_eq_true] at h
  cases hv with
  |head=>exact h.1
  |tail _ hv=>exact V.noXL_mem h.2 v hv
theorem V.plsL_mem {l:Nat}:∀ {vs:List V},l∈V.plsL vs↔∃ v∈vs,l∈v.pls
 |[]=>by simp[V.plsL]
 |v::r=>by simp[V.plsL,V.plsL_mem (vs:=r)]
section
variable {E E':Env}
mutual
theorem VR.at:∀ {v:V}{x:Value},VR E v x→∀ l∈v.pls,∃ p,E l=some p
 |.bool _,_,_,l,hl=>by simp[V.pls] at hl
 |.int _ _,_,_,l,hl=>by simp[V.pls] at hl
 |.str _ _,_,_,l,hl=>by simp[V.pls] at hl
 |.nilp,_,_,l,hl=>by simp[V.pls] at hl
 |.nils,_,_,l,hl=>by simp[V.pls] at hl
 |.nilm,_,_,l,hl=>by simp[V.pls] at hl
 |.nilf,_,_,l,hl=>by simp[V.pls] at hl
 |.nili,_,_,l,hl=>by simp[V.pls] at hl
 |.bad,_,h,_,_=>by cases h
 |.ptr k _,_,.ptr _ _ p hp,l,hl=>by simp[V.pls] at hl;subst hl;exact⟨p,hp⟩
 |.slice k _ _ _ _,_,.slice _ _ _ _ _ p _ hp _ _ _,l,hl=>by simp[V.pls] at hl;subst hl;exact⟨p,hp⟩
 |.map k,_,.map _ p hp,l,hl=>by simp[V.pls] at hl;subst hl;exact⟨p,hp⟩
 |.sym k,_,.sym _ p _ hp _ _ _,l,hl=>by simp[V.pls] at hl;subst hl;exact⟨p,hp⟩
 |.top k,_,.top _ p _ hp _ _,l,hl=>by simp[V.pls] at hl;subst hl;exact⟨p,hp⟩
 |.emp k _,_,.emp _ _ p _ _ hp _,l,hl=>by simp[V.pls] at hl;subst hl;exact⟨p,hp⟩
 |.lst k _,_,.lst _ p _ _ _ _ _ hp _ _ _ _ _,l,hl=>by simp[V.pls] at hl;subst hl;exact⟨p,hp⟩
 |.x _,_,_,l,hl=>by simp[V.pls] at hl
 |.xa _ _ _,_,_,l,hl=>by simp[V.pls] at hl
 |.junk,_,_,l,hl=>by simp[V.pls] at hl
 |.func f a b,_,.func _ g _ _ c d hf h1 h2,l,hl=>by
  cases f with
  |yield k=>
   simp only[V.pls,List.mem_cons,List.mem_append] at hl
   rcases hl with hl|hl|hl
   ·subst hl;obtain⟨p,hp,_⟩:=hf;exact⟨p,hp⟩
   ·exact VRs.at h1 l hl
   ·exact VRs.at h2 l hl
  |func k=>
   simp only[V.pls,List.mem_append] at hl
   rcases hl with hl|hl
   ·exact VRs.at h1 l hl
   ·exact VRs.at h2 l hl
  |_=>exact hf.elim
 |.iface t v,_,.iface _ _ x h1,l,hl=>VR.at h1 l (by simpa only[V.pls] using hl)
 |.agg a,_,.agg _ b h1,l,hl=>VRs.at h1 l (by simpa only[V.pls] using hl)
 |.tup a,_,.tup _ b h1,l,hl=>VRs.at h1 l (by simpa only[V.pls] using hl)
theorem VRs.at:∀ {vs:List V}{xs:List Value},VRs E vs xs→∀ l∈V.plsL vs,∃ p,E l=some p
 |[],_,_,l,hl=>by simp[V.plsL] at hl
 |v::vs,_,.cons _ x _ xs h1 h2,l,hl=>by
  simp only[V.plsL,List.mem_append] at hl
  rcases hl with hl|hl
  ·exact VR.at h1 l hl
  ·exact VRs.at h2 l hl
end
mutual
theorem VR.move:∀ {v:V}{x:Value},(∀ l∈v.pls,∀ p,E l=some p→E' l=some p)→VR E v x→v.noX=true→VR E' v x
 |.bool _,_,_,.bool b,hn=>.bool b
 |.int _ _,_,_,.int k n,hn=>.int k n
 |.str _ _,_,_,.str l n s h1 h2,hn=>.str l n s h1 h2
 |.nilp,_,_,.nilp,hn=>.nilp
 |.nils,_,_,.nils,hn=>.nils
 |.nilm,_,_,.nilm,hn=>.nilm
 |.nilf,_,_,.nilf,hn=>.nilf
 |.nili,_,_,.nili,hn=>.nili
 |.bad,_,_,h,hn=>by cases h
 |.ptr k o,_,h,.ptr _ _ p hp,hn=>.ptr k o p (h k (by simp[V.pls]) p hp)
 |.slice k o n c e,_,h,.slice _ _ _ _ _ p q hp h1 h2 h3,hn=>.slice k o n c e p q (h k (by simp[V.pls]) p hp) h1 h2 h3
 |.map k,_,h,.map _ p hp,hn=>.map k p (h k (by simp[V.pls]) p hp)
 |.sym k,_,h,.sym _ p x hp h1 h2 h3,hn=>.sym k p x (h k (by simp[V.pls]) p hp) h1 h2 h3
 |.top k,_,h,.top _ p x hp h1 h2,hn=>.top k p x (h k (by simp[V.pls]) p hp) h1 h2
 |.emp k e,_,h,.emp _ _ p o c hp h1,hn=>.emp k e p o c (h k (by simp[V.pls]) p hp) h1
 |.func f a b,_,h,.func _ g _ _ c d hf h1 h2,hn=>by
  simp only[V.noX,Bool.and_eq_true] at hn
  cases f with
  |yield k=>
   obtain⟨p,hp,e⟩:=hf
   exact .func _ g a b c d ⟨p,h k (by simp[V.pls]) p hp,e⟩ (VRs.move (fun l hl=>h l (by simp[V.pls,hl])) h1 hn.1) (VRs.move (fun l hl=>h l (by simp[V.pls,hl])) h2 hn.2)
  |func k=>exact .func _ g a b c d hf (VRs.move (fun l hl=>h l (by simp[V.pls,hl])) h1 hn.1) (VRs.move (fun l hl=>h l (by simp[V.pls,hl])) h2 hn.2)
  |_=>exact hf.elim
 |.iface t v,_,h,.iface _ _ x h1,hn=>.iface t v x (VR.move (fun l hl=>h l (by simpa only[V.pls] using hl)) h1 (by simpa only[V.noX] using hn))
 |.agg a,_,h,.agg _ b h1,hn=>.agg a b (VRs.move (fun l hl=>h l (by simpa only[V.pls] using hl)) h1 (by simpa only[V.noX] using hn))
 |.tup a,_,h,.tup _ b h1,hn=>.tup a b (VRs.move (fun l hl=>h l (by simpa only[V.pls] using hl)) h1 (by simpa only[V.noX] using hn))
theorem VRs.move:∀ {vs:List V}{xs:List Value},(∀ l∈V.plsL vs,∀ p,E l=some p→E' l=some p)→VRs E vs xs→V.noXL vs=true→VRs E' vs xs
 |[],_,_,.nil,_=>.nil
 |v::vs,_,h,.cons _ x _ xs h1 h2,hn=>by
  simp only[V.noXL,Bool.and_eq_true] at hn
  exact .cons v x vs xs (VR.move (fun l hl=>h l (by simp[V.plsL,hl])) h1 hn.1) (VRs.move (fun l hl=>h l (by simp[V.plsL,hl])) h2 hn.2)
end
end
section
variable {P:Program}{w0:Bs}
structure Ext (w w':World):Prop where
 old:∀ b,b<w.heap.size→w'.heap[b]? = w.heap[b]?
 size:w.heap.size≤w'.heap.size
 os:w'.os=w.os
 output:w'.output=w.output
 tape:w'.tape=w.tape
theorem WR.grow {E:Env}{H:T AObj}{nx:Nat}{w w':World}(h:WR w0 E H nx w)(he:Ext w w'):WR w0 E H nx w':=by
 refine⟨fun l p hp=>?_,h.fresh,h.sep,h.cls,fun l p hp=>?_,fun b hb=>?_,Nat.le_trans h.size he.size,he.os.trans h.os,he.output.trans h.output,he.tape.trans h.tape,h.le,fun l p hp b o v hf=>⟨(cell_heap (he.old b (cell_lt (h.dat l p hp b o v hf).1))).trans (h.dat l p hp b o v hf).1,(h.dat l p hp b o v hf).2⟩,h.dec,h.fzo⟩
 ·rw[he.old _ (h.own l p hp).1];exact h.objs l p hp
 ·have:=h.own l p hp
  exact⟨Nat.lt_of_lt_of_le this.1 he.size,this.2⟩
 ·rw[he.old b (h.lt_old hb)];exact h.old b hb
structure Gd0 (k:Nat)(G:World→Prop):Prop where
 keep:∀ w w',(∀ b,b<k→w'.heap[b]? = w.heap[b]?)→G w→G w'
 size:∀ w,G w→k≤w.heap.size
class Tb where
 tab:Option (Nat×(Nat→List Cl→Cl))
variable [Tb]
def Env.okT (E:Env):Prop:=∀ pl fn,Tb.tab=some (pl,fn)→∃ p,E pl=some p∧p.ob.fn=fn
theorem Env.okT.mono {E E':Env}(h:E.okT)(hle:E.le E'):E'.okT:=fun pl fn ht=>by
 obtain⟨p,h1,h2⟩:=h pl fn ht
 exact⟨p,hle _ _ h1,h2⟩
def GB (k:Nat)(G:World→Prop)(b:Bs):Prop:=(∀ i,i<k→b.old i)∧G b.w∧b.env.okT
theorem GB.at {k:Nat}{G:World→Prop}(hG:Gd0 k G)(h:GB k G w0){E:Env}{H:T AObj}{nx:Nat}{w:World}(hw:WR w0 E H nx w):G w:=
 hG.keep w0.w w (fun b hb=>hw.old b (h.1 b hb)) h.2.1
mutual
theorem VR.ofFine {E E':Env}:∀ {v:V}{x:Value},v.fine=true→VR E v x→VR E' v x
 |_,_,_,.bool b=>.bool b
 |_,_,_,.int k n=>.int k n
 |_,_,_,.str l n s h1 h2=>.str l n s h1 h2
 |_,_,_,.nilp=>.nilp
 |_,_,_,.nils=>.nils
 |_,_,_,.nilm=>.nilm
 |_,_,_,.nilf=>.nilf
 |_,_,_,.nili=>.nili
 |.ptr _ _,_,h,_=>by simp[V.fine] at h
 |.slice _ _ _ _ _,_,h,_=>by simp[V.fine] at h
 |.map _,_,h,_=>by simp[V.fine] at h
 |.sym _,_,h,_=>by simp[V.fine] at h
 |.func f a b,_,h,.func _ g _ _ c d hf h1 h2=>by
  cases f with
  |func k=>
   simp only[V.fine,Bool.and_eq_true] at h
   exact .func _ g a b c d hf (VRs.ofFine h.1 h1) (VRs.ofFine h.2 h2)
  |_=>simp[V.fine] at h
 |.iface t v,_,h,.iface _ _ x h1=>.iface t v x (VR.ofFine (by simpa only[V.fine] using h) h1)
 |.agg a,_,h,.agg _ b h1=>.agg a b (VRs.ofFine (by simpa only[V.fine] using h) h1)
 |.tup a,_,h,.tup _ b h1=>.tup a b (VRs.ofFine (by simpa only[V.fine] using h) h1)
theorem VRs.ofFine {E E':Env}:∀ {vs:List V}{xs:List Value},V.fineL vs=true→VRs E vs xs→VRs E' vs xs
 |_,_,_,.nil=>.nil
 |v::vs,_,h,.cons _ x _ xs h1 h2=>by
  simp only[V.fineL,Bool.and_eq_true] at h
  exact .cons v x vs xs (VR.ofFine h.1 h1) (VRs.ofFine h.2 h2)
end
theorem panV_none {E:Env}{v:V}{x:Value}(h:VR E v x):panV v=none:=by
 unfold panV
 split
 ·cases h with
  |tup _ _ h1=>cases h1 with|cons _ _ _ _ h2 _=>cases h2
 ·rfl
def HookPost (w0:Bs)(E:Env)(H:T AObj)(nx:Nat)(v:V)(H':T AObj)(nx':Nat)(e:Ending)(w':World):Prop:=
 match panV v with
 |none=>∃ x E',e=.returned x∧E.le E'∧VR E' v x∧WR w0 E' H' nx' w'∧nx≤nx'∧Keep E E' H H' nx
 |some u=>∃ x E',e=.panicked [{ v:=x,recovered:=false }]∧E.le E'∧VR E' u x∧WR w0 E' H' nx' w'∧nx≤nx'∧Keep E E' H H' nx
theorem HookPost.ret {w0:Bs}{E:Env}{H:T AObj}{nx:Nat}{v:V}{H':T AObj}{nx':Nat}{e:Ending}{w':World}
  (h:∃ x E',e=.returned x∧E.le E'∧VR E' v x∧WR w0 E' H' nx' w'∧nx≤nx'∧Keep E E' H H' nx):HookPost w0 E H nx v H' nx' e w':=by
 obtain⟨x,E',h1,h2,h3,h4⟩:=h
 unfold HookPost
 rw[panV_none h3]
 exact⟨x,E',h1,h2,h3,h4⟩
def HookOk (P:Program)(w0:Bs)(hk:Hook):Prop:=
 ∀ E H nx w f args xs v H' nx',WR w0 E H nx w→(∀ g,g<P.globals.size→∃ s,E g=some ⟨g,0,s,undef,noOb,[]⟩)→VRs E args xs→hk f args H nx=some (v,H',nx')→
  Calls P f xs.toArray w (HookPost w0 E H nx v H' nx')
def Hooks (P:Program)(k:Nat)(G:World→Prop)(hk:Hook):Prop:=∀ b,GB k G b→HookOk P b hk
end
end Go.Exo

namespace Go.Exo
set_option linter.unusedSectionVars false
variable [Sx] [Dc] [Tb]
theorem sel_ro {A B C D A' B' C' D':Nat→AObj}(ha:∀ i,A' i=roO (A i))(hb:∀ i,B' i=roO (B i))(hc:∀ i,C' i=roO (C i))(hd:∀ i,D' i=roO (D i)):∀ m i,sel A' B' C' D' m i=roO (sel A B C D m i)
 |0,i=>ha i
 |1,i=>hb i
 |2,i=>hc i
 |_+3,i=>hd i
theorem getH_roT (H:T AObj):∀ l,getH (roT H) l=roO (getH H l):=by
 induction H with
 |e=>intro l;rfl
 |n v a b c d iha ihb ihc ihd=>
  intro l
  cases l with
  |zero=>rfl
  |succ j=>
   rw[getH_eq,getH_eq]
   show (T.n (roO v) (roT a) (roT b) (roT c) (roT d)).get .no (j+1)=_
   rw[get_nS,get_nS]
   exact sel_ro iha ihb ihc ihd _ _
theorem clsOf_roO (o:AObj):clsOf (roO o)=clsOf o:=by cases o<;>rfl
theorem endOf_roO (o:AObj):endOf (roO o)=endOf o:=by cases o<;>rfl
theorem ro_roO (o:AObj)(h:isCls o=false):roO o=.no∨isRo (roO o)=true:=by cases o<;>first|exact .inl rfl|exact .inr rfl|cases h
theorem isCls_inv {o:AObj}(h:isCls o=true):∃ a b c,o=.cls a b c:=by cases o<;>first|exact⟨_,_,_,rfl⟩|(exact absurd h (by decide))|cases h
theorem OR.ro {E:Env}{H:T AObj}{l:Nat}{p:Pl}{ob:Option Obj}{o:AObj}(h:OR E H l p ob o):OR E H l p ob (roO o):=by
 cases o<;>first|exact h|trivial
section
variable {P:Program}{w0:Bs}{E:Env}{H:T AObj}{nx:Nat}{w w':World}
def Bs.round (w:World)(E:Env)(H:T AObj)(E2:Env):Bs:=⟨w,fun b=>b<w.heap.size∧∀ l p,E l=some p→isCls (getH H l)=true→p.blk≠b,fun _ h=>h.1,E2⟩
theorem WR.noCls (h:WR w0 E H nx w){l l1:Nat}{p p1:Pl}(hl:E l=some p)(hl1:E l1=some p1)(hb:p.blk=p1.blk)(hc:isCls (getH H l1)=true)(hn:getH H l≠.no)(hne:isCls (getH H l)=false):False:=by
 have hll:l≠l1:=fun e=>by subst e;rw[hc] at hne;cases hne
 have h0:clsOf (getH H l1)=0:=by obtain⟨a,b,c,e⟩:=isCls_inv hc;rw[e];rfl
 have h1:isRo (getH H l1)=false:=by obtain⟨a,b,c,e⟩:=isCls_inv hc;rw[e];rfl
 rcases h.sep l l1 p p1 hll hl hl1 hb with (h2|h2|h2)|h2
 ·exact hn h2
 ·rw[h2] at hc;cases hc
 ·rw[h0] at h2;exact h2.1 h2.2.1
 ·rw[h1] at h2;cases h2.2
theorem WR.round (h:WR w0 E H nx w){r m:Nat}{pr pm:Pl}{clock b since:Nat}{seen:Array Nat}
  (hr:E r=some pr)(hrno:getH H r=.no)(hrsep:∀ l p,l≠r→E l=some p→p.blk=pr.blk→getH H l=.no)(hrb:pr.base=0)
  (hm:E m=some pm)(hit:w.heap[pr.blk]? = some (.mapIter (some pm.blk) since seen clock))(hbk:seen.back? = some b)
  {E2:Env}{L2:Nat}(hlt:∀ l,l<nx→E2 l=E l)(hnew:∀ l p,nx≤l→E2 l=some p→p.blk<w.heap.size)(hend:∀ l,L2≤l→E2 l=none)(hL2:nx≤L2)(hfz:∀ l p,nx≤l→E2 l=some p→∀ b o,p.ob.fz b o=none) :
  WR (Bs.round w E H E2) E2 (put .no (roT H) r (.mit m b clock)) L2 w:=by
 have hrn:r<nx:=Nat.lt_of_not_le fun hh=>by rw[(h.fresh r hh).1] at hr;cases hr
 have hmn:m<nx:=Nat.lt_of_not_le fun hh=>by rw[(h.fresh m hh).1] at hm;cases hm
 have hself:getH (put .no (roT H) r (.mit m b clock)) r=.mit m b clock:=by rw[getH_put,if_pos rfl]
 have hget:∀ l,l≠r→getH (put .no (roT H) r (.mit m b clock)) l=roO (getH H l):=fun l e=>by rw[getH_put,if_neg e,getH_roT]
 have hle:E.le E2:=fun l p hp=>by
  have:l<nx:=Nat.lt_of_not_le fun hh=>by rw[(h.fresh l hh).1] at hp;cases hp
  rw[hlt l this];exact hp
 have hhi:∀ l,nx≤l→getH (put .no (roT H) r (.mit m b clock)) l=.no:=fun l hl=>by rw[hget l (by omega),(h.fresh l hl).2];rfl
 have hcn:∀ l,clsOf (getH H l)≠0→clsOf (getH H l)≠r∧clsOf (getH H l)<nx∧∃ cur lim mk,getH H (clsOf (getH H l))=.cls cur lim mk:=fun l hc0=>by
  obtain⟨cur,lim,mk,h1,_,_⟩:=h.cls l hc0
  refine⟨fun e=>?_,Nat.lt_of_not_le fun hh=>?_,cur,lim,mk,h1⟩
  ·rw[e,hrno] at h1;cases h1
  ·rw[(h.fresh _ hh).2] at h1;cases h1
 have hok:∀ k pos,okAt (put .no (roT H) r (.mit m b clock)) k (clsOf (getH H k)) pos→okAt H k (clsOf (getH H k)) pos:=fun k pos ho=>ho.same fun hc0=>by
  obtain⟨h1,_,cur,lim,mk,h3⟩:=hcn k hc0
  rw[hget _ h1,h3];rfl
 refine⟨fun l p hl=>?_,fun l hl=>⟨hend l hl,hhi l (by omega)⟩,fun l l' p p' hne hl hl' hb=>?_,fun l hc0=>?_,fun l p hl=>?_,fun _ _=>rfl,Nat.le_refl _,rfl,rfl,rfl,Env.le.refl _,?dat,fun t b hd=>⟨X.ok_mono hle (h.decE t b hd).1,by show Cl.hd (t.den E2)=_;rw[X.den_mono hle (h.decE t b hd).1];exact (h.decE t b hd).2⟩,fun l p hl b o v hf _=>⟨l,p,hl,hf⟩⟩
 case dat=>
  intro l p hl bb o v hf
  by_cases e:nx≤l
  ·rw[hfz l p e hl] at hf;cases hf
  rw[hlt l (by omega)] at hl
  obtain⟨h1,h2⟩:=h.dat l p hl bb o v hf
  refine⟨h1,fun l' p' hl' hb'=>?_⟩
  by_cases e':nx≤l'
  ·rw[hhi l' e'];exact .inl rfl
  by_cases e2:l'=r
  ·subst e2;rw[hself];exact .inr rfl
  rw[hlt l' (by omega)] at hl'
  rw[hget l' e2]
  have h3:=h2 l' p' hl' hb'
  cases hcc:isCls (getH H l') with
  |true=>obtain⟨a,b',c,e'⟩:=isCls_inv hcc;rw[e'] at h3;rcases h3 with h3|h3<;>cases h3
  |false=>
   rcases ro_roO _ hcc with g|g
   ·rw[g];exact .inl rfl
   ·cases hro:roO (getH H l')<;>rw[hro] at g<;>first|exact .inr g|(cases g;done)
 ·by_cases e:nx≤l
  ·rw[hhi l e];trivial
  ·rw[hlt l (by omega)] at hl
   by_cases e2:l=r
   ·subst e2
    rw[hr] at hl;cases hl
    rw[hself]
    exact⟨pm,since,seen,hle _ _ hm,hit,hbk,hrb⟩
   ·rw[hget l e2]
    exact (OR.trans (h.objs l p hl) hle (hok l)).ro
 ·by_cases e:nx≤l
  ·exact .inl (.inl (hhi l e))
  by_cases e':nx≤l'
  ·exact .inl (.inr (.inl (hhi l' e')))
  rw[hlt l (by omega)] at hl
  rw[hlt l' (by omega)] at hl'
  by_cases e2:l=r
  ·subst e2
   rw[hr] at hl;cases hl
   exact .inl (.inr (.inl (by rw[hget l' (Ne.symm hne),hrsep l' p' (Ne.symm hne) hl' hb.symm];rfl)))
  by_cases e3:l'=r
  ·subst e3
   rw[hr] at hl';cases hl'
   exact .inl (.inl (by rw[hget l hne,hrsep l p hne hl hb];rfl))
  rw[hget l e2,hget l' e3]
  by_cases n1:getH H l=.no
  ·exact .inl (.inl (by rw[n1];rfl))
  by_cases n2:getH H l'=.no
  ·exact .inl (.inr (.inl (by rw[n2];rfl)))
  have c1:isCls (getH H l)=false:=by
   cases hcc:isCls (getH H l) with
   |false=>rfl
   |true=>
    cases hcc':isCls (getH H l') with
    |false=>exact (h.noCls hl' hl hb.symm hcc n2 hcc').elim
    |true=>
     exfalso
     have q1:clsOf (getH H l)=0∧isRo (getH H l)=false:=by obtain⟨a,b,c,e⟩:=isCls_inv hcc;rw[e];exact⟨rfl,rfl⟩
     rcases h.sep l l' p p' hne hl hl' hb with (h2|h2|h2)|h2
     ·exact n1 h2
     ·exact n2 h2
     ·exact h2.1 q1.1
     ·rw[q1.2] at h2;cases h2.1
  have c2:isCls (getH H l')=false:=by
   cases hcc:isCls (getH H l') with
   |false=>rfl
   |true=>exact (h.noCls hl hl' hb hcc n1 c1).elim
  rcases ro_roO _ c1 with g1|g1
  ·exact .inl (.inl g1)
  rcases ro_roO _ c2 with g2|g2
  ·exact .inl (.inr (.inl g2))
  exact .inr ⟨g1,g2⟩
 ·by_cases e2:l=r
  ·subst e2;rw[hself] at hc0;exact absurd rfl hc0
  rw[hget l e2,clsOf_roO] at hc0 ⊢
  rw[endOf_roO]
  obtain⟨cur,lim,mk,h1,h2,h3⟩:=h.cls l hc0
  obtain⟨g1,g2,_⟩:=hcn l hc0
  exact⟨cur,lim,mk,by rw[hget _ g1,h1];rfl,h2,by rw[hlt _ g2];exact h3⟩
 ·by_cases e:nx≤l
  ·exact⟨hnew l p e hl,.inl (hhi l e)⟩
  rw[hlt l (by omega)] at hl
  refine⟨(h.own l p hl).1,?_⟩
  by_cases e2:l=r
  ·subst e2;rw[hself];exact .inr (.inl rfl)
  rw[hget l e2]
  cases hcc:isCls (getH H l) with
  |true=>exact .inr (.inr fun ho=>ho.2 l p hl hcc rfl)
  |false=>
   rcases ro_roO _ hcc with g|g
   ·exact .inl g
   ·exact .inr (.inl g)
theorem WR.back (h:WR w0 E H nx w){E2 E':Env}{H':T AObj}{nx':Nat}(h2:WR (Bs.round w E H E2) E' H' nx' w'):WR w0 E H nx w':=by
 refine⟨fun l p hl=>?_,h.fresh,h.sep,h.cls,fun l p hl=>⟨Nat.lt_of_lt_of_le (h.own l p hl).1 h2.size,(h.own l p hl).2⟩,fun b hb=>?_,Nat.le_trans h.size h2.size,h2.os.trans h.os,h2.output.trans h.output,h2.tape.trans h.tape,h.le,fun l p hl b o v hf=>⟨?dat,(h.dat l p hl b o v hf).2⟩,h.dec,h.fzo⟩
 case dat=>
  obtain⟨h3,h4⟩:=h.dat l p hl b o v hf
  exact (cell_heap (h2.old b ⟨cell_lt h3,fun l1 p1 hl1 hc1 e=>by
   have h5:=h4 l1 p1 hl1 e
   obtain⟨a,b',c,e'⟩:=isCls_inv hc1
   rw[e'] at h5;rcases h5 with h5|h5<;>cases h5⟩)).trans h3
 ·by_cases n1:getH H l=.no
  ·rw[n1];trivial
  cases hcc:isCls (getH H l) with
  |true=>obtain⟨a,b,c,e⟩:=isCls_inv hcc;rw[e];trivial
  |false=>
   have hold:(Bs.round w E H E2).old p.blk:=⟨(h.own l p hl).1,fun l1 p1 hl1 hc1 e=>h.noCls hl hl1 e.symm hc1 n1 hcc⟩
   have:=h2.old _ hold
   rw[this]
   exact h.objs l p hl
 ·rw[h2.old b ⟨h.lt_old hb,fun l p hl hc e=>by
   rcases (h.own l p hl).2 with g|g|g
   ·rw[g] at hc;cases hc
   ·obtain⟨a,b',c,e'⟩:=isCls_inv hc;rw[e'] at g;cases g
   ·rw[e] at g;exact g hb⟩]
  exact h.old b hb
theorem WR.turn (h:WR w0 E H nx w){r:Nat}{pr:Pl}(hr:E r=some pr)(hrno:getH H r=.no)(hrsep:∀ l p,l≠r→E l=some p→p.blk=pr.blk→getH H l=.no)(hrold:¬ w0.old pr.blk)(hz:∀ l p b o v,E l=some p→p.ob.fz b o=some v→b≠pr.blk)
  (hoth:∀ k,k≠pr.blk→w'.heap[k]? = w.heap[k]?)(hsz:w'.heap.size=w.heap.size)(hos:w'.os=w.os)(hout:w'.output=w.output)(htape:w'.tape=w.tape):WR w0 E H nx w':=by
 refine⟨fun l p hl=>?_,h.fresh,h.sep,h.cls,fun l p hl=>by rw[hsz];exact h.own l p hl,fun b hb=>?_,by rw[hsz];exact h.size,hos.trans h.os,hout.trans h.output,htape.trans h.tape,h.le,fun l p hl b o v hf=>⟨(cell_heap (hoth b (hz l p b o v hl hf))).trans (h.dat l p hl b o v hf).1,(h.dat l p hl b o v hf).2⟩,h.dec,h.fzo⟩
 ·by_cases e:p.blk=pr.blk
  ·by_cases e2:l=r
   ·subst e2;rw[hrno];trivial
   ·rw[hrsep l p e2 hl e];trivial
  ·rw[hoth _ e];exact h.objs l p hl
 ·rw[hoth b fun e=>hrold (e ▸ hb)];exact h.old b hb
end
end Go.Exo

namespace Go.Exo
set_option linter.unusedSectionVars false
variable [Sx] [Dc] [Tb]
theorem rangeLoop_inv {b rest:Code}{t d1 d2:Nat}(h:rangeLoop b=some (t,d1,d2,rest)) :
  ∃ id ops o1 o2,b=.seq (.region id ops false) rest∧ops.toList=[o1,o2]∧o1.op=.next (.tmp t) false∧o1.dst=some d1∧o1.guard=none∧o2.op=.extract (.tmp d1) 0∧o2.dst=some d2∧o2.guard=none:=by
 unfold rangeLoop at h
 split at h
 ·rename_i id ops rest'
  split at h
  ·rename_i o1 o2 ho
   split at h
   ·rename_i t' e1 d e2 a1 a2 a3 a4 a5 a6
    cases hb:Nat.beq d e1 with
    |false=>rw[hb] at h;cases h
    |true=>
     rw[hb] at h
     simp only[cond_true,Option.some.injEq,Prod.mk.injEq] at h
     obtain⟨rfl,rfl,rfl,rfl⟩:=h
     have e:=Nat.eq_of_beq_eq_true hb
     subst e
     exact⟨id,ops,o1,o2,rfl,ho,a1,a2,a3,a4,a5,a6⟩
   ·cases h
  ·cases h
 ·cases h
theorem memN_iff {x:Nat}:∀ {l:List Nat},memN x l=true↔x∈l
 |[]=>by simp[memN]
 |y::r=>by
  simp only[memN]
  cases hb:Nat.beq x y with
  |true=>simp[Nat.eq_of_beq_eq_true hb]
  |false=>
   have:x≠y:=fun e=>by subst e;simp at hb
   simp[memN_iff (l:=r),this]
theorem onceN_ok:∀ (l:List Nat),(onceN l).Nodup∧∀ x,x∈onceN l↔x∈l
 |[]=>⟨List.nodup_nil,fun x=>Iff.rfl⟩
 |y::r=>by
  obtain⟨h1,h2⟩:=onceN_ok r
  simp only[onceN]
  cases hm:memN y r with
  |true=>
   refine⟨h1,fun x=>?_⟩
   have:=memN_iff.1 hm
   simp only[cond_true,h2,List.mem_cons]
   exact⟨.inr,fun h=>h.elim (fun e=>e ▸ this) id⟩
  |false=>
   have:y∉onceN r:=fun h=>by rw[h2] at h;rw[memN_iff.2 h] at hm;cases hm
   exact⟨List.nodup_cons.2 ⟨this,h1⟩,fun x=>by simp[h2]⟩
noncomputable def tops:List Nat→Nat→T V→T V
 |[],_,tm=>tm
 |d::ds,l,tm=>tops ds (l+1) (put undefV tm d (.top l))
theorem topsK_eq {β:Type}:∀ (ds:List Nat)(l:Nat)(tm:T V)(k:T V→β),topsK ds l tm k=k (tops ds l tm)
 |[],_,_,_=>rfl
 |d::ds,l,tm,k=>by
  simp only[topsK,tops]
  rw[setK_eq,topsK_eq]
theorem tops_other:∀ (ds:List Nat)(l:Nat)(tm:T V)(i:Nat),i∉ds→getU (tops ds l tm) i=getU tm i
 |[],_,_,_,_=>rfl
 |d::ds,l,tm,i,h=>by
  simp only[tops]
  rw[tops_other ds (l+1) _ i (fun hh=>h (.tail _ hh)),getU_put,if_neg (fun e=>h (by rw[e];exact List.mem_cons_self))]
theorem tops_at:∀ (ds:List Nat)(l:Nat)(tm:T V)(j d:Nat),ds.Nodup→ds[j]? = some d→getU (tops ds l tm) d=.top (l+j)
 |[],_,_,_,_,_,h=>by simp at h
 |e::ds,l,tm,j,d,hn,h=>by
  obtain⟨h1,h2⟩:=List.nodup_cons.1 hn
  simp only[tops]
  cases j with
  |zero=>
   simp at h;subst h
   rw[tops_other ds (l+1) _ _ h1,getU_put,if_pos rfl,Nat.add_zero]
  |succ j=>
   have h':ds[j]? = some d:=by simpa using h
   have:=tops_at ds (l+1) (put undefV tm e (.top l)) j d h2 h'
   rw[this];congr 1;omega
theorem loneAll_ok {tm:T V}:∀ {ds:List Nat},loneAll tm ds=true→∀ d∈ds,(getU tm d).lone=true
 |[],_,d,hd=>by cases hd
 |e::ds,h,d,hd=>by
  simp only[loneAll] at h
  cases hc:(getU tm e).lone with
  |false=>rw[hc] at h;cases h
  |true=>
   rw[hc] at h
   cases hd with
   |head=>exact hc
   |tail _ hd=>exact loneAll_ok h d hd
theorem sameBut_ok {ds:List Nat}{a b:T V}:∀ {n:Nat},sameBut ds a b n=true→∀ i,i<n→i∉ds→getU a i=getU b i∧(getU a i).noX=true
 |0,_,i,hi,_=>by omega
 |n+1,h,i,hi,hd=>by
  simp only[sameBut] at h
  cases hc:(memN n ds || (V.eqB (getU a n) (getU b n)&&(getU a n).noX)) with
  |false=>rw[hc] at h;cases h
  |true=>
   rw[hc] at h
   by_cases e:i=n
   ·subst e
    rcases Bool.or_eq_true _ _ ▸ hc with h1|h1
    ·exact absurd (memN_iff.1 h1) hd
    ·simp only[Bool.and_eq_true] at h1;exact⟨eqB_eq h1.1,h1.2⟩
   ·exact sameBut_ok h i (by omega) hd
theorem bornNe_ok {b:Nat}:∀ {l:List (V×V×Nat)},bornOk.bornNe b l=true→∀ e∈l,e.2.2≠b
 |[],_,e,he=>by cases he
 |(_,_,c)::r,h,e,he=>by
  simp only[bornOk.bornNe] at h
  cases hb:Nat.beq b c with
  |true=>rw[hb] at h;cases h
  |false=>
   rw[hb] at h
   cases he with
   |head=>exact fun e=>by simp at e;subst e;simp at hb
   |tail _ he=>exact bornNe_ok h e he
theorem bornOk_ok {since:Nat}:∀ {l:List (V×V×Nat)},bornOk since l=true→(∀ e∈l,e.2.2<since)∧∀ e∈l,∀ e'∈l,e.2.2=e'.2.2→e=e'
 |[],_=>⟨(fun e he=>by cases he),fun e he=>by cases he⟩
 |(k,v,b)::r,h=>by
  simp only[bornOk] at h
  cases hc:(Nat.ble (Nat.succ b) since&&bornOk.bornNe b r) with
  |false=>rw[hc] at h;cases h
  |true=>
   rw[hc] at h
   simp only[Bool.and_eq_true] at hc
   obtain⟨h1,h2⟩:=bornOk_ok h
   have hn:=bornNe_ok hc.2
   refine⟨fun e he=>?_,fun e he e' he' hb=>?_⟩
   ·cases he with
    |head=>exact Nat.le_of_ble_eq_true hc.1
    |tail _ he=>exact h1 e he
   ·cases he with
    |head=>cases he' with
     |head=>rfl
     |tail _ he'=>exact absurd hb.symm (hn e' he')
    |tail _ he=>cases he' with
     |head=>exact absurd hb (hn e he)
     |tail _ he'=>exact h2 e he e' he' hb
def TInv (res:V×V×Nat→List V)(l j:Nat)(pre:List (V×V×Nat)):Turn→Prop
 |.no=>∀ e∈pre,(res e)[j]? = some (.top (l+j))
 |.one v=>v.fine=true∧∃ e∈pre,(res e)[j]? = some v∧∀ e'∈pre,e'.2.2≠e.2.2→(res e')[j]? = some (.top (l+j))
 |.many=>True
theorem turnL_get:∀ (vs:List V)(ts:List Turn)(l j:Nat)(v:V)(t:Turn),vs[j]? = some v→ts[j]? = some t→(turnL l vs ts)[j]? = some (turnV (l+j) v t)
 |[],_,_,_,_,_,h,_=>by simp at h
 |_::_,[],_,_,_,_,_,h=>by simp at h
 |v0::vs,t0::ts,l,j,v,t,hv,ht=>by
  simp only[turnL]
  cases j with
  |zero=>simp at hv ht;subst hv ht;rfl
  |succ j=>
   have:=turnL_get vs ts (l+1) j v t (by simpa using hv) (by simpa using ht)
   simp only[List.getElem?_cons_succ]
   rw[show Nat.succ l=l+1 from rfl,this];congr 2;omega
theorem turnL_length:∀ (vs:List V)(ts:List Turn)(l:Nat),vs.length=ts.length→(turnL l vs ts).length=ts.length
 |[],[],_,_=>rfl
 |[],_::_,_,h=>by simp at h
 |_::_,[],_,h=>by simp at h
 |v::vs,t::ts,l,h=>by simp only[turnL,List.length_cons];rw[turnL_length vs ts _ (by simpa using h)]
theorem turnV_ok {res:V×V×Nat→List V}{l j:Nat}{pre:List (V×V×Nat)}{e0:V×V×Nat}{v:V}{t:Turn}(h:TInv res l j pre t)(hv:(res e0)[j]? = some v):TInv res l j (pre++[e0]) (turnV (l+j) v t):=by
 have hsplit:∀ e,e∈pre++[e0]→e∈pre∨e=e0:=fun e he=>by simpa using he
 cases t with
 |no=>
  have other:∀ u,v=u→(∀ l',u≠.top l')→TInv res l j (pre++[e0]) (cond u.fine (.one u) .many):=fun u e hu=>by
   cases hf:u.fine with
   |false=>trivial
   |true=>exact⟨hf,e0,by simp,by rw[hv,e],fun e' he' hne=>(hsplit e' he').elim (h e') fun e=>absurd (by rw[e]) hne⟩
  cases v with
  |top l'=>
   show TInv _ _ _ _ (cond (Nat.beq (l+j) l') .no .many)
   cases hb:Nat.beq (l+j) l' with
   |false=>trivial
   |true=>
    have e:=Nat.eq_of_beq_eq_true hb
    subst e
    exact fun e he=>(hsplit e he).elim (h e) fun e'=>by rw[e'];exact hv
  |_=>exact other _ rfl (fun _ e=>by cases e)
 |one u=>
  obtain⟨hf,e1,he1,hr1,ho⟩:=h
  cases v with
  |top l'=>
   show TInv _ _ _ _ (cond (Nat.beq (l+j) l') (.one u) .many)
   cases hb:Nat.beq (l+j) l' with
   |false=>trivial
   |true=>
    have e:=Nat.eq_of_beq_eq_true hb
    subst e
    exact⟨hf,e1,by simp[he1],hr1,fun e' he' hne=>(hsplit e' he').elim (fun hh=>ho e' hh hne) fun e=>by rw[e];exact hv⟩
  |_=>trivial
 |many=>trivial
section
variable {rest:Code}{c:Ctx}{H:T AObj}{r m clock d1 d2 L:Nat}{D:List Nat}{tm:T V}{ih:Ih}
theorem rounds_ok:∀ {es:List (V×V×Nat)}{ts ts':List Turn}{pre:List (V×V×Nat)},rounds rest c H r m clock d1 d2 L D tm ih es ts=some ts'→
  (∀ e vs,round1 rest c H r m clock d1 d2 L D tm ih e=some vs→vs.length=D.length)→ts.length=D.length→
  (∀ j t,ts[j]? = some t→TInv (fun e=>(round1 rest c H r m clock d1 d2 L D tm ih e).getD []) c.nx j pre t)→
  (∀ e∈es,∃ vs,round1 rest c H r m clock d1 d2 L D tm ih e=some vs)∧ts'.length=D.length∧
  ∀ j t,ts'[j]? = some t→TInv (fun e=>(round1 rest c H r m clock d1 d2 L D tm ih e).getD []) c.nx j (pre++es) t
 |[],ts,ts',pre,h,_,hl,hi=>by
  simp only[rounds,Option.some.injEq] at h
  subst h
  exact⟨(fun e he=>by cases he),hl,by simpa using hi⟩
 |e::es,ts,ts',pre,h,hlen,hl,hi=>by
  simp only[rounds] at h
  cases hr:round1 rest c H r m clock d1 d2 L D tm ih e with
  |none=>rw[hr] at h;cases h
  |some vs=>
   rw[hr] at h
   have hvl:=hlen e vs hr
   obtain⟨h1,h2,h3⟩:=rounds_ok (pre:=pre++[e]) h hlen (by rw[turnL_length _ _ _ (by rw[hvl,hl]),hl]) fun j t ht=>by
    have hj:j<(turnL c.nx vs ts).length:=(List.getElem?_eq_some_iff.1 ht).1
    rw[turnL_length _ _ _ (by rw[hvl,hl])] at hj
    obtain⟨v,hv⟩:∃ v,vs[j]? = some v:=⟨_,List.getElem?_eq_getElem (by omega)⟩
    obtain⟨t0,ht0⟩:∃ t0,ts[j]? = some t0:=⟨_,List.getElem?_eq_getElem hj⟩
    rw[turnL_get vs ts c.nx j v t0 hv ht0] at ht
    cases ht
    exact turnV_ok (hi j t0 ht0) (by rw[hr];exact hv)
   refine⟨fun e' he'=>?_,h2,fun j t ht=>by simpa using h3 j t ht⟩
   cases he' with
   |head=>exact⟨vs,hr⟩
   |tail _ he'=>exact h1 e' he'
end
noncomputable def turnsT:List Nat→List Turn→Nat→T V→T V
 |d::ds,t::ts,l,tm=>turnsT ds ts (l+1) (match (generalizing:=false) t with|.no=>tm|.one v=>put undefV tm d v|.many=>put undefV tm d (.top l))
 |_,_,_,tm=>tm
theorem turnsK_eq {β:Type}:∀ (ds:List Nat)(ts:List Turn)(l:Nat)(tm:T V)(k:T V→β),turnsK ds ts l tm k=k (turnsT ds ts l tm)
 |[],_,_,_,_=>by simp[turnsK,turnsT]
 |_::_,[],_,_,_=>by simp[turnsK,turnsT]
 |d::ds,t::ts,l,tm,k=>by
  simp only[turnsK,turnsT]
  cases t<;>simp only[setK_eq]<;>exact turnsK_eq ds ts (l+1) _ k
theorem turnsT_other:∀ (ds:List Nat)(ts:List Turn)(l:Nat)(tm:T V)(i:Nat),i∉ds→getU (turnsT ds ts l tm) i=getU tm i
 |[],_,_,_,_,_=>by simp[turnsT]
 |_::_,[],_,_,_,_=>by simp[turnsT]
 |d::ds,t::ts,l,tm,i,h=>by
  simp only[turnsT]
  have hd:i≠d:=fun e=>h (by rw[e];exact List.mem_cons_self)
  rw[turnsT_other ds ts (l+1) _ i (fun hh=>h (.tail _ hh))]
  cases t<;>simp only[getU_put,if_neg hd]
theorem turnsT_at:∀ (ds:List Nat)(ts:List Turn)(l:Nat)(tm:T V)(j d:Nat)(t:Turn),ds.Nodup→ds[j]? = some d→ts[j]? = some t→
  getU (turnsT ds ts l tm) d=(match t with|.no=>getU tm d|.one v=>v|.many=>.top (l+j))
 |[],_,_,_,_,_,_,_,h,_=>by simp at h
 |_::_,[],_,_,_,_,_,_,_,h=>by simp at h
 |e::ds,t0::ts,l,tm,j,d,t,hn,h,ht=>by
  obtain⟨h1,h2⟩:=List.nodup_cons.1 hn
  simp only[turnsT]
  cases j with
  |zero=>
   simp at h ht;subst h ht
   rw[turnsT_other ds ts (l+1) _ _ h1]
   cases t0<;>simp only[getU_put,if_true,Nat.add_zero]
  |succ j=>
   have h':ds[j]? = some d:=by simpa using h
   have ht':ts[j]? = some t:=by simpa using ht
   have hde:d≠e:=fun e'=>h1 (e' ▸ List.mem_of_getElem? h')
   generalize hq:(match (generalizing:=false) t0 with|.no=>tm|.one v=>put undefV tm e v|.many=>put undefV tm e (.top l):T V)=tm1
   have hg:getU tm1 d=getU tm d:=by
    rw[← hq]
    cases t0<;>simp only[getU_put,if_neg hde]
   rw[turnsT_at ds ts (l+1) tm1 j d t h2 h' ht']
   cases t with
   |no=>exact hg
   |one v=>rfl
   |many=>simp only;congr 1;omega
end Go.Exo

namespace Go.Exo
set_option linter.unusedSectionVars false
variable [Sx] [Dc] [Tb]
section
variable {P:Program}{w0:Bs}{E:Env}
theorem WR.same {H H':T AObj}{nx:Nat}{w:World}(h:WR w0 E H nx w)(hh:∀ l,getH H' l=getH H l):WR w0 E H' nx w:=by
 refine⟨fun l p hl=>?_,fun l hl=>⟨(h.fresh l hl).1,by rw[hh];exact (h.fresh l hl).2⟩,fun l l' p p' a1 a2 a3 a4=>by rw[hh,hh];exact h.sep l l' p p' a1 a2 a3 a4,fun l hl=>?_,fun l p hl=>by rw[hh];exact h.own l p hl,h.old,h.size,h.os,h.output,h.tape,h.le,fun l p hl b o v hf=>⟨(h.dat l p hl b o v hf).1,fun l' p' hl' hb'=>by rw[hh];exact (h.dat l p hl b o v hf).2 l' p' hl' hb'⟩,h.dec,h.fzo⟩
 ·rw[hh]
  exact (h.objs l p hl).trans (Env.le.refl E) fun pos ho=>ho.same fun _=>hh _
 ·rw[hh] at hl ⊢
  rw[hh]
  exact h.cls l hl
theorem WR.name {H:T AObj}{nx n2:Nat}{w:World}{E2:Env}(h:WR w0 E H nx w)(hlt:∀ l,l<nx→E2 l=E l)(hnew:∀ l p,nx≤l→E2 l=some p→p.blk<w.heap.size)(hend:∀ l,n2≤l→E2 l=none)(hle:nx≤n2)(hfz:∀ l p,nx≤l→E2 l=some p→∀ b o,p.ob.fz b o=none):WR w0 E2 H n2 w:=by
 have hno:∀ l,nx≤l→getH H l=.no:=fun l hl=>(h.fresh l hl).2
 have hE:E.le E2:=fun l p hp=>by
  have:l<nx:=Nat.lt_of_not_le fun hh=>by rw[(h.fresh l hh).1] at hp;cases hp
  rw[hlt l this];exact hp
 have hcase:∀ l p,E2 l=some p→getH H l≠.no→E l=some p:=fun l p hp hn=>by
  have:l<nx:=Nat.lt_of_not_le fun hh=>hn (hno l hh)
  rw[hlt l this] at hp;exact hp
 refine⟨fun l p hl=>?_,fun l hl=>⟨hend l hl,hno l (by omega)⟩,fun l l' p p' a1 a2 a3 a4=>?_,fun l hl=>?_,fun l p hl=>?_,h.old,h.size,h.os,h.output,h.tape,h.le.trans hE,fun l p hl b o v hf=>?dat,h.dec,fun l p hl b o v hf ho=>by
  by_cases n:nx≤l
  ·rw[hfz l p n hl] at hf;cases hf
  ·rw[hlt l (by omega)] at hl;exact h.fzo l p hl b o v hf ho⟩
 case dat=>
  by_cases n:nx≤l
  ·rw[hfz l p n hl] at hf;cases hf
  rw[hlt l (by omega)] at hl
  obtain⟨h1,h2⟩:=h.dat l p hl b o v hf
  refine⟨h1,fun l' p' hl' hb'=>?_⟩
  by_cases n':nx≤l'
  ·rw[hno l' n'];exact .inl rfl
  ·rw[hlt l' (by omega)] at hl';exact h2 l' p' hl' hb'
 ·by_cases n:getH H l=.no
  ·rw[n];trivial
  ·exact (h.objs l p (hcase l p hl n)).trans hE fun _ ho=>ho
 ·by_cases n:getH H l=.no
  ·exact .inl (.inl n)
  by_cases n':getH H l'=.no
  ·exact .inl (.inr (.inl n'))
  exact h.sep l l' p p' a1 (hcase l p a2 n) (hcase l' p' a3 n') a4
 ·obtain⟨cur,lim,mk,h1,h2,h3⟩:=h.cls l hl
  have hlt1:clsOf (getH H l)<nx:=Nat.lt_of_not_le fun hh=>by rw[hno _ hh] at h1;cases h1
  exact⟨cur,lim,mk,h1,h2,by rw[hlt _ hlt1];exact h3⟩
 ·by_cases n:nx≤l
  ·exact⟨hnew l p n hl,.inl (hno l n)⟩
  ·rw[hlt l (by omega)] at hl;exact h.own l p hl
theorem WR.drop {H:T AObj}{nx:Nat}{w:World}{r:Nat}(h:WR w0 E H nx w)(hc:clsOf (getH H r)=0)(hcl:isCls (getH H r)=false):WR w0 E (put .no H r .no) nx w:=by
 have hget:∀ l,l≠r→getH (put .no H r .no) l=getH H l:=fun l e=>by rw[getH_put,if_neg e]
 have hself:getH (put .no H r .no) r=.no:=by rw[getH_put,if_pos rfl]
 have hcr:∀ l,clsOf (getH H l)≠0→clsOf (getH H l)≠r:=fun l hl e=>by
  obtain⟨cur,lim,mk,h1,_⟩:=h.cls l hl
  rw[e] at h1;rw[h1] at hcl;cases hcl
 refine⟨fun l p hl=>?_,fun l hl=>⟨(h.fresh l hl).1,?_⟩,fun l l' p p' a1 a2 a3 a4=>?_,fun l hl=>?_,fun l p hl=>?_,h.old,h.size,h.os,h.output,h.tape,h.le,fun l p hl b o v hf=>⟨(h.dat l p hl b o v hf).1,fun l' p' hl' hb'=>by
  by_cases e:l'=r
  ·subst e;rw[hself];exact .inl rfl
  ·rw[hget l' e];exact (h.dat l p hl b o v hf).2 l' p' hl' hb'⟩,h.dec,h.fzo⟩
 ·by_cases e:l=r
  ·subst e;rw[hself];trivial
  ·rw[hget l e]
   refine (h.objs l p hl).trans (Env.le.refl E) fun pos ho=>?_
   by_cases c0:clsOf (getH H l)=0
   ·exact .inl c0
   ·exact ho.same fun _=>hget _ (hcr l c0)
 ·by_cases e:l=r
  ·subst e;exact hself
  ·rw[hget l e];exact (h.fresh l hl).2
 ·by_cases e:l=r
  ·subst e;exact .inl (.inl hself)
  by_cases e':l'=r
  ·subst e';exact .inl (.inr (.inl hself))
  rw[hget l e,hget l' e']
  exact h.sep l l' p p' a1 a2 a3 a4
 ·by_cases e:l=r
  ·subst e;rw[hself] at hl;exact absurd rfl hl
  rw[hget l e] at hl ⊢
  rw[hget _ (hcr l hl)]
  exact h.cls l hl
 ·by_cases e:l=r
  ·subst e;exact⟨(h.own l p hl).1,.inl hself⟩
  ·rw[hget l e];exact h.own l p hl
theorem VR.lone {v:V}{x:Value}(h:VR E v x)(hl:v.lone=true):x.cells=#[x]:=by
 cases h<;>first|rfl|assumption|exact (CR.one (by assumption)).1|(simp[V.lone] at hl;done)
theorem ERs.mem:∀ {es:List (V×V×Nat)}{xs:List MapEntry},ERs E es xs→∀ x∈xs,∃ e∈es,VR E e.1 x.key∧VR E e.2.1 x.val∧x.born=e.2.2
 |[],[],_,x,hx=>by cases hx
 |(k,v,b)::r,y::ys,⟨h1,h2,h3,h4⟩,x,hx=>by
  cases hx with
  |head=>exact⟨_,.head _,h1,h2,h3⟩
  |tail _ hx=>obtain⟨e,he,g⟩:=ERs.mem h4 x hx;exact⟨e,.tail _ he,g⟩
theorem ERs.mem':∀ {es:List (V×V×Nat)}{xs:List MapEntry},ERs E es xs→∀ e∈es,∃ x∈xs,x.born=e.2.2
 |[],[],_,e,he=>by cases he
 |(k,v,b)::r,y::ys,⟨h1,h2,h3,h4⟩,e,he=>by
  cases he with
  |head=>exact⟨y,.head _,h3⟩
  |tail _ he=>obtain⟨x,hx,g⟩:=ERs.mem' h4 e he;exact⟨x,.tail _ hx,g⟩
theorem head_ok {fr:Frame}{cs:List Frame}{w w':World}{b rest:Code}{t d1 d2:Nat}{r:List Item}(hm:fr.mode=.run)(hro:fr.roundOf=none)(ht:fr.todo=.code b::r)(hb:rangeLoop b=some (t,d1,d2,rest))
  {x:Value}(hx:fr.tmps.getD t undef=x){xs:Array Value}{y:Value}(hr:∀ ty,(Instr.next x false ty).run P w=.ok (.tuple xs) w')(hy:xs[0]? = some y)(h1:d1<fr.tmps.size) :
  Steps P (lone fr cs w) (lone { fr with tmps:=(fr.tmps.setIfInBounds d1 (.tuple xs)).setIfInBounds d2 y,todo:=.code rest::r } cs w'):=by
 obtain⟨id,ops,o1,o2,rfl,ho,a1,a2,a3,b1,b2,b3⟩:=rangeLoop_inv hb
 have hops:ops=#[o1,o2]:=by
  apply Array.ext'
  simpa using ho
 subst hops
 refine (Steps.one (st_seq hm ht)).trans ?_
 refine (Steps.one (st_region (fr:={ fr with todo:=.code (.region id #[o1,o2] false)::.code rest::r }) hm rfl)).trans ?_
 have hrange:List.range (#[o1,o2]:Array Oper).size=[0,1]:=rfl
 rw[hrange]
 have hw1:Region.wanted o1 (yielded #[o1,o2] fr.tmps)=true:=by simp[Region.wanted,a3]
 have hv1:(execOp ({ fr with todo:=.inRegion #[o1,o2] [0,1]::.code rest::r }:Frame).eval o1).run P w=.ok (.value (.tuple xs)) w':=by
  unfold execOp
  rw[a1]
  have:({ fr with todo:=.inRegion #[o1,o2] [0,1]::.code rest::r }:Frame).eval (.tmp t)=x:=hx
  simp only[this,Sem.run_bind,hr,Result.andThen_ok,Sem.run_pure]
 refine (Steps.one (st_opVal (fr:={ fr with todo:=.inRegion #[o1,o2] [0,1]::.code rest::r }) hm rfl rfl hw1 (.inl hro) hv1 rfl)).trans ?_
 rw[finish_op (o:=o1) rfl rfl,a2]
 have hw2:Region.wanted o2 (yielded #[o1,o2] (fr.tmps.setIfInBounds d1 (.tuple xs)))=true:=by simp[Region.wanted,b3]
 have hv2:(execOp ({ fr with tmps:=fr.tmps.setIfInBounds d1 (.tuple xs),todo:=.inRegion #[o1,o2] [1]::.code rest::r }:Frame).eval o2).run P w'=.ok (.value y) w':=by
  unfold execOp
  rw[b1]
  have:({ fr with tmps:=fr.tmps.setIfInBounds d1 (.tuple xs),todo:=.inRegion #[o1,o2] [1]::.code rest::r }:Frame).eval (.tmp d1)=.tuple xs:=by
   show (fr.tmps.setIfInBounds d1 (.tuple xs)).getD d1 undef=_
   simp[h1]
  simp only[this,Instr.extract,hy,Sem.run_bind,Sem.run_pure,Result.andThen_ok]
 refine (Steps.one (st_opVal (fr:={ fr with tmps:=fr.tmps.setIfInBounds d1 (.tuple xs),todo:=.inRegion #[o1,o2] [1]::.code rest::r }) hm rfl rfl hw2 (.inl hro) hv2 rfl)).trans ?_
 rw[finish_op (o:=o2) rfl rfl,b2]
 exact Steps.one (st_regionEnd (fr:={ fr with tmps:=(fr.tmps.setIfInBounds d1 (.tuple xs)).setIfInBounds d2 y,todo:=.inRegion #[o1,o2] []::.code rest::r }) hm rfl)
theorem filter_lt {α:Type}(p q:α→Bool)(hpq:∀ x,q x=true→p x=true):∀ (l:List α)(e:α),e∈l→p e=true→q e=false→(l.filter q).length<(l.filter p).length:=by
 have hle:∀ l:List α,(l.filter q).length≤(l.filter p).length:=by
  intro l
  induction l with
  |nil=>exact Nat.le_refl _
  |cons x r ih=>
   simp only[List.filter_cons]
   cases hq:q x with
   |true=>rw[hpq x hq];simp;exact ih
   |false=>
    cases hp:p x with
    |true=>simp;omega
    |false=>simpa using ih
 intro l
 induction l with
 |nil=>intro e he;cases he
 |cons x r ih=>
  intro e he hp hq
  simp only[List.filter_cons]
  cases he with
  |head=>rw[hp,hq];have:=hle r;simp;omega
  |tail _ he=>
   have:=ih e he hp hq
   cases hq':q x with
   |true=>rw[hpq x hq'];simpa using this
   |false=>
    cases hp':p x with
    |true=>simp;omega
    |false=>simpa using this
def envD (E:Env)(nx blk:Nat)(vals:Nat→Value)(n:Nat)(tl:List Item):Env:=fun l=>
 if l<nx then E l else if l<nx+n then some ⟨blk,0,0,vals (l-nx),noOb,[]⟩ else if l=nx+n then some ⟨blk,0,0,undef,noOb,tl⟩ else none
section
variable {nx blk n:Nat}{vals:Nat→Value}{tl:List Item}
theorem envD_lt {l:Nat}(h:l<nx):envD E nx blk vals n tl l=E l:=by unfold envD;rw[if_pos h]
theorem envD_at {j:Nat}(h:j<n):envD E nx blk vals n tl (nx+j)=some ⟨blk,0,0,vals j,noOb,[]⟩:=by
 unfold envD;rw[if_neg (by omega),if_pos (by omega)];congr 2;congr 1;omega
theorem envD_end:envD E nx blk vals n tl (nx+n)=some ⟨blk,0,0,undef,noOb,tl⟩:=by
 unfold envD;rw[if_neg (by omega),if_neg (by omega),if_pos rfl]
theorem envD_no {l:Nat}(h:nx+n+1≤l):envD E nx blk vals n tl l=none:=by
 unfold envD;rw[if_neg (by omega),if_neg (by omega),if_neg (by omega)]
theorem envD_blk {l:Nat}{p:Pl}(h:nx≤l)(hp:envD E nx blk vals n tl l=some p):p.blk=blk:=by
 unfold envD at hp
 rw[if_neg (by omega)] at hp
 split at hp
 ·cases hp;rfl
 ·split at hp
  ·cases hp;rfl
  ·cases hp
theorem envD_fz {l:Nat}{p:Pl}(h:nx≤l)(hp:envD E nx blk vals n tl l=some p):∀ b o,p.ob.fz b o=none:=by
 unfold envD at hp
 rw[if_neg (by omega)] at hp
 split at hp
 ·cases hp;exact fun _ _=>rfl
 ·split at hp
  ·cases hp;exact fun _ _=>rfl
  ·cases hp
theorem envD_le (h:∀ l,nx≤l→E l=none):E.le (envD E nx blk vals n tl):=fun l p hp=>by
 have:l<nx:=Nat.lt_of_not_le fun hh=>by rw[h l hh] at hp;cases hp
 rw[envD_lt this];exact hp
end
def QT (E:Env)(tm:T V)(res:V×V×Nat→List V)(es:List (V×V×Nat))(seen:Array Nat)(d j:Nat)(x:Value):Turn→Prop
 |.no=>VR E (getU tm d) x
 |.one v=>∀ e∈es,(res e)[j]? = some v→e.2.2∈seen→VR E v x
 |.many=>True
structure LI (w0:Bs)(E:Env)(H1:T AObj)(c:Ctx)(pr pm:Pl)(since d1 d2:Nat)(D:List Nat)(ts:List Turn)(res:V×V×Nat→List V)(es:List (V×V×Nat))(seen:Array Nat)(todo:List Item)(fr:Frame)(w:World):Prop where
 wr:WR w0 E H1 c.nx w
 it:∃ last,w.heap[pr.blk]? = some (.mapIter (some pm.blk) since seen last)∧since≤last
 fn:fr.fn=c.fn
 kind:fr.kind=.normal
 round:fr.roundOf=none
 defers:fr.defers=[]
 mode:fr.mode=.run
 size:fr.tmps.size=c.sz
 todo:fr.todo=todo
 slots:∀ i,i≠d1→i≠d2→i∉D→VR E (getU c.tm i) (fr.tmps.getD i undef)
 lone:∀ d∈D,(fr.tmps.getD d undef).cells=#[fr.tmps.getD d undef]
 turns:∀ j d t,D[j]? = some d→ts[j]? = some t→QT E c.tm res es seen d j (fr.tmps.getD d undef) t
theorem round1_inv {rest:Code}{c:Ctx}{H:T AObj}{r m clock d1 d2 L:Nat}{D:List Nat}{tm:T V}{ih:Ih}{e:V×V×Nat}{vs:List V}(h:round1 rest c H r m clock d1 d2 L D tm ih e=some vs) :
  ∃ c' k1,ih .run [.code rest,.halt L] { c with tm:=put undefV (put undefV tm d1 (.tup [.bool true,e.1,e.2.1])) d2 (.bool true),cs:=[],H:=put .no H r (.mit m e.2.2 clock),nx:=L+1 }=.st .run (.halt L::k1) c'∧
   c'.cs=[]∧c'.ds=[]∧c'.round=none∧c'.fn=c.fn∧c'.sz=c.sz∧c'.kind=c.kind∧loneAll c'.tm D=true∧
   sameBut (d1::d2::D) c'.tm (put undefV (put undefV tm d1 (.tup [.bool true,e.1,e.2.1])) d2 (.bool true)) c.sz=true∧vs=D.map (getU c'.tm):=by
 unfold round1 at h
 simp only[setK_eq] at h
 split at h
 ·rename_i L' k1 c' he
  split at h
  ·rename_i q1 q2 q3
   cases hb:(Nat.beq L' L&&Nat.beq c'.fn c.fn&&Nat.beq c'.sz c.sz&&kindEq c'.kind c.kind&&loneAll c'.tm D&&sameBut (d1::d2::D) c'.tm (put undefV (put undefV tm d1 (.tup [.bool true,e.1,e.2.1])) d2 (.bool true)) c.sz) with
   |false=>rw[hb] at h;cases h
   |true=>
    rw[hb] at h
    simp only[cond_true,Option.some.injEq] at h
    simp only[Bool.and_eq_true] at hb
    obtain⟨⟨⟨⟨⟨b1,b2⟩,b3⟩,b4⟩,b5⟩,b6⟩:=hb
    have e1:=Nat.eq_of_beq_eq_true b1
    subst e1
    have e4:c'.kind=c.kind:=by
     unfold kindEq at b4
     split at b4
     ·rename_i g1 g2;rw[g1,g2]
     ·cases b4
    exact⟨c',k1,he,q1,q2,q3,Nat.eq_of_beq_eq_true b2,Nat.eq_of_beq_eq_true b3,e4,b5,b6,h.symm⟩
  ·cases h
 ·cases h
section
variable {cs:List Frame}{c:Ctx}{b rest:Code}{t d1 d2 r m since:Nat}{D:List Nat}{es:List (V×V×Nat)}{k':List Item}{ih:Ih}{kk:Nat}{G:World→Prop}{pr pm:Pl}{ts:List Turn}
theorem loop_run (hG:Gd0 kk G)(hGB:GB kk G w0)(hsnd:∀ b cs,GB kk G b→Sound P b cs ih)(hgl:∀ g,g<P.globals.size→∃ s,E g=some ⟨g,0,s,undef,noOb,[]⟩)
  (hrl:rangeLoop b=some (t,d1,d2,rest))(htm:getU c.tm t=.ptr r 0)(hHr:getH c.H r=.mit0 m since)(hHm:getH c.H m=.map es since)(hround:c.round=none)(hds:c.ds=[])(hkind:c.kind=.normal)
  (ht1:t≠d1)(ht2:t≠d2)(htD:t∉D)(h12:d1≠d2)(h1D:d1∉D)(h2D:d2∉D)(hDn:D.Nodup)(hz1:d1<c.sz)(hz2:d2<c.sz)(hb1:∀ e∈es,e.2.2<since)(hb2:∀ e∈es,∀ e'∈es,e.2.2=e'.2.2→e=e')
  (hEr:E r=some pr)(hbase:pr.base=0)(hEm:E m=some pm)
  (hrsep:∀ l p,l≠r→E l=some p→p.blk=pr.blk→getH c.H l=.no)(hrold:¬ w0.old pr.blk)(hz:∀ l p b o v,E l=some p→p.ob.fz b o=some v→b≠pr.blk)
  (hres:∀ e∈es,∃ vs,round1 rest c (roT c.H) r m since d1 d2 (c.nx+D.length) D (tops D c.nx c.tm) ih e=some vs)(hlen:ts.length=D.length)
  (hts:∀ j t,ts[j]? = some t→TInv (fun e=>(round1 rest c (roT c.H) r m since d1 d2 (c.nx+D.length) D (tops D c.nx c.tm) ih e).getD []) c.nx j es t) :
  ∀ n fr w seen,(es.filter fun e=>decide (e.2.2∉seen)).length<n→
   LI w0 E (put .no c.H r .no) c pr pm since d1 d2 D ts (fun e=>(round1 rest c (roT c.H) r m since d1 d2 (c.nx+D.length) D (tops D c.nx c.tm) ih e).getD []) es seen (.code b::.inLoop b::k') fr w→
   ∃ fr' w' seen',Steps P (lone fr cs w) (lone fr' cs w')∧LI w0 E (put .no c.H r .no) c pr pm since d1 d2 D ts (fun e=>(round1 rest c (roT c.H) r m since d1 d2 (c.nx+D.length) D (tops D c.nx c.tm) ih e).getD []) es seen' (.code rest::.inLoop b::k') fr' w'∧
    (∀ e∈es,e.2.2∈seen')∧fr'.tmps.getD d1 undef=.tuple #[.bool false]∧fr'.tmps.getD d2 undef=.bool false:=by
 generalize hresd:(fun e=>(round1 rest c (roT c.H) r m since d1 d2 (c.nx+D.length) D (tops D c.nx c.tm) ih e).getD [])=res at hts ⊢
 have hself:getH (put .no c.H r .no) r=.no:=by rw[getH_put,if_pos rfl]
 have hget:∀ l,l≠r→getH (put .no c.H r .no) l=getH c.H l:=fun l e=>by rw[getH_put,if_neg e]
 have hmr:m≠r:=fun e=>by rw[e,hHr] at hHm;cases hHm
 have hsep1:∀ l p,l≠r→E l=some p→p.blk=pr.blk→getH (put .no c.H r .no) l=.no:=fun l p e hl hb=>by rw[hget l e];exact hrsep l p e hl hb
 intro n
 induction n with
 |zero=>intro fr w seen hn _;omega
 |succ n ihn=>
  intro fr w seen hn hli
  obtain⟨last,hit,hla⟩:=hli.it
  have hx:fr.tmps.getD t undef=.pointer (some ⟨pr.blk,0,none⟩):=by
   have:=hli.slots t ht1 ht2 htD
   rw[htm] at this
   generalize fr.tmps.getD t undef=x at this
   cases this with
   |ptr l off p hp=>rw[hEr] at hp;cases hp;rw[hbase]
  have hobj:=hli.wr.objs m pm hEm
  rw[hget m hmr,hHm] at hobj
  obtain⟨es',hmap,hers⟩:=hobj
  have hborn:∀ e∈es',e.born<since:=fun e he=>by
   obtain⟨a,ha,_,_,hb⟩:=hers.mem e (by simpa using he)
   rw[hb];exact hb1 a ha
  have hs1:d1<fr.tmps.size:=by rw[hli.size];exact hz1
  have hs2:d2<fr.tmps.size:=by rw[hli.size];exact hz2
  have hgD:∀ (x y:Value)(i:Nat),i≠d1→i≠d2→((fr.tmps.setIfInBounds d1 x).setIfInBounds d2 y).getD i undef=fr.tmps.getD i undef:=fun x y i e1 e2=>by
   simp[Ne.symm e1,Ne.symm e2]
  have hg1:∀ (x y:Value),((fr.tmps.setIfInBounds d1 x).setIfInBounds d2 y).getD d1 undef=x:=fun x y=>by
   simp[Ne.symm h12,hs1]
  have hg2:∀ (x y:Value),((fr.tmps.setIfInBounds d1 x).setIfInBounds d2 y).getD d2 undef=y:=fun x y=>by
   simp[hs2]
  have hd1:∀ d∈D,d≠d1∧d≠d2:=fun d hd=>⟨fun e=>h1D (e ▸ hd),fun e=>h2D (e ▸ hd)⟩
  by_cases hall:∀ e∈es',e.born∈seen
  ·
   obtain⟨dr,hnext⟩:∃ d,∀ ty,(Instr.next (.pointer (some ⟨pr.blk,0,none⟩)) false ty).run P w=.ok (.tuple #[.bool false]) { w with drawn:=d }:=by
    obtain⟨_,d,h⟩|⟨e,d,he,hne,_⟩:=run_next_map (P:=P) (ty:=0) hit hmap hborn hla
    ·exact⟨d,fun ty=>h⟩
    ·exact absurd (hall e he) hne
   refine⟨_,_,seen,head_ok hli.mode hli.round hli.todo hrl hx hnext (y:=.bool false) rfl hs1,?_,fun e he=>?_,hg1 _ _,hg2 _ _⟩
   ·refine⟨hli.wr.turn hEr hself hsep1 hrold hz (fun _ _=>rfl) rfl rfl rfl rfl,⟨last,hit,hla⟩,hli.fn,hli.kind,hli.round,hli.defers,hli.mode,by simp[hli.size],rfl,fun i a1 a2 a3=>?_,fun d hd=>?_,fun j d t' hj ht'=>?_⟩
    ·show VR E _ (((fr.tmps.setIfInBounds d1 _).setIfInBounds d2 _).getD i undef)
     rw[hgD _ _ i a1 a2];exact hli.slots i a1 a2 a3
    ·show (((fr.tmps.setIfInBounds d1 _).setIfInBounds d2 _).getD d undef).cells=#[((fr.tmps.setIfInBounds d1 _).setIfInBounds d2 _).getD d undef]
     rw[hgD _ _ d (hd1 d hd).1 (hd1 d hd).2];exact hli.lone d hd
    ·have hd:=List.mem_of_getElem? hj
     show QT E c.tm res es seen d j (((fr.tmps.setIfInBounds d1 _).setIfInBounds d2 _).getD d undef) t'
     rw[hgD _ _ d (hd1 d hd).1 (hd1 d hd).2];exact hli.turns j d t' hj ht'
   ·obtain⟨x,hx1,hx2⟩:=hers.mem' e he
    rw[← hx2];exact hall x (by simpa using hx1)
  ·
   obtain⟨me,dr,hme,hnew,hnext⟩:∃ e d,e∈es'∧e.born∉seen∧∀ ty,(Instr.next (.pointer (some ⟨pr.blk,0,none⟩)) false ty).run P w=.ok (.tuple #[.bool true,e.key,e.val]) { w with heap:=w.heap.setIfInBounds pr.blk (.mapIter (some pm.blk) since (seen.push e.born) since),drawn:=d }:=by
    obtain⟨h,_⟩|⟨e,d,he,hne,h⟩:=run_next_map (P:=P) (ty:=0) hit hmap hborn hla
    ·exact absurd h hall
    ·exact⟨e,d,he,hne,fun ty=>h⟩
   obtain⟨e,he,hvk,hvv,hbe⟩:=hers.mem me (by simpa using hme)
   rw[hbe] at hnew hnext
   have hblk:pr.blk<w.heap.size:=(Array.getElem?_eq_some_iff.1 hit).1
   generalize hw1:({ w with heap:=w.heap.setIfInBounds pr.blk (.mapIter (some pm.blk) since (seen.push e.2.2) since),drawn:=dr }:World)=w1 at hnext
   have hwr1:WR w0 E (put .no c.H r .no) c.nx w1:=by
    subst hw1
    exact hli.wr.turn hEr hself hsep1 hrold hz (fun k hk=>by
     show (w.heap.setIfInBounds pr.blk _)[k]? = _
     rw[Array.getElem?_setIfInBounds_ne (Ne.symm hk)]) (by simp) rfl rfl rfl
   have hit1:w1.heap[pr.blk]? = some (.mapIter (some pm.blk) since (seen.push e.2.2) since):=by
    subst hw1
    show (w.heap.setIfInBounds pr.blk _)[pr.blk]? = _
    rw[Array.getElem?_setIfInBounds_self_of_lt hblk]
   have hsz1:w1.heap.size=w.heap.size:=by subst hw1;simp
   refine ?_
   generalize hfr1:({ fr with tmps:=(fr.tmps.setIfInBounds d1 (.tuple #[.bool true,me.key,me.val])).setIfInBounds d2 (.bool true),todo:=.code rest::.inLoop b::k' }:Frame)=fr1
   have hst1:Steps P (lone fr cs w) (lone fr1 cs w1):=by
    rw[← hfr1]
    exact head_ok hli.mode hli.round hli.todo hrl hx hnext (y:=.bool true) rfl hs1
   generalize hE2:envD E c.nx pr.blk (fun j=>fr.tmps.getD (D.getD j 0) undef) D.length (.inLoop b::k')=E2
   have hlt2:∀ l,l<c.nx→E2 l=E l:=fun l h=>by rw[← hE2];exact envD_lt h
   have hle2:E.le E2:=by rw[← hE2];exact envD_le fun l hl=>(hwr1.fresh l hl).1
   have hat2:∀ j d,D[j]? = some d→E2 (c.nx+j)=some ⟨pr.blk,0,0,fr.tmps.getD d undef,noOb,[]⟩:=fun j d hj=>by
    have hjl:j<D.length:=(List.getElem?_eq_some_iff.1 hj).1
    rw[← hE2,envD_at hjl]
    simp[hj]
   have hend2:E2 (c.nx+D.length)=some ⟨pr.blk,0,0,undef,noOb,.inLoop b::k'⟩:=by rw[← hE2];exact envD_end
   have hwr2:WR (Bs.round w1 E (put .no c.H r .no) E2) E2 (put .no (roT c.H) r (.mit m e.2.2 since)) (c.nx+D.length+1) w1:=by
    refine (hwr1.round hEr hself hsep1 hbase hEm hit1 (b:=e.2.2) (by simp) hlt2 (fun l p hl hp=>?_) (fun l hl=>by rw[← hE2];exact envD_no hl) (by omega) (fun l p hl hp=>by rw[← hE2] at hp;exact envD_fz hl hp)).same fun l=>?_
    ·rw[← hE2] at hp
     rw[envD_blk hl hp,hsz1];exact hblk
    ·rw[getH_put,getH_put]
     by_cases e1:l=r
     ·rw[if_pos e1,if_pos e1]
     ·rw[if_neg e1,if_neg e1,getH_roT,getH_roT,hget l e1]
   have hGB2:GB kk G (Bs.round w1 E (put .no c.H r .no) E2):=by
    refine⟨fun i hi=>⟨hwr1.lt_old (hGB.1 i hi),fun l p hl hc e=>?_⟩,hGB.at hG hwr1,hGB.2.2.mono (hwr1.le.trans hle2)⟩
    rcases (hwr1.own l p hl).2 with g|g|g
    ·rw[g] at hc;cases hc
    ·obtain⟨a,b',c',e'⟩:=isCls_inv hc;rw[e'] at g;cases g
    ·exact g (e ▸ hGB.1 i hi)
   obtain⟨vs,hvs⟩:=hres e he
   obtain⟨c',k1,hrun,q1,q2,q3,q4,q5,q6,q7,q8,q9⟩:=round1_inv hvs
   have hrese:res e=vs:=by rw[← hresd];simp only[hvs,Option.getD_some]
   have htr2:TR E2 (put undefV (put undefV (tops D c.nx c.tm) d1 (.tup [.bool true,e.1,e.2.1])) d2 (.bool true)) fr1.tmps:=by
    intro i
    rw[← hfr1]
    show VR E2 _ (((fr.tmps.setIfInBounds d1 (.tuple #[.bool true,me.key,me.val])).setIfInBounds d2 (.bool true)).getD i undef)
    by_cases e2:i=d2
    ·subst e2
     rw[hg2,getU_put,if_pos rfl];exact .bool true
    by_cases e1:i=d1
    ·subst e1
     rw[hg1,getU_put,if_neg e2,getU_put,if_pos rfl]
     exact .tup [.bool true,e.1,e.2.1] [.bool true,me.key,me.val] (.cons _ _ _ _ (.bool true) (.cons _ _ _ _ (hvk.mono hle2) (.cons _ _ _ _ (hvv.mono hle2) .nil)))
    rw[hgD _ _ i e1 e2,getU_put,if_neg e2,getU_put,if_neg e1]
    by_cases hD:i∈D
    ·obtain⟨j,hj⟩:=List.getElem?_of_mem hD
     rw[tops_at D c.nx c.tm j i hDn hj]
     exact .top _ _ _ (hat2 j i hj) rfl (hli.lone i hD)
    ·rw[tops_other D c.nx c.tm i hD]
     exact (hli.slots i e1 e2 hD).mono hle2
   have hmr2:MR P (Bs.round w1 E (put .no c.H r .no) E2) cs E2 .run [.code rest,.halt (c.nx+D.length)] { c with tm:=put undefV (put undefV (tops D c.nx c.tm) d1 (.tup [.bool true,e.1,e.2.1])) d2 (.bool true),cs:=[],H:=put .no (roT c.H) r (.mit m e.2.2 since),nx:=c.nx+D.length+1 } fr1 cs w1:=by
    refine⟨hwr2,fun g hg=>(hgl g hg).imp fun s hs=>hle2 _ _ hs,⟨0,Nat.zero_le _,rfl⟩,?_,?_,?_,?_,?_,?_,?_⟩
    ·rw[← hfr1];exact hli.fn
    ·rw[← hfr1];show fr.kind=c.kind;rw[hkind];exact hli.kind
    ·show RoundR E2 c.round fr1.roundOf
     rw[hround,← hfr1];exact hli.round
    ·show DRs E2 c.ds fr1.defers
     rw[hds,← hfr1];exact hli.defers
    ·rw[← hfr1];exact hli.mode
    ·rw[← hfr1];show (((fr.tmps.setIfInBounds d1 _).setIfInBounds d2 _)).size=c.sz;simp[hli.size]
    ·refine RunR.of ⟨.code rest,.inLoop b::k',?_,rfl,_,hend2,rfl⟩ htr2
     rw[← hfr1]
   obtain⟨E',fr2,cs2,w2,hst2,hm2⟩:=hsnd _ cs hGB2 E2 _ _ _ _ _ _ hmr2 _ _ _ hrun
   have hcs2:cs2=cs:=by
    obtain⟨_,_,hf⟩:=hm2.frs
    rw[q1] at hf
    exact hf
   subst cs2
   obtain⟨htd2,htr3⟩:TodoR E' (.halt (c.nx+D.length)::k1) fr2.todo∧TR E' c'.tm fr2.tmps:=hm2.rest
   have hle3:E2.le E':=hm2.wr.le
   have htodo2:fr2.todo=.inLoop b::k':=by
    obtain⟨p,hp,e⟩:=htd2
    have:=hle3 _ _ hend2
    rw[this] at hp;cases hp
    exact e
   have hmode2:fr2.mode=.run:=hm2.mode
   have hold1:∀ b',b'=pr.blk→w2.heap[b']? = w1.heap[b']? := fun b' e=>hm2.wr.old b' ⟨by rw[e,hsz1];exact hblk,fun l p hl hc e2=>by
    by_cases e3:l=r
    ·rw[e3,hself] at hc;cases hc
    ·rw[hsep1 l p e3 hl (e2.trans e)] at hc;cases hc⟩
   have hli2:LI w0 E (put .no c.H r .no) c pr pm since d1 d2 D ts res es (seen.push e.2.2) (.code b::.inLoop b::k') { fr2 with todo:=.code b::.inLoop b::k' } w2:=by
    refine⟨hwr1.back hm2.wr,⟨since,by rw[hold1 _ rfl];exact hit1,Nat.le_refl _⟩,hm2.fn.trans q4,hm2.kind.trans (q6.trans hkind),?_,?_,hmode2,hm2.size.trans q5,rfl,fun i a1 a2 a3=>?_,fun d hd=>?_,fun j d t' hj ht'=>?_⟩
    ·have:=hm2.round;rw[q3] at this;exact this
    ·have:=hm2.defers;rw[q2] at this;exact this
    ·show VR E _ (fr2.tmps.getD i undef)
     by_cases hi:i<c.sz
     ·have h1:=htr3 i
      have hsb:=sameBut_ok q8 i hi (by simp[a1,a2,a3])
      have hnx:=hsb.2
      rw[hsb.1] at hnx
      rw[getU_put,if_neg a2,getU_put,if_neg a1,tops_other D c.nx c.tm i a3] at hnx
      rw[hsb.1,getU_put,if_neg a2,getU_put,if_neg a1,tops_other D c.nx c.tm i a3] at h1
      refine h1.move (fun l hl p hp=>?_) hnx
      obtain⟨p',hp'⟩:=VR.at (hli.slots i a1 a2 a3) l hl
      rw[hle3 _ _ (hle2 _ _ hp')] at hp;cases hp
      exact hp'
     ·have h1:=hli.slots i a1 a2 a3
      have e1:fr.tmps.getD i undef=undef:=by
       rw[Array.getD_eq_getD_getElem?,Array.getElem?_eq_none (by rw[hli.size];omega)];rfl
      have e2:fr2.tmps.getD i undef=undef:=by
       rw[Array.getD_eq_getD_getElem?,Array.getElem?_eq_none (by rw[hm2.size,q5];omega)];rfl
      rw[e1] at h1;rw[e2];exact h1
    ·exact VR.lone (htr3 d) (loneAll_ok q7 d hd)
    ·show QT E c.tm res es (seen.push e.2.2) d j (fr2.tmps.getD d undef) t'
     have hrj:(res e)[j]? = some (getU c'.tm d):=by rw[hrese,q9];simp[hj]
     have hv:=htr3 d
     have hti:=hts j t' ht'
     have hold:=hli.turns j d t' hj ht'
     have hsame:getU c'.tm d=.top (c.nx+j)→fr2.tmps.getD d undef=fr.tmps.getD d undef:=fun e1=>by
      rw[e1] at hv
      generalize fr2.tmps.getD d undef=x2 at hv
      cases hv with
      |top l p x hp hx hc=>
       rw[hle3 _ _ (hat2 j d hj)] at hp;cases hp
       exact hx
     cases t' with
     |many=>trivial
     |no=>
      have h1:=hti e he
      rw[hrj] at h1
      rw[hsame (Option.some.inj h1)];exact hold
     |one v=>
      obtain⟨hf,e1,he1,hr1,ho⟩:=hti
      intro e' he' hr' hs'
      by_cases hbb:e.2.2=e1.2.2
      ·have:=hb2 e he e1 he1 hbb
       subst this
       rw[hrj] at hr1
       have hvv:=Option.some.inj hr1
       rw[hvv] at hv
       exact VR.ofFine hf hv
      ·have h1:=ho e he hbb
       rw[hrj] at h1
       rw[hsame (Option.some.inj h1)]
       rcases Array.mem_push.1 hs' with h2|h2
       ·exact hold e' he' hr' h2
       ·have:=hb2 e' he' e he h2
        subst this
        rw[hrj,Option.some.inj h1] at hr'
        have:=Option.some.inj hr'
        rw[← this] at hf
        simp[V.fine] at hf
   have hst3:Steps P (lone fr2 cs w2) (lone { fr2 with todo:=.code b::.inLoop b::k' } cs w2):=Steps.one (st_inLoop hmode2 htodo2)
   obtain⟨fr',w',seen',g1,g2,g3,g4,g5⟩:=ihn { fr2 with todo:=.code b::.inLoop b::k' } w2 (seen.push e.2.2) (by
    have:=filter_lt (fun e:V×V×Nat=>decide (e.2.2∉seen)) (fun e'=>decide (e'.2.2∉seen.push e.2.2)) (fun x hx=>by
     simp only[decide_eq_true_eq,Array.mem_push,not_or] at hx ⊢
     exact hx.1) es e he (by simpa using hnew) (by simp)
    omega) hli2
   exact⟨fr',w',seen',hst1.trans (hst2.trans (hst3.trans g1)),g2,g3,g4,g5⟩
end
end
end Go.Exo

namespace Go.Exo
set_option linter.unusedSectionVars false
variable [Sx] [Dc] [Tb]
section
variable {P:Program}{w0:Bs}{cs0:List Frame}{E:Env}{ih:Ih}
theorem exit_ok {id:Nat}:∀ {k:List AItem}{t:List Item},TodoR E k t→(∀ k1,exitA id k=some k1→∃ t1,exitTo id t=some t1∧TodoR E k1 t1)∧(exitA id k=none→haltIn k=false→exitTo id t=none)
 |[],t,h=>by cases h;exact⟨(fun _ e=>by cases e),fun _ _=>rfl⟩
 |a::k,t,ht=>by
  by_cases hh:∃ l,a=.halt l
  ·obtain⟨l,rfl⟩:=hh
   exact⟨(fun _ e=>by cases e),fun _ e=>by cases e⟩
  have ht':∃ i r,t=i::r∧ItemR E a i∧TodoR E k r:=by
   cases a<;>first|exact ht|exact absurd ⟨_,rfl⟩ hh
  obtain⟨i,r,e,hi,hr⟩:=ht'
  subst e
  have ih:=exit_ok (id:=id) hr
  cases a with
  |halt l=>exact absurd ⟨_,rfl⟩ hh
  |inBlock j=>
   cases hi
   simp only[exitA,exitTo,haltIn]
   cases hb:Nat.beq j id with
   |true=>
    rw[Nat.beq_eq] at hb;subst hb
    simp only[beq_self_eq_true,if_true,cond_true]
    exact⟨fun k1 e=>by cases e;exact⟨r,rfl,hr⟩,fun e=>by cases e⟩
   |false=>
    have:(j==id)=false:=by
     rw[beq_eq_false_iff_ne];intro e;subst e;simp at hb
    simp only[this,cond_false,Bool.false_eq_true,if_false]
    exact ih
  |steps _ _ _=>exact hi.elim
  |call _ _=>exact hi.elim
  |inRF l=>obtain⟨p,_,rfl⟩:=hi;exact ih
  |endRF l=>obtain⟨p,_,rfl⟩:=hi;exact ih
  |_=>cases hi;exact ih
theorem goto_ok {l:Nat}:∀ {k:List AItem}{t:List Item},TodoR E k t→(∀ k1,gotoA l k=some k1→∃ t1,gotoIn l t=some t1∧TodoR E k1 t1)∧(gotoA l k=none→haltIn k=false→gotoIn l t=none)
 |[],t,h=>by cases h;exact⟨(fun _ e=>by cases e),fun _ _=>rfl⟩
 |a::k,t,ht=>by
  by_cases hh:∃ l,a=.halt l
  ·obtain⟨l,rfl⟩:=hh
   exact⟨(fun _ e=>by cases e),fun _ e=>by cases e⟩
  have ht':∃ i r,t=i::r∧ItemR E a i∧TodoR E k r:=by
   cases a<;>first|exact ht|exact absurd ⟨_,rfl⟩ hh
  obtain⟨i,r,e,hi,hr⟩:=ht'
  subst e
  have ih:=goto_ok (l:=l) hr
  cases a with
  |halt l=>exact absurd ⟨_,rfl⟩ hh
  |inScope body=>
   cases hi
   simp only[gotoA,gotoIn,haltIn]
   cases findLabel body l with
   |none=>exact ih
   |some rest=>exact⟨fun k1 e=>by cases e;exact⟨_,rfl,_,_,rfl,rfl,_,_,rfl,rfl,hr⟩,fun e=>by cases e⟩
  |steps _ _ _=>exact hi.elim
  |call _ _=>exact hi.elim
  |inRF l=>obtain⟨p,_,rfl⟩:=hi;exact ih
  |endRF l=>obtain⟨p,_,rfl⟩:=hi;exact ih
  |_=>cases hi;exact ih
theorem ofVal_bool:∀ (n:Nat)(v:Value)(t:Bool),ofVal n v=.bool t→v=.bool t:=by
 intro n v t h
 unfold ofVal at h
 split at h<;>first|(simp at h;done)|skip
 cases h
 rfl
theorem ofVal_func:∀ (n:Nat)(v:Value)(fn:Fn)(a b:List V),ofVal n v=.func fn a b→∃ f,v=.func (.func f) #[] #[]∧fn=.func f∧a=[]∧b=[]:=by
 intro n v fn a b h
 unfold ofVal at h
 split at h<;>first|(simp at h;done)|skip
 cases h
 exact⟨_,rfl,rfl,rfl,rfl⟩
theorem ev_bool {tm:T V}{fr:Frame}(htr:TR E tm fr.tmps){x:Operand}{t:Bool}(h:(compO x).ev tm=.bool t):fr.eval x=.bool t:=by
 cases x with
 |tmp i=>
  have:=htr i
  change getU tm i=_ at h
  rw[h] at this
  show fr.tmps.getD i undef=_
  generalize fr.tmps.getD i undef=y at this
  cases this;rfl
 |const v=>exact ofVal_bool 8 v t h
 |global g=>cases h
 |func f=>cases h
theorem ofVal_x:∀ (n:Nat)(v:Value)(t:X),ofVal n v=.x t→False:=by
 intro n v t h
 unfold ofVal at h
 split at h<;>simp at h
theorem ev_x (hd:DecE E){tm:T V}{fr:Frame}(htr:TR E tm fr.tmps){x:Operand}{t:X}(h:(compO x).ev tm=.x t){d:Bool}(ht:Dc.dec t=some d):fr.eval x=.bool d:=by
 cases x with
 |tmp i=>
  have:=htr i
  change getU tm i=_ at h
  show fr.tmps.getD i undef=_
  exact gB_ok hd this (by rw[h];exact ht)
 |const v=>exact (ofVal_x 8 v t h).elim
 |global g=>cases h
 |func f=>cases h
theorem ev_func {tm:T V}{fr:Frame}(htr:TR E tm fr.tmps){x:Operand}{fn:Fn}{a b:List V}(h:(compO x).ev tm=.func fn a b):VR E (.func fn a b) (fr.eval x):=by
 cases x with
 |tmp i=>
  have:=htr i
  change getU tm i=_ at h
  rw[h] at this
  exact this
 |const v=>
  obtain⟨f,rfl,rfl,rfl,rfl⟩:=ofVal_func 8 v fn a b h
  exact .func (.func f) (.func f) [] [] [] [] rfl .nil .nil
 |global g=>cases h
 |func f=>
  cases h
  exact .func (.func f) (.func f) [] [] [] [] rfl .nil .nil
theorem go_ok (hs:Sound P w0 cs0 ih){t t1:List AItem}{c:Ctx}{fr:Frame}{cs:List Frame}{w:World}{todo:List Item}(h:MR P w0 cs0 E .run t c fr cs w)(htr:TR E c.tm fr.tmps)(ht:TodoR E t1 todo)
  (hst:Go.step P (lone fr cs w)=.next (lone { fr with todo:=todo } cs w)):Fin P w0 cs0 (ih .run t1 c) fr cs w:=by
 obtain⟨b,hc⟩:=h.cur
 exact Fin.step hst (hs E _ _ _ _ _ _ ((hc.to fr.tmps todo rfl).mr ht htr))
theorem rangeFunc_ok (hs:Sound P w0 cs0 ih){f:Operand}{ps:Array Tmp}{a b:Code}{k:List AItem}{c:Ctx}{fr:Frame}{cs:List Frame}{w:World}(h:MR P w0 cs0 E .run (.code (.rangeFunc f ps a b)::k) c fr cs w) :
  Fin P w0 cs0 (cRF P f ps a b c k ih) fr cs w:=by
 obtain⟨bb,hc⟩:=h.cur
 obtain⟨⟨i,k',ht,hi,hk⟩,htr⟩:=h.rest
 cases hi
 have main:∀ (E1:Env)(H1:T AObj)(nx1 d:Nat)(q:Pl)(mark:List ADef)(mark':List Deferred)(w1:World)(l1:Nat),E.le E1→KeepB bb E E1 c.H H1→c.nx≤nx1→WR w0 E1 H1 nx1 w1→E1 d=some q→DRs E1 mark mark'→
   l1=w1.heap.size→
   (Instr.enterLoop fr.fn fr.tmps ps a b fr.roundOf).run P w=.ok (l1,mark') { w1 with heap:=w1.heap.push (.loop { state:=.ready,pending:=none,fn:=fr.fn,tmps:=fr.tmps,params:=ps,assign:=a,body:=b,defers:=q.blk }) }→
   Fin P w0 cs0 (rfK P f ps a b k c ih nx1 d mark H1) fr cs w:=by
  intro E1 H1 nx1 d q mark mark' w1 l1 hE1 hkb hn hwr1 hq hmark hl1 he
  unfold rfK
  cases hev:AO.ev (compO f) c.tm with
  |func fn first captured=>
   cases fn with
   |func g=>
    simp only[setHO_eq]
    have hvf:=ev_func htr hev
    generalize hF:fr.eval f=F at hvf
    cases hvf
    rename_i fn' fs cs2 hfn h1 h2
    simp only[FnR] at hfn
    subst hfn
    have hfs:=hE1
    have hdE:d≠nx1:=fun e=>by
     have:=(hwr1.fresh nx1 (Nat.le_refl _)).1
     rw[← e,hq] at this;cases this
    have hwr2:=hwr1.new (.loop { state:=.ready,pending:=none,fn:=fr.fn,tmps:=fr.tmps,params:=ps,assign:=a,body:=b,defers:=q.blk })
     (.loop .ready none c.fn c.tm c.sz ps.toList a b d) 0 w1.drawn rfl rfl ⟨fr.tmps,q,by rw[Env.set_other _ _ _ _ hdE];exact hq,(htr.mono hE1).mono (Env.le_set _ (hwr1.fresh nx1 (Nat.le_refl _)).1),hc.size,by rw[hc.fn]⟩
    have hle2:E1.le (E1.set nx1 ⟨w1.heap.size,0,0,undef,noOb,[]⟩):=Env.le_set _ (hwr1.fresh nx1 (Nat.le_refl _)).1
    have hself:(E1.set nx1 ⟨w1.heap.size,0,0,undef,noOb,[]⟩) nx1=some ⟨w1.heap.size,0,0,undef,noOb,[]⟩:=Env.set_self _ _ _
    generalize hE2:E1.set nx1 ⟨w1.heap.size,0,0,undef,noOb,[]⟩=E2 at hwr2 hle2 hself
    have hall:=hE1.trans hle2
    have hkb2:KeepB bb E E2 c.H (put .no H1 nx1 (.loop .ready none c.fn c.tm c.sz ps.toList a b d)):=by
     intro l hl hEl hcl
     have hlt:l<nx1:=by have:=hc.ble;omega
     obtain⟨g1,g2⟩:=hkb l hl hEl hcl
     refine⟨by rw[← hE2,Env.set_other _ _ _ _ (by omega)];exact g1,?_⟩
     rw[getH_put,if_neg (by omega)];exact g2
    cases hfo:fnOf P g with
    |none=>unfold enterK;rw[hfo];exact Fin.fail
    |some af=>
     have hinv:∀ w',(do let d ← Deferred.ofValue (fr.eval f) #[.func (.yield l1) #[] #[]];invoke d.target d.args:Sem Next).run P w'=.ok (.enter g (fs++(.func (.yield l1) #[] #[]::cs2)).toArray) w':=by
      intro w'
      rw[hF]
      have:=run_callFunc_enter hfo (fs.toArray++#[.func (.yield l1) #[] #[]]++cs2.toArray) w'
      simp only[Deferred.ofValue,Sem.run_bind,Sem.run_pure,Result.andThen_ok,invoke]
      rw[this];simp
     refine Fin.step (st_rangeFunc hc.mode ht he (hinv _)) ?_
     subst hl1
     have hargs:VRs E2 (first++(.func (.yield nx1) [] []::captured)) (fs++(.func (.yield w1.heap.size) #[] #[]::cs2)):=
      (VRs.mono hall h1).append (.cons _ _ _ _ (.func _ _ [] [] [] [] ⟨_,hself,rfl⟩ .nil .nil) (VRs.mono hall h2))
     have hdrs:∀ {as bs:List ADef}{xs ys:List Deferred},DRs E2 as xs→DRs E2 bs ys→DRs E2 (as++bs) (xs++ys):=by
      intro as
      induction as with
      |nil=>intro bs xs ys h1 h2;cases h1;exact h2
      |cons a as ih=>intro bs xs ys h1 h2;obtain⟨d,r,rfl,g1,g2⟩:=h1;exact⟨d,_,rfl,g1,ih g2 h2⟩
     have hsr:SR P E2 (put .no H1 nx1 (.loop .ready none c.fn c.tm c.sz ps.toList a b d)) bb (nx1+1) { fn:=c.fn,tmps:=c.tm,size:=c.sz,todo:=.inRF nx1::k,defers:=mark++c.ds,mode:=.run,kind:=c.kind,round:=c.round }
       { fr with todo:=.inRangeFunc w1.heap.size::k',defers:=mark'++fr.defers }:=
      ⟨hc.fn,hc.kind,hc.round.mono hall,hdrs (hmark.mono hle2) (hc.defers.mono hall),hc.mode,hc.size,⟨_,k',hself,rfl,hk.mono hall,htr.mono hall⟩⟩
     have hgl2:∀ g,g<P.globals.size→∃ s,E2 g=some ⟨g,0,s,undef,noOb,[]⟩:=fun g hg=>(hc.gl g hg).imp fun s hs=>hall _ _ hs
     exact enter_ok hs hwr2 hgl2 (afs:=_::c.cs) (frs:=_::cs) ⟨bb,_,cs,rfl,by have:=hc.ble;omega,hsr,hc.frs.mono hall hkb2⟩ hargs .normal
   |_=>exact Fin.fail
  |_=>exact Fin.fail
 unfold cRF
 have hround:=hc.round
 cases hr:c.round with
 |none=>
  rw[hr] at hround
  change fr.roundOf=none at hround
  simp only[setHO_eq]
  have hwr1:=hc.wr.new (.deferred (some [])) .defd 0 w.drawn rfl rfl rfl
  have hn:=(hc.wr.fresh c.nx (Nat.le_refl _)).1
  refine main _ _ (c.nx+1) c.nx ⟨w.heap.size,0,0,undef,noOb,[]⟩ [.collected c.nx] [{ target:=.collected w.heap.size,args:=#[] }] _ _ (Env.le_set _ hn) (fun l hl hEl hcl=>?_) (Nat.le_succ _) hwr1 (Env.set_self _ _ _) ⟨_,_,rfl,⟨_,Env.set_self _ _ _,rfl⟩,rfl⟩ rfl ?_
  ·have hlt:l<c.nx:=by have:=hc.ble;omega
   exact⟨by rw[Env.set_other _ _ _ _ (by omega)];exact hEl,by rw[getH_put,if_neg (by omega)]⟩
  ·rw[hround]
   simp only[Instr.enterLoop,Sem.run_bind,run_newObj,Result.andThen_ok,Sem.run_pure]
 |some l=>
  rw[hr] at hround
  obtain⟨p,hp,hro⟩:=hround
  simp only
  cases ho:getH c.H l with
  |loop st pd fn tm sz pps assign body d=>
   simp only
   have hobj:=hc.wr.objs l p hp
   rw[ho] at hobj
   obtain⟨tmps,q,h1,h2,h3,h4⟩:=hobj
   refine main E c.H c.nx d q [] [] w _ (Env.le.refl E) (fun _ _ h _=>⟨h,rfl⟩) (Nat.le_refl _) hc.wr h1 rfl rfl ?_
   rw[hro]
   have hg:(getObj p.blk).run P w=.ok (.loop { state:=st,pending:=pd,fn:=fn,tmps,params:=pps.toArray,assign:=assign,body:=body,defers:=q.blk }) w:=by simp only[getObj,Sem.run,h4]
   simp only[Instr.enterLoop,Instr.getLoop,Sem.run_bind,hg,run_newObj,Result.andThen_ok,Sem.run_pure]
  |_=>exact Fin.fail
theorem loopM_ok {kk:Nat}{G:World→Prop}(hG:Gd0 kk G)(hGB:GB kk G w0)(hall:∀ b cs,GB kk G b→Sound P b cs ih){b:Code}{k:List AItem}{c:Ctx}{fr:Frame}{cs:List Frame}{w:World}(h:MR P w0 cs0 E .run (.code (.loop b)::k) c fr cs w):Fin P w0 cs0 (cLoopM b c k ih) fr cs w:=by
 have hs:Sound P w0 cs0 ih:=hall w0 cs0 hGB
 obtain⟨bb,hc⟩:=h.cur
 obtain⟨⟨i,k',ht,hi,hk⟩,htr⟩:=id h.rest
 cases hi
 have plain:Fin P w0 cs0 (ih .run (.code b::.inLoop b::k) c) fr cs w:=go_ok hs h htr (t1:=.code b::.inLoop b::k) ⟨_,_,rfl,rfl,_,_,rfl,rfl,hk⟩ (st_loop hc.mode ht)
 unfold cLoopM
 cases hrl:rangeLoop b with
 |none=>exact plain
 |some q=>
  obtain⟨t,d1,d2,rest⟩:=q
  simp only
  cases hu:getU c.tm t with
  |ptr r o=>
   cases o with
   |succ o=>exact plain
   |zero=>
    simp only
    cases hHr:getH c.H r with
    |mit0 m since=>
     simp only
     cases hro:c.round with
     |some _=>exact Fin.fail
     |none=>
      cases hds:c.ds with
      |cons _ _=>exact Fin.fail
      |nil=>
       cases hHm:getH c.H m with
       |map es clock=>
        simp only
        refine Fin.cond (fun _=>plain) fun _=>?_
        refine Fin.cond (fun _=>Fin.fail) fun hmem=>?_
        simp only[Bool.or_eq_false_iff] at hmem
        obtain⟨⟨n1,n2⟩,n3⟩:=hmem
        obtain⟨hDn,hDm⟩:=onceN_ok (dstsC rest)
        generalize onceN (dstsC rest)=D at hDn hDm ⊢
        have nm:∀ {x:Nat}{l:List Nat},memN x l=false→x∉l:=fun {x l} h1 h2=>by rw[memN_iff.2 h2] at h1;cases h1
        have m1:=nm n1
        have m2:=nm n2
        have m3:=nm n3
        simp only[List.mem_cons,not_or] at m1 m2
        have htD:t∉D:=fun e=>m1.2.2 ((hDm t).1 e)
        have h1D:d1∉D:=fun e=>m2.2 ((hDm d1).1 e)
        have h2D:d2∉D:=fun e=>m3 ((hDm d2).1 e)
        unfold mapLoop
        refine Fin.cond (fun hcd=>?_) fun _=>Fin.fail
        simp only[Bool.and_eq_true] at hcd
        obtain⟨⟨⟨⟨⟨k1,k2⟩,k3⟩,k4⟩,k5⟩,k6⟩:=hcd
        have e1:=Nat.eq_of_beq_eq_true k1
        subst clock
        have hkind:c.kind=.normal:=by
         unfold kindEq at k6
         split at k6
         ·rename_i g1 _;exact g1
         ·cases k6
        obtain⟨hb1,hb2⟩:=bornOk_ok k2
        rw[topsK_eq]
        have hres0:∀ e vs,round1 rest c (roT c.H) r m since d1 d2 (Nat.add c.nx D.length) D (tops D c.nx c.tm) ih e=some vs→vs.length=D.length:=fun e vs hv=>by
         obtain⟨_,_,_,_,_,_,_,_,_,_,_,hh⟩:=round1_inv hv
         rw[hh];simp
        cases hrs:rounds rest c (roT c.H) r m since d1 d2 (Nat.add c.nx D.length) D (tops D c.nx c.tm) ih es (D.map fun _=>.no) with
        |none=>exact Fin.fail
        |some ts=>
         simp only
         obtain⟨hr1,hr2,hr3⟩:=rounds_ok (pre:=[]) hrs hres0 (by simp) fun j t' ht'=>by
          have:t'=.no:=by
           have:=List.mem_of_getElem? ht'
           simp only[List.mem_map] at this
           obtain⟨_,_,e⟩:=this
           exact e.symm
          subst this
          exact fun e he=>by cases he
         rw[List.nil_append] at hr3
         rw[turnsK_eq]
         simp only[setK_eq,setHO_eq]
         have hvt:=htr t
         rw[hu] at hvt
         obtain⟨pr,hEr⟩:∃ pr,E r=some pr:=by
          generalize fr.tmps.getD t undef=x at hvt
          cases hvt with
          |ptr l off p hp=>exact⟨p,hp⟩
         have hobr:=hc.wr.objs r pr hEr
         rw[hHr] at hobr
         obtain⟨pm,hEm,hob,hbase⟩:=hobr
         have hself:getH (put .no c.H r .no) r=.no:=by rw[getH_put,if_pos rfl]
         have hmr:m≠r:=fun e=>by rw[e,hHr] at hHm;cases hHm
         have hrsep:∀ l p,l≠r→E l=some p→p.blk=pr.blk→getH c.H l=.no:=fun l p hl hp hb=>by
          rcases hc.wr.sep l r p pr hl hp hEr hb with (g|g|g)|g
          ·exact g
          ·rw[hHr] at g;cases g
          ·exact absurd (g.2.1.trans (by rw[hHr];rfl)) g.1
          ·rw[hHr] at g;cases g.2
         have hrold:¬ w0.old pr.blk:=by
          rcases (hc.wr.own r pr hEr).2 with g|g|g
          ·rw[hHr] at g;cases g
          ·rw[hHr] at g;cases g
          ·exact g
         have hwr0:WR w0 E (put .no c.H r .no) c.nx w:=hc.wr.drop (by rw[hHr];rfl) (by rw[hHr];rfl)
         have hfr0:fr.roundOf=none:=by have:=hc.round;rw[hro] at this;exact this
         have hd0:fr.defers=[]:=by have:=hc.defers;rw[hds] at this;exact this
         refine Fin.step (st_loop hc.mode ht) ?_
         have hli:LI w0 E (put .no c.H r .no) c pr pm since d1 d2 D ts (fun e=>(round1 rest c (roT c.H) r m since d1 d2 (c.nx+D.length) D (tops D c.nx c.tm) ih e).getD []) es #[] (.code b::.inLoop b::k') { fr with todo:=.code b::.inLoop b::k' } w:=by
          refine⟨hwr0,⟨since,hob,Nat.le_refl _⟩,hc.fn,hc.kind.trans hkind,hfr0,hd0,hc.mode,hc.size,rfl,fun i _ _ _=>htr i,fun d hd=>VR.lone (htr d) (loneAll_ok k3 d hd),fun j d t' hj ht'=>?_⟩
          cases t' with
          |no=>exact htr d
          |one v=>exact fun _ _ _ hh=>by simp at hh
          |many=>trivial
         obtain⟨fr',w',seen',hst,li,hseen,hv1,hv2⟩:=loop_run (cs:=cs) hG hGB hall hc.gl hrl hu hHr hHm hro hds hkind m1.1 m1.2.1 htD m2.1 h1D h2D hDn (Nat.le_of_ble_eq_true k4) (Nat.le_of_ble_eq_true k5) hb1 hb2 hEr hbase hEm hrsep hrold (fun l p b o v hp hv e=>mayFz_no ((hc.wr.dat l p hp b o v hv).2 r pr hEr e.symm) (by rw[hHr];intro hh;cases hh) (by rw[hHr];rfl) (by rw[hHr];rfl)) hr1 hr2 hr3 _ _ w #[] (Nat.lt_succ_self _) hli
         refine Fin.steps hst ?_
         generalize hE2:envD E c.nx pr.blk (fun j=>fr'.tmps.getD (D.getD j 0) undef) D.length []=E2
         have hlt2:∀ l,l<c.nx→E2 l=E l:=fun l h=>by rw[← hE2];exact envD_lt h
         have hle2:E.le E2:=by rw[← hE2];exact envD_le fun l hl=>(hc.wr.fresh l hl).1
         have hat2:∀ j d,D[j]? = some d→E2 (c.nx+j)=some ⟨pr.blk,0,0,fr'.tmps.getD d undef,noOb,[]⟩:=fun j d hj=>by
          have hjl:j<D.length:=(List.getElem?_eq_some_iff.1 hj).1
          rw[← hE2,envD_at hjl]
          simp[hj]
         have hwr2:WR w0 E2 (put .no c.H r .no) (c.nx+D.length+1) w':=li.wr.name hlt2 (fun l p hl hp=>by
          rw[← hE2] at hp
          rw[envD_blk hl hp];exact (li.wr.own r pr hEr).1) (fun l hl=>by rw[← hE2];exact envD_no hl) (by omega) (fun l p hl hp=>by rw[← hE2] at hp;exact envD_fz hl hp)
         have hkb:KeepB bb E E2 c.H (put .no c.H r .no):=fun l hl hEl _=>⟨by rw[hlt2 l (Nat.lt_of_lt_of_le hl hc.ble)];exact hEl,by
          rw[getH_put,if_neg (fun e=>by subst e;rw[hEr] at hEl;cases hEl)]⟩
         have htrF:TR E2 (put undefV (put undefV (turnsT D ts c.nx c.tm) d1 (.tup [.bool false])) d2 (.bool false)) fr'.tmps:=by
          intro i
          by_cases i2:i=d2
          ·subst i2
           rw[hv2,getU_put,if_pos rfl];exact .bool false
          by_cases i1:i=d1
          ·subst i1
           rw[hv1,getU_put,if_neg i2,getU_put,if_pos rfl]
           exact .tup [.bool false] [.bool false] (.cons _ _ _ _ (.bool false) .nil)
          rw[getU_put,if_neg i2,getU_put,if_neg i1]
          by_cases hD:i∈D
          ·obtain⟨j,hj⟩:=List.getElem?_of_mem hD
           have hjl:j<ts.length:=by rw[hr2];exact (List.getElem?_eq_some_iff.1 hj).1
           have ht':ts[j]? = some ts[j]:=List.getElem?_eq_getElem hjl
           rw[turnsT_at D ts c.nx c.tm j i ts[j] hDn hj ht']
           have hq:=li.turns j i _ hj ht'
           have hti:=hr3 j _ ht'
           generalize ts[j]=tt at hq hti
           cases tt with
           |no=>exact VR.mono hle2 hq
           |one v=>
            obtain⟨hf,e1,he1,hr1',_⟩:=hti
            exact VR.mono hle2 (hq e1 he1 hr1' (hseen e1 he1))
           |many=>exact .top _ _ _ (hat2 j i hj) rfl (li.lone i hD)
          ·rw[turnsT_other D ts c.nx c.tm i hD]
           exact (li.slots i i1 i2 hD).mono hle2
         refine hs E2 .run _ _ _ _ _ ⟨hwr2,fun g hg=>(hc.gl g hg).imp fun s hs=>hle2 _ _ hs,⟨bb,by have:=hc.ble;show bb≤c.nx+D.length+1;omega,hc.frs.mono hle2 hkb⟩,li.fn,li.kind.trans hkind.symm,?_,?_,li.mode,li.size,RunR.of ⟨_,_,li.todo,rfl,_,_,rfl,rfl,hk.mono hle2⟩ htrF⟩
         ·show RoundR E2 c.round fr'.roundOf
          rw[hro];exact li.round
         ·show DRs E2 c.ds fr'.defers
          rw[hds];exact li.defers
       |_=>exact Fin.fail
    |_=>exact plain
  |_=>exact plain
theorem runCode_ok {kk:Nat}{G:World→Prop}(hG:Gd0 kk G)(hGB:GB kk G w0)(hall:∀ b cs,GB kk G b→Sound P b cs ih){code:Code}{k:List AItem}{c:Ctx}{fr:Frame}{cs:List Frame}{w:World}(h:MR P w0 cs0 E .run (.code code::k) c fr cs w):Fin P w0 cs0 (runCode P code c k ih) fr cs w:=by
 have hs:Sound P w0 cs0 ih:=hall w0 cs0 hGB
 obtain⟨b,hc⟩:=h.cur
 obtain⟨⟨i,k',ht,hi,hk⟩,htr⟩:=id h.rest
 cases hi
 cases code with
 |skip=>exact go_ok hs h htr hk (st_skip hc.mode ht)
 |region id ops draw=>exact region_ok hs h
 |seq a b=>exact go_ok hs h htr (t1:=.code a::.code b::k) ⟨_,_,rfl,rfl,_,_,rfl,rfl,hk⟩ (st_seq hc.mode ht)
 |cond x a b=>
  show Fin P w0 cs0 (cCond x a b c k ih) fr cs w
  unfold cCond
  cases hev:AO.ev (compO x) c.tm with
  |bool t=>
   simp only
   refine go_ok hs h htr (t1:=.code (cond t a b)::k) (todo:=.code (if t then a else b)::k') ⟨_,_,rfl,?_,hk⟩ (st_cond hc.mode ht (ev_bool htr hev))
   cases t<;>rfl
  |x u=>
   simp only
   cases hd:Dc.dec u with
   |none=>exact Fin.fail
   |some d=>
    simp only
    refine go_ok hs h htr (t1:=.code (cond d a b)::k) (todo:=.code (if d then a else b)::k') ⟨_,_,rfl,?_,hk⟩ (st_cond hc.mode ht (ev_x hc.wr.decE htr hev hd))
    cases d<;>rfl
  |_=>exact Fin.fail
 |block id b=>exact go_ok hs h htr (t1:=.code b::.inBlock id::k) ⟨_,_,rfl,rfl,_,_,rfl,rfl,hk⟩ (st_block hc.mode ht)
 |loop b=>exact loopM_ok hG hGB hall h
 |rangeFunc f ps a b=>exact rangeFunc_ok hs h
 |exit id=>
  show Fin P w0 cs0 (cExit P id c k ih) fr cs w
  unfold cExit
  obtain⟨h1,h2⟩:=exit_ok (id:=id) hk
  cases he:exitA id k with
  |some k1=>
   obtain⟨t1,g1,g2⟩:=h1 k1 he
   exact go_ok hs h htr g2 (st_exit hc.mode ht g1)
  |none=>
   simp only
   refine Fin.cond (fun _=>Fin.fail) fun hh=>?_
   exact leave_ok hs hc htr (by unfold leaving;rw[ht];simp only[h2 he hh])
 |scope b=>exact go_ok hs h htr (t1:=.code b::.inScope b::k) ⟨_,_,rfl,rfl,_,_,rfl,rfl,hk⟩ (st_scope hc.mode ht)
 |label l=>exact go_ok hs h htr hk (st_label hc.mode ht)
 |goto l=>
  show Fin P w0 cs0 (cGoto P l c k ih) fr cs w
  unfold cGoto
  obtain⟨h1,h2⟩:=goto_ok (l:=l) hk
  cases he:gotoA l k with
  |some k1=>
   obtain⟨t1,g1,g2⟩:=h1 k1 he
   exact go_ok hs h htr g2 (st_goto hc.mode ht g1)
  |none=>
   simp only
   refine Fin.cond (fun _=>Fin.fail) fun hh=>?_
   exact leave_ok hs hc htr (by unfold leaving;rw[ht];simp only[h2 he hh])
 |ret=>exact leave_ok hs hc htr (by unfold leaving;rw[ht])
 |_=>exact Fin.fail
theorem loop_upd {b:Nat}{c:Ctx}{fr:Frame}{cs:List Frame}{w:World}(hc:Cur P w0 cs0 E b c fr cs w){l:Nat}{p:Pl}(hp:E l=some p){st:LoopState}{pd:Option Code}{fn:Nat}{tm:T V}{sz:Nat}{ps:List Nat}{assign body:Code}{d:Nat}
  (ho:getH c.H l=.loop st pd fn tm sz ps assign body d)(st':LoopState) :
  ∃ r:Loop,(getObj p.blk).run P w=.ok (.loop r) w∧r.state=st∧r.pending=pd∧∃ w',(setObj p.blk (.loop { r with state:=st' })).run P w=.ok () w'∧Cur P w0 cs0 E b { c with H:=put .no c.H l (.loop st' pd fn tm sz ps assign body d) } fr cs w':=by
 have hobj:=hc.wr.objs l p hp
 rw[ho] at hobj
 obtain⟨tmps,q,h1,h2,h3,h4⟩:=hobj
 have hblk:p.blk<w.heap.size:=(hc.wr.own l p hp).1
 refine⟨{ state:=st,pending:=pd,fn:=fn,tmps:=tmps,params:=ps.toArray,assign:=assign,body:=body,defers:=q.blk },by simp only[getObj,Sem.run,h4],rfl,rfl,_,by simp only[setObj,Sem.run,h4];rfl,?_⟩
 have hwr':WR w0 E (put .no c.H l (.loop st' pd fn tm sz ps assign body d)) c.nx { w with heap:=w.heap.setIfInBounds p.blk (.loop { state:=st',pending:=pd,fn,tmps,params:=ps.toArray,assign,body,defers:=q.blk }) }:=by
  refine hc.wr.upd l p hp _ (by rw[ho];intro h;cases h) (by rw[ho];rfl) (by rw[ho];rfl) (by rw[ho];rfl) (by rw[ho];rfl) rfl _ _ (by simp) (fun k hk=>by
   show (w.heap.setIfInBounds p.blk _)[k]? = _
   rw[Array.getElem?_setIfInBounds_ne (Ne.symm hk)]) (by
   show (w.heap.setIfInBounds p.blk _)[p.blk]? = _
   rw[Array.getElem?_setIfInBounds_self_of_lt hblk]) rfl rfl rfl ?_
  exact⟨tmps,q,h1,h2,h3,rfl⟩
 have hkb:KeepB b E E c.H (put .no c.H l (.loop st' pd fn tm sz ps assign body d)):=fun k _ hE _=>⟨hE,by
  rw[getH_put,if_neg (fun e=>by subst e;rw[hp] at hE;cases hE)]⟩
 exact hc.mono (Env.le.refl E) hkb (Nat.le_refl _) hwr'
theorem iPan_ok (hs:Sound P w0 cs0 ih){c:Ctx}{fr:Frame}{cs:List Frame}{w w':World}(hwr:WR w0 E c.H c.nx w')(hgl:∀ g,g<P.globals.size→∃ s,E g=some ⟨g,0,s,undef,noOb,[]⟩){b:Nat}(hb:b≤c.nx)(hfrs:FrsR P cs0 E c.H b c.cs cs)
  {u:V}{x:Value}(hv:VR E u x)(hst:∀ f1 r,cs=f1::r→Go.step P (lone fr cs w)=.next (lone (f1.raise [{ v:=x,recovered:=false }]) r w')):Fin P w0 cs0 (iPan P c u ih) fr cs w:=by
 unfold iPan
 cases hcc:c.cs with
 |nil=>exact Fin.fail
 |cons f fs=>
  rw[hcc] at hfrs
  obtain⟨lo,f1,r,rfl,hlo,hsr,hfr⟩:=hfrs
  simp only
  refine Fin.cond (fun hc2=>?_) fun _=>Fin.fail
  simp only[Bool.and_eq_true] at hc2
  obtain⟨hz,hfo⟩:=hc2
  have hch:ChR E [(u,false)] [{ v:=x,recovered:=false }]:=⟨x,[],rfl,hv,rfl⟩
  refine Fin.step (hst f1 r rfl) ?_
  have hmode1:=hsr.2.2.2.2.1
  have hraise:f1.raise [{ v:=x,recovered:=false }]={ f1 with mode:=raised f1.mode [{ v:=x,recovered:=false }] }:=Frame.raise_mode f1 _
  rw[hraise]
  have hmr:raise f.mode [(u,false)]≠.run∧ModeR E (raise f.mode [(u,false)]) (raised f1.mode [{ v:=x,recovered:=false }]):=by
   cases hfm:f.mode with
   |run=>rw[hfm] at hmode1;change f1.mode=_ at hmode1;rw[hmode1];exact⟨fun e=>by simp[raise] at e,_,rfl,hch⟩
   |returning=>rw[hfm] at hmode1;change f1.mode=_ at hmode1;rw[hmode1];exact⟨fun e=>by simp[raise] at e,_,rfl,hch⟩
   |panicking old=>
    rw[hfm] at hmode1
    obtain⟨es0,h1,h2⟩:=hmode1
    rw[h1]
    exact⟨fun e=>by simp[raise] at e,_,rfl,hch.append h2⟩
  refine hs E _ _ _ _ _ _ (mr_of_sr hwr hgl hb hlo hsr hfr hmr.2 hmr.1 ?_)
  have hpan:∃ ch,raise f.mode [(u,false)]=.panicking ch:=by
   unfold raise;split<;>exact⟨_,rfl⟩
  cases hfm:f.mode with
  |returning=>exact .inl (sr_tr hsr (by rw[hfm];intro h;cases h))
  |panicking _=>exact .inl (sr_tr hsr (by rw[hfm];intro h;cases h))
  |run=>
   have h7:=hsr.2.2.2.2.2.2
   rw[hfm] at h7
   simp only at h7
   split at h7
   ·rename_i s rr ops draw k heq
    obtain⟨is,k',b1,b2,b3⟩:=h7
    rcases b3 with⟨rfl,o,i,c1,rfl,c3,rfl,c5⟩|⟨rfl,hreg⟩
    ·exact .inl c5
    ·unfold rzOk at hz
     rw[hfm,heq] at hz
     cases hfd:f.defers with
     |nil=>exact .inr ⟨rfl,by rw[hfm] at hpan;exact hpan⟩
     |cons _ _=>rw[hfd] at hz;exact .inl (quiet_tr hz hreg.1 hreg.2.1 hreg.2.2.2.2.2)
   ·obtain⟨p,k',b1,b2,b3,b4⟩:=h7
    exact .inl b4
   ·exact h7.elim
theorem topItem_ok {kk:Nat}{G:World→Prop}(hG:Gd0 kk G)(hGB:GB kk G w0)(hall:∀ b cs,GB kk G b→Sound P b cs ih){hk:Hook}(hok:HookOk P w0 hk){it:AItem}{k:List AItem}{c:Ctx}{fr:Frame}{cs:List Frame}{w:World}(h:MR P w0 cs0 E .run (it::k) c fr cs w):Fin P w0 cs0 (topItem P hk it c k ih) fr cs w:=by
 have hs:Sound P w0 cs0 ih:=hall w0 cs0 hGB
 obtain⟨b,hc⟩:=h.cur
 have hrest:=h.rest
 by_cases hcall:∃ f args,it=.call f args
 ·obtain⟨f,args,rfl⟩:=hcall
  obtain⟨g1,g2,xs,g3,g4⟩:=hrest
  show Fin P w0 cs0 (iCall P hk f args c k ih) fr cs w
  unfold iCall
  cases hh:hk f args c.H c.nx with
  |none=>exact hs E _ _ _ _ _ _ ⟨hc.wr,hc.gl,⟨b,hc.ble,hc.frs⟩,hc.fn,hc.kind,hc.round,hc.defers,hc.mode,hc.size,RunR.of g1 g2⟩
  |some r=>
   obtain⟨v,H',nx'⟩:=r
   simp only
   obtain⟨e,w',fr',hpost,hcomes,hfn,hleav⟩:=hok E c.H c.nx w f args xs v H' nx' hc.wr hc.gl g3 hh cs
   subst g4
   unfold HookPost at hpost
   cases hpv:panV v with
   |none=>
    rw[hpv] at hpost
    obtain⟨x,E',he,a1,a2,a3,a4,a5⟩:=hpost
    subst he
    have hfrs:=hc.frs.mono a1 (KeepB.le (a5:KeepB c.nx E E' c.H H') hc.ble)
    refine Fin.steps (hcomes:Steps P _ _) ?_
    have hkind:c.kind=.normal:=by rw[← hc.kind];rfl
    exact doRet_ok hs (c:={ c with H:=H',nx:=nx' }) a3 (fun g hg=>(hc.gl g hg).imp fun s hs=>a1 _ _ hs) (Nat.le_trans hc.ble a4) hfrs a2 (fun _ f1 r e=>by
     subst e;exact step_leave_returned hleav) (fun h2=>by
     have h2':c.kind=.deferred:=h2
     rw[hkind] at h2';cases h2')
   |some u=>
    rw[hpv] at hpost
    obtain⟨x,E',he,a1,a2,a3,a4,a5⟩:=hpost
    subst he
    have hfrs:=hc.frs.mono a1 (KeepB.le (a5:KeepB c.nx E E' c.H H') hc.ble)
    refine Fin.steps (hcomes:Steps P _ _) ?_
    exact iPan_ok hs (c:={ c with H:=H',nx:=nx' }) a3 (fun g hg=>(hc.gl g hg).imp fun s hs=>a1 _ _ hs) (Nat.le_trans hc.ble a4) hfrs a2 (fun f1 r e=>by
     subst e;exact step_leave_panicked hleav)
 have hrun:TodoR E (it::k) fr.todo∧TR E c.tm fr.tmps:=by
  cases it<;>first|exact hrest|exact absurd ⟨_,_,rfl⟩ hcall
 by_cases hhalt:∃ l,it=.halt l
 ·obtain⟨l,rfl⟩:=hhalt
  show Fin P w0 cs0 (.st .run (.halt l::k) c) fr cs w
  intro m' t' c' e
  cases e
  exact⟨E,fr,cs,w,.refl _ _,h⟩
 have hrun2:∃ i k',fr.todo=i::k'∧ItemR E it i∧TodoR E k k':=by
  have:=hrun.1
  cases it<;>first|exact this|exact absurd ⟨_,rfl⟩ hhalt
 have htr:=hrun.2
 obtain⟨i,k',ht,hi,hk1⟩:=hrun2
 cases it with
 |call f args=>exact absurd ⟨f,args,rfl⟩ hcall
 |halt l=>exact absurd ⟨l,rfl⟩ hhalt
 |code code=>exact runCode_ok hG hGB hall h
 |inBlock id=>cases hi;exact go_ok hs h htr hk1 (st_inBlock hc.mode ht)
 |inLoop b=>cases hi;exact go_ok hs h htr (t1:=.code b::.inLoop b::k) ⟨_,_,rfl,rfl,_,_,rfl,rfl,hk1⟩ (st_inLoop hc.mode ht)
 |inScope b=>cases hi;exact go_ok hs h htr hk1 (st_inScope hc.mode ht)
 |steps _ _ _=>exact hi.elim
 |inRF l=>exact Fin.fail
 |endRF l=>
  obtain⟨p,hp,rfl⟩:=hi
  show Fin P w0 cs0 (iEnd l c k ih) fr cs w
  unfold iEnd
  cases ho:getH c.H l with
  |loop st pd fn tm sz ps assign body d=>
   obtain⟨r,hg,hrs,hrp,w',hset,hc'⟩:=loop_upd hc hp ho .exhausted
   have main:st≠.busy→Fin P w0 cs0 (ih .run (match (generalizing:=false) pd with|some code=>.code code::k|none=>k) { c with H:=put .no c.H l (.loop .exhausted pd fn tm sz ps assign body d) }) fr cs w:=by
    intro hb
    have he:(Instr.endLoop p.blk).run P w=.ok pd w':=by
     have hbs:(r.state==LoopState.busy)=false:=by
      rw[hrs];cases st<;>first|rfl|exact absurd rfl hb
     simp only[Instr.endLoop,Instr.getLoop,Sem.run_bind,hg,Result.andThen_ok,Sem.run_pure,hbs,Bool.false_eq_true,if_false,Sem.run_ite]
     rw[hset]
     simp[hrp]
    refine Fin.step (st_endLoop hc.mode ht he) ?_
    refine hs E _ _ _ _ _ _ ((hc'.to fr.tmps _ rfl).mr ?_ htr)
    cases pd with
    |none=>exact hk1
    |some code=>exact⟨_,_,rfl,rfl,hk1⟩
   cases st<;>first|exact Fin.fail|(simp only[setHO_eq];exact main (fun e=>by cases e))
  |_=>exact Fin.fail
 |beginRound=>
  cases hi
  show Fin P w0 cs0 (iBegin c k ih) fr cs w
  unfold iBegin
  have hround:=hc.round
  cases hr:c.round with
  |none=>exact Fin.fail
  |some l=>
   rw[hr] at hround
   obtain⟨p,hp,hro⟩:=hround
   simp only
   cases ho:getH c.H l with
   |loop st pd fn tm sz ps assign body d=>
    obtain⟨r,hg,hrs,hrp,w',hset,hc'⟩:=loop_upd hc hp ho .busy
    cases st<;>try exact Fin.fail
    simp only[setHO_eq]
    have he:(Instr.beginRound p.blk).run P w=.ok () w':=by
     simp only[Instr.beginRound,Instr.getLoop,Sem.run_bind,hg,Result.andThen_ok,Sem.run_pure]
     rw[hset]
     simp[hrs]
    refine Fin.step (st_begin hc.mode ht hro he) ?_
    have:=hs E .run k _ _ _ _ ((hc'.to fr.tmps k' rfl).mr hk1 htr)
    simp only[hr] at this
    exact this
   |_=>exact Fin.fail
theorem step_sound {kk:Nat}{G:World→Prop}(hG:Gd0 kk G){hk:Hook}(hok:Hooks P kk G hk)(hall:∀ b cs,GB kk G b→Sound P b cs ih):∀ b cs,GB kk G b→Sound P b cs (Exo.step P hk ih):=by
 intro w0 cs0 hGB E m t c fr cs w h
 have hs:Sound P w0 cs0 ih:=hall w0 cs0 hGB
 cases m with
 |run=>
  cases t with
  |nil=>
   obtain⟨b,hc⟩:=h.cur
   have ht:fr.todo=[]:=h.rest.1
   exact leave_ok hs hc h.rest.2 (by unfold leaving;rw[ht])
  |cons it k=>exact topItem_ok hG hGB hall (hok w0 hGB) h
 |returning=>exact unw_ok hs (fun e=>by cases e) h
 |panicking ch=>exact unw_ok hs (fun e=>by cases e) h
theorem run_sound {kk:Nat}{G:World→Prop}(hG:Gd0 kk G){hk:Hook}(hok:Hooks P kk G hk):∀ n,∀ b cs,GB kk G b→Sound P b cs (run P hk n)
 |0=>fun _ _ _ E m t c fr cs w h m' t' c' e=>by cases e;exact⟨E,fr,cs,w,.refl _ _,h⟩
 |n+1=>step_sound hG hok (run_sound hG hok n)
noncomputable def final (P:Program)(f:Nat)(o:Out):Option (V×T AObj×Nat):=
 match o with
 |.st .returning _ c=>(match c.cs,c.ds,c.kind with
  |[],[],.normal=>cond (Nat.beq c.fn f) (match resV P c.fn c.tm c.H with|.val v=>some (v,c.H,c.nx)|_=>none) none
  |_,_,_=>none)
 |_=>none
theorem final_ok {kk:Nat}{G:World→Prop}(hG:Gd0 kk G)(hGB:GB kk G w0){hk:Hook}(hok:Hooks P kk G hk){f:Nat}{args:List V}{xs:List Value}{H:T AObj}{nx n:Nat}{w:World}(hwr:WR w0 E H nx w)(hgl:∀ g,g<P.globals.size→∃ s,E g=some ⟨g,0,s,undef,noOb,[]⟩)(ha:VRs E args xs){v:V}{H':T AObj}{nx':Nat}
  (h:final P f (enterK P f args .normal [] H nx (run P hk n))=some (v,H',nx')):Calls P f xs.toArray w fun e w'=>∃ x E',e=.returned x∧VR E' v x∧WR w0 E' H' nx' w':=by
 intro cs
 have hfin:Fin P w0 cs (enterK P f args .normal [] H nx (run P hk n)) (Frame.enter P f xs.toArray .normal) cs w:=enter_ok (run_sound hG hok n w0 cs hGB) hwr hgl (afs:=[]) (frs:=cs) rfl ha .normal
 generalize enterK P f args .normal [] H nx (run P hk n)=o at h hfin
 unfold final at h
 split at h
 ·rename_i todo c
  split at h
  ·rename_i h1 h2 h3
   cases hb:Nat.beq c.fn f with
   |false=>rw[hb] at h;cases h
   |true=>
    rw[hb] at h
    simp only[cond_true] at h
    rw[Nat.beq_eq] at hb
    obtain⟨E',fr,cs',w',hst,hmr⟩:=hfin _ _ _ rfl
    cases hr:resV P c.fn c.tm c.H with
    |val u=>
     rw[hr] at h
     simp only[Option.some.injEq,Prod.mk.injEq] at h
     obtain⟨rfl,rfl,rfl⟩:=h
     obtain⟨fn,x,g1,g2,g3⟩:=resV_ok hmr.wr hmr.rest hr
     obtain⟨b,_,hf⟩:=hmr.frs
     rw[h1] at hf
     change cs'=cs at hf
     subst hf
     have hd:=hmr.defers
     rw[h2] at hd
     exact⟨.returned x,w',fr,⟨x,E',rfl,g3,hmr.wr⟩,hst,by rw[hmr.fn,hb],⟨hmr.mode,hd,by rw[hmr.kind,h3],fn,by rw[hmr.fn];exact g1,g2⟩⟩
    |_=>rw[hr] at h;cases h
  ·cases h
 ·cases h
end
end Go.Exo
