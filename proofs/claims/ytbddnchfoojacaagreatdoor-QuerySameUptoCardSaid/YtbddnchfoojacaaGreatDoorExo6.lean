/-
  EXO, part Z3: the plan, step by step; regions. Own text.
-/
import Derived.Test.YtbddnchfoojacaaGreatDoorExo5
set_option linter.all false
namespace Go.Exo
set_option linter.unusedSectionVars false
variable [Sx] [Dc]
section
variable {P:Program}{ops:Array Oper}{σ:List Nat}{all:List Ent}
theorem ready_some {done:Nat}{fits:AOp→Bool}{x:Ent}:∀ {l:List Ent},ready done fits l=some x→x∈l∧done.testBit x.1.idx=false∧sub x.2 done=true∧fits x.1.op=true
 |[],h=>by cases h
 |(s,b)::r,h=>by
  simp only[ready] at h
  cases hc:(Nat.beq (Nat.land (bitOf s.idx) done) 0&&sub b done&&fits s.op) with
  |true=>
   rw[hc] at h
   cases h
   simp only[Bool.and_eq_true] at hc
   exact⟨List.mem_cons_self ..,bit_free.1 hc.1.1,hc.1.2,hc.2⟩
  |false=>
   rw[hc] at h
   obtain⟨h1,h2⟩:=ready_some (l:=r) h
   exact⟨List.mem_cons_of_mem _ h1,h2⟩
theorem ready_none {done:Nat}{fits:AOp→Bool}{x:Ent}:∀ {l:List Ent},ready done fits l=none→x∈l→done.testBit x.1.idx=false→sub x.2 done=true→fits x.1.op=false
 |[],_,h,_,_=>by cases h
 |(s,b)::r,h,hx,h1,h2=>by
  simp only[ready] at h
  cases hc:(Nat.beq (Nat.land (bitOf s.idx) done) 0&&sub b done&&fits s.op) with
  |true=>rw[hc] at h;cases h
  |false=>
   rw[hc] at h
   cases hx with
   |head=>
    have e:=bit_free.2 h1
    simp only at e h2
    rw[e,h2] at hc
    simpa using hc
   |tail _ hx=>exact ready_none (l:=r) h hx h1 h2
theorem againOf_mem {b:Nat}{s:PStep}{d:Nat}:∀ {l:List PStep},s∈l→s.dst=some d→s.op.cls=2→b.testBit s.idx=false→(d,s.guard,s.op)∈againOf b l
 |[],h,_,_,_=>by cases h
 |x::r,h,hd,hc,hb=>by
  simp only[againOf]
  cases h with
  |head=>
   rw[hd]
   simp only
   have e:(Nat.beq s.op.cls 2&&Nat.beq (Nat.land (bitOf s.idx) b) 0)=true:=by rw[hc,bit_free.2 hb];rfl
   rw[e]
   exact List.mem_cons_self ..
  |tail _ h=>
   have ih:=againOf_mem h hd hc hb
   cases hx:x.dst with
   |none=>exact ih
   |some dx=>
    simp only
    cases (Nat.beq x.op.cls 2&&Nat.beq (Nat.land (bitOf x.idx) b) 0) with
    |true=>exact List.mem_cons_of_mem _ ih
    |false=>exact ih
theorem apartOf_nil {b:Nat}:∀ {l:List PStep},apartOf b l=[]→∀ s∈l,b.testBit s.idx=true
 |[],_,_,h=>by cases h
 |x::r,h,s,hs=>by
  simp only[apartOf] at h
  cases hc:Nat.beq (Nat.land (bitOf x.idx) b) 0 with
  |true=>rw[hc] at h;cases h
  |false=>
   rw[hc] at h
   cases hs with
   |head=>
    cases hb:b.testBit x.idx with
    |true=>rfl
    |false=>rw[bit_free.2 hb] at hc;cases hc
   |tail _ hs=>exact apartOf_nil h s hs
theorem planOk_apart:∀ {l:List PStep},planOk l=true→∀ s∈l,s.apart=[]
 |[],_,_,h=>by cases h
 |x::r,h,s,hs=>by
  unfold planOk at h
  split at h
  ·rename_i he
   cases hs with
   |head=>exact he
   |tail _ hs=>exact planOk_apart h s hs
  ·cases h
theorem plan_mem (ha:AllOk P ops σ all):∀ (n done:Nat)(acts reads:List PStep),∀ s∈planGo all n done acts reads,
  done.testBit s.idx=false∧(∃ o,ops[s.idx]? = some o∧s.op=(pstep P ops s.idx o).op)
 |0,done,acts,reads,s,hs=>by simp[planGo] at hs
 |n+1,done,acts,reads,s,hs=>by
  unfold planGo at hs
  cases hr:ready done (fun o=>Nat.ble o.cls 2) all with
  |some x=>
   obtain⟨sx,bx⟩:=x
   rw[hr] at hs
   simp only at hs
   obtain⟨h1,h2,h3,h4⟩:=ready_some hr
   cases hs with
   |head=>
    obtain⟨o,ho,hp,_⟩:=ha.ents _ h1
    refine⟨h2,⟨o,ho,?_⟩⟩
    simp only at hp ho ⊢;rw[← hp]
   |tail _ hs=>
    obtain⟨g1,g2⟩:=plan_mem ha n _ _ _ s hs
    rw[lor_bit] at g1
    simp only[Bool.or_eq_false_iff] at g1
    exact⟨g1.1,g2⟩
  |none=>
   rw[hr] at hs
   simp only at hs
   cases hr2:ready done (fun _=>true) all with
   |none=>rw[hr2] at hs;cases hs
   |some x=>
    obtain⟨sx,bx⟩:=x
    rw[hr2] at hs
    simp only at hs
    obtain⟨h1,h2,h3,h4⟩:=ready_some hr2
    obtain⟨o,ho,hp,hb,_⟩:=ha.ents _ h1
    cases hs with
    |head=>
     refine⟨h2,⟨o,ho,?_⟩⟩
     simp only at hp ho ⊢;rw[← hp]
    |tail _ hs=>
     obtain⟨g1,g2⟩:=plan_mem ha n _ _ _ s hs
     rw[lor_bit] at g1
     simp only[Bool.or_eq_false_iff] at g1
     exact⟨g1.1,g2⟩
inductive Took (all:List Ent)(done:Nat)(acts reads:List PStep):PStep→Nat→List PStep→List PStep→Prop where
 |non (s:PStep)(b:Nat):(s,b)∈all→done.testBit s.idx=false→sub b done=true→s.op.cls≤2→Took all done acts reads s b acts (cond (Nat.beq s.op.cls 2) (s::reads) reads)
 |act (s:PStep)(b:Nat):(s,b)∈all→done.testBit s.idx=false→sub b done=true→2<s.op.cls→ready done (fun o=>Nat.ble o.cls 2) all=none→
   Took all done acts reads { s with again:=againOf b reads,apart:=apartOf b acts,fast:=s.fast&&(againOf b reads).isEmpty&&(apartOf b acts).isEmpty } b (s::acts) reads
theorem plan_cons {n done:Nat}{acts reads:List PStep}{s:PStep}{r:List PStep}(h:planGo all n done acts reads=s::r) :
  ∃ m b acts' reads',n=m+1∧Took all done acts reads s b acts' reads'∧r=planGo all m (Nat.lor done (bitOf s.idx)) acts' reads':=by
 cases n with
 |zero=>simp[planGo] at h
 |succ n=>
  unfold planGo at h
  cases hr:ready done (fun o=>Nat.ble o.cls 2) all with
  |some x=>
   obtain⟨sx,bx⟩:=x
   rw[hr] at h
   simp only[List.cons.injEq] at h
   obtain⟨rfl,h⟩:=h
   obtain⟨h1,h2,h3,h4⟩:=ready_some hr
   exact⟨n,bx,_,_,rfl,.non sx bx h1 h2 h3 (Nat.le_of_ble_eq_true h4),h.symm⟩
  |none=>
   rw[hr] at h
   simp only at h
   cases hr2:ready done (fun _=>true) all with
   |none=>rw[hr2] at h;cases h
   |some x=>
    obtain⟨sx,bx⟩:=x
    rw[hr2] at h
    simp only[List.cons.injEq] at h
    obtain⟨rfl,h⟩:=h
    obtain⟨h1,h2,h3,h4⟩:=ready_some hr2
    refine⟨n,bx,_,_,rfl,.act sx bx h1 h2 h3 ?_ hr,h.symm⟩
    have:=ready_none hr h1 h2 h3
    simp only at this
    rcases Nat.lt_or_ge 2 sx.op.cls with h|h
    ·exact h
    ·rw[Nat.ble_eq_true_of_le h] at this;cases this
theorem Took.facts {done:Nat}{acts reads:List PStep}{s:PStep}{b:Nat}{acts' reads':List PStep}(h:Took all done acts reads s b acts' reads')(ha:AllOk P ops σ all) :
  done.testBit s.idx=false∧sub b done=true∧BitsB σ b s.idx∧(∀ x∈acts,x∈acts')∧
  ∃ s0 o,(s0,b)∈all∧s0.idx=s.idx∧ops[s.idx]? = some o∧s0=pstep P ops s.idx o∧s.op=s0.op∧s.dst=o.dst∧s.guard=gdOf ops o∧(s.fast=true→s.guard=none∧s.again=[]∧s.apart=[]):=by
 cases h with
 |non s b h1 h2 h3 h4=>
  obtain⟨o,ho,hp,hb,_⟩:=ha.ents _ h1
  simp only at ho hp hb
  have hgd:s.guard=gdOf ops o:=by rw[hp];rfl
  refine⟨h2,h3,hb,fun _ h=>h,s,o,h1,rfl,ho,hp,rfl,by rw[hp];rfl,hgd,fun hf=>⟨?_,by rw[hp];rfl,by rw[hp];rfl⟩⟩
  rw[hp] at hf
  simp only[pstep,Option.isNone_iff_eq_none] at hf
  rw[hgd];exact (gdOf_none hf).1
 |act s b h1 h2 h3 h4 h5=>
  obtain⟨o,ho,hp,hb,_⟩:=ha.ents _ h1
  simp only at ho hp hb
  have hgd:s.guard=gdOf ops o:=by rw[hp];rfl
  have hdd:s.dst=o.dst:=by rw[hp];rfl
  refine⟨h2,h3,hb,fun _ h=>List.mem_cons_of_mem _ h,s,o,h1,rfl,ho,hp,rfl,hdd,hgd,fun hf=>?_⟩
  simp only[Bool.and_eq_true,List.isEmpty_iff] at hf
  refine⟨?_,hf.1.2,hf.2⟩
  have hf1:=hf.1.1
  rw[hp] at hf1
  simp only[pstep,Option.isNone_iff_eq_none] at hf1
  show s.guard=none
  rw[hgd];exact (gdOf_none hf1).1
theorem Took.sof {done:Nat}{acts reads:List PStep}{s:PStep}{b:Nat}{acts' reads':List PStep}(h:Took all done acts reads s b acts' reads')(ha:AllOk P ops σ all):SOf P ops s:=by
 obtain⟨_,_,_,_,s0,o,h1,h2,h3,h4,h5,h6,h7,h8⟩:=h.facts ha
 exact⟨o,h3,by rw[h5,h4],h6,h7,h8⟩
theorem planOk_tail {s:PStep}{r:List PStep}(h:planOk (s::r)=true):planOk r=true:=by
 unfold planOk at h;split at h
 ·exact h
 ·cases h
theorem plan_ahead (ha:AllOk P ops σ all):∀ (T:List PStep)(n done:Nat)(acts reads:List PStep)(Z:List PStep),planGo all n done acts reads=T++Z→planOk T=true→∀ s∈T,2<s.op.cls→∀ a∈acts,Bef σ a.idx s.idx
 |[],_,_,_,_,_,_,_,s,hs,_,_,_=>by cases hs
 |t::T,n,done,acts,reads,Z,h,hok,s,hs,hc,a,haa=>by
  obtain⟨m,b,acts',reads',rfl,htook,hr⟩:=plan_cons h
  obtain⟨_,_,hb,hsub,_⟩:=htook.facts ha
  cases hs with
  |head=>
   have hap:=planOk_apart hok t (List.mem_cons_self ..)
   cases htook with
   |non s b h1 h2 h3 h4=>omega
   |act s b h1 h2 h3 h4 h5=>exact hb _ (apartOf_nil hap a haa)
  |tail _ hs=>exact plan_ahead ha T m _ acts' reads' Z hr.symm (planOk_tail hok) s hs hc a (hsub a haa)
theorem plan_before (ha:AllOk P ops σ all):∀ (T:List PStep)(n done:Nat)(acts reads:List PStep)(Z:List PStep),planGo all n done acts reads=T++Z→∀ s∈T,∀ x∈all,x.1.idx=s.idx→∀ z∈Z,x.2.testBit z.idx=false
 |[],_,_,_,_,_,_,s,hs,_,_,_,_,_=>by cases hs
 |t::T,n,done,acts,reads,Z,h,s,hs,x,hx,hxi,z,hz=>by
  obtain⟨m,b,acts',reads',rfl,htook,hr⟩:=plan_cons h
  obtain⟨_,hsub,_,_,s0,o,g1,g2,_⟩:=htook.facts ha
  cases hs with
  |head=>
   have e:=ha.uniq _ hx _ g1 (by rw[hxi,g2])
   have hz2:=(plan_mem ha m _ acts' reads' z (by rw[← hr];exact List.mem_append.2 (.inr hz))).1
   rw[lor_bit] at hz2
   simp only[Bool.or_eq_false_iff] at hz2
   cases hbz:x.2.testBit z.idx with
   |false=>rfl
   |true=>
    rw[e] at hbz
    have:=sub_iff.1 hsub _ hbz
    rw[hz2.1] at this;cases this
  |tail _ hs=>exact plan_before ha T m _ acts' reads' Z hr.symm s hs x hx hxi z hz
theorem first_not (done:Nat):∀ (is:List Nat)(i:Nat),i∈is→done.testBit i=false→∃ a x c,is=a++x::c∧(∀ j∈a,done.testBit j=true)∧done.testBit x=false
 |[],_,h,_=>by cases h
 |y::r,i,h,hd=>by
  cases hy:done.testBit y with
  |false=>exact⟨[],y,r,rfl,(fun _ h=>by cases h),hy⟩
  |true=>
   have hir:i∈r:=by
    cases h with
    |head=>rw[hd] at hy;cases hy
    |tail _ h=>exact h
   obtain⟨a,x,c,h1,h2,h3⟩:=first_not done r i hir hd
   refine⟨y::a,x,c,by rw[h1];rfl,fun j hj=>?_,h3⟩
   cases hj with
   |head=>exact hy
   |tail _ hj=>exact h2 j hj
structure Inv (P:Program)(ops:Array Oper)(σ:List Nat)(done:Nat)(reads:List PStep)(L:List PStep):Prop where
 full:∀ i,i<ops.size→done.testBit i=true∨∃ s∈L,s.idx=i
 rd:∀ i o,done.testBit i=true→ops[i]? = some o→(pstep P ops i o).op.cls=2→pstep P ops i o∈reads
 lk:∀ i o,done.testBit i=true→ops[i]? = some o→∀ t∈looks ops o,∀ j,dstOf ops j=some t→done.testBit j=true∨Late P ops σ j i
theorem Inv.next (ha:AllOk P ops σ all){done:Nat}{acts reads:List PStep}{s:PStep}{b:Nat}{acts' reads':List PStep}{L:List PStep}(ht:Took all done acts reads s b acts' reads')(h:Inv P ops σ done reads (s::L)) :
  Inv P ops σ (Nat.lor done (bitOf s.idx)) reads' L:=by
 obtain⟨_,hsub,_,_,s0,o,g1,g2,g3,g4,g5,g6,g7,_⟩:=ht.facts ha
 refine⟨fun i hi=>?_,fun i oi hi hoi hc=>?_,fun i oi hi hoi t htl j hj=>?_⟩
 ·rcases h.full i hi with h|⟨s',hs',e⟩
  ·exact .inl (by rw[lor_bit,h];rfl)
  ·cases hs' with
   |head=>exact .inl (by rw[lor_bit];simp[e])
   |tail _ hs'=>exact .inr ⟨s',hs',e⟩
 ·rw[lor_bit] at hi
  simp only[Bool.or_eq_true,decide_eq_true_eq] at hi
  cases ht with
  |non s b h1 h2 h3 h4=>
   rcases hi with hi|hi
   ·have:=h.rd i oi hi hoi hc
    cases Nat.beq s.op.cls 2
    ·exact this
    ·exact List.mem_cons_of_mem _ this
   ·subst hi
    rw[g3] at hoi;cases hoi
    obtain⟨o',ho',hp',_⟩:=ha.ents _ h1
    simp only at ho' hp'
    rw[g3] at ho';cases ho'
    rw[← hp'] at hc ⊢
    rw[hc]
    exact List.mem_cons_self ..
  |act s b h1 h2 h3 h4 h5=>
   rcases hi with hi|hi
   ·exact h.rd i oi hi hoi hc
   ·simp only at hi g3
    subst hi
    rw[g3] at hoi;cases hoi
    rw[← g4,← g5] at hc
    simp only at hc
    omega
 ·rw[lor_bit] at hi ⊢
  simp only[Bool.or_eq_true,decide_eq_true_eq] at hi ⊢
  rcases hi with hi|hi
  ·rcases h.lk i oi hi hoi t htl j hj with h|h
   ·exact .inl (.inl h)
   ·exact .inr h
  ·subst hi
   rcases ha.look g1 (by rw[g2];exact hoi) htl hj with this|this
   ·exact .inl (.inl (sub_iff.1 hsub j this))
   ·rw[g2] at this;exact .inr this
theorem plan_fit (ha:AllOk P ops σ all):∀ (T:List PStep)(n done dz:Nat)(acts reads:List PStep)(Z:List PStep)(pre is:List Nat),planGo all n done acts reads=T++Z→planOk T=true→σ=pre++is→
  (∀ j,dz.testBit j=true↔done.testBit j=true∨∃ z∈Z,z.idx=j)→(∀ j∈pre,dz.testBit j=true)→(∀ z∈Z,z.idx∈pre)→Inv P ops σ done reads (T++Z)→Compat P ops T is
 |[],_,_,_,_,_,_,_,_,_,_,_,_,_,_,_=>trivial
 |s::T,n,done,dz,acts,reads,Z,pre,is,hL,hok,hσ,hdz,hpre,hZ,hinv=>by
  have hnd:(pre++is).Nodup:=hσ ▸ ha.sched.nodup
  obtain⟨m,b,acts',reads',rfl,htook,hr⟩:=plan_cons hL
  have hsof:=htook.sof ha
  obtain⟨hsd,hsub,hbits,hacts,s0,o,g1,g2,g3,g4,g5,g6,g7,g8⟩:=htook.facts ha
  have hlt:s.idx<ops.size:=(Array.getElem?_eq_some_iff.1 g3).1
  have hrest:∀ s'∈T++Z,s'.idx≠s.idx:=fun s' hs' e=>by
   have:=(plan_mem ha m _ acts' reads' s' (by rw[← hr];exact hs')).1
   rw[lor_bit,e] at this;simp at this
  have hsz:dz.testBit s.idx=false:=by
   cases h:dz.testBit s.idx with
   |false=>rfl
   |true=>
    rcases (hdz _).1 h with h|⟨z,hz,e⟩
    ·rw[hsd] at h;cases h
    ·exact absurd e (hrest z (List.mem_append.2 (.inr hz)))
  have hin:∀ i,i<ops.size→dz.testBit i=false→i∈is:=fun i hi hd=>by
   have:i∈pre++is:=hσ ▸ ha.sched.all i hi
   rcases List.mem_append.1 this with h|h
   ·rw[hpre i h] at hd;cases hd
   ·exact h
  have hdone:∀ i∈is,i<ops.size→(∀ s'∈s::T,s'.idx≠i)→done.testBit i=true:=fun i hi hil hp=>by
   rcases hinv.full i hil with h|⟨s',hs',e⟩
   ·exact h
   ·rw[List.cons_append] at hs'
    rcases List.mem_append.1 (show s'∈(s::T)++Z from hs') with h|h
    ·exact absurd e (hp s' h)
    ·exact absurd rfl ((List.nodup_append.1 hnd).2.2 i (e ▸ hZ s' h) i hi)
  have hlook:∀ d,s.dst=some d→∀ i∈is,(∀ s'∈s::T,s'.idx≠i)→(s.op.cls≤2∨∃ x y,is=x++s.idx::y∧i∈y)→∀ o,ops[i]? = some o→d∉looks ops o:=by
   intro d hd i hi hp hw oi hoi hl
   rcases hinv.lk i oi (hdone i hi (Array.getElem?_eq_some_iff.1 hoi).1 hp) hoi d hl s.idx (by simp[dstOf,g3,← g6,hd]) with this|⟨hne,hbef⟩
   ·rw[hsd] at this;cases this
   ·rcases hw with hw|⟨x,y,e,hy⟩
    ·exact hne ⟨o,g3,.inl (by rw[← g4,← g5];exact hw)⟩
    ·have:=hbef (pre++x) y (by rw[hσ,e];simp)
     rw[e] at hnd
     have hnd2:((pre++x)++(s.idx::y)).Nodup:=by simpa using hnd
     exact absurd rfl ((List.nodup_append.1 hnd2).2.2 i this i (List.mem_cons_of_mem _ hy))
  have hdz':∀ j,(Nat.lor dz (bitOf s.idx)).testBit j=true↔(Nat.lor done (bitOf s.idx)).testBit j=true∨∃ z∈Z,z.idx=j:=fun j=>by
   rw[lor_bit,lor_bit]
   simp only[Bool.or_eq_true,decide_eq_true_eq,hdz j]
   constructor
   ·rintro ((h|h)|h)
    ·exact .inl (.inl h)
    ·exact .inr h
    ·exact .inl (.inr h)
   ·rintro ((h|h)|h)
    ·exact .inl (.inl h)
    ·exact .inr h
    ·exact .inl (.inr h)
  have hnext:=Inv.next ha htook hinv
  have hap:=planOk_apart hok s (List.mem_cons_self ..)
  have hrec:=fun pre is h1 h2 h3=>plan_fit ha T m _ _ acts' reads' Z pre is hr.symm (planOk_tail hok) h1 hdz' h2 h3 hnext
  refine⟨hsof,hin s.idx hlt hsz,fun s' hs'=>hrest s' (List.mem_append.2 (.inl hs')),hap,hlook,?_⟩
  cases htook with
  |non s b h1 h2 h3 h4=>
   refine .inl ⟨h4,?_,hrec pre is hσ (fun j hj=>by rw[lor_bit,hpre j hj];rfl) hZ⟩
   obtain⟨o',_,hp',_⟩:=ha.ents _ h1
   simp only at hp'
   rw[hp'];rfl
  |act s b h1 h2 h3 h4 h5=>
   simp only at hsd hbits g1 g2 g3 g4 g5 g6 g7 hlt hrest hsz
   obtain⟨a,x,c,e1,e2,e3⟩:=first_not dz is s.idx (hin s.idx hlt hsz) hsz
   have hxs:x=s.idx:=by
    have hxσ:x∈σ:=by rw[hσ,e1];simp
    have hxlt:=ha.sched.lt x hxσ
    have hxT:x=s.idx∨∃ s2∈T,s2.idx=x:=by
     rcases hinv.full x hxlt with h|⟨s2,hs2,e⟩
     ·have:=(hdz x).2 (.inl h);rw[e3] at this;cases this
     ·rw[List.cons_append] at hs2
      cases hs2 with
      |head=>exact .inl e.symm
      |tail _ hs2=>
       rcases List.mem_append.1 hs2 with h|h
       ·exact .inr ⟨s2,h,e⟩
       ·have:=(hdz x).2 (.inr ⟨s2,h,e⟩);rw[e3] at this;cases this
    rcases hxT with h|⟨s2,hs2,hs2i⟩
    ·exact h
    ·exfalso
     obtain⟨⟨sx,bx⟩,hx1,hx2⟩:=ha.full x hxlt
     simp only at hx2
     obtain⟨ox,hox,hpx,hbx,_⟩:=ha.ents _ hx1
     simp only at hox hpx hbx
     have hnoZ:=plan_before ha T m _ _ _ Z hr.symm s2 hs2 _ hx1 (by simp only[hx2,hs2i])
     have hsubx:sub bx done=true:=sub_iff.2 fun j hj=>by
      have:=hbx j hj (pre++a) c (by rw[hσ,e1,hx2];simp)
      have hdzj:dz.testBit j=true:=by
       rcases List.mem_append.1 this with h|h
       ·exact hpre j h
       ·exact e2 j h
      rcases (hdz j).1 hdzj with h|⟨z,hz,e⟩
      ·exact h
      ·have h6:=hnoZ z hz
       simp only at h6
       rw[e,hj] at h6;cases h6
     have hxd:done.testBit x=false:=by
      cases h:done.testBit x with
      |false=>rfl
      |true=>have:=(hdz x).2 (.inl h);rw[e3] at this;cases this
     have hclx:2<sx.op.cls:=by
      have:=ready_none h5 hx1 (by simp only[hx2];exact hxd) hsubx
      simp only at this
      rcases Nat.lt_or_ge 2 sx.op.cls with h|h
      ·exact h
      ·rw[Nat.ble_eq_true_of_le h] at this;cases this
     obtain⟨_,o2,ho2,hop2⟩:=plan_mem ha m _ _ _ s2 (by rw[← hr];exact List.mem_append.2 (.inl hs2))
     have hcl2:2<s2.op.cls:=by
      rw[hop2]
      rw[hpx] at hclx
      rw[hx2] at hclx hox
      rw[hs2i] at ho2 ⊢
      rw[hox] at ho2;cases ho2
      exact hclx
     have:=plan_ahead ha T m _ _ _ Z hr.symm (planOk_tail hok) s2 hs2 hcl2 s (List.mem_cons_self ..) (pre++a) c (by rw[hσ,e1,hs2i];simp)
     have hd:dz.testBit s.idx=true:=by
      rcases List.mem_append.1 this with h|h
      ·exact hpre _ h
      ·exact e2 _ h
     rw[hsz] at hd;cases hd
   subst hxs
   have hnotc:s.idx∉c:=by
    rw[e1] at hnd
    have:=(List.nodup_append.1 hnd).2.1
    have:=(List.nodup_append.1 this).2.1
    exact (List.nodup_cons.1 this).1
   refine .inr ⟨h4,a,c,e1,fun i hi s' hs' e=>?_,fun i hi hpd oi hoi hci=>?_,?_⟩
   ·have hdi:=e2 i hi
    cases hs' with
    |head=>simp only at e;rw[← e,hsz] at hdi;cases hdi
    |tail _ hs'=>
     rcases (hdz i).1 hdi with h|⟨z,hz,ez⟩
     ·have:=(plan_mem ha m _ _ _ s' (by rw[← hr];exact List.mem_append.2 (.inl hs'))).1
      rw[lor_bit,e,h] at this;cases this
     ·have hzp:i∈pre:=ez ▸ hZ z hz
      rw[e1] at hnd
      exact absurd rfl ((List.nodup_append.1 hnd).2.2 i hzp i (List.mem_append.2 (.inl hi)))
   ·have hil:i<ops.size:=(Array.getElem?_eq_some_iff.1 hoi).1
    have hii:i∈is:=by rw[e1];exact List.mem_append.2 (.inr (List.mem_cons_of_mem _ hi))
    have hdi:=hdone i hii hil fun s' hs'=>by
     cases hs' with
     |head=>exact fun e=>hnotc (e ▸ hi)
     |tail _ hs'=>exact hpd s' hs'
    have hread:=hinv.rd i oi hdi hoi hci
    have hbit:b.testBit i=false:=by
     cases hbi:b.testBit i with
     |false=>rfl
     |true=>
      have:=hbits i hbi (pre++a) c (by rw[hσ,e1];simp)
      rw[e1] at hnd
      have hnd2:((pre++a)++(s.idx::c)).Nodup:=by simpa using hnd
      exact absurd rfl ((List.nodup_append.1 hnd2).2.2 i this i (List.mem_cons_of_mem _ hi))
    obtain⟨⟨sy,by'⟩,hy1,hy2⟩:=ha.full i hil
    obtain⟨oy,hoy,hpy,_,hcy⟩:=ha.ents _ hy1
    simp only at hy2 hoy hpy
    rw[hy2] at hoy;rw[hoi] at hoy;cases hoy
    rw[hy2] at hpy
    have hds:(pstep P ops i oi).dst.isSome=true:=by
     have:=hcy.2.2
     simp only[hpy] at this
     exact this hci
    have hds2:oi.dst.isSome=true:=hds
    obtain⟨d,hd⟩:=Option.isSome_iff_exists.1 hds2
    exact⟨d,hd,againOf_mem hread hd hci hbit⟩
   ·refine hrec (pre++a++[s.idx]) c (by rw[hσ,e1];simp) (fun j hj=>?_) fun z hz=>?_
    ·rw[lor_bit]
     simp only[List.mem_append,List.mem_singleton] at hj
     rcases hj with (hj|hj)|hj
     ·rw[hpre j hj];rfl
     ·rw[e2 j hj];rfl
     ·simp[hj]
    ·exact List.mem_append.2 (.inl (List.mem_append.2 (.inl (hZ z hz))))
end
end Go.Exo

namespace Go.Exo
set_option linter.unusedSectionVars false
variable [Sx] [Dc]
section
variable {P:Program}{w0:Bs}{cs0:List Frame}{E:Env}{ih:Ih}
def HE (H H':T AObj):Prop:=∀ l,getH H l=getH H' l
theorem HE.refl (H:T AObj):HE H H:=fun _=>rfl
theorem HE.symm {H H':T AObj}(h:HE H H'):HE H' H:=fun l=>(h l).symm
theorem HE.trans {H H' H'':T AObj}(h:HE H H')(h':HE H' H''):HE H H'':=fun l=>(h l).trans (h' l)
theorem WR.ext {H H':T AObj}{nx:Nat}{w:World}(h:WR w0 E H nx w)(he:HE H H'):WR w0 E H' nx w:=by
 refine⟨fun l p hp=>?_,fun l hl=>?_,fun l l' p p' a b d e=>?_,fun l hl=>?_,fun l p hp=>?_,h.old,h.size,h.os,h.output,h.tape,h.le,fun l p hp b o v hf=>⟨(h.dat l p hp b o v hf).1,fun l' p' hl' hb'=>by rw[← he l'];exact (h.dat l p hp b o v hf).2 l' p' hl' hb'⟩,h.dec,h.fzo⟩
 ·rw[← he l]
  refine (h.objs l p hp).trans (Env.le.refl E) fun pos ho=>?_
  exact ho.same fun _=>(he _).symm
 ·rw[← he l];exact h.fresh l hl
 ·rw[← he l,← he l'];exact h.sep l l' p p' a b d e
 ·rw[← he l] at hl ⊢
  rw[← he];exact h.cls l hl
 ·rw[← he l];exact h.own l p hp
theorem MR.ext {m:AMode}{t:List AItem}{c:Ctx}{fr:Frame}{cs:List Frame}{w:World}(h:MR P w0 cs0 E m t c fr cs w){H':T AObj}(he:HE c.H H'):MR P w0 cs0 E m t { c with H:=H' } fr cs w:=by
 obtain⟨b,hb,hf⟩:=h.frs
 exact⟨h.wr.ext he,h.gl,⟨b,hb,hf.mono (Env.le.refl E) fun l _ hE _=>⟨hE,(he l).symm⟩⟩,h.fn,h.kind,h.round,h.defers,h.mode,h.size,h.rest⟩
theorem store_foot {m l off:Nat}{Y:V}{H H2:T AObj}{nx nx2:Nat}{u:V}(h:xStore m (.ptr l off) Y H nx=.valH u H2 nx2):nx2=nx∧u=undefV∧∃ D:Nat→Prop,D l∧
  (∀ k,D k→k=l∨((∃ a b d,getH H k=.cls a b d)∧∃ a b d,getH H2 k=.cls a b d))∧(∀ k,¬ D k→getH H2 k=getH H k)∧
  ∀ H',(∀ k,D k→getH H' k=getH H k)→∃ H2',xStore m (.ptr l off) Y H' nx=.valH u H2' nx∧(∀ k,D k→getH H2' k=getH H2 k)∧∀ k,¬ D k→getH H2' k=getH H' k:=by
 simp only[xStore] at h
 cases hm:(Nat.beq Y.cells.length m&&Y.real) with
 |false=>rw[hm] at h;cases h
 |true=>
  rw[hm] at h
  simp only[cond_true,wr] at h
  cases ho:getH H l with
  |cells cs len elem cls rel fz ro=>
   rw[ho] at h
   simp only at h
   cases ro with
   |true=>cases h
   |false=>
    simp only[cond_false,wrCells] at h
    cases hc:(Nat.ble (Nat.add off Y.cells.length) len&&fzOk fz off&&allOne Y.cells) with
    |false=>rw[hc] at h;cases h
    |true=>
     rw[hc] at h
     simp only[cond_true] at h
     cases cls with
     |zero=>
      simp only[wrCls,setL_eq,setHR_eq] at h
      cases h
      refine⟨rfl,rfl,fun k=>k=l,rfl,fun k hk=>.inl hk,fun k hk=>by rw[getH_put,if_neg hk],fun H' hH=>?_⟩
      refine⟨put .no H' l (.cells (putL .bad Y.cells off cs) len elem 0 rel fz false),?_,fun k hk=>?_,fun k hk=>by rw[getH_put,if_neg hk]⟩
      ·simp only[xStore,hm,cond_true,wr,hH l rfl,ho,cond_false,wrCells,hc,wrCls,setL_eq,setHR_eq]
      ·subst hk;rw[getH_put,if_pos rfl,getH_put,if_pos rfl]
     |succ c=>
      simp only[wrCls] at h
      cases hr:getH H (c+1) with
      |cls cur lim mk=>
       rw[hr] at h
       simp only at h
       have hne:c+1≠l:=fun e=>by rw[e,ho] at hr;cases hr
       have key:∀ rec:AObj,(∃ a b d,rec=.cls a b d)→(∀ K:T AObj→Res,∀ H',getH H' (c+1)=getH H (c+1)→wrCls H' l (c+1) (Nat.add rel off) K=K (put .no H' (c+1) rec))→
         H2=put .no (put .no H (c+1) rec) l (.cells (putL .bad Y.cells off cs) len elem (c+1) rel fz false)→nx2=nx→u=undefV→
         nx2=nx∧u=undefV∧∃ D:Nat→Prop,D l∧(∀ k,D k→k=l∨((∃ a b d,getH H k=.cls a b d)∧∃ a b d,getH H2 k=.cls a b d))∧(∀ k,¬ D k→getH H2 k=getH H k)∧
         ∀ H',(∀ k,D k→getH H' k=getH H k)→∃ H2',xStore m (.ptr l off) Y H' nx=.valH u H2' nx∧(∀ k,D k→getH H2' k=getH H2 k)∧∀ k,¬ D k→getH H2' k=getH H' k:=by
        intro rec hrec hK e1 e2 e3
        subst e1 e2 e3
        refine⟨rfl,rfl,fun k=>k=l∨k=c+1,.inl rfl,fun k hk=>?_,fun k hk=>?_,fun H' hH=>?_⟩
        ·rcases hk with hk|hk
         ·exact .inl hk
         ·subst hk
          refine .inr ⟨⟨cur,lim,mk,hr⟩,?_⟩
          rw[getH_put,if_neg hne,getH_put,if_pos rfl];exact hrec
        ·rw[getH_put,if_neg (fun e=>hk (.inl e)),getH_put,if_neg (fun e=>hk (.inr e))]
        ·refine⟨put .no (put .no H' (c+1) rec) l (.cells (putL .bad Y.cells off cs) len elem (c+1) rel fz false),?_,fun k hk=>?_,fun k hk=>?_⟩
         ·simp only[xStore,hm,cond_true,wr,hH l (.inl rfl),ho,cond_false,wrCells,hc]
          rw[hK _ _ (hH _ (.inr rfl))]
          simp only[setL_eq,setHR_eq]
         ·rcases hk with hk|hk
          ·subst hk;rw[getH_put,if_pos rfl,getH_put,if_pos rfl]
          ·subst hk;rw[getH_put,if_neg hne,getH_put,if_pos rfl,getH_put,if_neg hne,getH_put,if_pos rfl]
         ·rw[getH_put,if_neg (fun e=>hk (.inl e)),getH_put,if_neg (fun e=>hk (.inr e))]
       cases lim with
       |none=>
        simp only[setHR_eq,setL_eq] at h
        injection h with e1 e2 e3
        exact key (.cls l (some (Nat.add rel off)) mk) ⟨_,_,_,rfl⟩ (fun K H' hH=>by simp only[wrCls,hH,hr,setHR_eq]) e2.symm e3.symm e1.symm
       |some q=>
        simp only at h
        cases hb:Nat.beq cur l with
        |false=>rw[hb] at h;cases h
        |true=>
         rw[hb] at h
         simp only[cond_true,setK_eq,setHR_eq,setL_eq] at h
         injection h with e1 e2 e3
         exact key (.cls l (some (minO (some q) (Nat.add rel off))) mk) ⟨_,_,_,rfl⟩ (fun K H' hH=>by simp only[wrCls,hH,hr,hb,cond_true,setK_eq]) e2.symm e3.symm e1.symm
      |_=>rw[hr] at h;cases h
  |_=>rw[ho] at h;cases h
theorem store_ptr {m:Nat}{A Y:V}{H H2:T AObj}{nx nx2:Nat}{u:V}(h:xStore m A Y H nx=.valH u H2 nx2):∃ l off,A=.ptr l off:=by
 cases A<;>first|exact⟨_,_,rfl⟩|(simp only[xStore] at h;cases h)
theorem store_res (m:Nat)(A Y:V)(H:T AObj)(nx:Nat):(∃ u H' nx',xStore m A Y H nx=.valH u H' nx')∨∃ n,xStore m A Y H nx=.fail n:=by
 unfold xStore
 split
 ·simp only[Bool.cond_eq_ite]
  split
  ·unfold wr
   split
   ·rename_i cs len elem cls rel fz ro _
    cases ro with
    |true=>exact .inr ⟨_,rfl⟩
    |false=>
     simp only[cond_false]
     unfold wrCells
     simp only[Bool.cond_eq_ite]
     split
     ·unfold wrCls
      simp only[setL_eq,setHR_eq,setK_eq,Bool.cond_eq_ite]
      repeat' split
      all_goals first|exact .inl ⟨_,_,_,rfl⟩|exact .inr ⟨_,rfl⟩
     ·exact .inr ⟨_,rfl⟩
   ·exact .inr ⟨_,rfl⟩
  ·exact .inr ⟨_,rfl⟩
 ·exact .inr ⟨_,rfl⟩
theorem store_free {n l off:Nat}{X:V}{H Hf:T AObj}{nx nx2:Nat}{u:V}(h:xStore n (.ptr l off) X H nx=.valH u Hf nx2)(hf:clsFree H l=true) :
  ∃ o,(∃ cs len elem rel fz ro,o=.cells cs len elem 0 rel fz ro)∧Hf=put .no H l o∧∀ H',getH H' l=getH H l→xStore n (.ptr l off) X H' nx=.valH u (put .no H' l o) nx:=by
 simp only[xStore] at h
 cases hm:(Nat.beq X.cells.length n&&X.real) with
 |false=>rw[hm] at h;cases h
 |true=>
  rw[hm] at h
  simp only[cond_true,wr] at h
  unfold clsFree at hf
  cases ho:getH H l with
  |cells cs len elem cls rel fz ro=>
   rw[ho] at h hf
   simp only at h hf
   have hc0:cls=0:=Nat.eq_of_beq_eq_true hf
   subst hc0
   cases ro with
   |true=>cases h
   |false=>
    simp only[cond_false,wrCells] at h
    cases hc:(Nat.ble (Nat.add off X.cells.length) len&&fzOk fz off&&allOne X.cells) with
    |false=>rw[hc] at h;cases h
    |true=>
     rw[hc] at h
     simp only[cond_true,wrCls,setL_eq,setHR_eq] at h
     injection h with e1 e2 e3
     refine⟨.cells (putL .bad X.cells off cs) len elem 0 rel fz false,⟨_,_,_,_,_,_,rfl⟩,e2.symm,fun H' hH=>?_⟩
     rw[← e1]
     simp only[xStore,hm,cond_true,wr,hH,ho,cond_false,wrCells,hc,wrCls,setL_eq,setHR_eq]
  |_=>rw[ho] at h;cases h
theorem store_swap {m l' off' n l off:Nat}{Y X:V}{H H1 H2:T AObj}{nx:Nat}{u v:V}(h1:xStore m (.ptr l' off') Y H nx=.valH u H1 nx)(h2:xStore n (.ptr l off) X H1 nx=.valH v H2 nx)
  (hf:clsFree H1 l=true)(hne:l'≠l):clsFree H l=true∧∃ Hz H2',xStore n (.ptr l off) X H nx=.valH v Hz nx∧xStore m (.ptr l' off') Y Hz nx=.valH u H2' nx∧HE H2' H2:=by
 obtain⟨_,_,D,d1,d2,d3,d4⟩:=store_foot h1
 have hDl:¬ D l:=fun hd=>by
  rcases d2 l hd with e|⟨_,a,b,d,e⟩
  ·exact hne e.symm
  ·unfold clsFree at hf;rw[e] at hf;cases hf
 have hsame:getH H1 l=getH H l:=d3 l hDl
 have hfree:clsFree H l=true:=by unfold clsFree at hf ⊢;rw[← hsame];exact hf
 obtain⟨o,_,hH2,hz⟩:=store_free h2 hf
 refine⟨hfree,put .no H l o,?_⟩
 obtain⟨H2',g1,g2,g3⟩:=d4 (put .no H l o) fun k hk=>by rw[getH_put,if_neg (fun e=>by subst e;exact hDl hk)]
 refine⟨H2',hz H hsame.symm,g1,fun k=>?_⟩
 rw[hH2,getH_put]
 by_cases e:k=l
 ·subst e;rw[if_pos rfl,g3 k hDl,getH_put,if_pos rfl]
 ·rw[if_neg e]
  by_cases hk:D k
  ·exact g2 k hk
  ·rw[g3 k hk,getH_put,if_neg e,d3 k hk]
theorem store_congr {m:Nat}{A Y:V}{H H' H2:T AObj}{nx nx2:Nat}{u:V}(h:xStore m A Y H nx=.valH u H2 nx2)(he:HE H H'):∃ H2',xStore m A Y H' nx=.valH u H2' nx2∧HE H2 H2':=by
 obtain⟨l,off,rfl⟩:=store_ptr h
 obtain⟨rfl,_,D,d1,d2,d3,d4⟩:=store_foot h
 obtain⟨H2',g1,g2,g3⟩:=d4 H' fun k _=>(he k).symm
 refine⟨H2',g1,fun k=>?_⟩
 by_cases hk:D k
 ·exact (g2 k hk).symm
 ·rw[g3 k hk,d3 k hk];exact he k
theorem okT_fast {z s:PStep}(h:okT z s=true):s.fast=true:=by
 unfold okT at h;simp only[Bool.and_eq_true] at h;exact h.1
theorem okT_cases {z s:PStep}(h:okT z s=true):(∃ m b y,s.op=.store m b y∧s.dst=none)∨
  (s.op.cls=0∧∀ n a x,z.op=.store n a x→∀ d,s.dst=some d→d∉aoTmps a∧d∉aoTmps x):=by
 unfold okT at h
 simp only[Bool.and_eq_true] at h
 obtain⟨_,h⟩:=h
 have key:∀ o,s.op=o→(Nat.beq o.cls 0&&(match z.op with|.store _ a x=>(match s.dst with|some d=>!(aoTmps a).contains d && !(aoTmps x).contains d|none=>true)|_=>false))=true→
   (s.op.cls=0∧∀ n a x,z.op=.store n a x→∀ d,s.dst=some d→d∉aoTmps a∧d∉aoTmps x):=by
  intro o ho hh
  simp only[Bool.and_eq_true] at hh
  refine⟨by rw[ho];exact Nat.eq_of_beq_eq_true hh.1,fun n a x hz d hd=>?_⟩
  have h2:=hh.2
  rw[hz,hd] at h2
  simp only[Bool.and_eq_true,Bool.not_eq_true',List.contains_eq_mem,decide_eq_false_iff_not] at h2
  exact⟨h2.1,h2.2⟩
 cases ho:s.op<;>rw[ho] at h<;>first
  |(left;refine⟨_,_,_,rfl,?_⟩;simpa using h)
  |exact .inr (by have:=key _ ho h;rw[ho] at this;exact this)
noncomputable def goT (nx sz:Nat):List PStep→T V→T AObj→Option (T V×T AObj)
 |[],tm,H=>some (tm,H)
 |t::r,tm,H=>match exOp t.op tm H nx with
  |.val v=>(match t.dst with
   |none=>goT nx sz r tm H
   |some d=>cond (Nat.ble (Nat.succ d) sz) (goT nx sz r (put undefV tm d v) H) none)
  |.valH _ H' _=>goT nx sz r tm H'
  |_=>none
theorem goT_xs {z:PStep}{c0:Ctx}{L:List PStep}:∀ (T2:List PStep)(tm:T V)(H:T AObj),(∀ t∈T2,okT z t=true)→
  (goT c0.nx c0.sz T2 tm H=none∧∀ R,∃ a b d,xs P R (T2++L) tm (c0.setH H c0.nx)=.fail a b d)∨
  ∃ tm' H',goT c0.nx c0.sz T2 tm H=some (tm',H')∧∀ R,xs P R (T2++L) tm (c0.setH H c0.nx)=xs P R L tm' (c0.setH H' c0.nx)
 |[],tm,H,_=>.inr ⟨tm,H,rfl,fun _=>rfl⟩
 |t::r,tm,H,hok=>by
  have hf:=okT_fast (hok t (List.mem_cons_self ..))
  have ihr:=fun tm H=>goT_xs (z:=z) (c0:=c0) (L:=L) r tm H fun s hs=>hok s (List.mem_cons_of_mem _ hs)
  have hx:∀ R,xs P R (t::r++L) tm (c0.setH H c0.nx)=resGoF P (exOp t.op tm H c0.nx) t (r++L) (xs P R (r++L)) tm (c0.setH H c0.nx) R:=fun R=>by
   show xCons P R t (r++L) (xs P R (r++L)) tm (c0.setH H c0.nx)=_
   unfold xCons
   rw[hf]
   rfl
  rcases okT_cases (hok t (List.mem_cons_self ..)) with⟨m,b,y,ho,hd⟩|⟨h0,_⟩
  ·have he:exOp t.op tm H c0.nx=xStore m (b.ev tm) (y.ev tm) H c0.nx:=by rw[ho];rfl
   cases hr:xStore m (b.ev tm) (y.ev tm) H c0.nx with
   |valH u H1 nx1=>
    obtain⟨l,off,hl⟩:=store_ptr hr
    rw[hl] at hr
    obtain⟨rfl,_,_⟩:=store_foot hr
    have hg:goT c0.nx c0.sz (t::r) tm H=goT c0.nx c0.sz r tm H1:=by simp only[goT,he,hl,hr]
    have hx2:∀ R,xs P R (t::r++L) tm (c0.setH H c0.nx)=xs P R (r++L) tm (c0.setH H1 c0.nx):=fun R=>by
     rw[hx,he,hl,hr]
     show setD t.dst u tm c0.sz (fun tm=>xs P R (r++L) tm (c0.setH H1 c0.nx))=_
     rw[hd];rfl
    rw[hg]
    simp only[hx2]
    exact ihr tm H1
   |fail n=>
    refine .inl ⟨by simp only[goT,he,hr],fun R=>⟨n,_,_,by rw[hx,he,hr];rfl⟩⟩
   |_=>
    exfalso
    rcases store_res m (b.ev tm) (y.ev tm) H c0.nx with⟨_,_,_,h⟩|⟨_,h⟩<;>(rw[hr] at h;cases h)
  ·rcases (vf0 h0 tm H c0.nx).elim with⟨v,hv⟩|⟨n,hv⟩
   ·have hx2:∀ R,xs P R (t::r++L) tm (c0.setH H c0.nx)=setD t.dst v tm c0.sz (fun tm=>xs P R (r++L) tm (c0.setH H c0.nx)):=fun R=>by rw[hx,hv];rfl
    cases hd:t.dst with
    |none=>
     have hg:goT c0.nx c0.sz (t::r) tm H=goT c0.nx c0.sz r tm H:=by simp only[goT,hv,hd]
     rw[hg]
     simp only[hx2,hd,setD]
     exact ihr tm H
    |some d=>
     cases hb:Nat.ble (Nat.succ d) c0.sz with
     |false=>exact .inl ⟨by simp only[goT,hv,hd,hb,cond_false],fun R=>⟨100,d,c0.sz,by rw[hx2,hd];simp only[setD,hb,cond_false]⟩⟩
     |true=>
      have hg:goT c0.nx c0.sz (t::r) tm H=goT c0.nx c0.sz r (put undefV tm d v) H:=by simp only[goT,hv,hd,hb,cond_true]
      rw[hg]
      simp only[hx2,hd,setD,hb,cond_true,setUO_eq]
      exact ihr _ H
   ·exact .inl ⟨by simp only[goT,hv],fun R=>⟨n,_,_,by rw[hx,hv];rfl⟩⟩
end
end Go.Exo

namespace Go.Exo
set_option linter.unusedSectionVars false
variable [Sx] [Dc]
section
variable {P:Program}{w0:Bs}{cs0:List Frame}{E:Env}{ih:Ih}
theorem ev_put {x:AO}{tm:T V}{d:Nat}{v:V}(h:d∉aoTmps x):x.ev (put undefV tm d v)=x.ev tm:=by
 cases x with
 |tmp t=>
  show getU _ _=getU _ _
  rw[getU_put,if_neg (fun e=>h (by simp[aoTmps,e]))]
 |val v=>rfl
theorem TOk.tail {z t:PStep}{r:List PStep}(h:TOk z (t::r)):TOk z r:=⟨fun s hs=>h.each s (List.mem_cons_of_mem _ hs),h.pairs.2⟩
theorem goT_ev {x:AO}{nx sz:Nat}:∀ {T2:List PStep}{tm tm':T V}{H H':T AObj},(∀ s∈T2,∀ d,s.dst=some d→d∉aoTmps x)→goT nx sz T2 tm H=some (tm',H')→x.ev tm'=x.ev tm
 |[],tm,tm',H,H',_,h=>by cases h;rfl
 |t::r,tm,tm',H,H',hok,h=>by
  have ih:=fun {tm tm':T V}{H H':T AObj}=>goT_ev (x:=x) (nx:=nx) (sz:=sz) (T2:=r) (tm:=tm) (tm':=tm') (H:=H) (H':=H') fun s hs=>hok s (List.mem_cons_of_mem _ hs)
  simp only[goT] at h
  split at h
  ·rename_i v hv
   cases hd:t.dst with
   |none=>rw[hd] at h;exact ih h
   |some d=>
    rw[hd] at h
    simp only at h
    cases hb:Nat.ble (Nat.succ d) sz with
    |false=>rw[hb] at h;cases h
    |true=>
     rw[hb] at h
     rw[ih h,ev_put (hok t (List.mem_cons_self ..) d hd)]
  ·exact ih h
  ·cases h
theorem TOk.ax {z:PStep}{n:Nat}{a x:AO}(hz:z.op=.store n a x){T2:List PStep}(h:TOk z T2):(∀ s∈T2,∀ d,s.dst=some d→d∉aoTmps a)∧∀ s∈T2,∀ d,s.dst=some d→d∉aoTmps x:=by
 have key:∀ s∈T2,∀ d,s.dst=some d→d∉aoTmps a∧d∉aoTmps x:=fun s hs d hd=>by
  rcases okT_cases (h.each s hs).1 with⟨m,b,y,ho,hdn⟩|⟨_,h0⟩
  ·rw[hd] at hdn;cases hdn
  ·exact h0 n a x hz d hd
 exact⟨fun s hs d hd=>(key s hs d hd).1,fun s hs d hd=>(key s hs d hd).2⟩
theorem goT_congr {z:PStep}{nx sz:Nat}:∀ {T2:List PStep}{tm tm':T V}{H H' K:T AObj},TOk z T2→goT nx sz T2 tm H=some (tm',H')→HE H K→∃ K',goT nx sz T2 tm K=some (tm',K')∧HE H' K'
 |[],tm,tm',H,H',K,_,h,he=>by cases h;exact⟨K,rfl,he⟩
 |t::r,tm,tm',H,H',K,hok,h,he=>by
  have hr:TOk z r:=hok.tail
  simp only[goT] at h ⊢
  rcases okT_cases (hok.each t (List.mem_cons_self ..)).1 with⟨m,b,y,ho,hdn⟩|⟨h0,_⟩
  ·have hx:∀ H,exOp t.op tm H nx=xStore m (b.ev tm) (y.ev tm) H nx:=fun H=>by rw[ho];rfl
   rw[hx] at h ⊢
   rcases store_res m (b.ev tm) (y.ev tm) H nx with⟨u,H1,nx1,e⟩|⟨_,e⟩
   ·rw[e] at h
    obtain⟨K1,e2,he2⟩:=store_congr e he
    rw[e2]
    exact goT_congr hr h he2
   ·rw[e] at h;cases h
  ·rw[cls0 h0 tm K H nx nx]
   split at h
   ·split at h
    ·exact goT_congr hr h he
    ·rename_i d _
     cases hb:Nat.ble (Nat.succ d) sz with
     |false=>rw[hb] at h;cases h
     |true=>
      rw[hb] at h
      exact goT_congr hr h he
   ·rename_i hv
    rcases (vf0 h0 tm H nx).elim with⟨v,e⟩|⟨n,e⟩<;>(rw[e] at hv;cases hv)
   ·cases h
theorem z_move {z:PStep}{n:Nat}{a x:AO}(hz:z.op=.store n a x){nx sz:Nat}{l off:Nat}{X:V}{u:V}:∀ {T2:List PStep}{tm tm':T V}{H H' Hf:T AObj},TOk z T2→goT nx sz T2 tm H=some (tm',H')→
  a.ev tm'=.ptr l off→(∀ m b y,(none,AOp.store m b y)∈z.apart→∃ l' o',b.ev tm'=.ptr l' o'∧l'≠l)→clsFree H' l=true→xStore n (.ptr l off) X H' nx=.valH u Hf nx→
  clsFree H l=true∧∃ Hz Hf',xStore n (.ptr l off) X H nx=.valH u Hz nx∧goT nx sz T2 tm Hz=some (tm',Hf')∧HE Hf' Hf
 |[],tm,tm',H,H',Hf,_,h,_,_,hf,hs=>by cases h;exact⟨hf,Hf,Hf,hs,rfl,HE.refl _⟩
 |t::r,tm,tm',H,H',Hf,hok,h,ha,hap,hf,hs=>by
  have hr:TOk z r:=hok.tail
  rcases okT_cases (hok.each t (List.mem_cons_self ..)).1 with⟨m,b,y,ho,hdn⟩|⟨h0,_⟩
  ·have hx:∀ H,exOp t.op tm H nx=xStore m (b.ev tm) (y.ev tm) H nx:=fun H=>by rw[ho];rfl
   have hmem:(none,AOp.store m b y)∈z.apart:=by
    have:=(hok.each t (List.mem_cons_self ..)).2 (by rw[ho];rfl)
    rw[ho] at this;exact this
   obtain⟨l',o',hb,hne⟩:=hap m b y hmem
   simp only[goT] at h
   rw[hx] at h
   rcases store_res m (b.ev tm) (y.ev tm) H nx with⟨u1,H1,nx1,e⟩|⟨_,e⟩
   ·rw[e] at h
    simp only at h
    rw[goT_ev (hok.pairs.1 m b y ho) h] at hb
    rw[hb] at e
    obtain⟨e1,_,_⟩:=store_foot e
    subst e1
    obtain⟨hf1,Hz1,Hf1,g1,g2,g3⟩:=z_move hz hr h ha hap hf hs
    obtain⟨hf0,Hz,H2',k1,k2,k3⟩:=store_swap e g1 hf1 hne
    obtain⟨K',c1,c2⟩:=goT_congr hr g2 k3.symm
    refine⟨hf0,Hz,K',k1,?_,c2.symm.trans g3⟩
    simp only[goT]
    rw[hx,hb,k2]
    exact c1
   ·rw[e] at h;cases h
  ·simp only[goT] at h
   rcases (vf0 h0 tm H nx).elim with⟨v,e⟩|⟨k,e⟩
   ·rw[e] at h
    simp only at h
    have e2:∀ K,exOp t.op tm K nx=.val v:=fun K=>by rw[cls0 h0 tm K H nx nx];exact e
    cases hd:t.dst with
    |none=>
     rw[hd] at h
     simp only at h
     obtain⟨hf1,Hz1,Hf1,g1,g2,g3⟩:=z_move hz hr h ha hap hf hs
     exact⟨hf1,Hz1,Hf1,g1,by simp only[goT,e2,hd];exact g2,g3⟩
    |some d=>
     rw[hd] at h
     simp only at h
     cases hb:Nat.ble (Nat.succ d) sz with
     |false=>rw[hb] at h;cases h
     |true=>
      rw[hb] at h
      simp only[cond_true] at h
      obtain⟨hf1,Hz1,Hf1,g1,g2,g3⟩:=z_move hz hr h ha hap hf hs
      exact⟨hf1,Hz1,Hf1,g1,by simp only[goT,e2,hd,hb,cond_true];exact g2,g3⟩
   ·rw[e] at h;cases h
theorem apart_go {tm:T V}{H:T AObj}{n:Nat}{a x:AO}{k:Out}:∀ (l:List (Gd×AOp)),(∃ w f i,apartGo (.store n a x) tm H k l=.fail w f i)∨
  (apartGo (.store n a x) tm H k l=k∧∀ m b y,(none,AOp.store m b y)∈l→apart2 H (a.ev tm) (b.ev tm)=true)
 |[]=>.inr ⟨rfl,fun _ _ _ h=>by cases h⟩
 |(g,p)::r=>by
  have ih:=apart_go (tm:=tm) (H:=H) (n:=n) (a:=a) (x:=x) (k:=k) r
  cases p with
  |store m b y=>
   simp only[apartGo]
   have yes:(∃ w f i,(cond (apart2 H (a.ev tm) (b.ev tm)) (apartGo (.store n a x) tm H k r) (.fail 104 0 0):Out)=.fail w f i)∨
     ((cond (apart2 H (a.ev tm) (b.ev tm)) (apartGo (.store n a x) tm H k r) (.fail 104 0 0):Out)=k∧apart2 H (a.ev tm) (b.ev tm)=true∧∀ m b y,(none,AOp.store m b y)∈r→apart2 H (a.ev tm) (b.ev tm)=true):=by
    cases hb:apart2 H (a.ev tm) (b.ev tm) with
    |false=>exact .inl ⟨_,_,_,rfl⟩
    |true=>
     rcases ih with ih|⟨h1,h2⟩
     ·exact .inl ih
     ·exact .inr ⟨h1,rfl,h2⟩
   cases g with
   |none=>
    rcases yes with h|⟨h1,h2,h3⟩
    ·exact .inl h
    ·refine .inr ⟨h1,fun m' b' y' hm=>?_⟩
     cases hm with
     |head=>exact h2
     |tail _ hm=>exact h3 m' b' y' hm
   |some tw=>
    obtain⟨t,w⟩:=tw
    have no:(∃ w f i,apartGo (.store n a x) tm H k r=.fail w f i)∨(apartGo (.store n a x) tm H k r=k∧∀ m' b' y',(none,AOp.store m' b' y')∈((some (t,w),AOp.store m b y)::r)→apart2 H (a.ev tm) (b'.ev tm)=true):=by
     rcases ih with ih|⟨h1,h2⟩
     ·exact .inl ih
     ·refine .inr ⟨h1,fun m' b' y' hm=>?_⟩
      cases hm with
      |tail _ hm=>exact h2 m' b' y' hm
    have yes2:(∃ w f i,(cond (apart2 H (a.ev tm) (b.ev tm)) (apartGo (.store n a x) tm H k r) (.fail 104 0 0):Out)=.fail w f i)∨
      ((cond (apart2 H (a.ev tm) (b.ev tm)) (apartGo (.store n a x) tm H k r) (.fail 104 0 0):Out)=k∧∀ m' b' y',(none,AOp.store m' b' y')∈((some (t,w),AOp.store m b y)::r)→apart2 H (a.ev tm) (b'.ev tm)=true):=by
     rcases yes with h|⟨h1,h2,h3⟩
     ·exact .inl h
     ·refine .inr ⟨h1,fun m' b' y' hm=>?_⟩
      cases hm with
      |tail _ hm=>exact h3 m' b' y' hm
    simp only[gdGo]
    split
    ·rename_i bb _
     cases bb==w
     ·exact no
     ·exact yes2
    ·exact no
    ·split
     ·rename_i bb _
      cases bb==w
      ·exact no
      ·exact yes2
     ·exact .inl ⟨_,_,_,rfl⟩
    ·exact .inl ⟨_,_,_,rfl⟩
  |_=>exact .inl ⟨_,_,_,rfl⟩
theorem lastZ_ok {z:PStep}(h:lastZ z=true):(∃ n a x,z.op=.store n a x)∧z.guard=none∧z.dst=none∧z.again=[]:=by
 unfold lastZ at h
 split at h
 ·rename_i n a x ho
  simp only[Bool.and_eq_true,Option.isNone_iff_eq_none,List.isEmpty_iff] at h
  exact⟨⟨_,_,_,ho⟩,h.1.1,h.1.2,h.2⟩
 ·cases h
theorem DInv.perm {H:T AObj}{lo hi:Nat}{ops:Array Oper}{l l':List PStep}{is:List Nat}{tm:T V}{tmps:Array Value}{rd:Bool}(hd:DInv P E H lo hi ops l is tm tmps rd)(hm:∀ i,(∀ s∈l,s.idx≠i)↔∀ s∈l',s.idx≠i)
  (hfit:FitZ P ops l' is):DInv P E H lo hi ops l' is tm tmps rd:=by
 obtain⟨a1,_,a3,a4,pl,a5,a6⟩:=hd
 exact⟨a1,hfit,fun t ht=>a3 t fun i hi hp=>ht i hi ((hm i).1 hp),fun i hi hp=>a4 i hi ((hm i).2 hp),pl,a5,fun i hi hp=>a6 i hi ((hm i).2 hp)⟩
open Classical in
noncomputable def ihAt (ih:Ih)(Hf:T AObj):Ih:=fun m t c=>if HE c.H Hf then ih m t { c with H:=Hf } else .fail 0 0 0
theorem ihAt_sound (hs:Sound P w0 cs0 ih)(Hf:T AObj):Sound P w0 cs0 (ihAt ih Hf):=by
 intro E m t c fr cs w h
 unfold ihAt
 by_cases he:HE c.H Hf
 ·rw[if_pos he];exact hs E _ _ _ _ _ _ (h.ext he)
 ·rw[if_neg he];exact Fin.fail
theorem xs_draw (hs:Sound P w0 cs0 ih)(ops:Array Oper)(k:List AItem)(k':List Item):∀ (l:List PStep)(E:Env)(b:Nat)(c:Ctx)(tm:T V)(fr:Frame)(cs:List Frame)(w:World)(is:List Nat),
  Cur P w0 cs0 E b c fr cs w→fr.todo=.inRegion ops is::k'→TodoR E k k'→DInv P E c.H b c.nx ops l is tm fr.tmps true→
  Fin P w0 cs0 (xs P { ops,draw:=true,k,ih } l tm c) fr cs w
 |[],E,b,c,tm,fr,cs,w,is,hc,ht,hk,hd=>xs_end hs ops k k' hc ht hk hd
 |s::r,E,b,c,tm,fr,cs,w,is,hc,ht,hk,hd=>by
  rcases hd.fit with hfit|⟨T1,T2,z,hl,hz,hzf,hT,hfit⟩
  ·exact xs_drawC hs ops k k' _ E b c tm fr cs w is hfit hc ht hk hd
  ·cases T1 with
   |nil=>
    simp only[List.nil_append] at hl hfit
    rw[hl]
    obtain⟨⟨n,a,x,ho⟩,hg,hdn,hag⟩:=lastZ_ok hz
    have hTok:∀ t∈T2,okT z t=true:=fun t ht=>(hT.each t ht).1
    have ec:c.setH c.H c.nx=c:=rfl
    rcases goT_xs (P:=P) (z:=z) (c0:=c) (L:=[z]) T2 tm c.H hTok with⟨_,h⟩|⟨tm',H',hgo,h⟩
    ·obtain⟨_,_,_,e⟩:=h { ops,draw:=true,k,ih }
     rw[ec] at e;rw[e];exact Fin.fail
    ·have e:=h { ops,draw:=true,k,ih }
     rw[ec] at e;rw[e]
     have hx:xs P { ops,draw:=true,k,ih } [z] tm' (c.setH H' c.nx)=apartGo z.op tm' H' (resGo P (exOp z.op tm' H' c.nx) z [] (xEnd { ops,draw:=true,k,ih }) tm' (c.setH H' c.nx) { ops,draw:=true,k,ih }) z.apart:=by
      show xCons P _ z [] _ tm' _=_
      unfold xCons
      rw[hzf]
      show xSlow P z [] _ tm' _ _=_
      unfold xSlow
      rw[hg]
      rfl
     rw[hx,ho]
     rcases apart_go (tm:=tm') (H:=H') (n:=n) (a:=a) (x:=x) (k:=resGo P (exOp (.store n a x) tm' H' c.nx) z [] (xEnd { ops,draw:=true,k,ih }) tm' (c.setH H' c.nx) { ops,draw:=true,k,ih }) z.apart with⟨_,_,_,e2⟩|⟨e2,hap⟩
     ·rw[e2];exact Fin.fail
     ·rw[e2]
      have he:exOp (.store n a x) tm' H' c.nx=xStore n (a.ev tm') (x.ev tm') H' c.nx:=rfl
      rw[he]
      rcases store_res n (a.ev tm') (x.ev tm') H' c.nx with⟨u,Hf,nx1,e3⟩|⟨m,e3⟩
      ·obtain⟨l,off,hl2⟩:=store_ptr e3
       have e4:=e3
       rw[hl2] at e4
       obtain⟨rfl,_,_⟩:=store_foot e4
       rw[e3]
       have hr1:(resGo P (.valH u Hf c.nx) z [] (xEnd { ops,draw:=true,k,ih }) tm' (c.setH H' c.nx) { ops,draw:=true,k,ih })=ih .run k { c with tm:=tm',H:=Hf }:=by
        show setD z.dst u tm' c.sz (fun tm=>goOn z (xEnd { ops,draw:=true,k,ih }) (c.setH Hf c.nx) tm)=_
        rw[hdn]
        show goOn z (xEnd { ops,draw:=true,k,ih }) (c.setH Hf c.nx) tm'=_
        unfold goOn
        rw[hag]
        rfl
       rw[hr1]
       have hmv:∃ Hz Hf',xStore n (.ptr l off) (x.ev tm') c.H c.nx=.valH u Hz c.nx∧goT c.nx c.sz T2 tm Hz=some (tm',Hf')∧HE Hf' Hf:=by
        by_cases hst:∃ m b y,(none,AOp.store m b y)∈z.apart
        ·obtain⟨m,b,y,hm⟩:=hst
         have h2:=hap m b y hm
         rw[hl2] at h2
         have hfree:clsFree H' l=true:=by
          unfold apart2 at h2
          split at h2
          ·rename_i l1 o1 l2 o2 e5 _
           cases e5
           cases hb:Nat.beq l l2 with
           |true=>rw[hb] at h2;cases h2
           |false=>rw[hb] at h2;exact h2
          ·cases h2
         obtain⟨_,Hz,Hf',k1,k2,k3⟩:=z_move ho hT hgo hl2 (fun m b y hm=>by
          have h3:=hap m b y hm
          rw[hl2] at h3
          unfold apart2 at h3
          split at h3
          ·rename_i l1 o1 l2 o2 e5 e6
           cases e5
           refine⟨l2,o2,e6,fun e7=>?_⟩
           subst e7
           simp at h3
          ·cases h3) hfree e4
         exact⟨Hz,Hf',k1,k2,k3⟩
        ·
         have hsame:∀ {T2:List PStep}{tm tm':T V}{H H':T AObj},TOk z T2→goT c.nx c.sz T2 tm H=some (tm',H')→H'=H∧∀ K,goT c.nx c.sz T2 tm K=some (tm',K):=by
          intro T2
          induction T2 with
          |nil=>intro tm tm' H H' _ h;cases h;exact⟨rfl,fun _=>rfl⟩
          |cons t r ihr=>
           intro tm tm' H H' hok h
           have hr:TOk z r:=hok.tail
           rcases okT_cases (hok.each t (List.mem_cons_self ..)).1 with⟨m,b,y,hto,_⟩|⟨h0,_⟩
           ·have:=(hok.each t (List.mem_cons_self ..)).2 (by rw[hto];rfl)
            rw[hto] at this
            exact absurd ⟨m,b,y,this⟩ hst
           ·simp only[goT] at h ⊢
            rcases (vf0 h0 tm H c.nx).elim with⟨v,e⟩|⟨k,e⟩
            ·rw[e] at h
             have e2:∀ K,exOp t.op tm K c.nx=.val v:=fun K=>by rw[cls0 h0 tm K H c.nx c.nx];exact e
             simp only at h
             simp only[e2]
             cases htd:t.dst with
             |none=>rw[htd] at h;exact ihr hr h
             |some d=>
              rw[htd] at h
              simp only at h ⊢
              cases hb:Nat.ble (Nat.succ d) c.sz with
              |false=>rw[hb] at h;cases h
              |true=>rw[hb] at h;exact ihr hr h
            ·rw[e] at h;cases h
         obtain⟨rfl,hK⟩:=hsame hT hgo
         exact⟨Hf,Hf,e4,hK Hf,HE.refl _⟩
       obtain⟨Hz,Hf',m1,m2,m3⟩:=hmv
       have ta:a.ev tm'=a.ev tm:=goT_ev (hT.ax ho).1 hgo
       have tx:x.ev tm'=x.ev tm:=goT_ev (hT.ax ho).2 hgo
       have hother:xs P { ops,draw:=true,k,ih:=ihAt ih Hf } (z0Of z::T2) tm c=ih .run k { c with tm:=tm',H:=Hf }:=by
        show xCons P _ (z0Of z) T2 _ tm c=_
        unfold xCons
        show xFast P (z0Of z) T2 _ tm c _=_
        unfold xFast
        have:exOp (z0Of z).op tm c.H c.nx=.valH u Hz c.nx:=by
         show exOp z.op tm c.H c.nx=_
         rw[ho]
         show xStore n (a.ev tm) (x.ev tm) c.H c.nx=_
         rw[← ta,← tx,hl2];exact m1
        rw[this]
        show setD z.dst u tm c.sz (fun tm=>xs P _ T2 tm (c.setH Hz c.nx))=_
        rw[hdn]
        show xs P _ T2 tm (c.setH Hz c.nx)=_
        rcases goT_xs (P:=P) (z:=z) (c0:=c) (L:=[]) T2 tm Hz hTok with⟨hn,_⟩|⟨tm2,H2,hgo2,h2⟩
        ·rw[m2] at hn;cases hn
        ·rw[m2] at hgo2;cases hgo2
         have:=h2 { ops,draw:=true,k,ih:=ihAt ih Hf }
         rw[List.append_nil] at this
         rw[this]
         show ihAt ih Hf .run k { c with tm:=tm',H:=Hf' }=_
         unfold ihAt
         rw[if_pos m3]
       rw[← hother]
       refine xs_drawC (ihAt_sound hs Hf) ops k k' _ E b c tm fr cs w is hfit hc ht hk (hd.perm (fun i=>?_) (.inl hfit))
       rw[hl]
       have:=fitZ_mem (T1:=[]) (T2:=T2) (z:=z) (i:=i)
       simpa using this
      ·rw[e3];exact Fin.fail
   |cons s' T1=>
    simp only[List.cons_append,List.cons.injEq] at hl
    obtain⟨rfl,hl⟩:=hl
    have hmem:∀ i,(∀ s'∈r,s'.idx≠i)↔∀ s'∈T1++z0Of z::T2,s'.idx≠i:=fun i=>by rw[hl];exact fitZ_mem
    have hmem1:∀ i,(∀ s'∈s::r,s'.idx≠i)↔∀ s'∈s::(T1++z0Of z::T2),s'.idx≠i:=fun i=>by
     simp only[List.forall_mem_cons];rw[hmem i]
    have hrec:=xs_draw hs ops k k' r
    show Fin P w0 cs0 (xCons P { ops,draw:=true,k,ih } s r (xs P { ops,draw:=true,k,ih } r) tm c) fr cs w
    generalize hgg:xs P { ops,draw:=true,k,ih } r=g at hrec ⊢
    obtain⟨hso,b2,b3,b4,b5,b6⟩:=hfit
    refine xs_step hs ops k k' hc ht hk hd hso b2 ((hmem s.idx).2 b3) b4 (fun d hdd i hi hp=>b5 d hdd i hi ((hmem1 i).1 hp)) ?_
    rcases b6 with⟨hcl,hag,hfr⟩|⟨hcl,a,is',his,hpa,hag,hfr⟩
    ·exact .inl ⟨hcl,hag,.inr ⟨T1,T2,z,hl,hz,hzf,hT,hfr⟩,fun E b c tm fr cs w h1 h2 h3 h4=>hrec E b c tm fr cs w is h1 h2 h3 h4⟩
    ·exact .inr ⟨hcl,a,is',his,fun i hi=>(hmem1 i).2 (hpa i hi),fun i hi hp=>hag i hi ((hmem i).1 hp),.inr ⟨T1,T2,z,hl,hz,hzf,hT,hfr⟩,fun E b c tm fr cs w h1 h2 h3 h4=>hrec E b c tm fr cs w is' h1 h2 h3 h4⟩
end
end Go.Exo

namespace Go.Exo
set_option linter.unusedSectionVars false
variable [Sx] [Dc]
section
variable {P:Program}{ops:Array Oper}{σ:List Nat}{all:List Ent}
theorem plan_ne (ha:AllOk P ops σ all):∀ (T:List PStep)(n done:Nat)(acts reads:List PStep)(Z:List PStep),planGo all n done acts reads=T++Z→∀ s∈T,∀ z∈Z,z.idx≠s.idx
 |[],_,_,_,_,_,_,s,hs,_,_=>by cases hs
 |t::T,n,done,acts,reads,Z,h,s,hs,z,hz=>by
  obtain⟨m,b,acts',reads',rfl,htook,hr⟩:=plan_cons h
  cases hs with
  |head=>
   have hz2:=(plan_mem ha m _ acts' reads' z (by rw[← hr];exact List.mem_append.2 (.inr hz))).1
   rw[lor_bit] at hz2
   simp only[Bool.or_eq_false_iff,decide_eq_false_iff_not] at hz2
   exact fun e=>hz2.2 e.symm
  |tail _ hs=>exact plan_ne ha T m _ acts' reads' Z hr.symm s hs z hz
theorem plan_guard (ha:AllOk P ops σ all):∀ (T:List PStep)(n done:Nat)(acts reads:List PStep)(Z:List PStep),planGo all n done acts reads=T++Z→∀ s∈T,SOf P ops s
 |[],_,_,_,_,_,_,s,hs=>by cases hs
 |t::T,n,done,acts,reads,Z,h,s,hs=>by
  obtain⟨m,b,acts',reads',rfl,htook,hr⟩:=plan_cons h
  cases hs with
  |head=>exact htook.sof ha
  |tail _ hs=>exact plan_guard ha T m _ acts' reads' Z hr.symm s hs
theorem apartOf_mem {b:Nat}{s:PStep}:∀ {l:List PStep},s∈l→b.testBit s.idx=false→(s.guard,s.op)∈apartOf b l
 |[],h,_=>by cases h
 |x::r,h,hb=>by
  simp only[apartOf]
  cases h with
  |head=>rw[bit_free.2 hb];exact List.mem_cons_self ..
  |tail _ h=>
   have ih:=apartOf_mem h hb
   cases Nat.beq (Nat.land (bitOf x.idx) b) 0 with
   |true=>exact List.mem_cons_of_mem _ ih
   |false=>exact ih
theorem plan_last (ha:AllOk P ops σ all){z:PStep}:∀ (T:List PStep)(n done:Nat)(acts reads:List PStep),planGo all n done acts reads=T++[z]→2<z.op.cls→
  ∃ sz b acts' reads',(sz,b)∈all∧z={ sz with again:=againOf b reads',apart:=apartOf b acts',fast:=sz.fast&&(againOf b reads').isEmpty&&(apartOf b acts').isEmpty }∧
   (∀ x∈reads,x∈reads')∧(∀ x∈acts,x∈acts')∧∀ t∈T,2<t.op.cls→∃ t0∈acts',t0.idx=t.idx∧t0.guard=t.guard∧t0.op=t.op
 |[],n,done,acts,reads,h,hc=>by
  obtain⟨m,b,acts',reads',rfl,htook,hr⟩:=plan_cons h
  cases htook with
  |non s b h1 h2 h3 h4=>omega
  |act s b h1 h2 h3 h4 h5=>exact⟨s,b,acts,reads,h1,rfl,fun _ h=>h,fun _ h=>h,fun _ h=>by cases h⟩
 |t::T,n,done,acts,reads,h,hc=>by
  obtain⟨m,b,acts',reads',rfl,htook,hr⟩:=plan_cons h
  obtain⟨sz,bz,acts2,reads2,k1,k2,k3,k5,k4⟩:=plan_last ha T m _ acts' reads' hr.symm hc
  refine⟨sz,bz,acts2,reads2,k1,k2,fun x hx=>?_,fun x hx=>k5 x ((htook.facts ha).2.2.2.1 x hx),fun t' ht' hc'=>?_⟩
  ·cases htook with
   |non s b h1 h2 h3 h4=>
    refine k3 x ?_
    cases Nat.beq t.op.cls 2
    ·exact hx
    ·exact List.mem_cons_of_mem _ hx
   |act s b h1 h2 h3 h4 h5=>exact k3 x hx
  ·cases ht' with
   |tail _ ht'=>exact k4 t' ht' hc'
   |head=>
    cases htook with
    |non s b h1 h2 h3 h4=>omega
    |act s b h1 h2 h3 h4 h5=>exact⟨s,k5 s (List.mem_cons_self ..),rfl,rfl,rfl⟩
theorem z_next (ha:AllOk P ops σ all){z:PStep}(hz:lastZ z=true)(hzc:2<z.op.cls){bz:Nat}{T:List PStep}{n done:Nat}{acts reads:List PStep}{pre is a c:List Nat}(hL:planGo all n done acts reads=T++[z])(hok:planOk T=true)
  (hbz:∃ sz,(sz,bz)∈all∧sz.idx=z.idx)(hT:∀ t∈T,okT z t=true)(hP:PairsOk T)(hσ:σ=pre++is)(hpre:∀ j∈pre,done.testBit j=true)(hinv:Inv P ops σ done reads (T++[z]))(e1:is=a++z.idx::c)(e2:∀ j∈a,done.testBit j=true) :
  TOk z T∧Compat P ops (z0Of z::T) is:=by
 obtain⟨sz,b,acts',reads',k1,k2,k3,k5,k4⟩:=plan_last ha T n done acts reads hL hzc
 obtain⟨sz0,hb0,hb1⟩:=hbz
 have hszi:sz.idx=z.idx:=by rw[k2]
 have hbb:b=bz:=by
  have:=ha.uniq _ k1 _ hb0 (by rw[hb1];exact hszi)
  cases this;rfl
 subst hbb
 obtain⟨oz,hoz,_,hbits,_⟩:=ha.ents _ k1
 simp only[hszi] at hoz hbits
 obtain⟨hop,hg,hdn,hag⟩:=lastZ_ok hz
 have hnd:(pre++is).Nodup:=hσ ▸ ha.sched.nodup
 have hzd:done.testBit z.idx=false:=(plan_mem ha n done acts reads z (by rw[hL];simp)).1
 have hsub:∀ j,b.testBit j=true→done.testBit j=true:=fun j hj=>by
  have:=hbits j hj (pre++a) c (by rw[hσ,e1];simp)
  rcases List.mem_append.1 this with h|h
  ·exact hpre j h
  ·exact e2 j h
 have hne:∀ s'∈T,s'.idx≠z.idx:=fun s' hs' e=>plan_ne ha T n done acts reads [z] hL s' hs' z (by simp) e.symm
 have hnotc:z.idx∉c:=by
  rw[e1] at hnd
  have:=(List.nodup_append.1 hnd).2.1
  have:=(List.nodup_append.1 this).2.1
  exact (List.nodup_cons.1 this).1
 refine⟨⟨fun t ht=>⟨hT t ht,fun hc3=>?_⟩,hP⟩,?_,by rw[e1];simp[z0Of],hne,rfl,fun d hd=>?_,.inr ⟨hzc,a,c,e1,fun i hi s' hs' e=>?_,fun i hi hpd oi hoi hci=>?_,?_⟩⟩
 ·have htd:=(plan_mem ha n done acts reads t (by rw[hL];simp[ht])).1
  have hbt:b.testBit t.idx=false:=by
   cases h:b.testBit t.idx with
   |false=>rfl
   |true=>rw[hsub _ h] at htd;cases htd
  obtain⟨t0,h1,h2,h3,h4⟩:=k4 t ht (by omega)
  have hgt:t.guard=none:=by
   obtain⟨_,_,_,_,_,hf⟩:=plan_guard ha T n done acts reads [z] hL t ht
   exact (hf (okT_fast (hT t ht))).1
  have:=apartOf_mem h1 (by rw[h2];exact hbt)
  rw[h3,h4,hgt] at this
  rw[k2];exact this
 ·obtain⟨o,p1,p2,p3,p4,_⟩:=plan_guard ha (T++[z]) n done acts reads [] (by rw[hL];simp) z (by simp)
  exact⟨o,p1,p2,p3,p4,fun _=>⟨hg,hag,rfl⟩⟩
 ·change z.dst=some d at hd
  rw[hdn] at hd;cases hd
 ·have hdi:=e2 i hi
  cases hs' with
  |head=>change z.idx=i at e;rw[← e,hzd] at hdi;cases hdi
  |tail _ hs'=>
   have hs2:s'∈T:=hs'
   have:=(plan_mem ha n done acts reads s' (by rw[hL];simp[hs2])).1
   rw[e,hdi] at this;cases this
 ·exfalso
  have hil:i<ops.size:=(Array.getElem?_eq_some_iff.1 hoi).1
  have hdi:done.testBit i=true:=by
   rcases hinv.full i hil with h|⟨s2,hs2,e⟩
   ·exact h
   ·rcases List.mem_append.1 hs2 with h|h
    ·exact absurd e (hpd s2 h)
    ·have:s2=z:=by simpa using h
     subst this
     exact absurd (e ▸ hi) hnotc
  have hread:=k3 _ (hinv.rd i oi hdi hoi hci)
  obtain⟨⟨sy,by'⟩,hy1,hy2⟩:=ha.full i hil
  obtain⟨oy,hoy,hpy,_,hcy⟩:=ha.ents _ hy1
  simp only at hy2 hoy hpy
  rw[hy2] at hoy;rw[hoi] at hoy;cases hoy
  rw[hy2] at hpy
  have hds2:oi.dst.isSome=true:=by
   have:=hcy.2.2
   simp only[hpy] at this
   exact this hci
  obtain⟨d,hd⟩:=Option.isSome_iff_exists.1 hds2
  cases hbi:b.testBit i with
  |true=>
   have:=hbits i hbi (pre++a) c (by rw[hσ,e1];simp)
   rw[e1] at hnd
   have hnd2:((pre++a)++(z.idx::c)).Nodup:=by simpa using hnd
   exact absurd rfl ((List.nodup_append.1 hnd2).2.2 i this i (List.mem_cons_of_mem _ hi))
  |false=>
   have:=againOf_mem hread hd hci hbi
   have hag2:againOf b reads'=[]:=by rw[k2] at hag;exact hag
   rw[hag2] at this;cases this
 ·refine plan_fit ha T n done (Nat.lor done (bitOf z.idx)) acts reads [z] (pre++a++[z.idx]) c hL hok (by rw[hσ,e1];simp) (fun j=>?_) (fun j hj=>?_) (fun z' hz'=>?_) hinv
  ·rw[lor_bit];simp
  ·rw[lor_bit]
   simp only[List.mem_append,List.mem_singleton] at hj
   rcases hj with (hj|hj)|hj
   ·rw[hpre j hj];rfl
   ·rw[e2 j hj];rfl
   ·simp[hj]
  ·have:z'=z:=by simpa using hz'
   subst this;simp
theorem plan_fitZ (ha:AllOk P ops σ all){z:PStep}(hz:lastZ z=true)(hzc:2<z.op.cls){bz:Nat}(hbz:∃ sz,(sz,bz)∈all∧sz.idx=z.idx):∀ (T:List PStep)(n done:Nat)(acts reads:List PStep)(pre is:List Nat),
  planGo all n done acts reads=T++[z]→planOk T=true→(∀ Y s T',T=Y++s::T'→2<s.op.cls→bz.testBit s.idx=false→(∀ t∈s::T',okT z t=true)∧PairsOk (s::T'))→
  σ=pre++is→(∀ j∈pre,done.testBit j=true)→Inv P ops σ done reads (T++[z])→
  ∃ T1 T2,T=T1++T2∧TOk z T2∧Compat P ops (T1++z0Of z::T2) is
 |[],n,done,acts,reads,pre,is,hL,hok,hT,hσ,hpre,hinv=>by
  have hzd:done.testBit z.idx=false:=(plan_mem ha n done acts reads z (by rw[hL];simp)).1
  have hzl:z.idx<ops.size:=by
   obtain⟨o,ho,_⟩:=(plan_mem ha n done acts reads z (by rw[hL];simp)).2
   exact (Array.getElem?_eq_some_iff.1 ho).1
  have hzi:z.idx∈is:=by
   have:z.idx∈pre++is:=hσ ▸ ha.sched.all z.idx hzl
   rcases List.mem_append.1 this with h|h
   ·rw[hpre _ h] at hzd;cases hzd
   ·exact h
  obtain⟨a,x,c,e1,e2,e3⟩:=first_not done is z.idx hzi hzd
  have hx:x=z.idx:=by
   have hxlt:=ha.sched.lt x (by rw[hσ,e1];simp)
   rcases hinv.full x hxlt with h|⟨s,hs,e⟩
   ·rw[e3] at h;cases h
   ·have:s=z:=by simpa using hs
    subst this;exact e.symm
  subst hx
  obtain⟨g1,g2⟩:=z_next ha hz hzc hL hok hbz (fun _ h=>by cases h) trivial hσ hpre hinv e1 e2
  exact⟨[],[],rfl,g1,g2⟩
 |s::T,n,done,acts,reads,pre,is,hL,hok,hT,hσ,hpre,hinv=>by
  have hnd:(pre++is).Nodup:=hσ ▸ ha.sched.nodup
  have hL0:=hL
  obtain⟨m,b,acts',reads',rfl,htook,hr⟩:=plan_cons hL
  have hsof:=htook.sof ha
  obtain⟨hsd,hsub,hbits,hacts,s0,o,g1,g2,g3,g4,g5,g6,g7,g8⟩:=htook.facts ha
  have hlt:s.idx<ops.size:=(Array.getElem?_eq_some_iff.1 g3).1
  have hrest:∀ s'∈T++[z],s'.idx≠s.idx:=fun s' hs' e=>by
   have:=(plan_mem ha m _ acts' reads' s' (by rw[← hr];exact hs')).1
   rw[lor_bit,e] at this;simp at this
  have hin:∀ i,i<ops.size→done.testBit i=false→i∈is:=fun i hi hd=>by
   have:i∈pre++is:=hσ ▸ ha.sched.all i hi
   rcases List.mem_append.1 this with h|h
   ·rw[hpre i h] at hd;cases hd
   ·exact h
  have hdone:∀ i,i<ops.size→(∀ s'∈s::(T++[z]),s'.idx≠i)→done.testBit i=true:=fun i hil hp=>by
   rcases hinv.full i hil with h|⟨s',hs',e⟩
   ·exact h
   ·exact absurd e (hp s' hs')
  have hlook:∀ d,s.dst=some d→∀ i∈is,(∀ s'∈s::(T++[z]),s'.idx≠i)→(s.op.cls≤2∨∃ x y,is=x++s.idx::y∧i∈y)→∀ o,ops[i]? = some o→d∉looks ops o:=by
   intro d hd i hi hp hw oi hoi hl
   rcases hinv.lk i oi (hdone i (Array.getElem?_eq_some_iff.1 hoi).1 hp) hoi d hl s.idx (by simp[dstOf,g3,← g6,hd]) with this|⟨hne,hbef⟩
   ·rw[hsd] at this;cases this
   ·rcases hw with hw|⟨x,y,e,hy⟩
    ·exact hne ⟨o,g3,.inl (by rw[← g4,← g5];exact hw)⟩
    ·have:=hbef (pre++x) y (by rw[hσ,e];simp)
     rw[e] at hnd
     have hnd2:((pre++x)++(s.idx::y)).Nodup:=by simpa using hnd
     exact absurd rfl ((List.nodup_append.1 hnd2).2.2 i this i (List.mem_cons_of_mem _ hy))
  have hnext:=Inv.next ha htook hinv
  have hap:=planOk_apart hok s (List.mem_cons_self ..)
  have hT':∀ Y s' T',T=Y++s'::T'→2<s'.op.cls→bz.testBit s'.idx=false→(∀ t∈s'::T',okT z t=true)∧PairsOk (s'::T'):=fun Y s' T' e=>hT (s::Y) s' T' (by rw[e];rfl)
  have hrec:=fun pre is h1 h2=>plan_fitZ ha hz hzc hbz T m _ acts' reads' pre is hr.symm (planOk_tail hok) hT' h1 h2 hnext
  have back:∀ {T1 T2:List PStep},T=T1++T2→∀ i,(∀ s'∈T1++z0Of z::T2,s'.idx≠i)↔∀ s'∈T++[z],s'.idx≠i:=fun {T1 T2} e i=>by
   rw[e];exact (fitZ_mem).symm
  cases htook with
  |non s b h1 h2 h3 h4=>
   obtain⟨T1,T2,e,hok2,hfit⟩:=hrec pre is hσ (fun j hj=>by rw[lor_bit,hpre j hj];rfl)
   refine⟨s::T1,T2,by rw[e];rfl,hok2,hsof,hin s.idx hlt hsd,(back e s.idx).2 hrest,hap,fun d hd i hi hp hw=>hlook d hd i hi (fun s' hs'=>?_) hw,.inl ⟨h4,?_,hfit⟩⟩
   ·cases hs' with
    |head=>exact hp s (List.mem_cons_self ..)
    |tail _ hs'=>exact (back e i).1 (fun s'' hs''=>hp s'' (List.mem_cons_of_mem _ hs'')) s' hs'
   ·obtain⟨o',_,hp',_⟩:=ha.ents _ h1
    simp only at hp'
    rw[hp'];rfl
  |act s b h1 h2 h3 h4 h5=>
   simp only at hsd hbits g1 g2 g3 g4 g5 g6 g7 hlt hrest
   obtain⟨a,x,c,e1,e2,e3⟩:=first_not done is s.idx (hin s.idx hlt hsd) hsd
   have hxσ:x∈σ:=by rw[hσ,e1];simp
   have hxlt:=ha.sched.lt x hxσ
   have hx3:x=s.idx∨x=z.idx:=by
    rcases hinv.full x hxlt with h|⟨s2,hs2,e⟩
    ·rw[e3] at h;cases h
    ·rw[List.cons_append] at hs2
     cases hs2 with
     |head=>exact .inl e.symm
     |tail _ hs2=>
      rcases List.mem_append.1 hs2 with hs2|hs2
      ·
       exfalso
       have hs2i:=e
       obtain⟨⟨sx,bx⟩,hx1,hx2⟩:=ha.full x hxlt
       simp only at hx2
       obtain⟨ox,hox,hpx,hbx,_⟩:=ha.ents _ hx1
       simp only at hox hpx hbx
       have hsubx:sub bx done=true:=sub_iff.2 fun j hj=>by
        have:=hbx j hj (pre++a) c (by rw[hσ,e1,hx2];simp)
        rcases List.mem_append.1 this with h|h
        ·exact hpre j h
        ·exact e2 j h
       have hclx:2<sx.op.cls:=by
        have:=ready_none h5 hx1 (by simp only[hx2];exact e3) hsubx
        simp only at this
        rcases Nat.lt_or_ge 2 sx.op.cls with h|h
        ·exact h
        ·rw[Nat.ble_eq_true_of_le h] at this;cases this
       obtain⟨_,o2,ho2,hop2⟩:=plan_mem ha m _ _ _ s2 (by rw[← hr];exact List.mem_append.2 (.inl hs2))
       have hcl2:2<s2.op.cls:=by
        rw[hop2]
        rw[hpx] at hclx
        rw[hx2] at hclx hox
        rw[hs2i] at ho2 ⊢
        rw[hox] at ho2;cases ho2
        exact hclx
       have:=plan_ahead ha T m _ _ _ [z] hr.symm (planOk_tail hok) s2 hs2 hcl2 s (List.mem_cons_self ..) (pre++a) c (by rw[hσ,e1,hs2i];simp)
       have hd:done.testBit s.idx=true:=by
        rcases List.mem_append.1 this with h|h
        ·exact hpre _ h
        ·exact e2 _ h
       rw[hsd] at hd;cases hd
      ·have:s2=z:=by simpa using hs2
       subst this;exact .inr e.symm
   rcases hx3 with hx3|hx3
   ·subst hx3
    have hnotc:s.idx∉c:=by
     rw[e1] at hnd
     have:=(List.nodup_append.1 hnd).2.1
     have:=(List.nodup_append.1 this).2.1
     exact (List.nodup_cons.1 this).1
    obtain⟨T1,T2,e,hok2,hfit⟩:=hrec (pre++a++[s.idx]) c (by rw[hσ,e1];simp) (fun j hj=>by
     rw[lor_bit]
     simp only[List.mem_append,List.mem_singleton] at hj
     rcases hj with (hj|hj)|hj
     ·rw[hpre j hj];rfl
     ·rw[e2 j hj];rfl
     ·simp[hj])
    refine⟨_::T1,T2,by rw[e];rfl,hok2,hsof,hin s.idx hlt hsd,(back e s.idx).2 hrest,hap,fun d hd i hi hp hw=>hlook d hd i hi (fun s' hs'=>?_) hw,.inr ⟨h4,a,c,e1,fun i hi s' hs' ei=>?_,fun i hi hpd oi hoi hci=>?_,hfit⟩⟩
    ·cases hs' with
     |head=>exact hp _ (List.mem_cons_self ..)
     |tail _ hs'=>exact (back e i).1 (fun s'' hs''=>hp s'' (List.mem_cons_of_mem _ hs'')) s' hs'
    ·have hdi:=e2 i hi
     have hall:∀ s'∈T++[z],s'.idx≠i:=fun s' hs' ei=>by
      have:=(plan_mem ha m _ _ _ s' (by rw[← hr];exact hs')).1
      rw[lor_bit,ei,hdi] at this;cases this
     cases hs' with
     |head=>simp only at ei;rw[← ei,hsd] at hdi;cases hdi
     |tail _ hs'=>exact (back e i).2 hall s' hs' ei
    ·have hil:i<ops.size:=(Array.getElem?_eq_some_iff.1 hoi).1
     have hpd2:=(back e i).1 hpd
     have hdi:=hdone i hil fun s' hs'=>by
      cases hs' with
      |head=>exact fun e=>hnotc (e ▸ hi)
      |tail _ hs'=>exact hpd2 s' hs'
     have hread:=hinv.rd i oi hdi hoi hci
     have hbit:b.testBit i=false:=by
      cases hbi:b.testBit i with
      |false=>rfl
      |true=>
       have:=hbits i hbi (pre++a) c (by rw[hσ,e1];simp)
       rw[e1] at hnd
       have hnd2:((pre++a)++(s.idx::c)).Nodup:=by simpa using hnd
       exact absurd rfl ((List.nodup_append.1 hnd2).2.2 i this i (List.mem_cons_of_mem _ hi))
     obtain⟨⟨sy,by'⟩,hy1,hy2⟩:=ha.full i hil
     obtain⟨oy,hoy,hpy,_,hcy⟩:=ha.ents _ hy1
     simp only at hy2 hoy hpy
     rw[hy2] at hoy;rw[hoi] at hoy;cases hoy
     rw[hy2] at hpy
     have hds2:oi.dst.isSome=true:=by
      have:=hcy.2.2
      simp only[hpy] at this
      exact this hci
     obtain⟨d,hd⟩:=Option.isSome_iff_exists.1 hds2
     exact⟨d,hd,againOf_mem hread hd hci hbit⟩
   ·subst hx3
    obtain⟨szb,hb0,hb1⟩:=hbz
    obtain⟨oz,hoz,_,hbitz,_⟩:=ha.ents _ hb0
    simp only[hb1] at hbitz
    have hsb:bz.testBit s.idx=false:=by
     cases h:bz.testBit s.idx with
     |false=>rfl
     |true=>
      have:=hbitz _ h (pre++a) c (by rw[hσ,e1];simp)
      have hd:done.testBit s.idx=true:=by
       rcases List.mem_append.1 this with h|h
       ·exact hpre _ h
       ·exact e2 _ h
      rw[hsd] at hd;cases hd
    have hall:=hT [] _ T rfl h4 hsb
    obtain⟨k1,k2⟩:=z_next ha hz hzc hL0 hok ⟨szb,hb0,hb1⟩ hall.1 hall.2 hσ hpre hinv e1 e2
    exact⟨[],_::T,rfl,k1,k2⟩
end
end Go.Exo
