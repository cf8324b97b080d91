/-
  EXO, part Z8: a call's run on its own: what it finds of the heap, what it leaves. Own text.
-/
import Derived.Test.YtihaakenfdkgnaaGreatDoorPart13
import Derived.DataReads
set_option linter.all false
noncomputable section
namespace Go.Exo
variable [Sx] [Dc] [Tb]
section
variable {E E':Env}
def ci:List (V×V×Nat)->List V
 |[]=>[]
 |(k,v,_)::r=>k::v::ci r
def AObj.vals:AObj->List V
 |.cells vs len ..=>vs.range .bad len 0
 |.map es _=>ci es
 |_=>[]
def AObj.plain:AObj->Bool
 |.cells vs len ..=>V.noXL (vs.range .bad len 0)
 |.map es _=>V.noXL (ci es)
 |.siter .. | .cls ..=>true
 |_=>false
def sM (a b:T V)(len:Nat):Bool:=V.eqL (a.range .bad len 0) (b.range .bad len 0)
def optEq:Option Nat->Option Nat->Bool
 |none,none=>true
 |some a,some b=>Nat.beq a b
 |_,_=>false
def sN:List (V×V×Nat)->List (V×V×Nat)->Bool
 |[],[]=>true
 |(k,v,b)::r,(k',v',b')::r'=>V.eqB k k'&&V.eqB v v'&&Nat.beq b b'&&sN r r'
 |_,_=>false
def boolEq:Bool->Bool->Bool|true,true|false,false=>true|_,_=>false
def eqO:AObj->AObj->Bool
 |.cells vs len elem cls rel fz ro,.cells vs' len' elem' cls' rel' fz' ro'=>
  Nat.beq len len'&&Nat.beq elem elem'&&Nat.beq cls cls'&&Nat.beq rel rel'&&Nat.beq fz fz'&&boolEq ro ro'&&sM vs vs' len
 |.map es c,.map es' c'=>Nat.beq c c'&&sN es es'
 |.siter l n p,.siter l' n' p'=>Nat.beq l l'&&Nat.beq n n'&&Nat.beq p p'
 |.cls a b c,.cls a' b' c'=>Nat.beq a a'&&optEq b b'&&Nat.beq c c'
 |_,_=>false
theorem qy:∀ {a b:List (V×V×Nat)},sN a b=true->a=b
 |[],[],_=>rfl
 |(k,v,n)::r,(k',v',n')::r',h=>by
  simp only[sN,Bool.and_eq_true] at h;rw[fG h.1.1.1,fG h.1.1.2,aa h.1.2,qy h.2]
theorem vd:∀ {a b:Option Nat},optEq a b=true->a=b
 |none,none,_=>rfl
 |some a,some b,h=>by rw[aa h]
theorem Ay:∀ {a b:Bool},boolEq a b=true->a=b
 |true,true,_=>rfl
 |false,false,_=>rfl
theorem mu {a b:T V}{len:Nat}(h:sM a b len=true):∀ i,i<len->getC a i=getC b i:=by
 intro i hi;have:=jv h;have h1:=bP (α:=V) .bad a len 0 i hi;have h2:=bP (α:=V) .bad b len 0 i hi;rw[this,h2] at h1;simp only[Nat.zero_add,Option.some.injEq] at h1;exact h1.symm
theorem cK {a b:AObj}(h:eqO a b=true):aw a=aw b/\cP a=cP b/\iU a=iU b/\isRo a=isRo b/\a8 a=a8 b/\(∀ cur lim mk,a=.cls cur lim mk->b=.cls cur lim mk)/\a≠.no/\b≠.no:=by
 cases a<;>cases b<;>first|(simp only[eqO] at h;cases h;done)|skip
 ·simp only[eqO,Bool.and_eq_true] at h
  obtain⟨⟨⟨⟨⟨⟨h1,h2⟩,h3⟩,h4⟩,h5⟩,h6⟩,h7⟩:=h;have e1:=aa h1;have e3:=aa h3;have e4:=aa h4;have e6:=Ay h6;subst e1 e3 e4 e6;exact⟨rfl,rfl,rfl,rfl,rfl,(fun _ _ _ h=>by cases h),(fun h=>by cases h),fun h=>by cases h⟩
 ·exact⟨rfl,rfl,rfl,rfl,rfl,(fun _ _ _ h=>by cases h),(fun h=>by cases h),fun h=>by cases h⟩
 ·exact⟨rfl,rfl,rfl,rfl,rfl,(fun _ _ _ h=>by cases h),(fun h=>by cases h),fun h=>by cases h⟩
 ·simp only[eqO,Bool.and_eq_true] at h
  have e1:=aa h.1.1;have e2:=vd h.1.2;have e3:=aa h.2;subst e1 e2 e3;exact⟨rfl,rfl,rfl,rfl,rfl,(fun _ _ _ h=>by cases h;rfl),(fun h=>by cases h),fun h=>by cases h⟩
theorem yX {a b:AObj}(h:eqO a b=true):isOwn a=false:=by
 cases a<;>first|rfl|(cases b<;>simp only[eqO] at h<;>cases h)
theorem mayFz_ro {ao:AObj}{p:Pl}{o:Nat}(h:isRo ao=true):p6 ao p o:=by
 cases ao<;>first|exact .inr h|cases h
theorem eqO_or {a b:AObj}(h:eqO a b=true){H:T AObj}{l:Nat}{p:Pl}{ob:Option Obj}(ho:OR E H l p ob a):OR E H l p ob b:=by
 cases a<;>cases b<;>first|(simp only[eqO] at h;cases h;done)|skip
 ·simp only[eqO,Bool.and_eq_true] at h
  obtain⟨⟨⟨⟨⟨⟨h1,h2⟩,h3⟩,h4⟩,h5⟩,h6⟩,h7⟩:=h;have e1:=aa h1;have e2:=aa h2;have e3:=aa h3;have e4:=aa h4;have e5:=aa h5;subst e1 e2 e3 e4 e5;obtain⟨c,fr,g1,g2,g3,g4,g5⟩:=ho;refine⟨c,fr,g1,g2,g3,g4,fun i hi hok=>?_⟩;rw[<- mu h7 i hi];exact g5 i hi hok
 ·simp only[eqO,Bool.and_eq_true] at h
  rw[<- qy h.2,<- aa h.1];exact ho
 ·simp only[eqO,Bool.and_eq_true] at h
  rw[<- aa h.1.1,<- aa h.1.2,<- aa h.2];exact ho
 ·trivial
theorem ol {es:List (V×V×Nat)}{xs:List MapEntry}:∀ {es:List (V×V×Nat)}{xs:List MapEntry},ERs E es xs->(∀ l∈V.plsL (ci es),∃ p,E l=some p)/\(V.noXL (ci es)=true->(∀ l∈V.plsL (ci es),∀ p,E l=some p->E' l=some p)->ERs E' es xs)
 |[],[],_=>⟨fun _ h=>by simp[ci,V.plsL] at h,fun _ _=>trivial⟩
 |(k,v,b)::r,e::xs,⟨h1,h2,h3,h4⟩=>by
  obtain⟨g1,g2⟩:=ol (es:=[]) (xs:=[]) h4;refine⟨fun l hl=>?_,fun hn hm=>?_⟩
  case refine_2=>
   simp only[ci,V.noXL,Bool.and_eq_true] at hn;exact⟨h1.move (fun l hl=>hm l (by simp[ci,V.plsL,hl])) hn.1,h2.move (fun l hl=>hm l (by simp[ci,V.plsL,hl])) hn.2.1,h3,g2 hn.2.2 fun l hl=>hm l (by simp[ci,V.plsL,hl])⟩
  simp only[ci,V.plsL,List.mem_append] at hl;rcases hl with hl|hl|hl
  ·exact h1.at l hl
  ·exact h2.at l hl
  ·exact g1 l hl
theorem OR.move {H H':T AObj}{l:Nat}{p:Pl}{ob:Option Obj}{o:AObj}(ho:OR E H l p ob o)(hp:o.plain=true)(hk:∀ pos,okAt H' l (aw o) pos->okAt H l (aw o) pos)
  (hm:∀ k∈V.plsL o.vals,∀ q,E k=some q->E' k=some q):OR E' H' l p ob o:=by
 cases o<;>first|(simp[AObj.plain] at hp;done)|skip
 ·rename_i vs len elem cls rel fz ro
  obtain⟨c,fr,g1,g2,g3,g4,g5⟩:=ho;refine⟨c,fr,g1,g2,g3,g4,fun i hi hok=>?_⟩;obtain⟨x,hx,hv⟩:=g5 i hi (hk _ hok)
  have hmem:getC vs i∈vs.range .bad len 0:=by
   have:=bP (α:=V) .bad vs len 0 i hi;rw[Nat.zero_add] at this;exact List.mem_of_getElem? this
  refine⟨x,hx,hv.move (fun k hkk=>hm k ?_) (V.noXL_mem hp _ hmem)⟩;rw[V.plsL_mem];exact⟨getC vs i,hmem,hkk⟩
 ·obtain⟨es',g1,g2⟩:=ho
  exact⟨es',g1,(ol (es:=[]) (xs:=[]) g2).2 hp hm⟩
 ·exact ho
 ·trivial
end
end Go.Exo
end

noncomputable section
namespace Go.Exo
variable [Sx] [Dc] [Tb]
def has (t:T Nat)(l:Nat):Bool:=Nat.beq (t.get 0 l) 1
def kq {β:Type}:List Nat->T Nat->(T Nat->β)->β
 |[],t,k=>k t
 |l::r,t,k=>T.setK 0 1 t l fun t=>kq r t k
def gT:List Nat->T Nat->T Nat
 |[],t=>t
 |l::r,t=>gT r (put 0 t l 1)
theorem jz {β:Type}:∀ (ls:List Nat)(t:T Nat)(k:T Nat->β),kq ls t k=k (gT ls t)
 |[],_,_=>rfl
 |l::r,t,k=>by simp only[kq,bO,gT];exact jz r _ k
theorem jA:∀ (ls:List Nat)(t:T Nat)(l:Nat),has (gT ls t) l=true<->l∈ls\/has t l=true
 |[],t,l=>by simp[gT]
 |k::r,t,l=>by
  have h1:has (put 0 t k 1) l=true<->l=k\/has t l=true:=by
   unfold has;rw[jZ];by_cases e:l=k
   ·simp[e]
   ·simp[e]
  rw[gT,jA r,h1];simp only[List.mem_cons];constructor
  ·rintro (h|h|h)
   ·exact .inl (.inr h)
   ·exact .inl (.inl h)
   ·exact .inr h
  ·rintro ((h|h)|h)
   ·exact .inr (.inl h)
   ·exact .inl h
   ·exact .inr (.inr h)
def sO (t:T Nat)(lo:Nat):List Nat->Bool
 |[]=>true
 |l::r=>cond (Nat.ble lo l || has t l) (sO t lo r) false
theorem lD {t:T Nat}{lo:Nat}:∀ {ls:List Nat},sO t lo ls=true->∀ l∈ls,lo<=l\/has t l=true
 |[],_,_,h=>by cases h
 |x::r,h,l,hl=>by
  obtain⟨h1,h2⟩:=bk h;cases hl with
  |head=>
   simp only[Bool.or_eq_true] at h1;exact h1.imp ab id
  |tail _ hl=>exact lD h2 l hl
abbrev Row:=Nat×AObj
def kv {β:Type}:List Row->T AObj->(T AObj->β)->β
 |[],H,k=>k H
 |(l,o)::r,H,k=>T.setK .no o H l fun H=>kv r H k
def cT:List Row->T AObj->T AObj
 |[],H=>H
 |(l,o)::r,H=>cT r (put .no H l o)
theorem jB {β:Type}:∀ (L:List Row)(H:T AObj)(k:T AObj->β),kv L H k=k (cT L H)
 |[],_,_=>rfl
 |(l,o)::r,H,k=>by simp only[kv,bO,cT];exact jB r _ k
def om (lo:Nat):List Row->Bool
 |[]=>true
 |(l,_)::r=>cond (Nat.ble lo l) (om (Nat.succ l) r) false
theorem ve {lo:Nat}:∀ {L:List Row},om lo L=true->∀ x∈L,lo<=x.1
 |[],_,_,h=>by cases h
 |(l,o)::r,h,x,hx=>by
  obtain⟨h1,h2⟩:=bk h;have:=ab h1;cases hx with
  |head=>exact this
  |tail _ hx=>have:=ve h2 x hx;omega
theorem dw:∀ {L:List Row}{H:T AObj}{l:Nat},(∀ x∈L,x.1≠l)->getH (cT L H) l=getH H l
 |[],_,_,_=>rfl
 |(k,o)::r,H,l,h=>by
  rw[cT,dw fun x hx=>h x (ai _ hx),ar,if_neg (fun e=>h (k,o) (aj ..) e.symm)]
theorem jC:∀ {L:List Row}{lo:Nat}{H:T AObj},om lo L=true->∀ x∈L,getH (cT L H) x.1=x.2
 |[],_,_,_,_,h=>by cases h
 |(k,o)::r,lo,H,h,x,hx=>by
  obtain⟨h1,h2⟩:=bk h;cases hx with
  |head=>
   rw[cT,dw fun y hy=>by have:=ve h2 y hy;simp only;omega,ar,if_pos rfl]
  |tail _ hx=>rw[cT];exact jC h2 x hx
def kw (l:Nat):List Row->Option AObj
 |[]=>none
 |(k,o)::r=>cond (Nat.beq k l) (some o) (kw l r)
theorem eU {l:Nat}{o:AObj}:∀ {L:List Row},kw l L=some o->(l,o)∈L
 |[],h=>by cases h
 |(k,u)::r,h=>by
  simp only[kw] at h;cases hb:Nat.beq k l with
  |true=>rw[hb] at h;cases h;rw[<- aa hb];exact aj ..
  |false=>rw[hb] at h;exact ai _ (eU h)
def aB (l:List V)(elem cls rel fz:Nat)(ro:Bool):AObj:=T.ofK .bad l 0 .e fun vs=>.cells vs l.length elem cls rel fz ro
structure Cut where
 f:Nat
 args:List V
 nx:Nat
 ins:List Row
 ord:List Nat
 v:V
 outs:List Row
 nx':Nat
def roEq (H:T AObj)(l:Nat)(o:AObj):Bool:=
 match getH H l,o with
 |.cells vs len elem cls rel fz _,.cells vs' len' elem' _ _ fz' _=>Nat.beq len len'&&Nat.beq elem elem'&&Nat.beq fz fz'&&sM vs vs' len&&rdOk H l cls (Nat.add rel len)
 |_,_=>false
def inEq (H:T AObj)(x:Row):Bool:=cond (isRo x.2) (roEq H x.1 x.2) (eqO (getH H x.1) x.2)
def allIn (H:T AObj):List Row->Bool
 |[]=>true
 |x::r=>cond (inEq H x) (allIn H r) false
def xC (H:T AObj):List Row->Bool
 |[]=>true
 |x::r=>cond (eqO (getH H x.1) x.2) (xC H r) false
def sP {β:Type}(ins:List Row):List Nat->T Nat->β->(T Nat->β)->β
 |[],t,_,k=>k t
 |l::r,t,no,k=>cond (has t l) (match kw l ins with|some o=>kq (V.plsL o.vals) t fun t=>sP ins r t no k|none=>no) no
def inOk (nx:Nat):List Row->Bool
 |[]=>true
 |x::r=>cond (Nat.ble (Nat.succ x.1) nx&&Nat.beq (aw x.2) 0 && !a8 x.2&&x.2.plain) (inOk nx r) false
def ordOk (ord:List Nat):List Row->Bool
 |[]=>true
 |x::r=>cond (ord.contains x.1) (ordOk ord r) false
def outOk (t:T Nat)(d:Cut):List Row->Bool
 |[]=>true
 |x::r=>cond (x.2.plain && !isRo x.2&&sO t d.nx (V.plsL x.2.vals)&&Nat.ble (Nat.succ x.1) d.nx' && (cond (Nat.ble d.nx x.1) (Nat.beq (aw x.2) 0 || (Nat.ble d.nx (aw x.2)&&(kw (aw x.2) d.outs).isSome))
    (Nat.beq (aw x.2) 0 && !a8 x.2&&(match kw x.1 d.ins with|some o=>!isRo o|none=>false)))) (outOk t d r) false
def rwOk (d:Cut):List Row->Bool
 |[]=>true
 |x::r=>cond (isRo x.2 || (kw x.1 d.outs).isSome) (rwOk d r) false
def cutB (g:Nat)(d:Cut):Bool:=
 om 0 d.ins&&om 0 d.outs&&Nat.ble g d.nx&&Nat.ble d.nx d.nx'&&inOk d.nx d.ins&&ordOk d.ord d.ins&&rwOk d d.ins &&
 kq (V.plsL d.args) .e fun t=>sP d.ins d.ord t false fun t=>(sO t d.nx (V.pls d.v)&&d.v.noX)&&outOk t d d.outs
def dq (P:Program)(hk:Hook)(n:Nat)(d:Cut):Bool:=
 kv d.ins .e fun H=>match og P d.f (cq P d.f d.args .normal [] H d.nx (run P hk n)) with
 |some (u,H',m)=>V.eqB u d.v&&Nat.beq m d.nx'&&xC H' d.outs
 |none=>false
def bS (d:Cut)(hk:Hook):Hook:=fun f args H nx=>
 cond (Nat.beq f d.f&&Nat.beq nx d.nx&&V.eqL args d.args&&allIn H d.ins) (kv d.outs H fun H=>some (d.v,H,d.nx')) (hk f args H nx)
theorem vf {H:T AObj}:∀ {L:List Row},allIn H L=true->∀ x∈L,inEq H x=true
 |[],_,_,h=>by cases h
 |x::r,h,y,hy=>by
  obtain⟨h1,h2⟩:=bk h;cases hy with
  |head=>exact h1
  |tail _ hy=>exact vf h2 y hy
theorem qz {H:T AObj}:∀ {L:List Row},xC H L=true->∀ x∈L,eqO (getH H x.1) x.2=true
 |[],_,_,h=>by cases h
 |x::r,h,y,hy=>by
  obtain⟨h1,h2⟩:=bk h;cases hy with
  |head=>exact h1
  |tail _ hy=>exact qz h2 y hy
theorem yY {nx:Nat}:∀ {L:List Row},inOk nx L=true->∀ x∈L,x.1<nx/\aw x.2=0/\a8 x.2=false/\x.2.plain=true
 |[],_,_,h=>by cases h
 |x::r,h,y,hy=>by
  obtain⟨h1,h2⟩:=bk h;cases hy with
  |head=>
   simp only[Bool.and_eq_true,Bool.not_eq_true'] at h1;exact⟨ab h1.1.1.1,aa h1.1.1.2,h1.1.2,h1.2⟩
  |tail _ hy=>exact yY h2 y hy
theorem vg {ord:List Nat}:∀ {L:List Row},ordOk ord L=true->∀ x∈L,x.1∈ord
 |[],_,_,h=>by cases h
 |x::r,h,y,hy=>by
  obtain⟨h1,h2⟩:=bk h;cases hy with
  |head=>simpa using h1
  |tail _ hy=>exact vg h2 y hy
theorem yZ {d:Cut}:∀ {L:List Row},rwOk d L=true->∀ x∈L,isRo x.2=false->∃ o,(x.1,o)∈d.outs
 |[],_,_,h,_=>by cases h
 |x::r,h,y,hy,hr=>by
  obtain⟨h1,h2⟩:=bk h;cases hy with
  |head=>
   rw[hr] at h1;simp only[Bool.false_or] at h1;obtain⟨o,ho⟩:=Option.isSome_iff_exists.1 h1;exact⟨o,eU ho⟩
  |tail _ hy=>exact yZ h2 y hy hr
theorem vh {t:T Nat}{d:Cut}:∀ {L:List Row},outOk t d L=true->∀ x∈L,x.2.plain=true/\isRo x.2=false/\(∀ l∈V.plsL x.2.vals,d.nx<=l\/has t l=true)/\x.1<d.nx'/\
  ((d.nx<=x.1/\(aw x.2=0\/(d.nx<=aw x.2/\∃ o,(aw x.2,o)∈d.outs)))\/(x.1<d.nx/\aw x.2=0/\a8 x.2=false/\∃ o,(x.1,o)∈d.ins/\isRo o=false))
 |[],_,_,h=>by cases h
 |x::r,h,y,hy=>by
  obtain⟨h1,h2⟩:=bk h;cases hy with
  |tail _ hy=>exact vh h2 y hy
  |head=>
   simp only[Bool.and_eq_true,Bool.not_eq_true'] at h1;obtain⟨⟨⟨⟨g1,g2⟩,g3⟩,g4⟩,g5⟩:=h1;refine⟨g1,g2,lD g3,ab g4,?_⟩;cases hb:Nat.ble d.nx x.1 with
   |true=>
    rw[hb] at g5;simp only[cond_true,Bool.or_eq_true,Bool.and_eq_true] at g5;refine .inl ⟨ab hb,?_⟩;rcases g5 with g5|g5
    ·exact .inl (aa g5)
    ·obtain⟨o,ho⟩:=Option.isSome_iff_exists.1 g5.2
     exact .inr ⟨ab g5.1,o,eU ho⟩
   |false=>
    rw[hb] at g5;simp only[cond_false,Bool.and_eq_true,Bool.not_eq_true'] at g5;obtain⟨⟨g6,g7⟩,g8⟩:=g5;have hlt:x.1<d.nx:=Nat.lt_of_not_le fun h=>by rw[an h] at hb;cases hb
    refine .inr ⟨hlt,aa g6,g7,?_⟩;cases hf:kw x.1 d.ins with
    |none=>rw[hf] at g8;cases g8
    |some o=>rw[hf] at g8;exact⟨o,eU hf,by simpa using g8⟩
theorem eqO_cls {a:AObj}{cur:Nat}{lim:Option Nat}{mk:Nat}(h:eqO a (.cls cur lim mk)=true):a=.cls cur lim mk:=by
 cases a<;>first|(simp only[eqO] at h;cases h;done)|skip
 simp only[eqO,Bool.and_eq_true] at h;rw[aa h.1.1,vd h.1.2,aa h.2]
section
variable {P:Program}{E:Env}
theorem rdOk_all {H:T AObj}{l cls rel len:Nat}(h:rdOk H l cls (Nat.add rel len)=true):∀ i,i<len->okAt H l cls (rel+i):=by
 intro i hi;cases cls with
 |zero=>exact .inl rfl
 |succ c=>
  simp only[rdOk,clsOk] at h;split at h
  ·rename_i cur lim mk hc
   refine .inr ⟨cur,lim,mk,hc,?_⟩;cases lim with
   |none=>exact .inl rfl
   |some m=>
    simp only at h;cases hb:Nat.beq cur l with
    |true=>exact .inr (.inl (aa hb))
    |false=>
     rw[hb] at h;have:Nat.add rel len<=m:=ab h;have e:Nat.add rel len=rel+len:=rfl;exact .inr (.inr ⟨m,rfl,by omega⟩)
  ·cases h
theorem in_or {H H2:T AObj}{x:Row}(h:inEq H x=true)(hc:aw x.2=0)(hp:x.2.plain=true){p:Pl}{ob:Option Obj}(ho:OR E H x.1 p ob (getH H x.1)):OR E H2 x.1 p ob x.2:=by
 unfold inEq at h;cases hr:isRo x.2 with
 |false=>
  rw[hr] at h;have:=eqO_or (show eqO (getH H x.1) x.2=true from h) ho;exact this.move hp (fun pos _=>.inl hc) fun _ _ _ h=>h
 |true=>
  rw[hr] at h;have h':roEq H x.1 x.2=true:=h;unfold roEq at h';split at h'
  ·rename_i vs len elem cls rel fz ro vs' len' elem' cls' rel' fz' ro' h1 h2
   rw[h1] at ho;rw[h2] at hc ⊢;simp only[Bool.and_eq_true] at h';obtain⟨⟨⟨⟨k1,k2⟩,k3⟩,k4⟩,k5⟩:=h';have e1:=aa k1;have e2:=aa k2;have e3:=aa k3;subst e1 e2 e3;obtain⟨c,fr,g1,g2,g3,g4,g5⟩:=ho;refine⟨c,fr,g1,g2,g3,g4,fun i hi _=>?_⟩;rw[<- mu k4 i hi];exact g5 i hi (rdOk_all k5 i hi)
  ·cases h'
theorem ky {H:T AObj}{x:Row}(h:inEq H x=true):getH H x.1≠.no/\a8 (getH H x.1)=false\/(isRo x.2=false/\getH H x.1≠.no/\a8 (getH H x.1)=a8 x.2):=by
 unfold inEq at h;cases hr:isRo x.2 with
 |false=>
  rw[hr] at h;have:=cK (show eqO (getH H x.1) x.2=true from h);exact .inr ⟨rfl,this.2.2.2.2.2.2.1,this.2.2.2.2.1⟩
 |true=>
  rw[hr] at h;have h':roEq H x.1 x.2=true:=h;unfold roEq at h';split at h'
  ·rename_i h1 h2
   rw[h1];exact .inl ⟨(fun h=>by cases h),rfl⟩
  ·cases h'
theorem in_rw {H:T AObj}{x:Row}(h:inEq H x=true)(hr:isRo x.2=false):isRo (getH H x.1)=false/\aw (getH H x.1)=aw x.2:=by
 unfold inEq at h;rw[hr] at h;have:=cK (show eqO (getH H x.1) x.2=true from h);exact⟨by rw[this.2.2.2.1,hr],this.1⟩
theorem OR.at {H:T AObj}{l:Nat}{p:Pl}{ob:Option Obj}{o:AObj}(ho:OR E H l p ob o)(hc:aw o=0):∀ k∈V.plsL o.vals,∃ q,E k=some q:=by
 intro k hk;cases o with
 |cells vs len elem cls rel fz ro=>
  obtain⟨c,fr,g1,g2,g3,g4,g5⟩:=ho;rw[V.plsL_mem] at hk;obtain⟨v,hv,hkv⟩:=hk;obtain⟨i,hi⟩:=List.getElem?_of_mem hv
  have hlt:i<len:=by
   have:=(ae.1 hi).1;simp only[AObj.vals] at this;rw[bp] at this;exact this
  have:=bP (α:=V) .bad vs len 0 i hlt;simp only[AObj.vals] at hi;rw[hi] at this;simp only[Nat.zero_add,Option.some.injEq] at this;obtain⟨x,_,hx⟩:=g5 i hlt (.inl hc);rw[mK,<- this] at hx;exact hx.at k hkv
 |map es c=>
  obtain⟨es',_,g2⟩:=ho;exact (ol (E':=E) (es:=[]) (xs:=[]) g2).1 k hk
 |_=>simp[AObj.vals,V.plsL] at hk
theorem vk {ins:List Row}(hv:∀ l o,(l,o)∈ins->(∃ p,E l=some p)->∀ k∈V.plsL o.vals,∃ p,E k=some p){K:T Nat->Bool}:∀ (ord:List Nat)(t0:T Nat),(∀ l,has t0 l=true->∃ p,E l=some p)->sP ins ord t0 false K=true->
  ∃ t,K t=true/\(∀ l∈ord,∃ p,E l=some p)/\∀ l,has t l=true->∃ p,E l=some p
 |[],t0,h0,h=>⟨t0,h,(fun _ h=>by cases h),h0⟩
 |l::r,t0,h0,h=>by
  simp only[sP] at h;cases hh:has t0 l with
  |false=>rw[hh] at h;cases h
  |true=>
   rw[hh] at h;simp only[cond_true] at h;cases hf:kw l ins with
   |none=>rw[hf] at h;cases h
   |some o=>
    rw[hf] at h;simp only[jz] at h;have hl:=h0 l hh
    obtain⟨t,k1,k2,k3⟩:=vk hv r (gT (V.plsL o.vals) t0) (fun k hk=>by
     rcases (jA _ _ _).1 hk with hk|hk
     ·exact hv l o (eU hf) hl k hk
     ·exact h0 k hk) h
    refine⟨t,k1,fun k hk=>?_,k3⟩;cases hk with
    |head=>exact hl
    |tail _ hk=>exact k2 k hk
theorem aq.cut {k:Nat}{G:World->Prop}{hk hk0:Hook}{d:Cut}{n:Nat}(hG:Gd0 k G)(hin:aq P k G hk)(h0:aq P k G hk0)(hs:cutB P.globals.size d=true)(hr:dq P hk n d=true):aq P k G (bS d hk0):=by
 intro w0 hw0 E H nx w f args xs v H' nx' hwr hgl hxs hh;unfold bS at hh;cases hc:(Nat.beq f d.f&&Nat.beq nx d.nx&&V.eqL args d.args&&allIn H d.ins) with
 |false=>rw[hc] at hh;exact h0 w0 hw0 E H nx w f args xs v H' nx' hwr hgl hxs hh
 |true=>
  rw[hc] at hh;simp only[cond_true,jB,Option.some.injEq,Prod.mk.injEq] at hh;obtain⟨rfl,rfl,rfl⟩:=hh;simp only[Bool.and_eq_true] at hc;obtain⟨⟨⟨c1,c2⟩,c3⟩,c4⟩:=hc;have e1:=aa c1;have e2:=aa c2;have e3:=jv c3;subst e1 e2 e3;have hin2:=vf c4;unfold cutB at hs;simp only[Bool.and_eq_true] at hs;obtain⟨⟨⟨⟨⟨⟨⟨s1,s2⟩,s3⟩,s4⟩,s5⟩,s6⟩,s7⟩,s8⟩:=hs;have hgn:=ab s3;have hnn:=ab s4;have hik:=yY s5;have hord:=vg s6;have hrw:=yZ s7;simp only[jz] at s8
  obtain⟨t,s9,hreach,hht⟩:=vk (E:=E) (fun l o hlo hp kk hkk=>by
   obtain⟨p,hp⟩:=hp
   have:=in_or (E:=E) (H2:=H) (hin2 _ hlo) (hik _ hlo).2.1 (hik _ hlo).2.2.2 (hwr.objs l p hp)
   exact this.at (hik _ hlo).2.1 kk hkk) d.ord (gT (V.plsL d.args) .e) (fun l hl=>by
   rcases (jA _ _ _).1 hl with hl|hl
   ·exact hxs.at l hl
   ·simp[has,gD] at hl) s8
  simp only[Bool.and_eq_true] at s9;have hvt:=lD s9.1.1;have hvn:=s9.1.2;have hout:=vh s9.2;have hmap:∀ x∈d.ins,∃ p,E x.1=some p:=fun x hx=>hreach x.1 (hord x hx)
  have hw:=hw0.at hG hwr;have hks:=hG.size w hw
  have hnotold:∀ x∈d.ins,isRo x.2=false->∀ p,E x.1=some p->¬ w0.old p.blk:=fun x hx hro p hp=>by
   rcases (hwr.own x.1 p hp).2 with h|h|h
   ·rcases ky (hin2 x hx) with⟨g,_⟩|⟨_,g,_⟩<;>exact absurd h g
   ·rw[(in_rw (hin2 x hx) hro).1] at h;cases h
   ·exact h
  have hb':∃ b':Bs,b'=⟨w,fun b=>b<w.heap.size/\∀ x∈d.ins,isRo x.2=false->∀ p,E x.1=some p->p.blk≠b,fun _ h=>h.1,E⟩:=⟨_,rfl⟩
  obtain⟨b',hb'⟩:=hb';have hbw:b'.w=w:=by rw[hb']
  have hbo:∀ b,b'.old b<->(b<w.heap.size/\∀ x∈d.ins,isRo x.2=false->∀ p,E x.1=some p->p.blk≠b):=fun b=>by rw[hb']
  have hbe:b'.env=E:=by rw[hb']
  have hsub:∀ b,w0.old b->b'.old b:=fun b hb=>(hbo b).2 ⟨hwr.lt_old hb,fun x hx hro p hp e=>hnotold x hx hro p hp (e ▸ hb)⟩
  have hgb:GB k G b':=⟨fun i hi=>hsub i (hw0.1 i hi),by rw[hbw];exact hw,by rw[hbe];exact hw0.2.2.mono hwr.le⟩
  have hinmem:∀ x∈d.ins,getH (cT d.ins .e) x.1=x.2:=jC s1;have hinoth:∀ l,(∀ x∈d.ins,x.1≠l)->getH (cT d.ins .e) l=.no:=fun l hl=>by rw[dw hl];rfl
  have hstart:WR b' E (cT d.ins .e) d.nx w:=by
   refine⟨fun l p hp=>?_,fun l hl=>⟨(hwr.fresh l hl).1,hinoth l fun x hx e=>by have:=(hik x hx).1;omega⟩,fun l l' p p' hne hl hl' hb=>?_,fun l hl=>?_,fun l p hp=>⟨(hwr.own l p hp).1,?_⟩,fun b _=>by rw[hbw],by rw[hbw];exact am _,by rw[hbw],by rw[hbw],by rw[hbw],by rw[hbe];exact Env.le.refl E,?dat,fun t b hd=>by rw[hbe];exact hwr.decE t b hd,fun l p hl b o v hf _=>by rw[hbe];exact⟨l,p,hl,hf⟩⟩
   case dat=>
    intro l p hl bb o v hf;obtain⟨h1,h2⟩:=hwr.dat l p hl bb o v hf;refine⟨h1,fun l' p' hl' hb'=>?_⟩;by_cases hx:∃ x∈d.ins,x.1=l'
    ·obtain⟨x,hx,rfl⟩:=hx
     rw[hinmem x hx];cases hr1:isRo x.2 with
     |true=>exact mayFz_ro hr1
     |false=>
      have hq:=hin2 x hx;unfold inEq at hq;rw[hr1] at hq;simp only[cond_false] at hq;have hs:=cK hq;exact (dP (h2 x.1 p' hl' hb') hs.2.2.2.2.2.2.1 (by rw[hs.2.2.2.1];exact hr1) (yX hq)).elim
    ·rw[hinoth l' fun x hx2 e=>hx ⟨x,hx2,e⟩];exact .inl rfl
   ·by_cases hx:∃ x∈d.ins,x.1=l
    ·obtain⟨x,hx,rfl⟩:=hx
     rw[hinmem x hx];exact in_or (hin2 x hx) (hik x hx).2.1 (hik x hx).2.2.2 (hwr.objs x.1 p hp)
    ·rw[hinoth l fun x hx' e=>hx ⟨x,hx',e⟩];trivial
   ·by_cases hx:∃ x∈d.ins,x.1=l
    ·by_cases hx':∃ x∈d.ins,x.1=l'
     ·obtain⟨x,hx,rfl⟩:=hx
      obtain⟨x',hx',rfl⟩:=hx';rw[hinmem x hx,hinmem x' hx'];have n1:getH H x.1≠.no:=by rcases ky (hin2 x hx) with⟨g,_⟩|⟨_,g,_⟩<;>exact g
      have n2:getH H x'.1≠.no:=by rcases ky (hin2 x' hx') with⟨g,_⟩|⟨_,g,_⟩<;>exact g
      cases hr1:isRo x.2 with
      |false=>
       have:=in_rw (hin2 x hx) hr1;rcases hwr.sepV this.1 hne hl hl' hb with h|h|h
       ·exact absurd h n1
       ·exact absurd h n2
       ·rw[this.2,(hik x hx).2.1] at h;exact absurd rfl h.1
      |true=>
       cases hr2:isRo x'.2 with
       |true=>exact .inr ⟨rfl,rfl⟩
       |false=>
        have:=in_rw (hin2 x' hx') hr2;rcases hwr.sepW this.1 hne hl hl' hb with h|h|h
        ·exact absurd h n1
        ·exact absurd h n2
        ·rw[this.2,(hik x' hx').2.1] at h;exact absurd h.2.1 h.1
     ·exact .inl (.inr (.inl (hinoth l' fun x hx2 e=>hx' ⟨x,hx2,e⟩)))
    ·exact .inl (.inl (hinoth l fun x hx2 e=>hx ⟨x,hx2,e⟩))
   ·by_cases hx:∃ x∈d.ins,x.1=l
    ·obtain⟨x,hx,rfl⟩:=hx
     rw[hinmem x hx,(hik x hx).2.1] at hl;exact absurd rfl hl
    ·rw[hinoth l fun x hx2 e=>hx ⟨x,hx2,e⟩] at hl;exact absurd rfl hl
   ·by_cases hx:∃ x∈d.ins,x.1=l
    ·obtain⟨x,hx,rfl⟩:=hx
     rw[hinmem x hx];cases hr1:isRo x.2 with
     |true=>exact .inr (.inl rfl)
     |false=>exact .inr (.inr fun ho=>((hbo _).1 ho).2 x hx hr1 p hp rfl)
    ·exact .inl (hinoth l fun x hx2 e=>hx ⟨x,hx2,e⟩)
  unfold dq at hr;rw[jB] at hr;split at hr
  ·rename_i u Hf m hfin
   simp only[Bool.and_eq_true] at hr;obtain⟨⟨r1,r2⟩,r3⟩:=hr;have q1:=fG r1;have q2:=aa r2;subst q1 q2;have hao:=qz r3;refine (u7 (w0:=b') hG hgb hin hstart hgl hxs hfin).mono fun e w' ⟨X,E',he,hX,hwr'⟩=>?_
   have hle':E.le E':=by have:=hwr'.le;rw[hbe] at this;exact this
   have hE2:∃ E2:Env,E2=fun l=>if l<d.nx then E l else E' l:=⟨_,rfl⟩
   obtain⟨E2,hE2⟩:=hE2;have elo:∀ l,l<d.nx->E2 l=E l:=fun l hl=>by rw[hE2];simp only[if_pos hl]
   have ehi:∀ l,d.nx<=l->E2 l=E' l:=fun l hl=>by rw[hE2];simp only[if_neg (Nat.not_lt.2 hl)]
   have elt:∀ l p,E l=some p->l<d.nx:=fun l p hp=>Nat.lt_of_not_le fun h=>by rw[(hwr.fresh l h).1] at hp;cases hp
   have hle2:E.le E2:=fun l p hp=>by rw[elo l (elt l p hp)];exact hp
   have e2':∀ l p,E2 l=some p->E' l=some p:=fun l p hp=>by
    by_cases h:l<d.nx
    ·rw[elo l h] at hp;exact hle' l p hp
    ·rw[ehi l (by omega)] at hp;exact hp
   have back:∀ l,(d.nx<=l\/has t l=true)->∀ p,E' l=some p->E2 l=some p:=fun l hl p hp=>by
    rcases hl with hl|hl
    ·rw[ehi l hl];exact hp
    ·obtain⟨q,hq⟩:=hht l hl
     have:=hle' l q hq;rw[hp] at this;cases this;exact hle2 l p hq
   have omem:∀ x∈d.outs,getH (cT d.outs H) x.1=x.2:=jC s2;have ooth:∀ l,(∀ x∈d.outs,x.1≠l)->getH (cT d.outs H) l=getH H l:=fun l hl=>dw hl
   have stay:∀ l p,(∀ x∈d.outs,x.1≠l)->E l=some p->getH H l≠.no->b'.old p.blk:=fun l p hl hp hno=>by
    refine (hbo _).2 ⟨(hwr.own l p hp).1,fun x hx hro q hq hb=>?_⟩;obtain⟨o,ho⟩:=hrw x hx hro;have hne:x.1≠l:=fun e=>hl _ ho e
    have:=in_rw (hin2 x hx) hro;rcases hwr.sepV this.1 hne hq hp hb with h|h|h
    ·rcases ky (hin2 x hx) with⟨g,_⟩|⟨_,g,_⟩<;>exact g h
    ·exact hno h
    ·rw[this.2,(hik x hx).2.1] at h;exact h.1 rfl
   have clsout:∀ c cur lim mk,getH H c=.cls cur lim mk->∀ x∈d.outs,x.1≠c:=fun c cur lim mk hcc x hx e=>by
    have hclt:c<d.nx:=Nat.lt_of_not_le fun h=>by rw[(hwr.fresh c h).2] at hcc;cases hcc
    rcases (hout x hx).2.2.2.2 with⟨h,_⟩|⟨_,_,_,o,ho,hro⟩
    ·omega
    ·have h1:=ky (hin2 _ ho)
     rw[e] at h1;simp only at h1;rw[hcc] at h1;rcases h1 with⟨_,h⟩|⟨_,_,h⟩
     ·cases h
     ·rw[(hik _ ho).2.2.1] at h;cases h
   have oblk:∀ x∈d.outs,∀ p,E2 x.1=some p->¬ b'.old p.blk:=fun x hx p hp=>by
    have hs:=cK (hao x hx);rcases (hwr'.own x.1 p (e2' _ _ hp)).2 with h|h|h
    ·exact absurd h hs.2.2.2.2.2.2.1
    ·rw[hs.2.2.2.1,(hout x hx).2.1] at h;cases h
    ·exact h
   refine .ret ⟨X,E2,he,hle2,hX.move (fun l hl p hp=>back l (hvt l hl) p hp) hvn,?_,hnn,fun l hl hEl hcl=>⟨by rw[elo l hl];exact hEl,ooth l fun x hx e=>?_⟩⟩
   ·refine⟨fun l p hp=>?_,fun l hl=>⟨by rw[ehi l (by omega)];exact (hwr'.fresh l hl).1,by
     rw[ooth l fun x hx e=>by have:=(hout x hx).2.2.2.1;omega];exact (hwr.fresh l (by omega)).2⟩,fun l l' p p' hne hl hl' hb=>?_,fun l hl=>?_,fun l p hp=>?_,fun b hb=>?_,?_,?_,?_,?_,hwr.le.trans hle2,?dat,hwr.dec,?fzo⟩
    case fzo=>
     intro l p hl b o v hf ho;have h3:=hwr'.fzo l p (e2' l p hl) b o v hf (hsub b ho);rw[hbe] at h3;obtain⟨l3,p3,h4,h5⟩:=h3;exact hwr.fzo l3 p3 h4 b o v h5 ho
    case dat=>
     intro l p hl bb o v hf;obtain⟨h1,h2⟩:=hwr'.dat l p (e2' l p hl) bb o v hf;refine⟨h1,fun l' p' hl' hb'=>?_⟩;by_cases hx:∃ x∈d.outs,x.1=l'
     ·obtain⟨x,hx,rfl⟩:=hx
      rw[omem x hx];have hs:=cK (hao x hx);exact (dP (h2 x.1 p' (e2' _ _ hl') hb') hs.2.2.2.2.2.2.1 (by rw[hs.2.2.2.1];exact (hout x hx).2.1) (yX (hao x hx))).elim
     ·have hno:∀ x∈d.outs,x.1≠l':=fun x hx2 e=>hx ⟨x,hx2,e⟩
      rw[ooth l' hno];by_cases hn:getH H l'=.no
      ·rw[hn];exact .inl rfl
      ·have hlt:l'<d.nx:=Nat.lt_of_not_le fun h=>hn (hwr.fresh l' h).2
       have hl2:=hl';rw[elo l' hlt] at hl2;have ho:=stay l' p' hno hl2 hn;have h3:=hwr'.fzo l p (e2' l p hl) bb o v hf (by rw[<- hb'];exact ho);rw[hbe] at h3;obtain⟨l3,p3,h4,h5⟩:=h3;exact (hwr.dat l3 p3 h4 bb o v h5).2 l' p' hl2 hb'
    ·
     by_cases hx:∃ x∈d.outs,x.1=l
     ·obtain⟨x,hx,rfl⟩:=hx
      rw[omem x hx];obtain⟨o1,o2,o3,o4,o5⟩:=hout x hx;have hor:=eqO_or (hao x hx) (hwr'.objs x.1 p (e2' _ _ hp));refine hor.move o1 (fun pos hok=>?_) fun kk hkk q hq=>back kk (o3 kk hkk) q hq
      by_cases hc0:aw x.2=0
      ·exact .inl hc0
      ·rcases o5 with⟨_,h|⟨_,o,ho⟩⟩|⟨_,h,_⟩
       ·exact absurd h hc0
       ·rcases hok with h|⟨cur,lim,mk,h1,h2⟩
        ·exact absurd h hc0
        ·rw[omem _ ho] at h1
         simp only at h1;have h3:=hao _ ho;simp only at h3;rw[h1] at h3;exact .inr ⟨cur,lim,mk,eqO_cls h3,h2⟩
       ·exact absurd h hc0
     ·have hno:∀ x∈d.outs,x.1≠l:=fun x hx' e=>hx ⟨x,hx',e⟩
      rw[ooth l hno];by_cases hlt:l<d.nx
      ·have hp':=hp
       rw[elo l hlt] at hp';by_cases hn:getH H l=.no
       ·rw[hn];trivial
       ·have hblk:=hwr'.old _ (stay l p hno hp' hn)
        rw[hbw] at hblk;rw[hblk];refine (hwr.objs l p hp').trans hle2 fun pos hok=>hok.same fun hc0=>?_
        obtain⟨cur,lim,mk,h1,_⟩:=hwr.cls l hc0;exact ooth _ (clsout _ _ _ _ h1)
      ·rw[(hwr.fresh l (by omega)).2];trivial
    ·
     by_cases hx:∃ x∈d.outs,x.1=l
     ·by_cases hx':∃ x∈d.outs,x.1=l'
      ·obtain⟨x,hx,rfl⟩:=hx
       obtain⟨x',hx',rfl⟩:=hx';rw[omem x hx,omem x' hx'];have a1:=cK (hao x hx);have a2:=cK (hao x' hx');have:=hwr'.sep x.1 x'.1 p p' hne (e2' _ _ hl) (e2' _ _ hl') hb;rw[a1.1,a1.2.1,a1.2.2.2.1,a2.1,a2.2.1,a2.2.2.2.1] at this;rcases this with (h|h|h)|h
       ·exact absurd h a1.2.2.2.2.2.2.1
       ·exact absurd h a2.2.2.2.2.2.2.1
       ·exact .inl (.inr (.inr h))
       ·exact .inr h
      ·obtain⟨x,hx,rfl⟩:=hx
       have hno:∀ x∈d.outs,x.1≠l':=fun x hx2 e=>hx' ⟨x,hx2,e⟩
       rw[ooth l' hno];by_cases hn:getH H l'=.no
       ·exact .inl (.inr (.inl hn))
       ·have hlt:l'<d.nx:=Nat.lt_of_not_le fun h=>hn (hwr.fresh l' h).2
        have hl2:=hl';rw[elo l' hlt] at hl2;have:=stay l' p' hno hl2 hn;rw[<- hb] at this;exact absurd this (oblk x hx p hl)
     ·have hno:∀ x∈d.outs,x.1≠l:=fun x hx2 e=>hx ⟨x,hx2,e⟩
      rw[ooth l hno];by_cases hn:getH H l=.no
      ·exact .inl (.inl hn)
      ·have hlt:l<d.nx:=Nat.lt_of_not_le fun h=>hn (hwr.fresh l h).2
       have hl2:=hl;rw[elo l hlt] at hl2;by_cases hx':∃ x∈d.outs,x.1=l'
       ·obtain⟨x',hx',rfl⟩:=hx'
        have:=stay l p hno hl2 hn;rw[hb] at this;exact absurd this (oblk x' hx' p' hl')
       ·have hno':∀ x∈d.outs,x.1≠l':=fun x hx2 e=>hx' ⟨x,hx2,e⟩
        rw[ooth l' hno'];by_cases hn':getH H l'=.no
        ·exact .inl (.inr (.inl hn'))
        ·have hlt':l'<d.nx:=Nat.lt_of_not_le fun h=>hn' (hwr.fresh l' h).2
         have hl2':=hl';rw[elo l' hlt'] at hl2';exact hwr.sep l l' p p' hne hl2 hl2' hb
    ·
     by_cases hx:∃ x∈d.outs,x.1=l
     ·obtain⟨x,hx,rfl⟩:=hx
      rw[omem x hx] at hl ⊢;have a1:=cK (hao x hx);obtain⟨cur,lim,mk,h1,h2,h3⟩:=hwr'.cls x.1 (by rw[a1.1];exact hl);rw[a1.1] at h1 h3;rw[a1.2.2.1] at h2;rcases (hout x hx).2.2.2.2 with⟨_,h|⟨h4,o,ho⟩⟩|⟨_,h,_⟩
      ·exact absurd h hl
      ·refine⟨cur,lim,mk,?_,h2,by rw[ehi _ h4];exact h3⟩
       rw[omem _ ho];have a2:=cK (hao _ ho);exact a2.2.2.2.2.2.1 cur lim mk h1
      ·exact absurd h hl
     ·have hno:∀ x∈d.outs,x.1≠l:=fun x hx2 e=>hx ⟨x,hx2,e⟩
      rw[ooth l hno] at hl ⊢;obtain⟨cur,lim,mk,h1,h2,h3⟩:=hwr.cls l hl;have hclt:aw (getH H l)<d.nx:=Nat.lt_of_not_le fun h=>by rw[(hwr.fresh _ h).2] at h1;cases h1
      exact⟨cur,lim,mk,by rw[ooth _ (clsout _ _ _ _ h1)];exact h1,h2,by rw[elo _ hclt];exact h3⟩
    ·
     refine⟨(hwr'.own l p (e2' _ _ hp)).1,?_⟩;by_cases hx:∃ x∈d.outs,x.1=l
     ·obtain⟨x,hx,rfl⟩:=hx
      exact .inr (.inr fun ho=>oblk x hx p hp (hsub _ ho))
     ·have hno:∀ x∈d.outs,x.1≠l:=fun x hx2 e=>hx ⟨x,hx2,e⟩
      rw[ooth l hno];by_cases hlt:l<d.nx
      ·have hp':=hp
       rw[elo l hlt] at hp';exact (hwr.own l p hp').2
      ·exact .inl (hwr.fresh l (by omega)).2
    ·rw[hwr'.old b (hsub b hb),hbw];exact hwr.old b hb
    ·have:=hwr'.size;rw[hbw] at this;exact Nat.le_trans hwr.size this
    ·rw[hwr'.os,hbw];exact hwr.os
    ·rw[hwr'.output,hbw];exact hwr.output
    ·rw[hwr'.tape,hbw];exact hwr.tape
   ·rcases (hout x hx).2.2.2.2 with⟨h,_⟩|⟨_,_,_,o,ho,_⟩
    ·omega
    ·obtain⟨p,hp⟩:=hmap _ ho
     rw[e] at hp;rw[hEl] at hp;cases hp
  ·cases hr
end
end Go.Exo
end

noncomputable section
namespace Go.Exo
def X.pls:X->List Nat
 |.var l _ _=>[l]
 |.bin _ a b|.inr a b|.cmp a b|.atx a b|.el a b _ _|.snoc a b|.cat a b|.cons a b=>a.pls++b.pls
 |.un _ a|.conv _ a|.len a|.isnil a=>a.pls
 |.rng a b c|.sub a b c|.cut a b c=>a.pls++(b.pls++c.pls)
 |.app l _ a _=>l::a.pls
 |_=>[]
theorem X.ok_pls {E:Env}:∀ {t:X},t.ok E<->∀ l∈t.pls,∃ p,E l=some p:=by
 intro t;induction t with
 |var l i k=>simp[X.ok,X.pls]
 |bin _ a b iha ihb=>simp only[X.ok,X.pls,iha,ihb,List.mem_append];exact⟨fun⟨h1,h2⟩ l hl=>hl.elim (h1 l) (h2 l),fun h=>⟨fun l hl=>h l (.inl hl),fun l hl=>h l (.inr hl)⟩⟩
 |inr a b iha ihb=>simp only[X.ok,X.pls,iha,ihb,List.mem_append];exact⟨fun⟨h1,h2⟩ l hl=>hl.elim (h1 l) (h2 l),fun h=>⟨fun l hl=>h l (.inl hl),fun l hl=>h l (.inr hl)⟩⟩
 |cmp a b iha ihb=>simp only[X.ok,X.pls,iha,ihb,List.mem_append];exact⟨fun⟨h1,h2⟩ l hl=>hl.elim (h1 l) (h2 l),fun h=>⟨fun l hl=>h l (.inl hl),fun l hl=>h l (.inr hl)⟩⟩
 |atx a b iha ihb=>simp only[X.ok,X.pls,iha,ihb,List.mem_append];exact⟨fun⟨h1,h2⟩ l hl=>hl.elim (h1 l) (h2 l),fun h=>⟨fun l hl=>h l (.inl hl),fun l hl=>h l (.inr hl)⟩⟩
 |el a b _ _ iha ihb=>simp only[X.ok,X.pls,iha,ihb,List.mem_append];exact⟨fun⟨h1,h2⟩ l hl=>hl.elim (h1 l) (h2 l),fun h=>⟨fun l hl=>h l (.inl hl),fun l hl=>h l (.inr hl)⟩⟩
 |snoc a b iha ihb=>simp only[X.ok,X.pls,iha,ihb,List.mem_append];exact⟨fun⟨h1,h2⟩ l hl=>hl.elim (h1 l) (h2 l),fun h=>⟨fun l hl=>h l (.inl hl),fun l hl=>h l (.inr hl)⟩⟩
 |cat a b iha ihb=>simp only[X.ok,X.pls,iha,ihb,List.mem_append];exact⟨fun⟨h1,h2⟩ l hl=>hl.elim (h1 l) (h2 l),fun h=>⟨fun l hl=>h l (.inl hl),fun l hl=>h l (.inr hl)⟩⟩
 |cons a b iha ihb=>simp only[X.ok,X.pls,iha,ihb,List.mem_append];exact⟨fun⟨h1,h2⟩ l hl=>hl.elim (h1 l) (h2 l),fun h=>⟨fun l hl=>h l (.inl hl),fun l hl=>h l (.inr hl)⟩⟩
 |un _ a ih=>exact ih
 |conv _ a ih=>exact ih
 |len a ih=>exact ih
 |isnil a ih=>exact ih
 |rng a b c iha ihb ihc=>
  simp only[X.ok,X.pls,iha,ihb,ihc,List.mem_append];exact⟨fun⟨h1,h2,h3⟩ l hl=>hl.elim (h1 l) fun hl=>hl.elim (h2 l) (h3 l),fun h=>⟨fun l hl=>h l (.inl hl),fun l hl=>h l (.inr (.inl hl)),fun l hl=>h l (.inr (.inr hl))⟩⟩
 |sub a b c iha ihb ihc=>
  simp only[X.ok,X.pls,iha,ihb,ihc,List.mem_append];exact⟨fun⟨h1,h2,h3⟩ l hl=>hl.elim (h1 l) fun hl=>hl.elim (h2 l) (h3 l),fun h=>⟨fun l hl=>h l (.inl hl),fun l hl=>h l (.inr (.inl hl)),fun l hl=>h l (.inr (.inr hl))⟩⟩
 |cut a b c iha ihb ihc=>
  simp only[X.ok,X.pls,iha,ihb,ihc,List.mem_append];exact⟨fun⟨h1,h2,h3⟩ l hl=>hl.elim (h1 l) fun hl=>hl.elim (h2 l) (h3 l),fun h=>⟨fun l hl=>h l (.inl hl),fun l hl=>h l (.inr (.inl hl)),fun l hl=>h l (.inr (.inr hl))⟩⟩
 |app l _ a _ ih=>
  simp only[X.ok,X.pls,ih,List.mem_cons];exact⟨fun⟨h1,h2⟩ k hk=>hk.elim (fun e=>e ▸ h1) (h2 k),fun h=>⟨h l (.inl rfl),fun k hk=>h k (.inr hk)⟩⟩
 |_=>simp[X.ok,X.pls]
def X.ofL:List X->X
 |[]=>.nilA
 |t::r=>.cons t (X.ofL r)
abbrev X.c (E:Env)(t:X):Cl:=Cl.hd (t.den E)
theorem X.den_ofL {E:Env}:∀ (l:List X),(X.ofL l).den E=l.map (X.c E)
 |[]=>rfl
 |t::r=>by simp only[X.ofL,X.den,X.den_ofL r,List.map_cons]
theorem X.ok_ofL {E:Env}:∀ {l:List X},(X.ofL l).ok E<->∀ t∈l,t.ok E
 |[]=>by simp[X.ofL,X.ok]
 |t::r=>by simp[X.ofL,X.ok,X.ok_ofL (l:=r)]
variable [Sx]
inductive Wt:Kd->Cl->Prop where
 |int (k:IntKind)(n:Int):k.min<=n->n<=k.max->Wt (.int k) (.int n)
 |bool (b:Bool):Wt .bool (.bool b)
 |str (s:List UInt8):s.length<=maxLen->Wt .str (.str s)
 |nil (e:TypeId):Wt (.sl e) (.sl true [])
 |sl (e:TypeId)(rows:List (List Cl)):rows.length<=maxLen->(∀ (i:Nat)(r:List Cl),rows[i]? = some r->r.length=(Sx.row e).length)->
   (∀ (i:Nat)(r:List Cl)(j:Nat)(c:Cl)(k:Kd),rows[i]? = some r->r[j]? = some c->(Sx.row e)[j]? = some k->Wt k c)->Wt (.sl e) (.sl false rows)
 |raw (v:Value):Wt .raw (.raw v)
theorem CR.wt {F:Nat->Nat->Value->Prop}{k:Kd}{v:Value}{c:Cl}(h:CR F k v c):Wt k c:=by
 induction h with
 |int k n a b=>exact .int k n a b
 |bool b=>exact .bool b
 |str s a=>exact .str _ a
 |nil e=>exact .nil e
 |sl e blk off len cap rows vs h1 h2 h3 h4 h5 _ ih=>exact .sl e rows (by omega) h4 ih
 |e0 e a=>exact .sl e [] (Nat.zero_le _) (fun i r h=>by simp at h) fun i r j c k h=>by simp at h
 |raw v a b=>exact .raw v
inductive Ash where
 |one (k:Kd)
 |agg (ks:List Kd)
def Ash.ks:Ash->List Kd
 |.one k=>[k]
 |.agg ks=>ks
inductive CRs (F:Nat->Nat->Value->Prop):List Kd->List Value->List Cl->Prop where
 |nil:CRs F [] [] []
 |cons {k:Kd}{v:Value}{c:Cl}{ks:List Kd}{vs:List Value}{cs:List Cl}:CR F k v c->CRs F ks vs cs->CRs F (k::ks) (v::vs) (c::cs)
inductive ArgR (F:Nat->Nat->Value->Prop):List Ash->List Value->List Cl->Prop where
 |nil:ArgR F [] [] []
 |one {k:Kd}{v:Value}{c:Cl}{r:List Ash}{vs:List Value}{cs:List Cl}:CR F k v c->ArgR F r vs cs->ArgR F (.one k::r) (v::vs) (c::cs)
 |agg {ks:List Kd}{xs:List Value}{ds:List Cl}{r:List Ash}{vs:List Value}{cs:List Cl}:CRs F ks xs ds->ArgR F r vs cs->ArgR F (.agg ks::r) (.agg xs.toArray::vs) (ds++cs)
inductive Wts:List Kd->List Cl->Prop where
 |nil:Wts [] []
 |cons {k:Kd}{c:Cl}{ks:List Kd}{cs:List Cl}:Wt k c->Wts ks cs->Wts (k::ks) (c::cs)
theorem Wts.append {ks ks':List Kd}{cs cs':List Cl}(h:Wts ks cs)(h':Wts ks' cs'):Wts (ks++ks') (cs++cs'):=by
 induction h with
 |nil=>exact h'
 |cons h1 _ ih=>exact .cons h1 ih
theorem Wts.length {ks:List Kd}{cs:List Cl}(h:Wts ks cs):ks.length=cs.length:=by
 induction h with
 |nil=>rfl
 |cons _ _ ih=>simp[ih]
theorem Wts.get {ks:List Kd}{cs:List Cl}(h:Wts ks cs):∀ (i:Nat)(k:Kd),ks[i]? = some k->∃ c,cs[i]? = some c/\Wt k c:=by
 induction h with
 |nil=>intro i k hk;simp at hk
 |cons h1 _ ih=>
  intro i k hk;cases i with
  |zero=>simp at hk;subst hk;exact⟨_,rfl,h1⟩
  |succ i=>simp at hk;obtain⟨c,h2,h3⟩:=ih i k hk;exact⟨c,by simpa using h2,h3⟩
theorem CRs.wt {F:Nat->Nat->Value->Prop}{ks:List Kd}{vs:List Value}{cs:List Cl}(h:CRs F ks vs cs):Wts ks cs:=by
 induction h with
 |nil=>exact .nil
 |cons h1 _ ih=>exact .cons h1.wt ih
def kinds (shs:List Ash):List Kd:=shs.flatMap Ash.ks
theorem ArgR.wt {F:Nat->Nat->Value->Prop}{shs:List Ash}{vs:List Value}{cs:List Cl}(h:ArgR F shs vs cs):Wts (kinds shs) cs:=by
 induction h with
 |nil=>exact .nil
 |one h1 _ ih=>exact .cons h1.wt ih
 |agg h1 _ ih=>exact h1.wt.append ih
theorem CRs.mono {F F':Nat->Nat->Value->Prop}(h:∀ b o v,F b o v->F' b o v){ks:List Kd}{vs:List Value}{cs:List Cl}(hc:CRs F ks vs cs):CRs F' ks vs cs:=by
 induction hc with
 |nil=>exact .nil
 |cons h1 _ ih=>exact .cons (h1.mono h) ih
theorem ArgR.mono {F F':Nat->Nat->Value->Prop}(h:∀ b o v,F b o v->F' b o v){shs:List Ash}{vs:List Value}{cs:List Cl}(hc:ArgR F shs vs cs):ArgR F' shs vs cs:=by
 induction hc with
 |nil=>exact .nil
 |one h1 _ ih=>exact .one (h1.mono h) ih
 |agg h1 _ ih=>exact .agg (h1.mono h) ih
inductive Rsh where
 |one (s:Ash)
 |tup (l:List Ash)
def Rsh.l:Rsh->List Ash
 |.one s=>[s]
 |.tup l=>l
def ResR (F:Nat->Nat->Value->Prop):Rsh->Value->List Cl->Prop
 |.one s,x,cs=>ArgR F [s] [x] cs
 |.tup l,x,cs=>∃ xs:List Value,x=.tuple xs.toArray/\ArgR F l xs cs
abbrev rel (φ:Nat->Nat->Option Value):Nat->Nat->Value->Prop:=fun b o v=>φ b o=some v
def Spec (P:Program)(G:World->Prop)(f:Nat)(shs:List Ash)(rsh:Rsh)(Pre:List Cl->Prop)(F:List Cl->List Cl):Prop:=
 ∀ w φ args cls,G w->(∀ b o v,φ b o=some v->w.cell? ⟨b,o,none⟩=some v)->ArgR (rel φ) shs args cls->Pre cls->
  Calls P f args.toArray w fun e w'=>∃ x φ',e=.returned x/\(∀ b o v,φ b o=some v->φ' b o=some v)/\(∀ b o v,φ' b o=some v->w'.cell? ⟨b,o,none⟩=some v)/\
   (∀ b o v,φ' b o=some v->b<w.heap.size->φ b o=some v)/\Ext w w'/\ResR (rel φ') rsh x (F cls)
def oq (L:Nat):List Kd->Nat->List X
 |[],_=>[]
 |k::r,i=>.var L i k::oq L r (i+1)
def argV (L:Nat):List Ash->Nat->List V
 |[],_=>[]
 |.one k::r,i=>.x (.var L i k)::argV L r (i+1)
 |.agg ks::r,i=>.agg ((oq L ks i).map V.x)::argV L r (i+ks.length)
variable {E:Env}
theorem vm {L:Nat}{p:Pl}(hp:E L=some p):∀ {ks:List Kd}{xs:List Value}{cs:List Cl}(i:Nat),CRs E.fz ks xs cs->(∀ (j:Nat) c,cs[j]? = some c->p.ob.vl (i+j)=c)->VRs E ((oq L ks i).map V.x) xs
 |[],_,_,_,h,_=>by cases h;exact .nil
 |k::ks,_,_,i,h,hv=>by
  cases h with
  |cons h1 h2=>
   refine .cons _ _ _ _ (.x _ _ ⟨p,hp⟩ ?_) (vm hp (i+1) h2 fun j c hc=>by rw[<- hv (j+1) c (by simpa using hc)];congr 1;omega);show CR E.fz k _ (Cl.hd [match E L with|some p=>p.ob.vl i|none=>.no]);rw[hp];have:=hv 0 _ rfl;simp only[Nat.add_zero] at this;simp only[Cl.hd,this];exact h1
theorem sQ {L:Nat}{p:Pl}(hp:E L=some p):∀ {shs:List Ash}{xs:List Value}{cs:List Cl}(i:Nat),ArgR E.fz shs xs cs->(∀ (j:Nat) c,cs[j]? = some c->p.ob.vl (i+j)=c)->VRs E (argV L shs i) xs
 |[],_,_,_,h,_=>by cases h;exact .nil
 |.one k::r,_,_,i,h,hv=>by
  cases h with
  |one h1 h2=>
   refine .cons _ _ _ _ (.x _ _ ⟨p,hp⟩ ?_) (sQ hp (i+1) h2 fun j c hc=>by rw[<- hv (j+1) c (by simpa using hc)];congr 1;omega);show CR E.fz k _ (Cl.hd [match E L with|some p=>p.ob.vl i|none=>.no]);rw[hp];have:=hv 0 _ rfl;simp only[Nat.add_zero] at this;simp only[Cl.hd,this];exact h1
 |.agg ks::r,_,_,i,h,hv=>by
  cases h with
  |@agg _ xs ds _ vs cs h1 h2=>
   have hlen:ks.length=ds.length:=h1.wt.length;refine .cons _ _ _ _ (.agg _ _ (vm hp i h1 fun j c hc=>hv j c (by rw[List.getElem?_append_left (ae.1 hc).1];exact hc))) (sQ hp (i+ks.length) h2 fun j c hc=>?_);rw[Nat.add_assoc];refine hv (ks.length+j) c ?_;rw[hlen,List.getElem?_append_right (by omega),Nat.add_sub_cancel_left];exact hc
def ot:List Kd->List V->Option (List X)
 |[],[]=>some []
 |k::ks,v::vs=>(match toXk k v,ot ks vs with|some t,some l=>some (t::l)|_,_=>none)
 |_,_=>none
def ashX (s:Ash)(v:V):Option (List X):=
 match s with
 |.one k=>(match toXk k v with|some t=>some [t]|none=>none)
 |.agg ks=>(match v with|.agg cs=>ot ks cs|_=>none)
def iX:List Ash->List V->Option (List X)
 |[],[]=>some []
 |s::r,v::vs=>(match ashX s v,iX r vs with|some a,some b=>some (a++b)|_,_=>none)
 |_,_=>none
def rshX (r:Rsh)(v:V):Option (List X):=
 match r with
 |.one s=>ashX s v
 |.tup l=>(match v with|.tup vs=>iX l vs|_=>none)
end Go.Exo
end

noncomputable section
namespace Go.Exo
section
variable (P:Program)
def kdsF (k:TypeId->Option (List Kd)):List Field->Nat->Option (List Kd)
 |[],_=>some []
 |f::r,o=>(match k f.type with
  |some l=>cond (Nat.beq f.offset o&&Nat.beq (P.cellsOf f.type) l.length) (match kdsF k r (o+l.length) with|some m=>some (l++m)|none=>none) none
  |none=>none)
def kdsT:Nat->TypeId->Option (List Kd)
 |0,_=>none
 |n+1,t=>(match P.underlying t with
  |some .bool=>some [.bool]
  |some (.int k)=>some [.int k]
  |some .string=>some [.str]
  |some (.slice e)=>some [.sl e]
  |some (.struct fs)=>(match kdsF P (kdsT n) fs.toList 0 with|some l=>cond (Nat.beq (P.cellsOf t) l.length) (some l) none|none=>none)
  |_=>none)
end
variable [Sx]
structure DatTs (P:Program)(T:TypeId->Prop):Prop where
 sl:∀ t e,T t->P.underlying t=some (.slice e)->T e/\(∃ n,kdsT P n e=some (Sx.row e))/\P.cellsOf e=(Sx.row e).length/\0<(Sx.row e).length
 st:∀ t fs,T t->P.underlying t=some (.struct fs)->∀ f∈fs.toList,T f.type
theorem CRs.append {F:Nat->Nat->Value->Prop}{ks ks':List Kd}{vs vs':List Value}{cs cs':List Cl}(h:CRs F ks vs cs)(h':CRs F ks' vs' cs'):CRs F (ks++ks') (vs++vs') (cs++cs'):=by
 induction h with
 |nil=>exact h'
 |cons h1 _ ih=>exact .cons h1 ih
theorem CRs.get {F:Nat->Nat->Value->Prop}{ks:List Kd}{vs:List Value}{cs:List Cl}(h:CRs F ks vs cs):vs.length=ks.length/\cs.length=ks.length/\∀ (j:Nat) v c k,vs[j]? = some v->cs[j]? = some c->ks[j]? = some k->CR F k v c:=by
 induction h with
 |nil=>exact⟨rfl,rfl,fun j v c k h=>by simp at h⟩
 |cons h1 _ ih=>
  obtain⟨i1,i2,i3⟩:=ih;refine⟨by simp[i1],by simp[i2],fun j v c k a b d=>?_⟩;cases j with
  |zero=>simp at a b d;subst a b d;exact h1
  |succ j=>exact i3 j v c k (by simpa using a) (by simpa using b) (by simpa using d)
theorem iw {α β:Type}{f:α->Option β}:∀ {l:List α}{ys:List β},l.mapM f=some ys->∀ x∈l,∃ y,f x=some y
 |[],_,_,x,hx=>by cases hx
 |a::r,ys,h,x,hx=>by
  rw[List.mapM_cons] at h;cases ha:f a with
  |none=>rw[ha] at h;cases h
  |some b=>
   rw[ha] at h;cases hr:r.mapM f with
   |none=>rw[hr] at h;cases h
   |some bs=>
    cases hx with
    |head=>exact⟨b,ha⟩
    |tail _ hx=>exact iw hr x hx
theorem ou {α β:Type}{f:α->Option β}:∀ {l:List α}{ys:List β},l.mapM f=some ys->ys.length=l.length/\∀ (i:Nat) y,ys[i]? = some y->∃ x,l[i]? = some x/\f x=some y
 |[],ys,h=>by rw[List.mapM_nil] at h;cases h;exact⟨rfl,fun i y h=>by simp at h⟩
 |a::r,ys,h=>by
  rw[List.mapM_cons] at h;cases ha:f a with
  |none=>rw[ha] at h;cases h
  |some b=>
   rw[ha] at h;cases hr:r.mapM f with
   |none=>rw[hr] at h;cases h
   |some bs=>
    rw[hr] at h;cases h;obtain⟨h1,h2⟩:=ou hr;refine⟨by simp[h1],fun i y hy=>?_⟩;cases i with
    |zero=>simp at hy;subst hy;exact⟨a,rfl,ha⟩
    |succ i=>obtain⟨x,g1,g2⟩:=h2 i y (by simpa using hy);exact⟨x,by simpa using g1,g2⟩
theorem iy {w:World}{a:Addr}{n:Nat}{c:List Value}(h:w.cells? 0 a n=some c):c.length=n/\∀ (j:Nat) v,c[j]? = some v->w.cell? (a.add j)=some v:=by
 unfold World.cells? at h;rw[if_pos (Nat.zero_le _)] at h;obtain⟨h1,h2⟩:=ou h;rw[List.length_range] at h1;refine⟨h1,fun j v hv=>?_⟩;obtain⟨x,g1,g2⟩:=h2 j v hv;have hj:j<n:=by have:=(ae.1 hv).1;omega
 rw[List.getElem?_range hj] at g1;cases g1;exact g2
theorem ov (b o n:Nat):(⟨b,o,none⟩:Addr).add n=⟨b,o+n,none⟩:=by
 unfold Addr.add;split<;>simp_all
abbrev dt (w:World):Nat->Nat->Value->Prop:=fun b o v=>w.cell? ⟨b,o,none⟩=some v
section
variable {H:Type}{enc:TypeId×Value->H}{P:Program}{w:World}
theorem mw {r:TypeId->List Value->Option (DataW H×List MemPlace)}{k:TypeId->Option (List Kd)}{cs:List Value}:∀ (fs:List Field)(o:Nat)(ks:List Kd),kdsF P k fs o=some ks->o+ks.length<=cs.length->
  (∀ f∈fs,∃ y,r f.type ((cs.drop f.offset).take (P.cellsOf f.type))=some y)->(∀ f∈fs,∀ c y l,r f.type c=some y->k f.type=some l->∃ cls,CRs (dt w) l c cls)->∃ cls,CRs (dt w) ks ((cs.drop o).take ks.length) cls
 |[],o,ks,h,_,_,_=>by simp only[kdsF,Option.some.injEq] at h;subst h;exact⟨[],by simpa using CRs.nil⟩
 |f::fs,o,ks,h,hl,hr,hk=>by
  simp only[kdsF] at h;cases h1:k f.type with
  |none=>rw[h1] at h;cases h
  |some l=>
   rw[h1] at h;simp only at h;cases hb:(Nat.beq f.offset o&&Nat.beq (P.cellsOf f.type) l.length) with
   |false=>rw[hb] at h;cases h
   |true=>
    rw[hb] at h;simp only[cond_true] at h;simp only[Bool.and_eq_true] at hb;have e1:=aa hb.1;have e2:=aa hb.2;cases h2:kdsF P k fs (o+l.length) with
    |none=>rw[h2] at h;cases h
    |some m=>
     rw[h2] at h;cases h;rw[List.length_append] at hl ⊢;obtain⟨c2,g2⟩:=mw fs (o+l.length) m h2 (by omega) (fun g hg=>hr g (ai _ hg)) (fun g hg=>hk g (ai _ hg));obtain⟨y,hy⟩:=hr f (aj ..);rw[e1,e2] at hy;obtain⟨c1,g1⟩:=hk f (aj ..) _ y l hy h1;refine⟨c1++c2,?_⟩
     have e:(cs.drop o).take (l.length+m.length)=(cs.drop o).take l.length++(cs.drop (o+l.length)).take m.length:=by
      rw[List.take_add,List.drop_drop]
     rw[e];exact g1.append g2
theorem lE {T:TypeId->Prop}(hT:DatTs P T):∀ (fuel n:Nat)(t:TypeId)(cs:List Value)(y:DataW H×List MemPlace)(ks:List Kd),T t->DataW.trod enc P w 0 (fun _=>true) true fuel t cs=some y->kdsT P n t=some ks->∃ cls,CRs (dt w) ks cs cls
 |0,_,_,_,_,_,_,h,_=>by simp[DataW.trod] at h
 |_+1,0,_,_,_,_,_,_,h=>by simp[kdsT] at h
 |fuel+1,n+1,t,cs,y,ks,ht,h,hk=>by
  simp only[kdsT] at hk;cases hu:P.underlying t with
  |none=>rw[hu] at hk;cases hk
  |some d=>
   rw[hu] at hk;cases d<;>simp only at hk<;>first|(cases hk;done)|skip
   case bool=>
    cases hk;obtain⟨b,rfl,_⟩:=DataW.trod_bool hu h;exact⟨_,.cons (.bool b) .nil⟩
   case int k=>
    cases hk;obtain⟨m,rfl,_,hw⟩:=DataW.trod_int hu h;simp only[Lit.wf,Bool.and_eq_true,decide_eq_true_eq] at hw;exact⟨_,.cons (.int k m hw.1 hw.2) .nil⟩
   case string=>
    cases hk;obtain⟨s,rfl,_,hs⟩:=DataW.trod_string hu h;exact⟨_,.cons (.str s hs) .nil⟩
   case slice e=>
    cases hk;obtain⟨hTe,⟨m,hm⟩,hsz,hpos⟩:=hT.sl t e ht hu
    have hsl:cs=[.slice none 0 0]\/∃ a len cap,cs=[.slice (some a) len cap]/\len<=cap/\cap<=maxLen/\((((List.range len).mapM fun i=>(w.cells? 0 (a.add (i*P.cellsOf e)) (P.cellsOf e)).bind (DataW.trod enc P w 0 (fun _=>true) true fuel e))).bind fun elems=>
      (((List.range (cap-len)).mapM fun j=>(w.cells? 0 (a.add ((len+j)*P.cellsOf e)) (P.cellsOf e)).bind (DataW.trod enc P w 0 (fun _=>true) true fuel e))).map fun rest=>
      ((.slice (elems.map (·.1)) (rest.map (·.1)),MemPlace.row a ((elems.length+rest.length)*P.cellsOf e)++(elems++rest).flatMap (·.2)):DataW H×List MemPlace))=some y:=by
     unfold DataW.trod at h;rw[hu] at h;split at h
     case h_8=>
      rename_i e' a len cap heq;cases heq;simp only at h;split at h
      case isFalse=>cases h
      rename_i hc;refine .inr ⟨a,len,cap,rfl,hc.2.1,hc.2.2,?_⟩;simpa using h
     all_goals simp_all
    rcases hsl with rfl|⟨a,len,cap,rfl,hlc,hcm,h⟩
    ·exact⟨_,.cons (.nil e) .nil⟩
    ·skip
     cases he:(List.range len).mapM fun i=>(w.cells? 0 (a.add (i*P.cellsOf e)) (P.cellsOf e)).bind (DataW.trod enc P w 0 (fun _=>true) true fuel e) with
     |none=>rw[he] at h;cases h
     |some elems=>
      rw[he] at h;simp only[Option.bind_some] at h
      have hrest:∃ rest,((List.range (cap-len)).mapM fun j=>(w.cells? 0 (a.add ((len+j)*P.cellsOf e)) (P.cellsOf e)).bind (DataW.trod enc P w 0 (fun _=>true) true fuel e))=some rest:=by
       cases hx:((List.range (cap-len)).mapM fun j=>(w.cells? 0 (a.add ((len+j)*P.cellsOf e)) (P.cellsOf e)).bind (DataW.trod enc P w 0 (fun _=>true) true fuel e)) with
       |none=>rw[hx] at h;cases h
       |some r=>exact⟨r,rfl⟩
      obtain⟨rest,hrest⟩:=hrest
      have hat:∀ i,i<len->∃ c cls,w.cells? 0 (a.add (i*P.cellsOf e)) (P.cellsOf e)=some c/\CRs (dt w) (Sx.row e) c cls:=fun i hi=>by
       obtain⟨y,hy⟩:=iw he i (List.mem_range.2 hi);cases hcc:w.cells? 0 (a.add (i*P.cellsOf e)) (P.cellsOf e) with
       |none=>rw[hcc] at hy;cases hy
       |some c=>
        rw[hcc] at hy;obtain⟨cls,hcl⟩:=lE hT fuel m e c y (Sx.row e) hTe hy hm;exact⟨c,cls,rfl,hcl⟩
      by_cases hcap:cap=0
      ·subst hcap
       have:len=0:=by omega
       subst this;exact⟨_,.cons (.e0 e a) .nil⟩
      ·have hspot:a.spot=none:=by
        have hany:∃ c,w.cells? 0 (a.add 0) (P.cellsOf e)=some c:=by
         by_cases hl:0<len
         ·obtain⟨c,_,h1,_⟩:=hat 0 hl;exact⟨c,by simpa using h1⟩
         ·obtain⟨y,hy⟩:=iw hrest 0 (List.mem_range.2 (by omega))
          have hl0:len=0:=by omega
          subst hl0;cases hcc:w.cells? 0 (a.add ((0+0)*P.cellsOf e)) (P.cellsOf e) with
          |none=>rw[hcc] at hy;cases hy
          |some c=>exact⟨c,by simpa using hcc⟩
        obtain⟨c,hc⟩:=hany;obtain⟨g1,g2⟩:=iy hc;have h0:0<c.length:=by omega
        have:=World.cell?_spot (g2 0 _ (ah h0));simpa[Addr.add] using this
       obtain⟨blk,off,spot⟩:=a;simp only at hspot;subst hspot
       classical
       let R:Nat->List Cl:=fun i=>if h:∃ c cls,w.cells? 0 ((⟨blk,off,none⟩:Addr).add (i*P.cellsOf e)) (P.cellsOf e)=some c/\CRs (dt w) (Sx.row e) c cls then Classical.choose (Classical.choose_spec h) else []
       have hR:∀ i,i<len->∃ c,w.cells? 0 ((⟨blk,off,none⟩:Addr).add (i*P.cellsOf e)) (P.cellsOf e)=some c/\CRs (dt w) (Sx.row e) c (R i):=fun i hi=>by
        have hh:=hat i hi;refine⟨Classical.choose hh,?_⟩;have e1:R i=Classical.choose (Classical.choose_spec hh):=dif_pos hh;rw[e1];exact Classical.choose_spec (Classical.choose_spec hh)
       have hrow:∀ (i:Nat) r,((List.range len).map R)[i]? = some r->i<len/\r=R i:=fun i r hr=>by
        rw[List.getElem?_map] at hr;cases hi:(List.range len)[i]? with
        |none=>rw[hi] at hr;cases hr
        |some j=>
         rw[hi] at hr;have hlt:i<len:=by have:=(ae.1 hi).1;simpa using this
         rw[List.getElem?_range hlt] at hi;cases hi;cases hr;exact⟨hlt,rfl⟩
       refine⟨[.sl false ((List.range len).map R)],.cons (.sl e blk off len cap _ (fun i j=>(w.cell? ⟨blk,off+i*(Sx.row e).length+j,none⟩).getD undef) (by simp) hlc hcm ?_ ?_ ?_) .nil⟩
       ·intro i r hr
        obtain⟨h1,rfl⟩:=hrow i r hr;obtain⟨c,_,h3⟩:=hR i h1;exact h3.get.2.1
       ·intro i r j c hr hj
        obtain⟨h1,rfl⟩:=hrow i r hr;obtain⟨cc,h2,h3⟩:=hR i h1;obtain⟨g1,g2,g3⟩:=h3.get;have hjl:j<cc.length:=by have:=(ae.1 hj).1;omega
        have:=(iy h2).2 j _ (ah hjl);simp only[ov,hsz] at this;show w.cell? _=some _;rw[this];rfl
       ·intro i r j c k hr hj hkk
        obtain⟨h1,rfl⟩:=hrow i r hr;obtain⟨cc,h2,h3⟩:=hR i h1;obtain⟨g1,g2,g3⟩:=h3.get;have hjl:j<cc.length:=by have:=(ae.1 hj).1;omega
        have:=(iy h2).2 j _ (ah hjl);simp only[ov,hsz] at this;rw[this];exact g3 j _ c k (ah hjl) hj hkk
   case struct fs=>
    cases hf:kdsF P (kdsT P n) fs.toList 0 with
    |none=>rw[hf] at hk;cases hk
    |some l=>
     rw[hf] at hk;simp only at hk;cases hb:Nat.beq (P.cellsOf t) l.length with
     |false=>rw[hb] at hk;cases hk
     |true=>
      rw[hb] at hk;cases hk;have e1:=aa hb
      have h':(if cs.length=P.cellsOf t then (fs.toList.mapM fun f=>DataW.trod enc P w 0 (fun _=>true) true fuel f.type ((cs.drop f.offset).take (P.cellsOf f.type))).map fun xs=>((.agg (xs.map (·.1)),xs.flatMap (·.2)):DataW H×List MemPlace) else none)=some y:=by
       unfold DataW.trod at h;rw[hu] at h;split at h<;>simp_all
      split at h'
      case isFalse=>cases h'
      rename_i hlen;cases hm:(fs.toList.mapM fun f=>DataW.trod enc P w 0 (fun _=>true) true fuel f.type ((cs.drop f.offset).take (P.cellsOf f.type))) with
      |none=>rw[hm] at h';cases h'
      |some xs=>
       obtain⟨cls,hc⟩:=mw (r:=DataW.trod enc P w 0 (fun _=>true) true fuel) (cs:=cs) (w:=w) fs.toList 0 ks hf (by omega) (fun f hf'=>iw hm f hf')
        (fun f hf' c y l h1 h2=>lE hT fuel n f.type c y l (hT.st t fs ht hu f hf') h1 h2)
       refine⟨cls,?_⟩;rw[List.drop_zero,List.take_of_length_le (by omega)] at hc;exact hc
end
end Go.Exo
end
