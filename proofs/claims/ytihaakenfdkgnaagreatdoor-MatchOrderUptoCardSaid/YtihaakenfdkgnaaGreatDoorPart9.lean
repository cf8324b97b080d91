/-
  EXO, part Q: frames and machines, abstract and real. Own text.
-/
import Derived.Test.YtihaakenfdkgnaaGreatDoorPart8
import Derived.Defers
set_option linter.all false
noncomputable section
namespace Go.Exo
variable [Sx] [Dc]
def DRs (E:Env):List ADef->List Deferred->Prop
 |[],ds=>ds=[]
 |a::as,ds=>∃ d r,ds=d::r/\DR E a d/\DRs E as r
def ChR (E:Env):List (V×Bool)->List PanicEntry->Prop
 |[],es=>es=[]
 |(v,b)::r,es=>∃ x t,es={ v:=x,recovered:=b,goexit:=false }::t/\VR E v x/\ChR E r t
def iV (E:Env):AMode->FrameMode->Prop
 |.run,m=>m=.run
 |.returning,m=>m=.returning
 |.panicking ch,m=>∃ es,m=.panicking es/\ChR E ch es
def gN (E:Env):Option Nat->Option Nat->Prop
 |none,r=>r=none
 |some l,r=>∃ p,E l=some p/\r=some p.blk
def mj (E:Env):AItem->Item->Prop
 |.code c,i=>i=.code c
 |.inBlock id,i=>i=.inBlock id
 |.inLoop c,i=>i=.inLoop c
 |.inScope c,i=>i=.inScope c
 |.inRF l,i=>∃ p,E l=some p/\i=.inRangeFunc p.blk
 |.endRF l,i=>∃ p,E l=some p/\i=.endRangeFunc p.blk
 |.beginRound,i=>i=.beginRound
 |.steps _ _ _,_=>False
 |.call _ _,_=>False
 |.halt _,_=>False
def aU (E:Env):List AItem->List Item->Prop
 |[],t=>t=[]
 |.halt l::_,t=>∃ p,E l=some p/\t=p.tail
 |a::as,t=>∃ i r,t=i::r/\mj E a i/\aU E as r
theorem DR.mono {E E':Env}(h:E.le E'){a:ADef}{d:Deferred}(hd:DR E a d):DR E' a d:=by
 cases a with
 |call fn cap args=>obtain⟨fn',cs,xs,h1,h2,h3,h4⟩:=hd;exact⟨fn',cs,xs,h1.mono h,h2.mono h,h3.mono h,h4⟩
 |collected l=>obtain⟨p,h1,h2⟩:=hd;exact⟨p,h _ _ h1,h2⟩
theorem DRs.mono {E E':Env}(h:E.le E'):∀ {as:List ADef}{ds:List Deferred},DRs E as ds->DRs E' as ds
 |[],_,hd=>hd
 |_::_,_,⟨d,r,e,h1,h2⟩=>⟨d,r,e,h1.mono h,DRs.mono h h2⟩
theorem ChR.mono {E E':Env}(h:E.le E'):∀ {as:List (V×Bool)}{es:List PanicEntry},ChR E as es->ChR E' as es
 |[],_,hd=>hd
 |(_,_)::_,_,⟨x,t,e,h1,h2⟩=>⟨x,t,e,h1.mono h,ChR.mono h h2⟩
theorem iV.mono {E E':Env}(h:E.le E'){a:AMode}{m:FrameMode}(hm:iV E a m):iV E' a m:=by
 cases a with
 |run=>exact hm
 |returning=>exact hm
 |panicking ch=>obtain⟨es,h1,h2⟩:=hm;exact⟨es,h1,h2.mono h⟩
theorem gN.mono {E E':Env}(h:E.le E'){a r:Option Nat}(hr:gN E a r):gN E' a r:=by
 cases a with
 |none=>exact hr
 |some l=>obtain⟨p,h1,h2⟩:=hr;exact⟨p,h _ _ h1,h2⟩
theorem mj.mono {E E':Env}(h:E.le E'){a:AItem}{i:Item}(hi:mj E a i):mj E' a i:=by
 cases a with
 |inRF l=>obtain⟨p,h1,h2⟩:=hi;exact⟨p,h _ _ h1,h2⟩
 |endRF l=>obtain⟨p,h1,h2⟩:=hi;exact⟨p,h _ _ h1,h2⟩
 |call _ _=>exact hi.elim
 |halt _=>exact hi.elim
 |_=>exact hi
theorem aU.mono {E E':Env}(h:E.le E'):∀ {as:List AItem}{t:List Item},aU E as t->aU E' as t
 |[],_,hd=>hd
 |a::as,t,hd=>by
  cases a with
  |halt l=>obtain⟨p,h1,h2⟩:=hd;exact⟨p,h _ _ h1,h2⟩
  |_=>obtain⟨i,r,e,h1,h2⟩:=hd;exact⟨i,r,e,h1.mono h,aU.mono h h2⟩
theorem ChR.append {E:Env}:∀ {as bs:List (V×Bool)}{es fs:List PanicEntry},ChR E as es->ChR E bs fs->ChR E (as++bs) (es++fs)
 |[],_,_,_,h,h'=>by cases h;exact h'
 |(_,_)::_,_,_,_,⟨x,t,e,h1,h2⟩,h'=>by subst e;exact⟨x,_,rfl,h1,ChR.append h2 h'⟩
theorem TR.put {E:Env}{tm:T V}{xs:Array Value}(h:TR E tm xs){d:Nat}{v:V}{x:Value}(hv:VR E v x)(hd:d<xs.size):TR E (put au tm d v) (xs.setIfInBounds d x):=by
 intro i;rw[aD];by_cases e:i=d
 ·subst e
  rw[if_pos rfl];simp[hd,hv]
 ·rw[if_neg e]
  have:=h i;have e2:(xs.setIfInBounds d x).getD i undef=xs.getD i undef:=by simp[Ne.symm e]
  rw[e2];exact this
def bR (ops:Array Oper)(i:Nat):Option Nat:=(ops[i]?).bind (·.dst)
def looks (ops:Array Oper)(o:Oper):List Nat:=nE o++(match gdOf ops o with|some (t,_)=>[t]|none=>[])
def GNo (g:Gd)(tm:T V):Prop:=∃ t want,g=some (t,want)/\((∃ b,gB (getU tm t)=some b/\b≠want)\/∃ vs,getU tm t=.tup vs)
def GYes (g:Gd)(tm:T V):Prop:=g=none\/∃ t want,g=some (t,want)/\gB (getU tm t)=some want
def SOf (P:Program)(ops:Array Oper)(s:PStep):Prop:=
 ∃ o,ops[s.idx]? = some o/\s.op=(aF P ops s.idx o).op/\s.dst=o.dst/\s.guard=gdOf ops o/\(s.fast=true->s.guard=none/\s.again=[]/\s.apart=[])
structure NewOp (ao:AOp)(tm:T V)(mk:Nat->V)(ob:AObj):Prop where
 ex:∀ H nx,exOp ao tm H nx=.valH (mk nx) (put .no H nx ob) (nx+1)
 cls:aw ob=0
 isc:a8 ob=false
def PF (P:Program)(E:Env)(H:T AObj)(lo hi:Nat)(ops:Array Oper)(tm:T V)(pl:Nat->Option Nat)(rd:Bool)(i:Nat):Prop:=
 ∃ o tm0,ops[i]? = some o/\(∀ t∈looks ops o,getU tm0 t=getU tm t)/\
  ((GNo (gdOf ops o) tm0/\∀ d,o.dst=some d->getU tm d=au)\/ (GYes (gdOf ops o) tm0/\∃ v,(∀ d,o.dst=some d->getU tm d=v)/\ (((aF P ops i o).op.cls=0/\∀ H nx,exOp (aF P ops i o).op tm0 H nx=.val v)\/ ((aF P ops i o).op.cls=2/\(rd=true->∃ nx,exOp (aF P ops i o).op tm0 H nx=.val v))\/ ((aF P ops i o).op.cls=1/\∃ l mk,pl i=some l/\lo<=l/\l<hi/\E l=none/\NewOp (aF P ops i o).op tm0 mk (getH H l)/\v=mk l))))
def Early (P:Program)(ops:Array Oper)(j:Nat):Prop:=∃ o,ops[j]? = some o/\((aF P ops j o).op.cls<=2\/gdOf ops o≠none)
theorem PF.early {P:Program}{E:Env}{H:T AObj}{lo hi:Nat}{ops:Array Oper}{tm:T V}{pl:Nat->Option Nat}{rd:Bool}{i:Nat}(h:PF P E H lo hi ops tm pl rd i):Early P ops i:=by
 obtain⟨o,tm0,g1,_,g3⟩:=h;refine⟨o,g1,?_⟩;rcases g3 with⟨⟨t,want,e,_⟩,_⟩|⟨_,v,_,hh⟩
 ·exact .inr (by rw[e];intro h;cases h)
 ·refine .inl ?_
  rcases hh with⟨c,_⟩|⟨c,_⟩|⟨c,_⟩<;>omega
def Ord (P:Program)(ops:Array Oper)(is:List Nat):Prop:=
 is.Nodup/\(∀ i∈is,i<ops.size)/\(∀ i∈is,∀ j∈is,∀ d,bR ops i=some d->bR ops j=some d->i=j)/\
 (∀ a i b,is=a++i::b->∀ o,ops[i]? = some o->∀ t∈looks ops o,∀ j∈i::b,Early P ops j->bR ops j≠some t)/\
 ∀ x∈uh P ops,∀ j,x.2.testBit j=true->(x.1.idx∉is->j∉is)/\∀ a b,is=a++x.1.idx::b->j∉x.1.idx::b
def fE (P:Program)(ops:Array Oper):List PStep->List Nat->Prop
 |[],_=>True
 |s::r,is=>SOf P ops s/\s.idx∈is/\(∀ s'∈r,s'.idx≠s.idx)/\s.apart=[]/\
  (∀ d,s.dst=some d->∀ i∈is,(∀ s'∈s::r,s'.idx≠i)->(s.op.cls<=2\/∃ x y,is=x++s.idx::y/\i∈y)->∀ o,ops[i]? = some o->d∉looks ops o)/\
  ((s.op.cls<=2/\s.again=[]/\fE P ops r is)\/ (2<s.op.cls/\∃ a b,is=a++s.idx::b/\(∀ i∈a,∀ s'∈s::r,s'.idx≠i)/\ (∀ i∈b,(∀ s'∈r,s'.idx≠i)->∀ o,ops[i]? = some o->(aF P ops i o).op.cls=2->∃ d,o.dst=some d/\(d,gdOf ops o,(aF P ops i o).op)∈s.again)/\ fE P ops r b))
def FitZ (P:Program)(ops:Array Oper)(l:List PStep)(is:List Nat):Prop:=fE P ops l is\/False
structure DInv (P:Program)(E:Env)(H:T AObj)(lo hi:Nat)(ops:Array Oper)(l:List PStep)(is:List Nat)(tm:T V)(tmps:Array Value)(rd:Bool):Prop where
 ord:Ord P ops is
 fit:FitZ P ops l is
 slots:∀ t,(∀ i∈is,(∀ s∈l,s.idx≠i)->bR ops i≠some t)->VR E (getU tm t) (tmps.getD t undef)
 size:∀ i∈is,(∀ s∈l,s.idx≠i)->∀ d,bR ops i=some d->d<tmps.size
 pend:∃ pl:Nat->Option Nat,(∀ i j x,pl i=some x->pl j=some x->i=j)/\∀ i∈is,(∀ s∈l,s.idx≠i)->PF P E H lo hi ops tm pl rd i
def RegR (P:Program)(E:Env)(H:T AObj)(lo hi:Nat)(ops:Array Oper)(draw:Bool)(s:PStep)(r:List PStep)(is:List Nat)(tm:T V)(tmps:Array Value):Prop:=
 (draw=false/\∃ o i,ops[i]? = some o/\s=aF P ops i o/\r=bH P ops (ops.toList.drop (i+1)) (i+1)/\is=List.range' (i+1) (ops.size-(i+1))/\TR E tm tmps)\/
 (draw=true/\SOf P ops s/\Ord P ops (s.idx::is)/\(∀ s'∈r,s'.idx≠s.idx)/\ (∀ d,s.dst=some d->∀ i∈is,(∀ s'∈s::r,s'.idx≠i)->∀ o,ops[i]? = some o->d∉looks ops o)/\ (∀ i∈is,(∀ s'∈r,s'.idx≠i)->∀ o,ops[i]? = some o->(aF P ops i o).op.cls=2->∃ d,o.dst=some d/\(d,gdOf ops o,(aF P ops i o).op)∈s.again)/\ DInv P E H lo hi ops r is tm tmps false)
def SR (P:Program)(E:Env)(H:T AObj)(lo hi:Nat)(f:AFrame)(fr:Frame):Prop:=
 fr.fn=f.fn/\fr.kind=f.kind/\gN E f.round fr.roundOf/\DRs E f.defers fr.defers/\iV E f.mode fr.mode/\fr.tmps.size=f.size/\
 match f.mode with
 |.run=>(match f.todo with
  |.steps (s::r) ops draw::k=>∃ is k',fr.todo=.inRegion ops (s.idx::is)::k'/\aU E k k'/\RegR P E H lo hi ops draw s r is f.tmps fr.tmps
  |.inRF l::k=>∃ p k',E l=some p/\fr.todo=.inRangeFunc p.blk::k'/\aU E k k'/\TR E f.tmps fr.tmps
  |_=>False)
 |_=>TR E f.tmps fr.tmps
def FrsR (P:Program)(cs0:List Frame)(E:Env)(H:T AObj):Nat->List AFrame->List Frame->Prop
 |_,[],frs=>frs=cs0
 |b,f::fs,frs=>∃ lo fr r,frs=fr::r/\lo<=b/\SR P E H lo b f fr/\FrsR P cs0 E H lo fs r
def bM (b:Nat)(E E':Env)(H H':T AObj):Prop:=∀ l,l<b->E l=none->a8 (getH H l)=false->E' l=none/\getH H' l=getH H l
theorem bM.le {a b:Nat}{E E':Env}{H H':T AObj}(h:bM b E E' H H')(hab:a<=b):bM a E E' H H':=fun l hl=>h l (by omega)
theorem PF.mono {P:Program}{E E':Env}{H H':T AObj}{lo hi:Nat}{ops:Array Oper}{tm:T V}{pl:Nat->Option Nat}{rd:Bool}{i:Nat}(h:PF P E H lo hi ops tm pl rd i)
  (hk:bM hi E E' H H'):PF P E' H' lo hi ops tm pl false i:=by
 obtain⟨o,tm0,h1,h2,h3⟩:=h;refine⟨o,tm0,h1,h2,h3.imp id fun⟨g,v,hv,hh⟩=>⟨g,v,hv,?_⟩⟩;rcases hh with hh|hh|⟨c1,l,mk,a1,a2,a3,a4,a5,a6⟩
 ·exact .inl hh
 ·exact .inr (.inl ⟨hh.1,fun e=>by cases e⟩)
 ·obtain⟨b1,b2⟩:=hk l a3 a4 a5.isc
  exact .inr (.inr ⟨c1,l,mk,a1,a2,a3,b1,by rw[b2];exact a5,a6⟩)
theorem DInv.mono {P:Program}{E E':Env}{H H':T AObj}{lo hi:Nat}{ops:Array Oper}{l:List PStep}{is:List Nat}{tm:T V}{tmps:Array Value}{rd:Bool}
  (h:DInv P E H lo hi ops l is tm tmps rd)(hE:E.le E')(hk:bM hi E E' H H'):DInv P E' H' lo hi ops l is tm tmps false:=by
 obtain⟨h1,h2,h3,h6,pl,h4,h5⟩:=h;exact⟨h1,h2,fun t ht=>(h3 t ht).mono hE,h6,pl,h4,fun i hi hl=>(h5 i hi hl).mono hk⟩
theorem RegR.mono {P:Program}{E E':Env}{H H':T AObj}{lo hi:Nat}{ops:Array Oper}{draw:Bool}{s:PStep}{r:List PStep}{is:List Nat}{tm:T V}{tmps:Array Value}
  (h:RegR P E H lo hi ops draw s r is tm tmps)(hE:E.le E')(hk:bM hi E E' H H'):RegR P E' H' lo hi ops draw s r is tm tmps:=by
 rcases h with⟨h1,o,i,h2,h3,h4,h5,h6⟩|⟨h1,h2,h3,h4,h5,h6,h7⟩
 ·exact .inl ⟨h1,o,i,h2,h3,h4,h5,h6.mono hE⟩
 ·exact .inr ⟨h1,h2,h3,h4,h5,h6,h7.mono hE hk⟩
theorem SR.mono {P:Program}{E E':Env}{H H':T AObj}{lo hi:Nat}{f:AFrame}{fr:Frame}(h:SR P E H lo hi f fr)(hE:E.le E')(hk:bM hi E E' H H'):SR P E' H' lo hi f fr:=by
 obtain⟨h1,h2,h3,h4,h5,h6,h7⟩:=h;refine⟨h1,h2,h3.mono hE,h4.mono hE,h5.mono hE,h6,?_⟩;cases hm:f.mode with
 |run=>
  rw[hm] at h7;simp only at h7 ⊢;split at h7
  ·obtain⟨is,k',a1,a2,a3⟩:=h7
   exact⟨is,k',a1,a2.mono hE,a3.mono hE hk⟩
  ·obtain⟨p,k',a1,a2,a3,a4⟩:=h7
   exact⟨p,k',hE _ _ a1,a2,a3.mono hE,a4.mono hE⟩
  ·exact h7.elim
 |returning=>rw[hm] at h7;exact TR.mono hE h7
 |panicking ch=>rw[hm] at h7;exact TR.mono hE h7
theorem FrsR.mono {P:Program}{cs0:List Frame}{E E':Env}{H H':T AObj}(hE:E.le E'):∀ {fs:List AFrame}{b:Nat}{frs:List Frame},bM b E E' H H'->FrsR P cs0 E H b fs frs->FrsR P cs0 E' H' b fs frs
 |[],_,_,_,h=>h
 |_::_,_,_,hk,⟨lo,fr,r,h1,h2,h3,h4⟩=>⟨lo,fr,r,h1,h2,h3.mono hE hk,FrsR.mono hE (hk.le h2) h4⟩
def RunR (P:Program)(E:Env)(tm:T V)(fr:Frame):List AItem->Prop
 |.call f args::k=>aU E k fr.todo/\TR E tm fr.tmps/\∃ xs,VRs E args xs/\fr=Frame.enter P f xs.toArray .normal
 |t=>aU E t fr.todo/\TR E tm fr.tmps
theorem RunR.of {P:Program}{E:Env}{tm:T V}{fr:Frame}{t:List AItem}(h:aU E t fr.todo)(ht:TR E tm fr.tmps):RunR P E tm fr t:=by
 unfold RunR;split
 ·obtain⟨i,r,_,hi,_⟩:=h;exact hi.elim
 ·exact⟨h,ht⟩
structure MR (P:Program)(w0:Bs)(cs0:List Frame)(E:Env)(m:AMode)(t:List AItem)(c:Ctx)(fr:Frame)(cs:List Frame)(w:World):Prop where
 wr:WR w0 E c.H c.nx w
 gl:∀ g,g<P.globals.size->∃ s,E g=some ⟨g,0,s,undef,noOb,[]⟩
 frs:∃ b,b<=c.nx/\FrsR P cs0 E c.H b c.cs cs
 fn:fr.fn=c.fn
 kind:fr.kind=c.kind
 round:gN E c.round fr.roundOf
 defers:DRs E c.ds fr.defers
 mode:iV E m fr.mode
 size:fr.tmps.size=c.sz
 rest:match m with
  |.run=>RunR P E c.tm fr t
  |.returning=>TR E c.tm fr.tmps
  |.panicking _=>c.ds=[]\/TR E c.tm fr.tmps
def Fin (P:Program)(w0:Bs)(cs0:List Frame)(out:Out)(fr:Frame)(cs:List Frame)(w:World):Prop:=
 ∀ m' t' c',out=.st m' t' c'->∃ E' fr' cs' w',Steps P (lone fr cs w) (lone fr' cs' w')/\MR P w0 cs0 E' m' t' c' fr' cs' w'
def Sound (P:Program)(w0:Bs)(cs0:List Frame)(F:Ih):Prop:=
 ∀ E m t c fr cs w,MR P w0 cs0 E m t c fr cs w->Fin P w0 cs0 (F m t c) fr cs w
theorem Fin.fail {P:Program}{w0:Bs}{cs0:List Frame}{a b d:Nat}{fr:Frame}{cs:List Frame}{w:World}:Fin P w0 cs0 (.fail a b d) fr cs w:=fun _ _ _ h=>by cases h
theorem Fin.steps {P:Program}{w0:Bs}{cs0:List Frame}{out:Out}{fr fr':Frame}{cs cs':List Frame}{w w':World}(hs:Steps P (lone fr cs w) (lone fr' cs' w'))(h:Fin P w0 cs0 out fr' cs' w'):Fin P w0 cs0 out fr cs w:=by
 intro m' t' c' e;obtain⟨E',a,b,d,h1,h2⟩:=h m' t' c' e;exact⟨E',a,b,d,hs.trans h1,h2⟩
theorem Fin.step {P:Program}{w0:Bs}{cs0:List Frame}{out:Out}{fr fr':Frame}{cs cs':List Frame}{w w':World}(hs:Go.step P (lone fr cs w)=.next (lone fr' cs' w'))(h:Fin P w0 cs0 out fr' cs' w'):Fin P w0 cs0 out fr cs w:=
 Fin.steps (.one hs) h
end Go.Exo
end

noncomputable section
namespace Go.Exo
variable [Sx] [Dc]
section
variable {P:Program}{fr:Frame}{cs:List Frame}{w:World}{k:List Item}(hm:fr.mode=.run)
include hm
theorem st_skip (ht:fr.todo=.code .skip::k):Go.step P (lone fr cs w)=.next (lone { fr with todo:=k } cs w):=by
 cases fr;simp only at hm ht;subst hm ht;exact step_lone_go (by simp[stepG,stepG.exec])
theorem st_label {l:Nat}(ht:fr.todo=.code (.label l)::k):Go.step P (lone fr cs w)=.next (lone { fr with todo:=k } cs w):=by
 cases fr;simp only at hm ht;subst hm ht;exact step_lone_go (by simp[stepG,stepG.exec])
theorem xi {id:Nat}(ht:fr.todo=.inBlock id::k):Go.step P (lone fr cs w)=.next (lone { fr with todo:=k } cs w):=by
 cases fr;simp only at hm ht;subst hm ht;exact step_lone_go (by simp[stepG,stepG.exec])
theorem xj {c:Code}(ht:fr.todo=.inScope c::k):Go.step P (lone fr cs w)=.next (lone { fr with todo:=k } cs w):=by
 cases fr;simp only at hm ht;subst hm ht;exact step_lone_go (by simp[stepG,stepG.exec])
theorem st_seq {a b:Code}(ht:fr.todo=.code (.seq a b)::k):Go.step P (lone fr cs w)=.next (lone { fr with todo:=.code a::.code b::k } cs w):=by
 cases fr;simp only at hm ht;subst hm ht;exact step_lone_go (by simp[stepG,stepG.exec])
theorem yI {x:Operand}{a b:Code}{t:Bool}(ht:fr.todo=.code (.cond x a b)::k)(hx:fr.eval x=.bool t):Go.step P (lone fr cs w)=.next (lone { fr with todo:=.code (if t then a else b)::k } cs w):=by
 refine step_lone_go ?_;have e:∀ k',({ fr with todo:=k' }:Frame).eval x=fr.eval x:=fun _=>by cases x<;>rfl
 cases fr;simp only at hm ht;subst hm ht;simp[stepG,stepG.exec,hx]
theorem st_block {id:Nat}{b:Code}(ht:fr.todo=.code (.block id b)::k):Go.step P (lone fr cs w)=.next (lone { fr with todo:=.code b::.inBlock id::k } cs w):=by
 cases fr;simp only at hm ht;subst hm ht;exact step_lone_go (by simp[stepG,stepG.exec])
theorem yJ {b:Code}(ht:fr.todo=.code (.loop b)::k):Go.step P (lone fr cs w)=.next (lone { fr with todo:=.code b::.inLoop b::k } cs w):=by
 cases fr;simp only at hm ht;subst hm ht;exact step_lone_go (by simp[stepG,stepG.exec])
theorem qf {b:Code}(ht:fr.todo=.inLoop b::k):Go.step P (lone fr cs w)=.next (lone { fr with todo:=.code b::.inLoop b::k } cs w):=by
 cases fr;simp only at hm ht;subst hm ht;exact step_lone_go (by simp[stepG,stepG.exec])
theorem st_scope {b:Code}(ht:fr.todo=.code (.scope b)::k):Go.step P (lone fr cs w)=.next (lone { fr with todo:=.code b::.inScope b::k } cs w):=by
 cases fr;simp only at hm ht;subst hm ht;exact step_lone_go (by simp[stepG,stepG.exec])
theorem st_exit {id:Nat}{k':List Item}(ht:fr.todo=.code (.exit id)::k)(he:exitTo id k=some k'):Go.step P (lone fr cs w)=.next (lone { fr with todo:=k' } cs w):=by
 cases fr;simp only at hm ht;subst hm ht;exact step_lone_go (by simp[stepG,stepG.exec,he])
theorem st_goto {l:Nat}{k':List Item}(ht:fr.todo=.code (.goto l)::k)(he:gotoIn l k=some k'):Go.step P (lone fr cs w)=.next (lone { fr with todo:=k' } cs w):=by
 cases fr;simp only at hm ht;subst hm ht;exact step_lone_go (by simp[stepG,stepG.exec,he])
def leaving (todo:List Item):Option (Option Code):=
 match todo with
 |[]=>some none
 |.code .ret::_=>some (some .ret)
 |.code (.exit id)::k=>(match exitTo id k with|none=>some (some (.exit id))|some _=>none)
 |.code (.goto l)::k=>(match gotoIn l k with|none=>some (some (.goto l))|some _=>none)
 |_=>none
theorem st_ret (ht:fr.todo=[]\/fr.todo=.code .ret::k)(hr:fr.roundOf=none):Go.step P (lone fr cs w)=.next (lone { fr with mode:=.returning } cs w):=by
 cases fr;simp only at hm ht hr;subst hm hr;rcases ht with ht|ht<;>subst ht<;>exact step_lone_go (by simp[stepG,stepG.exec])
theorem st_round {jump:Option Code}{l:Nat}{w':World}{v:Value}{c:Frame}(ht:leaving fr.todo=some jump)(hr:fr.roundOf=some l)(he:(Instr.endRound l jump).run P w=.ok v w')(hk:fr.kind=.normal) :
  Go.step P (lone fr (c::cs) w)=.next (lone (c.finish v) cs w'):=by
 cases fr;simp only at hm ht hr hk;subst hm hr hk;refine step_lone_go ?_;unfold leaving at ht;split at ht
 ·cases ht
  simp[stepG,stepG.exec,he,doReturn]
 ·cases ht
  simp[stepG,stepG.exec,he,doReturn]
 ·split at ht
  ·rename_i e2
   cases ht;simp[stepG,stepG.exec,he,e2,doReturn]
  ·cases ht
 ·split at ht
  ·rename_i e2
   cases ht;simp[stepG,stepG.exec,he,e2,doReturn]
  ·cases ht
 ·cases ht
theorem qg {id:Nat}{ops:Array Oper}(ht:fr.todo=.code (.region id ops false)::k):Go.step P (lone fr cs w)=.next (lone { fr with todo:=.inRegion ops (List.range ops.size)::k } cs w):=by
 cases fr;simp only at hm ht;subst hm ht;exact step_lone_go (by simp[stepG,stepG.exec])
theorem xk {id:Nat}{ops:Array Oper}(ht:fr.todo=.code (.region id ops true)::k) :
  Go.step P (lone fr cs w)=.next (lone { fr with todo:=.inRegion ops (Region.schedule (P.follows .mixedOrders) ops (w.tape w.drawn (.order fr.fn id)))::k } cs { w with drawn:=w.drawn+1 }):=by
 cases fr;simp only at hm ht;subst hm ht;exact step_lone_go (by simp[stepG,stepG.exec,choose,Sem.run,Question.forced,Question.cut])
theorem fF {ops:Array Oper}(ht:fr.todo=.inRegion ops []::k):Go.step P (lone fr cs w)=.next (lone { fr with todo:=k } cs w):=by
 cases fr;simp only at hm ht;subst hm ht;exact step_lone_go (by simp[stepG,stepG.exec])
theorem lz {ops:Array Oper}{i:Nat}{is:List Nat}(ht:fr.todo=.inRegion ops (i::is)::k)(h:((ops[i]?).map (Region.wanted · (yielded ops fr.tmps))).getD false=false) :
  Go.step P (lone fr cs w)=.next (lone (fr.finish undef) cs w):=by
 cases fr;simp only at hm ht h;subst hm ht;exact step_lone_go (by simp[stepG,stepG.exec,h])
theorem ju {ops:Array Oper}{i:Nat}{is:List Nat}{o:Oper}(ht:fr.todo=.inRegion ops (i::is)::k)(ho:ops[i]? = some o)(hw:Region.wanted o (yielded ops fr.tmps)=true)
  (hnd:fr.roundOf=none\/∀ c,o.op≠.defer c) :
  stepG P true { frame:=fr,callers:=cs,status:=.running,dying:=none } w=stepG.apply P true fr cs none (execOp fr.eval o) w:=by
 cases fr;simp only at hm ht hw hnd;subst hm ht;simp only[stepG,stepG.exec,ho,Option.map_some,Option.getD_some,hw,if_true,stepG.oper,Frame.oper?];rcases hnd with hnd|hnd
 ·subst hnd;rfl
 ·split
  ·rename_i hc;exact absurd hc (hnd _)
  ·rfl
section op
variable {ops:Array Oper}{i:Nat}{is:List Nat}{o:Oper}(ht:fr.todo=.inRegion ops (i::is)::k)(ho:ops[i]? = some o)(hw:Region.wanted o (yielded ops fr.tmps)=true)
  (hnd:fr.roundOf=none\/∀ c,o.op≠.defer c)
include ht ho hw hnd
theorem eS {n:Next}{v:Value}{w':World}(hr:(execOp fr.eval o).run P w=.ok n w')(hn:NextV n=some v):Go.step P (lone fr cs w)=.next (lone (fr.finish v) cs w'):=by
 refine step_lone_go ?_;rw[ju hm ht ho hw hnd];cases n<;>simp only[NextV] at hn<;>cases hn
 ·simp[stepG.apply,hr]
 ·simp[stepG.apply,hr]
theorem xm {f:FuncId}{args:Array Value}{w':World}(hr:(execOp fr.eval o).run P w=.ok (.enter f args) w'):Go.step P (lone fr cs w)=.next (lone (Frame.enter P f args .normal) (fr::cs) w'):=by
 refine step_lone_go ?_;rw[ju hm ht ho hw hnd];simp[stepG.apply,hr,ht]
theorem xn {l:Nat}{f:FuncId}{tmps:Array Value}{a b:Code}{w':World}(hr:(execOp fr.eval o).run P w=.ok (.round l f tmps a b) w') :
  Go.step P (lone fr cs w)=.next (lone (Frame.round l f tmps a b .normal) (fr::cs) w'):=by
 refine step_lone_go ?_;rw[ju hm ht ho hw hnd];simp[stepG.apply,hr]
theorem xo {d:Deferred}{w':World}(hr:(execOp fr.eval o).run P w=.ok (.defer d) w'):Go.step P (lone fr cs w)=.next (lone ({ fr with defers:=d::fr.defers }.finish undef) cs w'):=by
 refine step_lone_go ?_;rw[ju hm ht ho hw hnd];simp[stepG.apply,hr]
theorem xp {v:Value}{w':World}(hr:(execOp fr.eval o).run P w=.halt (.panic v) w'):Go.step P (lone fr cs w)=.next (lone { fr with mode:=.panicking [{ v,recovered:=false }] } cs w'):=by
 refine step_lone_go ?_;rw[ju hm ht ho hw hnd];simp[stepG.apply,hr,Frame.raise,hm]
theorem su {w':World}(hr:(execOp fr.eval o).run P w=.ok .recover w')(hro:fr.roundOf=none) :
  Go.step P (lone fr cs w)=.next (match tryRecover fr cs with|some (v,cs')=>lone (fr.finish v) cs' w'|none=>lone (fr.finish .nilIface) cs w'):=by
 cases h:tryRecover fr cs with
 |none=>
  simp only;refine step_lone_go ?_;rw[ju hm ht ho hw hnd];simp[stepG.apply,hr,hro,h]
 |some p=>
  obtain⟨v,cs'⟩:=p;simp only;refine step_lone_go ?_;rw[ju hm ht ho hw hnd];simp[stepG.apply,hr,hro,h]
end op
theorem st_begin {l:Nat}{w':World}(ht:fr.todo=.beginRound::k)(hr:fr.roundOf=some l)(he:(Instr.beginRound l).run P w=.ok () w'):Go.step P (lone fr cs w)=.next (lone { fr with todo:=k } cs w'):=by
 cases fr;simp only at hm ht hr;subst hm ht hr;refine step_lone_go ?_;simp[stepG,stepG.exec,stepG.apply,he,Frame.finish]
theorem xq {l:Nat}{jump:Option Code}{w':World}(ht:fr.todo=.endRangeFunc l::k)(he:(Instr.endLoop l).run P w=.ok jump w') :
  Go.step P (lone fr cs w)=.next (lone { fr with todo:=(jump.map Item.code).toList++k } cs w'):=by
 cases fr;simp only at hm ht;subst hm ht;refine step_lone_go ?_;simp[stepG,stepG.exec,he]
theorem sw {f:Operand}{ps:Array Tmp}{a b:Code}{l:Nat}{mark:List Deferred}{w':World}{g:FuncId}{args:Array Value}(ht:fr.todo=.code (.rangeFunc f ps a b)::k)
  (he:(Instr.enterLoop fr.fn fr.tmps ps a b fr.roundOf).run P w=.ok (l,mark) w')
  (hi:(do let d <- Deferred.ofValue (fr.eval f) #[.func (.yield l) #[] #[]];invoke d.target d.args:Sem Next).run P w'=.ok (.enter g args) w') :
  Go.step P (lone fr cs w)=.next (lone (Frame.enter P g args .normal) ({ fr with todo:=.inRangeFunc l::k,defers:=mark++fr.defers }::cs) w'):=by
 refine step_lone_go ?_;have e:∀ td ds,({ fr with todo:=td,defers:=ds }:Frame).eval=fr.eval:=fun _ _=>by funext x;cases x<;>rfl
 have e2:(do let d <- resolve ({ fr with todo:=.inRangeFunc l::k,defers:=mark++fr.defers }:Frame).eval { callee:=.value f,args:=#[.const (.func (.yield l) #[] #[])],argTypes:=#[] } 0;invoke d.target d.args:Sem Next)
   = (do let d <- Deferred.ofValue (fr.eval f) #[.func (.yield l) #[] #[]];invoke d.target d.args:Sem Next):=by
  rw[e];simp[resolve,Frame.eval]
 cases fr;simp only at hm ht;subst hm ht;simp only at he hi e2;simp[stepG,stepG.exec,he,stepG.apply,e2,hi]
end
section
variable {P:Program}{fr:Frame}{cs:List Frame}{w:World}
theorem sA {b:Nat}{a:Array Value}{ds:List Deferred}{w':World}(hm:fr.mode≠.run)(hd:fr.defers={ target:=.collected b,args:=a }::ds)(he:(Instr.takeDeferred b).run P w=.ok [] w') :
  Go.step P (lone fr cs w)=.next (lone { fr with defers:=ds } cs w'):=by
 refine step_lone_go ?_;cases hmode:fr.mode with
 |run=>exact absurd hmode hm
 |returning=>simp[stepG,unwind,hmode,hd,he]
 |panicking chain=>simp[stepG,unwind,hmode,hd,he]
theorem An {c:Frame}{fn:Func}{v:Value}(hm:fr.mode=.returning)(hd:fr.defers=[])(hf:P.funcs[fr.fn]? = some fn)(hr:(results fn fr.tmps).run P w=.ok v w)(hk:fr.kind=.normal) :
  Go.step P (lone fr (c::cs) w)=.next (lone (c.finish v) cs w):=step_leave_returned ⟨hm,hd,hk,fn,hf,hr⟩
theorem xr {c:Frame}{fn:Func}{v:Value}(hm:fr.mode=.returning)(hd:fr.defers=[])(hf:P.funcs[fr.fn]? = some fn)(hr:(results fn fr.tmps).run P w=.ok v w)(hk:fr.kind=.deferred) :
  Go.step P (lone fr (c::cs) w)=.next (lone { c with mode:=settle c.mode } cs w):=step_going_returned hk ⟨hm,hd,fn,hf,hr⟩
theorem st_raise {c:Frame}{fn:Func}{chain:List PanicEntry}(hm:fr.mode=.panicking chain)(hd:fr.defers=[])(hf:P.funcs[fr.fn]? = some fn):Go.step P (lone fr (c::cs) w)=.next (lone (c.raise chain) cs w):=
 step_leave_panicked ⟨hm,hd,fn,hf⟩
end
end Go.Exo
end

noncomputable section
namespace Go.Exo
variable [Sx] [Dc]
section
variable {P:Program}{w0:Bs}{cs0:List Frame}{E:Env}{ih:Ih}
theorem Fin.setD {d:Option Nat}{v:V}{tm:T V}{sz:Nat}{k:T V->Out}{fr:Frame}{cs:List Frame}{w:World}
  (h0:d=none->Fin P w0 cs0 (k tm) fr cs w)(h1:∀ t,d=some t->t<sz->Fin P w0 cs0 (k (put au tm t v)) fr cs w):Fin P w0 cs0 (setD d v tm sz k) fr cs w:=by
 cases d with
 |none=>exact h0 rfl
 |some t=>
  simp only[Exo.setD,uk];cases hb:Nat.ble (Nat.succ t) sz with
  |false=>exact Fin.fail
  |true=>exact h1 t rfl (ab hb)
theorem Fin.cond {b:Bool}{x y:Out}{fr:Frame}{cs:List Frame}{w:World}(h1:b=true->Fin P w0 cs0 x fr cs w)(h2:b=false->Fin P w0 cs0 y fr cs w):Fin P w0 cs0 (cond b x y) fr cs w:=by
 cases b with
 |true=>exact h1 rfl
 |false=>exact h2 rfl
theorem Ao (vs:List V)(off:Nat)(cs:T V)(i:Nat):getU (putL au vs off cs) i=if off<=i then (vs[i-off]?).getD (getU cs i) else getU cs i:=bY _ _ _ _ _
theorem TR.enter {args:List V}{xs:List Value}(h:VRs E args xs)(n:Nat):TR E (putL au args 0 .e) (xs.toArray++Array.replicate n undef):=by
 intro i;rw[Ao,if_pos (Nat.zero_le _),Nat.sub_zero];have hl:=h.length;by_cases c:i<args.length
 ·obtain⟨x,hx,hr⟩:=h.get i _ (ah c)
  rw[ah c]
  have:(xs.toArray++Array.replicate n undef).getD i undef=x:=by
   have hx2:xs.toArray[i]? = some x:=by simpa using hx
   have:(xs.toArray++Array.replicate n undef)[i]? = some x:=by rw[Array.getElem?_append_left (by simp;omega)];exact hx2
   rw[Array.getD_eq_getD_getElem?,this];rfl
  rw[this];exact hr
 ·rw[List.getElem?_eq_none (by omega)]
  have:(xs.toArray++Array.replicate n undef).getD i undef=undef:=by
   rw[Array.getD_eq_getD_getElem?];by_cases c2:i<xs.length+n
   ·rw[Array.getElem?_append_right (by simp;omega)]
    have:(Array.replicate n undef)[i-xs.toArray.size]? = some undef:=by rw[Array.getElem?_replicate,if_pos (by simp;omega)]
    rw[this];rfl
   ·rw[Array.getElem?_eq_none (by simp;omega)];rfl
  rw[this];exact VR.undef E
theorem gO (hs:Sound P w0 cs0 ih){H:T AObj}{nx:Nat}{w:World}(hwr:WR w0 E H nx w)(hgl:∀ g,g<P.globals.size->∃ s,E g=some ⟨g,0,s,undef,noOb,[]⟩){afs:List AFrame}{frs:List Frame}
  (hf:FrsR P cs0 E H nx afs frs){f:Nat}{args:List V}{xs:List Value}(ha:VRs E args xs)(kind:CallKind) :
  Fin P w0 cs0 (cq P f args kind afs H nx ih) (Frame.enter P f xs.toArray kind) frs w:=by
 unfold cq;cases hfo:fnOf P f with
 |none=>exact Fin.fail
 |some a=>
  obtain⟨fn,body,h1,h2,h3,h4⟩:=lr hfo;subst h4;refine Fin.cond (fun hb=>?_) fun _=>Fin.fail
  have hle:args.length<=fn.ntmps:=ab hb;have hl:=ha.length;simp only[bw];refine hs E _ _ _ _ _ _ ⟨hwr,hgl,⟨nx,am _,hf⟩,rfl,rfl,rfl,rfl,rfl,?_,?_⟩
  ·simp only[Frame.enter,h1,Option.map_some,Option.getD_some]
   simp;omega
  ·have ht:aU E [.code body] (Frame.enter P f xs.toArray kind).todo:=⟨_,_,rfl,by simp[mj,h1,h2],rfl⟩
   have htr:TR E (putL au args 0 .e) (Frame.enter P f xs.toArray kind).tmps:=TR.enter ha _;cases kind with
   |normal=>exact⟨ht,htr,xs,ha,rfl⟩
   |_=>exact RunR.of ht htr
theorem ke {tm:T V}{k:T V->Out}{fr:Frame}{frs:List Frame}{w:World} :
  ∀ (ps:List Nat)(args:List V)(xs:List Value)(tm:T V)(tmps:Array Value),VRs E args xs->TR E tm tmps->
   (∀ tm' tmps',ps.length=xs.length->tmps'=(ps.zip xs).foldl (fun tmps (x:Nat×Value)=>tmps.setIfInBounds x.1 x.2) tmps->tmps'.size=tmps.size->TR E tm' tmps'->Fin P w0 cs0 (k tm') fr frs w)->
   Fin P w0 cs0 (il tm tmps.size ps args k) fr frs w
 |[],[],xs,tm,tmps,ha,ht,hk=>by
  cases ha;exact hk tm tmps rfl rfl rfl ht
 |[],_::_,_,_,_,_,_,_=>Fin.fail
 |_::_,[],_,_,_,_,_,_=>Fin.fail
 |p::ps,v::vs,xs,tm,tmps,ha,ht,hk=>by
  cases ha with
  |cons _ x _ xs h1 h2=>
   simp only[il,uk];refine Fin.cond (fun hb=>?_) fun _=>Fin.fail
   have hlt:p<tmps.size:=ab hb
   have:=ke (tm:=tm) (k:=k) (fr:=fr) (frs:=frs) (w:=w) ps vs xs (put au tm p v) (tmps.setIfInBounds p x) h2 (ht.put h1 hlt) (fun tm' tmps' a1 a2 a3 a4=>
    hk tm' tmps' (by simp[a1]) (by simpa using a2) (by simpa using a3) a4)
   simpa using this
theorem round_ok (hs:Sound P w0 cs0 ih){H:T AObj}{nx:Nat}{w:World}(hwr:WR w0 E H nx w)(hgl:∀ g,g<P.globals.size->∃ s,E g=some ⟨g,0,s,undef,noOb,[]⟩){afs:List AFrame}{frs:List Frame}
  (hf:FrsR P cs0 E H nx afs frs){l:Nat}{p:Pl}(hp:E l=some p){args:List V}{xs:List Value}(ha:VRs E args xs){fr:Frame}{cs:List Frame}
  (hstep:∀ fn tmps a b,(Instr.yield p.blk xs.toArray).run P w=.ok (.round p.blk fn tmps a b) w->Go.step P (lone fr cs w)=.next (lone (Frame.round p.blk fn tmps a b .normal) frs w)) :
  Fin P w0 cs0 (rU l args afs H nx ih) fr cs w:=by
 unfold rU;cases ho:getH H l with
 |loop st pd fn tm sz ps assign body d=>
  simp only;have hobj:=hwr.objs l p hp;rw[ho] at hobj;obtain⟨tmps,q,h1,h2,h3,h4⟩:=hobj;subst h3;refine ke (tm:=tm) ps args xs tm tmps ha h2 fun tm' tmps' a1 a2 a3 a4=>?_
  have hy:(Instr.yield p.blk xs.toArray).run P w=.ok (.round p.blk fn tmps' assign body) w:=by
   have hg:(getObj p.blk).run P w=.ok (.loop { state:=st,pending:=pd,fn,tmps,params:=ps.toArray,assign,body,defers:=q.blk }) w:=by simp only[getObj,Sem.run,h4]
   have hz:(ps.toArray.zip xs.toArray).foldl (fun tmps (x:Nat×Value)=>tmps.setIfInBounds x.1 x.2) tmps=tmps':=by rw[a2];simp
   simp only[Instr.yield,Instr.getLoop,Sem.run_bind,hg,Result.andThen_ok];simp[a1,<- hz]
  refine Fin.step (hstep _ _ _ _ hy) ?_;refine hs E _ _ _ _ _ _ ⟨hwr,hgl,⟨nx,am _,hf⟩,rfl,rfl,⟨p,hp,rfl⟩,rfl,rfl,by simp only[Frame.round];exact a3,?_⟩;exact RunR.of ⟨_,_,rfl,rfl,_,_,rfl,rfl,_,_,rfl,rfl,rfl⟩ a4
 |_=>exact Fin.fail
structure Cur (P:Program)(w0:Bs)(cs0:List Frame)(E:Env)(b:Nat)(c:Ctx)(fr:Frame)(cs:List Frame)(w:World):Prop where
 wr:WR w0 E c.H c.nx w
 gl:∀ g,g<P.globals.size->∃ s,E g=some ⟨g,0,s,undef,noOb,[]⟩
 frs:FrsR P cs0 E c.H b c.cs cs
 ble:b<=c.nx
 fn:fr.fn=c.fn
 kind:fr.kind=c.kind
 round:gN E c.round fr.roundOf
 defers:DRs E c.ds fr.defers
 mode:fr.mode=.run
 size:fr.tmps.size=c.sz
theorem Cur.mr {b:Nat}{c:Ctx}{fr:Frame}{cs:List Frame}{w:World}(h:Cur P w0 cs0 E b c fr cs w){t:List AItem}{tm:T V}(ht:aU E t fr.todo)(htr:TR E tm fr.tmps) :
  MR P w0 cs0 E .run t { c with tm } fr cs w:=⟨h.wr,h.gl,⟨b,h.ble,h.frs⟩,h.fn,h.kind,h.round,h.defers,h.mode,h.size,RunR.of ht htr⟩
theorem lA {fr:Frame}(hgl:∀ g,g<P.globals.size->∃ s,E g=some ⟨g,0,s,undef,noOb,[]⟩){tm:T V}{x:Operand}(hx:ce P.globals.size x=true)(ht:∀ t,x=.tmp t->VR E (getU tm t) (fr.tmps.getD t undef)) :
  VR E ((ap x).ev tm) (fr.eval x):=by
 refine xh hx (fun t e=>?_) (fun v e=>?_) (fun f e=>?_) (fun g e hg=>?_)
 ·subst e;exact ht t rfl
 ·subst e;rfl
 ·subst e;rfl
 ·subst e
  obtain⟨s,hs⟩:=hgl g hg;have:=VR.ptr (E:=E) g 0 ⟨g,0,s,undef,noOb,[]⟩ hs;simpa[Frame.eval] using this
end
end Go.Exo
end

noncomputable section
namespace Go.Exo
variable [Sx] [Dc]
section
variable {P:Program}{w0:Bs}{cs0:List Frame}{E:Env}{ih:Ih}
theorem qh {o:Oper}{c:Call}(h:o.op=.defer c)(tm:T V)(H:T AObj)(nx:Nat):(∃ n,exOp (bK P o) tm H nx=.fail n)\/∃ d,exOp (bK P o) tm H nx=.defer d:=by
 unfold bK;cases hb:o.op.operands.toList.all (ce P.globals.size) with
 |false=>exact .inl ⟨_,rfl⟩
 |true=>
  rw[h];simp only[cond_true,ay];cases hc:c.callee with
  |value x=>
   show (∃ n,nw ((ap x).ev tm) (evL tm (c.args.toList.map ap))=.fail n)\/∃ d,nw ((ap x).ev tm) (evL tm (c.args.toList.map ap))=.defer d;cases (ap x).ev tm<;>first|exact .inl ⟨_,rfl⟩|exact .inr ⟨_,rfl⟩
  |_=>exact .inl ⟨_,rfl⟩
theorem Cur.mono {b:Nat}{c:Ctx}{fr:Frame}{cs:List Frame}{w:World}(h:Cur P w0 cs0 E b c fr cs w){E':Env}{H':T AObj}{nx':Nat}{w':World}(hE:E.le E')(hk:bM b E E' c.H H')(hn:c.nx<=nx')
  (hwr:WR w0 E' H' nx' w'):Cur P w0 cs0 E' b (c.setH H' nx') fr cs w':=
 ⟨hwr,fun g hg=>(h.gl g hg).imp fun s hs=>hE _ _ hs,h.frs.mono hE hk,Nat.le_trans h.ble hn,h.fn,h.kind,h.round.mono hE,h.defers.mono hE,h.mode,h.size⟩
theorem SR.of_reg {b:Nat}{c:Ctx}{fr:Frame}{cs:List Frame}{w:World}(h:Cur P w0 cs0 E b c fr cs w){ops:Array Oper}{draw:Bool}{s:PStep}{r:List PStep}{k:List AItem}{is:List Nat}{k':List Item}{tm:T V}
  (ht:fr.todo=.inRegion ops (s.idx::is)::k')(hk:aU E k k')(hreg:RegR P E c.H b c.nx ops draw s r is tm fr.tmps):SR P E c.H b c.nx (mN c tm (.steps (s::r) ops draw::k) .run) fr:=
 ⟨h.fn,h.kind,h.round,h.defers,h.mode,h.size,is,k',ht,hk,hreg⟩
theorem uK (hs:Sound P w0 cs0 ih){b:Nat}{c:Ctx}{fr:Frame}{cs:List Frame}{w:World}(hc:Cur P w0 cs0 E b c fr cs w){ops:Array Oper}{s:PStep}{r:List PStep}{is:List Nat}{k:List AItem}{k':List Item}{draw:Bool}
  (ht:fr.todo=.inRegion ops (s.idx::is)::k'){o:Oper}(ho:ops[s.idx]? = some o)(hw:Region.wanted o (yielded ops fr.tmps)=true)(hop:s.op=bK P o)(hk:aU E k k')
  {tm:T V}(hev:∀ x∈o.op.operands.toList,ce P.globals.size x=true->VR E ((ap x).ev tm) (fr.eval x))(hreg:RegR P E c.H b c.nx ops draw s r is tm fr.tmps)(hTR:draw=false->TR E tm fr.tmps){g:Go1}
  (hA:∀ E' H' nx' w' v x,E.le E'->bM c.nx E E' c.H H'->c.nx<=nx'->Cur P w0 cs0 E' b (c.setH H' nx') fr cs w'->VR E' v x->Fin P w0 cs0 (setD s.dst v tm c.sz fun tm'=>goOn s g (c.setH H' nx') tm') (fr.finish x) cs w')
  (hB:∀ (c':Ctx) fr' cs' v x,c'.H=c.H->c'.nx=c.nx->c'.sz=c.sz->Cur P w0 cs0 E b c' fr' cs' w->fr'.todo=fr.todo->fr'.tmps=fr.tmps->VR E v x->Fin P w0 cs0 (setD s.dst v tm c.sz fun tm'=>g tm' c') (fr'.finish x) cs' w) :
  Fin P w0 cs0 (jX P (exOp s.op tm c.H c.nx) s r g tm c { ops,draw,k,ih }) fr cs w:=by
 have hgood:=qe (tm:=tm) (ev:=fr.eval) hc.wr o hev;rw[<- hop] at hgood
 have hnd:(∀ n,exOp s.op tm c.H c.nx≠.fail n)->(∀ d,exOp s.op tm c.H c.nx≠.defer d)->fr.roundOf=none\/∀ c,o.op≠.defer c:=by
  intro h1 h2;refine .inr fun cc hcc=>?_
  rcases qh (P:=P) hcc tm c.H c.nx with⟨n,e⟩|⟨d,e⟩
  ·rw[<- hop] at e;exact h1 n e
  ·rw[<- hop] at e;exact h2 d e
 have hfrs:FrsR P cs0 E c.H c.nx (mN c tm (.steps (s::r) ops draw::k) .run::c.cs) (fr::cs):=⟨b,fr,cs,rfl,hc.ble,SR.of_reg hc ht hk hreg,hc.frs⟩
 cases hr:exOp s.op tm c.H c.nx with
 |fail n=>exact Fin.fail
 |val v=>
  rw[hr] at hgood;obtain⟨n,x,h1,h2,h3⟩:=hgood;refine Fin.step (eS hc.mode ht ho hw (hnd (by rw[hr];intro _ e;cases e) (by rw[hr];intro _ e;cases e)) h1 h2) ?_;exact hA E c.H c.nx w v x (Env.le.refl E) (fun _ _ h _=>⟨h,rfl⟩) (am _) hc h3
 |valH v H' nx'=>
  rw[hr] at hgood;obtain⟨n,x,w',E',h1,h2,h3,h4,h5,h6,h7⟩:=hgood;refine Fin.step (eS hc.mode ht ho hw (hnd (by rw[hr];intro _ e;cases e) (by rw[hr];intro _ e;cases e)) h1 h2) ?_;exact hA E' H' nx' w' v x h3 h7 h6 (hc.mono h3 (bM.le h7 hc.ble) h6 h5) h4
 |enter f args=>
  rw[hr] at hgood;show Fin P w0 cs0 (cq P f args .normal _ c.H c.nx ih) fr cs w;cases hfo:fnOf P f with
  |none=>unfold cq;rw[hfo];exact Fin.fail
  |some a=>
   obtain⟨xs,h1,h2⟩:=hgood a hfo;refine Fin.step (xm hc.mode ht ho hw (hnd (by rw[hr];intro _ e;cases e) (by rw[hr];intro _ e;cases e)) h1) ?_;exact gO hs hc.wr hc.gl hfrs h2 .normal
 |round l args=>
  rw[hr] at hgood;obtain⟨p,xs,h1,h2,h3⟩:=hgood;show Fin P w0 cs0 (rU l args _ c.H c.nx ih) fr cs w;refine round_ok hs hc.wr hc.gl hfrs h1 h3 fun fn tmps a b hy=>?_
  exact xn hc.mode ht ho hw (hnd (by rw[hr];intro _ e;cases e) (by rw[hr];intro _ e;cases e)) (by rw[h2];exact hy)
 |pan v=>
  rw[hr] at hgood;obtain⟨x,h1,h2⟩:=hgood;show Fin P w0 cs0 (rPan v s r g tm c { ops,draw,k,ih }) fr cs w;unfold rPan;refine Fin.cond (fun _=>Fin.fail) fun hb=>?_
  refine Fin.step (xp hc.mode ht ho hw (hnd (by rw[hr];intro _ e;cases e) (by rw[hr];intro _ e;cases e)) h1) ?_;refine hs E _ _ _ _ _ _ ⟨hc.wr,hc.gl,⟨b,hc.ble,hc.frs⟩,hc.fn,hc.kind,hc.round,hc.defers,⟨_,rfl,x,[],rfl,h2,rfl⟩,hc.size,?_⟩;cases draw with
  |false=>exact .inr (hTR rfl)
  |true=>
   refine .inl ?_;simp only[Bool.true_and,Bool.not_eq_false'] at hb;cases hds:c.ds with
   |nil=>rfl
   |cons _ _=>rw[hds] at hb;cases hb
 |recover=>
  rw[hr] at hgood;show Fin P w0 cs0 (rRec s r g tm c { ops,draw,k,ih }) fr cs w;unfold rRec;cases hck:c.kind<;>try exact Fin.fail
  cases hcr:c.round with
  |some _=>exact Fin.fail
  |none=>
   cases hcc:c.cs with
   |nil=>exact Fin.fail
   |cons f fs=>
    simp only;have hro:=hc.round;rw[hcr] at hro;have hfs:=hc.frs;rw[hcc] at hfs;obtain⟨lo,frc,rest,rfl,hlo,hsr,hfr⟩:=hfs;have hkind:fr.kind=.deferred:=by rw[hc.kind,hck]
    have hst:=su hc.mode ht ho hw (.inl hro) (w':=w) (cs:=frc::rest) hgood hro;have hmode:=hsr.2.2.2.2.1
    have hnone:tryRecover fr (frc::rest)=none->Fin P w0 cs0 (setD s.dst .nili tm c.sz fun tm=>g tm c) fr (frc::rest) w:=by
     intro hn;rw[hn] at hst;exact Fin.step hst (hB c fr (frc::rest) .nili .nilIface rfl rfl rfl hc rfl rfl .nili)
    cases hfm:f.mode with
    |run=>
     rw[hfm] at hmode;change frc.mode=.run at hmode;exact hnone (by simp[tryRecover,hkind,hmode])
    |returning=>
     rw[hfm] at hmode;change frc.mode=.returning at hmode;exact hnone (by simp[tryRecover,hkind,hmode])
    |panicking ch=>
     rw[hfm] at hmode;obtain⟨es,hes,hch⟩:=hmode;cases ch with
     |nil=>
      cases hch;exact hnone (by simp[tryRecover,hkind,hes])
     |cons vb old=>
      obtain⟨v,bb⟩:=vb;obtain⟨x,t,rfl,hx,hold⟩:=hch;cases bb with
      |true=>exact hnone (by simp[tryRecover,hkind,hes])
      |false=>
       have htr:tryRecover fr (frc::rest)=some (x,{ frc with mode:=.panicking ({ v:=x,recovered:=true }::t) }::rest):=by simp[tryRecover,hkind,hes]
       rw[htr] at hst;refine Fin.step hst ?_;have hh:=hB { c with cs:={ f with mode:=.panicking ((v,true)::old) }::fs } fr ({ frc with mode:=.panicking ({ v:=x,recovered:=true }::t) }::rest) v x rfl rfl rfl ?_ rfl rfl hx
       ·simp only[hcr,hck] at hh;exact hh
       refine⟨hc.wr,hc.gl,⟨lo,_,rest,rfl,hlo,?_,hfr⟩,hc.ble,hc.fn,hc.kind,hc.round,hc.defers,hc.mode,hc.size⟩;obtain⟨a1,a2,a3,a4,a5,a6,a7⟩:=hsr;rw[hfm] at a7;exact⟨a1,a2,a3,a4,⟨_,rfl,x,t,rfl,hx,hold⟩,a6,a7⟩
 |_=>
  rename_i d;rw[hr] at hgood;obtain⟨D,h1,h2⟩:=hgood;show Fin P w0 cs0 (rV d s r g tm c { ops,draw,k,ih }) fr cs w;unfold rV;cases hcr:c.round with
  |some _=>exact Fin.fail
  |none=>
   simp only;have hro:=hc.round;rw[hcr] at hro;refine Fin.step (xo hc.mode ht ho hw (.inl hro) h1) ?_
   have hh:=hB { c with ds:=d::c.ds } { fr with defers:=D::fr.defers } cs au undef rfl rfl rfl
    ⟨hc.wr,hc.gl,hc.frs,hc.ble,hc.fn,hc.kind,hc.round,⟨D,fr.defers,rfl,h2,hc.defers⟩,hc.mode,hc.size⟩ rfl rfl (VR.undef E)
   simp only[hcr] at hh;exact hh
end
end Go.Exo
end

noncomputable section
namespace Go.Exo
variable [Sx] [Dc]
section
variable {P:Program}{w0:Bs}{cs0:List Frame}{E:Env}{ih:Ih}
theorem mn {ops:Array Oper}{o:Oper}{tmps:Array Value}(h:o.guard=none):Region.wanted o (yielded ops tmps)=true:=by simp[Region.wanted,h]
theorem eE {ops:Array Oper}{o:Oper}{tmps:Array Value}{j t:Nat}{want b:Bool}(h:o.guard=some (j,want))(hd:(ops[j]?).bind (·.dst)=some t)(hv:tmps.getD t undef=.bool b) :
  Region.wanted o (yielded ops tmps)=(b==want):=by
 have:tmps[t]? = some (.bool b):=by
  rw[Array.getD_eq_getD_getElem?] at hv;cases hx:tmps[t]? with
  |none=>rw[hx] at hv;cases hv
  |some x=>rw[hx] at hv;simp at hv;rw[hv]
 simp only[Region.wanted,h,yielded,hd,Option.bind_some,this];cases b<;>cases want<;>rfl
theorem nU {ops:Array Oper}{o:Oper}{tmps:Array Value}{j t:Nat}{want:Bool}{vs:Array Value}(h:o.guard=some (j,want))(hd:(ops[j]?).bind (·.dst)=some t)(hv:tmps.getD t undef=.tuple vs) :
  Region.wanted o (yielded ops tmps)=false:=by
 rw[Array.getD_eq_getD_getElem?] at hv;simp only[Region.wanted,h,yielded,hd,Option.bind_some];cases hx:tmps[t]? with
 |none=>rfl
 |some x=>
  rw[hx] at hv;simp at hv;subst hv;rfl
theorem gd_ok (hdc:DecE E){ops:Array Oper}{o:Oper}{tmps:Array Value}{tm:T V}{t:Nat}{want:Bool}(hg:gdOf ops o=some (t,want))(hv:VR E (getU tm t) (tmps.getD t undef)){yes no:Out}{i:Nat}{fr:Frame}{cs:List Frame}{w:World}
  (hy:Region.wanted o (yielded ops tmps)=true->GYes (gdOf ops o) tm->Fin P w0 cs0 yes fr cs w)(hn:Region.wanted o (yielded ops tmps)=false->GNo (gdOf ops o) tm->Fin P w0 cs0 no fr cs w) :
  Fin P w0 cs0 (gdGo (gdOf ops o) tm yes no i) fr cs w:=by
 have hgd:∃ j,o.guard=some (j,want)/\(ops[j]?).bind (·.dst)=some t:=by
  unfold gdOf at hg;cases ho:o.guard with
  |none=>rw[ho] at hg;cases hg
  |some jw=>
   obtain⟨j,w'⟩:=jw;rw[ho] at hg;simp only at hg;cases hd:(ops[j]?).bind (·.dst) with
   |none=>rw[hd] at hg;cases hg
   |some t'=>rw[hd] at hg;cases hg;exact⟨j,rfl,hd⟩
 obtain⟨j,h1,h2⟩:=hgd;rw[hg] at hy hn ⊢;unfold gdGo;simp only;generalize hx:tmps.getD t undef=x at hv;cases hu:getU tm t with
 |bool b=>
  rw[hu] at hv;cases hv;simp only;have hw:=eE h1 h2 hx;refine Fin.cond (fun hb=>hy (by rw[hw,hb]) (.inr ⟨t,want,rfl,?_⟩)) fun hb=>hn (by rw[hw,hb]) ⟨t,want,rfl,.inl ⟨b,by rw[hu];rfl,fun e=>by rw[e] at hb;simp at hb⟩⟩
  rw[hu];rw[beq_iff_eq] at hb;rw[hb];rfl
 |x u=>
  simp only;cases hdu:Dc.dec u with
  |none=>exact Fin.fail
  |some b=>
   have hg:gB (getU tm t)=some b:=by rw[hu];exact hdu
   have hw:=eE h1 h2 (hx.trans (gB_ok hdc hv hg));simp only;refine Fin.cond (fun hb=>hy (by rw[hw,hb]) (.inr ⟨t,want,rfl,?_⟩)) fun hb=>hn (by rw[hw,hb]) ⟨t,want,rfl,.inl ⟨b,hg,fun e=>by rw[e] at hb;simp at hb⟩⟩
   rw[beq_iff_eq] at hb;rw[hg,hb]
 |tup vs=>
  rw[hu] at hv;cases hv;exact hn (nU h1 h2 hx) ⟨t,want,rfl,.inr ⟨vs,hu⟩⟩
 |_=>exact Fin.fail
theorem xu {ops:Array Oper}{o:Oper}(h:gdOf ops o=none)(hg:o.guard≠none):eP ops o=true:=by
 unfold gdOf at h;unfold eP;cases ho:o.guard with
 |none=>exact absurd ho hg
 |some jw=>
  obtain⟨j,w'⟩:=jw;rw[ho] at h;simp only at h ⊢;cases hd:(ops[j]?).bind (·.dst) with
  |none=>rfl
  |some t=>rw[hd] at h;cases h
theorem xv {ops:Array Oper}{o:Oper}{t:Nat}{want:Bool}(h:gdOf ops o=some (t,want)):eP ops o=false:=by
 unfold gdOf at h;unfold eP;cases ho:o.guard with
 |none=>rfl
 |some jw=>
  obtain⟨j,w'⟩:=jw;rw[ho] at h;simp only at h ⊢;cases hd:(ops[j]?).bind (·.dst) with
  |none=>rw[hd] at h;cases h
  |some t=>rfl
theorem lB {ops:Array Oper}{o:Oper}(h:o.guard=none):gdOf ops o=none/\eP ops o=false:=by
 unfold gdOf eP;rw[h];exact⟨rfl,rfl⟩
theorem cS {fr:Frame}{ops:Array Oper}{i:Nat}{is:List Nat}{k':List Item}{o:Oper}(ht:fr.todo=.inRegion ops (i::is)::k')(ho:ops[i]? = some o)(x:Value) :
  fr.finish x={ fr with tmps:=match o.dst with|some d=>fr.tmps.setIfInBounds d x|none=>fr.tmps,todo:=.inRegion ops is::k' }:=by
 unfold Frame.finish;rw[ht];simp only[ho,Option.bind_some];cases o.dst<;>rfl
theorem Cur.to {b:Nat}{c:Ctx}{fr:Frame}{cs:List Frame}{w:World}(h:Cur P w0 cs0 E b c fr cs w)(tmps:Array Value)(todo:List Item)(hs:tmps.size=fr.tmps.size):Cur P w0 cs0 E b c { fr with tmps,todo } cs w:=
 ⟨h.wr,h.gl,h.frs,h.ble,h.fn,h.kind,h.round,h.defers,h.mode,by show tmps.size=_;rw[hs];exact h.size⟩
theorem kf {b:Nat}{c:Ctx}{fr:Frame}{cs:List Frame}{w:World}(hc:Cur P w0 cs0 E b c fr cs w){ops:Array Oper}{i:Nat}{is:List Nat}{k':List Item}{o:Oper}(ht:fr.todo=.inRegion ops (i::is)::k')(ho:ops[i]? = some o)
  {tm:T V}(htr:TR E tm fr.tmps){v:V}{x:Value}(hv:VR E v x){kk:T V->Out}
  (hk:∀ tm' fr',Cur P w0 cs0 E b c fr' cs w->fr'.todo=.inRegion ops is::k'->TR E tm' fr'.tmps->Fin P w0 cs0 (kk tm') fr' cs w):Fin P w0 cs0 (setD o.dst v tm c.sz kk) (fr.finish x) cs w:=by
 rw[cS ht ho];refine Fin.setD (fun hd=>?_) fun t hd hlt=>?_
 ·rw[hd];exact hk tm _ (hc.to _ _ rfl) rfl htr
 ·rw[hd]
  refine hk _ _ (hc.to _ _ (by simp)) rfl ?_;exact htr.put hv (by rw[hc.size];exact hlt)
theorem qi {s:PStep}(h:s.again=[])(res:Res)(r:List PStep)(g:Go1)(tm:T V)(c:Ctx)(R:Reg):wD P res s r g tm c R=jX P res s r g tm c R:=by
 have e:∀ c tm,goOn s g c tm=g tm c:=fun c tm=>by unfold goOn;rw[h];rfl
 cases res<;>first|rfl|(simp only[wD,jX,rValF,rVal,rValHF,rValH,e])
theorem xw (hs:Sound P w0 cs0 ih)(ops:Array Oper)(k:List AItem)(k':List Item):∀ (n i:Nat),i+n=ops.size->∀ (E:Env)(b:Nat)(c:Ctx)(tm:T V)(fr:Frame)(cs:List Frame)(w:World),
  Cur P w0 cs0 E b c fr cs w->fr.todo=.inRegion ops (List.range' i n)::k'->aU E k k'->TR E tm fr.tmps->
  Fin P w0 cs0 (xs P { ops,draw:=false,k,ih } (bH P ops (ops.toList.drop i) i) tm c) fr cs w
 |0,i,hi,E,b,c,tm,fr,cs,w,hc,ht,hk,htr=>by
  have:ops.toList.drop i=[]:=List.drop_eq_nil_of_le (by simp;omega);rw[this];refine Fin.step (fF hc.mode ht) ?_;have hc':=hc.to fr.tmps k' rfl;exact hs E _ _ _ _ _ _ (hc'.mr hk htr)
 |n+1,i,hi,E,b,c,tm,fr,cs,w,hc,ht,hk,htr=>by
  have hlt:i<ops.size:=by omega
  have ho:ops[i]? = some ops[i]:=Array.getElem?_eq_getElem hlt;generalize hoo:ops[i]=o at ho
  have hdrop:ops.toList.drop i=o::ops.toList.drop (i+1):=by
   rw[List.drop_eq_getElem_cons (by simpa using hlt)];simp[hoo]
  rw[hdrop];rw[List.range'_succ] at ht;generalize hr:bH P ops (ops.toList.drop (i+1)) (i+1)=r;have hrec:=xw hs ops k k' n (i+1) (by omega);rw[hr] at hrec;have hplan:bH P ops (o::ops.toList.drop (i+1)) i=aF P ops i o::r:=by rw[<- hr];rfl
  rw[hplan];show Fin P w0 cs0 (iS P { ops,draw:=false,k,ih } (aF P ops i o) r (xs P { ops,draw:=false,k,ih } r) tm c) fr cs w;generalize hgg:xs P { ops,draw:=false,k,ih } r=g at hrec ⊢;have hev:∀ x∈o.op.operands.toList,ce P.globals.size x=true->VR E ((ap x).ev tm) (fr.eval x):=fun x _ hx=>lA hc.gl hx fun t _=>htr t
  have hreg:RegR P E c.H b c.nx ops false (aF P ops i o) r (List.range' (i+1) n) tm fr.tmps:=.inl ⟨rfl,o,i,ho,rfl,hr.symm,by congr 1;omega,htr⟩
  have main:eP ops o=false->Region.wanted o (yielded ops fr.tmps)=true->Fin P w0 cs0 (jX P (exOp (aF P ops i o).op tm c.H c.nx) (aF P ops i o) r g tm c { ops,draw:=false,k,ih }) fr cs w:=by
   intro hbad hw;refine uK hs hc (s:=aF P ops i o) (draw:=false) ht ho hw (by simp only[aF,hbad,cond_false]) hk hev hreg (fun _=>htr) ?_ ?_
   ·intro E' H' nx' w' v x hE hkk hn hc' hv
    refine kf hc' ht ho (htr.mono hE) hv fun tm' fr' c1 c2 c3=>?_
    show Fin P w0 cs0 (g tm' (c.setH H' nx')) fr' cs w';exact hrec E' b _ tm' fr' cs w' c1 c2 (hk.mono hE) c3
   ·intro c' fr' cs' v x e1 e2 e3 hc' e4 e5 hv
    rw[<- e3];refine kf hc' (by rw[e4];exact ht) ho (by rw[e5];exact htr) hv fun tm' fr'' c1 c2 c3=>?_
    exact hrec E b _ tm' fr'' cs' w c1 c2 hk c3
  cases hg:o.guard with
  |none=>
   have hf:(aF P ops i o).fast=true:=by simp[aF,hg]
   unfold iS;rw[hf];show Fin P w0 cs0 (nG P (aF P ops i o) r g tm c { ops,draw:=false,k,ih }) fr cs w;unfold nG;rw[qi rfl];exact main (lB hg).2 (mn hg)
  |some jw=>
   have hf:(aF P ops i o).fast=false:=by simp[aF,hg]
   unfold iS;rw[hf];show Fin P w0 cs0 (ui P (aF P ops i o) r g tm c { ops,draw:=false,k,ih }) fr cs w;unfold ui;show Fin P w0 cs0 (gdGo (gdOf ops o) tm (jX P (exOp (aF P ops i o).op tm c.H c.nx) (aF P ops i o) r g tm c { ops,draw:=false,k,ih }) (setD o.dst au tm c.sz fun tm=>g tm c) i) fr cs w;cases hgo:gdOf ops o with
   |none=>
    have hbad:=xu hgo (by rw[hg];intro h;cases h);have:(aF P ops i o).op=.bad:=by simp only[aF,hbad,cond_true]
    rw[this];exact Fin.fail
   |some tw=>
    obtain⟨t,want⟩:=tw
    have hgd:=gd_ok hc.wr.decE (P:=P) (w0:=w0) (cs0:=cs0) (tmps:=fr.tmps) (tm:=tm) hgo (htr t) (yes:=jX P (exOp (aF P ops i o).op tm c.H c.nx) (aF P ops i o) r g tm c { ops,draw:=false,k,ih }) (no:=setD o.dst au tm c.sz fun tm=>g tm c) (i:=i) (fr:=fr) (cs:=cs) (w:=w)
     (fun hw _=>main (xv hgo) hw) (fun hw _=>by
      refine Fin.step (lz hc.mode ht (by rw[ho];exact hw)) ?_
      refine kf hc ht ho htr (VR.undef E) fun tm' fr' c1 c2 c3=>?_
      exact hrec E b _ tm' fr' cs w c1 c2 hk c3)
    rw[hgo] at hgd;exact hgd
end
end Go.Exo
end
