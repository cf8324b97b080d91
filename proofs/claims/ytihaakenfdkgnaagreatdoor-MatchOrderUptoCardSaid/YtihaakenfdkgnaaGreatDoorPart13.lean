/-
  EXO, part ZM: a loop over a map, whatever the order. Own text.
-/
import Derived.Test.YtihaakenfdkgnaaGreatDoorPart12
import Derived.Test.YtihaakenfdkgnaaGreatDoorPart2
set_option linter.all false
noncomputable section
namespace Go.Exo
variable [Sx] [Dc] [Tb]
section
variable {P:Program}{w0:Bs}{E:Env}
theorem WR.same {H H':T AObj}{nx:Nat}{w:World}(h:WR w0 E H nx w)(hh:∀ l,getH H' l=getH H l):WR w0 E H' nx w:=by
 refine⟨fun l p hl=>?_,fun l hl=>⟨(h.fresh l hl).1,by rw[hh];exact (h.fresh l hl).2⟩,fun l l' p p' a1 a2 a3 a4=>by rw[hh,hh];exact h.sep l l' p p' a1 a2 a3 a4,fun l hl=>?_,fun l p hl=>by rw[hh];exact h.own l p hl,h.old,h.size,h.os,h.output,h.tape,h.le,fun l p hl b o v hf=>⟨(h.dat l p hl b o v hf).1,fun l' p' hl' hb'=>by rw[hh];exact (h.dat l p hl b o v hf).2 l' p' hl' hb'⟩,h.dec,h.fzo⟩
 ·rw[hh]
  exact (h.objs l p hl).trans (Env.le.refl E) fun pos ho=>ho.same fun _=>hh _
 ·rw[hh] at hl ⊢
  rw[hh];exact h.cls l hl
theorem WR.name {H:T AObj}{nx n2:Nat}{w:World}{E2:Env}(h:WR w0 E H nx w)(hlt:∀ l,l<nx->E2 l=E l)(hnew:∀ l p,nx<=l->E2 l=some p->p.blk<w.heap.size)(hend:∀ l,n2<=l->E2 l=none)(hle:nx<=n2)(hfz:∀ l p,nx<=l->E2 l=some p->∀ b o,p.ob.fz b o=none):WR w0 E2 H n2 w:=by
 have hno:∀ l,nx<=l->getH H l=.no:=fun l hl=>(h.fresh l hl).2
 have hE:E.le E2:=fun l p hp=>by
  have:l<nx:=Nat.lt_of_not_le fun hh=>by rw[(h.fresh l hh).1] at hp;cases hp
  rw[hlt l this];exact hp
 have hcase:∀ l p,E2 l=some p->getH H l≠.no->E l=some p:=fun l p hp hn=>by
  have:l<nx:=Nat.lt_of_not_le fun hh=>hn (hno l hh)
  rw[hlt l this] at hp;exact hp
 refine⟨fun l p hl=>?_,fun l hl=>⟨hend l hl,hno l (by omega)⟩,fun l l' p p' a1 a2 a3 a4=>?_,fun l hl=>?_,fun l p hl=>?_,h.old,h.size,h.os,h.output,h.tape,h.le.trans hE,fun l p hl b o v hf=>?dat,h.dec,fun l p hl b o v hf ho=>by
  by_cases n:nx<=l
  ·rw[hfz l p n hl] at hf;cases hf
  ·rw[hlt l (by omega)] at hl;exact h.fzo l p hl b o v hf ho⟩
 case dat=>
  by_cases n:nx<=l
  ·rw[hfz l p n hl] at hf;cases hf
  rw[hlt l (by omega)] at hl;obtain⟨h1,h2⟩:=h.dat l p hl b o v hf;refine⟨h1,fun l' p' hl' hb'=>?_⟩;by_cases n':nx<=l'
  ·rw[hno l' n'];exact .inl rfl
  ·rw[hlt l' (by omega)] at hl';exact h2 l' p' hl' hb'
 ·by_cases n:getH H l=.no
  ·rw[n];trivial
  ·exact (h.objs l p (hcase l p hl n)).trans hE fun _ ho=>ho
 ·by_cases n:getH H l=.no
  ·exact .inl (.inl n)
  by_cases n':getH H l'=.no
  ·exact .inl (.inr (.inl n'))
  exact h.sep l l' p p' a1 (hcase l p a2 n) (hcase l' p' a3 n') a4
 ·obtain⟨cur,lim,mk,h1,h2,h3⟩:=h.cls l hl
  have hlt1:aw (getH H l)<nx:=Nat.lt_of_not_le fun hh=>by rw[hno _ hh] at h1;cases h1
  exact⟨cur,lim,mk,h1,h2,by rw[hlt _ hlt1];exact h3⟩
 ·by_cases n:nx<=l
  ·exact⟨hnew l p n hl,.inl (hno l n)⟩
  ·rw[hlt l (by omega)] at hl;exact h.own l p hl
theorem WR.drop {H:T AObj}{nx:Nat}{w:World}{r:Nat}(h:WR w0 E H nx w)(hc:aw (getH H r)=0)(hcl:a8 (getH H r)=false):WR w0 E (put .no H r .no) nx w:=by
 have hget:∀ l,l≠r->getH (put .no H r .no) l=getH H l:=fun l e=>by rw[ar,if_neg e]
 have hself:getH (put .no H r .no) r=.no:=by rw[ar,if_pos rfl]
 have hcr:∀ l,aw (getH H l)≠0->aw (getH H l)≠r:=fun l hl e=>by
  obtain⟨cur,lim,mk,h1,_⟩:=h.cls l hl;rw[e] at h1;rw[h1] at hcl;cases hcl
 refine⟨fun l p hl=>?_,fun l hl=>⟨(h.fresh l hl).1,?_⟩,fun l l' p p' a1 a2 a3 a4=>?_,fun l hl=>?_,fun l p hl=>?_,h.old,h.size,h.os,h.output,h.tape,h.le,fun l p hl b o v hf=>⟨(h.dat l p hl b o v hf).1,fun l' p' hl' hb'=>by
  by_cases e:l'=r
  ·subst e;rw[hself];exact .inl rfl
  ·rw[hget l' e];exact (h.dat l p hl b o v hf).2 l' p' hl' hb'⟩,h.dec,h.fzo⟩
 ·by_cases e:l=r
  ·subst e;rw[hself];trivial
  ·rw[hget l e]
   refine (h.objs l p hl).trans (Env.le.refl E) fun pos ho=>?_
   by_cases c0:aw (getH H l)=0
   ·exact .inl c0
   ·exact ho.same fun _=>hget _ (hcr l c0)
 ·by_cases e:l=r
  ·subst e;exact hself
  ·rw[hget l e];exact (h.fresh l hl).2
 ·by_cases e:l=r
  ·subst e;exact .inl (.inl hself)
  by_cases e':l'=r
  ·subst e';exact .inl (.inr (.inl hself))
  rw[hget l e,hget l' e'];exact h.sep l l' p p' a1 a2 a3 a4
 ·by_cases e:l=r
  ·subst e;rw[hself] at hl;exact absurd rfl hl
  rw[hget l e] at hl ⊢;rw[hget _ (hcr l hl)];exact h.cls l hl
 ·by_cases e:l=r
  ·subst e;exact⟨(h.own l p hl).1,.inl hself⟩
  ·rw[hget l e];exact h.own l p hl
theorem VR.lone {v:V}{x:Value}(h:VR E v x)(hl:v.lone=true):x.cells=#[x]:=by
 cases h<;>first|rfl|assumption|exact (CR.one (by assumption)).1|(simp[V.lone] at hl;done)
theorem ERs.mem:∀ {es:List (V×V×Nat)}{xs:List MapEntry},ERs E es xs->∀ x∈xs,∃ e∈es,VR E e.1 x.key/\VR E e.2.1 x.val/\x.born=e.2.2
 |[],[],_,x,hx=>by cases hx
 |(k,v,b)::r,y::ys,⟨h1,h2,h3,h4⟩,x,hx=>by
  cases hx with
  |head=>exact⟨_,.head _,h1,h2,h3⟩
  |tail _ hx=>obtain⟨e,he,g⟩:=ERs.mem h4 x hx;exact⟨e,.tail _ he,g⟩
theorem ERs.mem':∀ {es:List (V×V×Nat)}{xs:List MapEntry},ERs E es xs->∀ e∈es,∃ x∈xs,x.born=e.2.2
 |[],[],_,e,he=>by cases he
 |(k,v,b)::r,y::ys,⟨h1,h2,h3,h4⟩,e,he=>by
  cases he with
  |head=>exact⟨y,.head _,h3⟩
  |tail _ he=>obtain⟨x,hx,g⟩:=ERs.mem' h4 e he;exact⟨x,.tail _ hx,g⟩
theorem yP {fr:Frame}{cs:List Frame}{w w':World}{b rest:Code}{t d1 d2:Nat}{r:List Item}(hm:fr.mode=.run)(hro:fr.roundOf=none)(ht:fr.todo=.code b::r)(hb:dE b=some (t,d1,d2,rest))
  {x:Value}(hx:fr.tmps.getD t undef=x){xs:Array Value}{y:Value}(hr:∀ ty,(Instr.next x false ty).run P w=.ok (.tuple xs) w')(hy:xs[0]? = some y)(h1:d1<fr.tmps.size) :
  Steps P (lone fr cs w) (lone { fr with tmps:=(fr.tmps.setIfInBounds d1 (.tuple xs)).setIfInBounds d2 y,todo:=.code rest::r } cs w'):=by
 obtain⟨id,ops,o1,o2,rfl,ho,a1,a2,a3,b1,b2,b3⟩:=pP hb
 have hops:ops=#[o1,o2]:=by
  apply Array.ext';simpa using ho
 subst hops;refine (Steps.one (st_seq hm ht)).trans ?_;refine (Steps.one (qg (fr:={ fr with todo:=.code (.region id #[o1,o2] false)::.code rest::r }) hm rfl)).trans ?_;have hrange:List.range (#[o1,o2]:Array Oper).size=[0,1]:=rfl;rw[hrange];have hw1:Region.wanted o1 (yielded #[o1,o2] fr.tmps)=true:=by simp[Region.wanted,a3]
 have hv1:(execOp ({ fr with todo:=.inRegion #[o1,o2] [0,1]::.code rest::r }:Frame).eval o1).run P w=.ok (.value (.tuple xs)) w':=by
  unfold execOp;rw[a1];have:({ fr with todo:=.inRegion #[o1,o2] [0,1]::.code rest::r }:Frame).eval (.tmp t)=x:=hx;simp only[this,Sem.run_bind,hr,Result.andThen_ok,Sem.run_pure]
 refine (Steps.one (eS (fr:={ fr with todo:=.inRegion #[o1,o2] [0,1]::.code rest::r }) hm rfl rfl hw1 (.inl hro) hv1 rfl)).trans ?_;rw[cS (o:=o1) rfl rfl,a2];have hw2:Region.wanted o2 (yielded #[o1,o2] (fr.tmps.setIfInBounds d1 (.tuple xs)))=true:=by simp[Region.wanted,b3]
 have hv2:(execOp ({ fr with tmps:=fr.tmps.setIfInBounds d1 (.tuple xs),todo:=.inRegion #[o1,o2] [1]::.code rest::r }:Frame).eval o2).run P w'=.ok (.value y) w':=by
  unfold execOp;rw[b1]
  have:({ fr with tmps:=fr.tmps.setIfInBounds d1 (.tuple xs),todo:=.inRegion #[o1,o2] [1]::.code rest::r }:Frame).eval (.tmp d1)=.tuple xs:=by
   show (fr.tmps.setIfInBounds d1 (.tuple xs)).getD d1 undef=_;simp[h1]
  simp only[this,Instr.extract,hy,Sem.run_bind,Sem.run_pure,Result.andThen_ok]
 refine (Steps.one (eS (fr:={ fr with tmps:=fr.tmps.setIfInBounds d1 (.tuple xs),todo:=.inRegion #[o1,o2] [1]::.code rest::r }) hm rfl rfl hw2 (.inl hro) hv2 rfl)).trans ?_;rw[cS (o:=o2) rfl rfl,b2];exact Steps.one (fF (fr:={ fr with tmps:=(fr.tmps.setIfInBounds d1 (.tuple xs)).setIfInBounds d2 y,todo:=.inRegion #[o1,o2] []::.code rest::r }) hm rfl)
theorem Ax {α:Type}(p q:α->Bool)(hpq:∀ x,q x=true->p x=true):∀ (l:List α)(e:α),e∈l->p e=true->q e=false->(l.filter q).length<(l.filter p).length:=by
 have hle:∀ l:List α,(l.filter q).length<=(l.filter p).length:=by
  intro l;induction l with
  |nil=>exact am _
  |cons x r ih=>
   simp only[List.filter_cons];cases hq:q x with
   |true=>rw[hpq x hq];simp;exact ih
   |false=>
    cases hp:p x with
    |true=>simp;omega
    |false=>simpa using ih
 intro l;induction l with
 |nil=>intro e he;cases he
 |cons x r ih=>
  intro e he hp hq;simp only[List.filter_cons];cases he with
  |head=>rw[hp,hq];have:=hle r;simp;omega
  |tail _ he=>
   have:=ih e he hp hq;cases hq':q x with
   |true=>rw[hpq x hq'];simpa using this
   |false=>
    cases hp':p x with
    |true=>simp;omega
    |false=>simpa using this
def envD (E:Env)(nx blk:Nat)(vals:Nat->Value)(n:Nat)(tl:List Item):Env:=fun l=>
 if l<nx then E l else if l<nx+n then some ⟨blk,0,0,vals (l-nx),noOb,[]⟩ else if l=nx+n then some ⟨blk,0,0,undef,noOb,tl⟩ else none
section
variable {nx blk n:Nat}{vals:Nat->Value}{tl:List Item}
theorem sI {l:Nat}(h:l<nx):envD E nx blk vals n tl l=E l:=by unfold envD;rw[if_pos h]
theorem yQ {j:Nat}(h:j<n):envD E nx blk vals n tl (nx+j)=some ⟨blk,0,0,vals j,noOb,[]⟩:=by
 unfold envD;rw[if_neg (by omega),if_pos (by omega)];congr 2;congr 1;omega
theorem envD_end:envD E nx blk vals n tl (nx+n)=some ⟨blk,0,0,undef,noOb,tl⟩:=by
 unfold envD;rw[if_neg (by omega),if_neg (by omega),if_pos rfl]
theorem yR {l:Nat}(h:nx+n+1<=l):envD E nx blk vals n tl l=none:=by
 unfold envD;rw[if_neg (by omega),if_neg (by omega),if_neg (by omega)]
theorem u4 {l:Nat}{p:Pl}(h:nx<=l)(hp:envD E nx blk vals n tl l=some p):p.blk=blk:=by
 unfold envD at hp;rw[if_neg (by omega)] at hp;split at hp
 ·cases hp;rfl
 ·split at hp
  ·cases hp;rfl
  ·cases hp
theorem yS {l:Nat}{p:Pl}(h:nx<=l)(hp:envD E nx blk vals n tl l=some p):∀ b o,p.ob.fz b o=none:=by
 unfold envD at hp;rw[if_neg (by omega)] at hp;split at hp
 ·cases hp;exact fun _ _=>rfl
 ·split at hp
  ·cases hp;exact fun _ _=>rfl
  ·cases hp
theorem yT (h:∀ l,nx<=l->E l=none):E.le (envD E nx blk vals n tl):=fun l p hp=>by
 have:l<nx:=Nat.lt_of_not_le fun hh=>by rw[h l hh] at hp;cases hp
 rw[sI this];exact hp
end
def QT (E:Env)(tm:T V)(res:V×V×Nat->List V)(es:List (V×V×Nat))(seen:Array Nat)(d j:Nat)(x:Value):Turn->Prop
 |.no=>VR E (getU tm d) x
 |.one v=>∀ e∈es,(res e)[j]? = some v->e.2.2∈seen->VR E v x
 |.many=>True
structure LI (w0:Bs)(E:Env)(H1:T AObj)(c:Ctx)(pr pm:Pl)(since d1 d2:Nat)(D:List Nat)(ts:List Turn)(res:V×V×Nat->List V)(es:List (V×V×Nat))(seen:Array Nat)(todo:List Item)(fr:Frame)(w:World):Prop where
 wr:WR w0 E H1 c.nx w
 it:∃ last,w.heap[pr.blk]? = some (.mapIter (some pm.blk) since seen last)/\since<=last
 fn:fr.fn=c.fn
 kind:fr.kind=.normal
 round:fr.roundOf=none
 defers:fr.defers=[]
 mode:fr.mode=.run
 size:fr.tmps.size=c.sz
 todo:fr.todo=todo
 slots:∀ i,i≠d1->i≠d2->i∉D->VR E (getU c.tm i) (fr.tmps.getD i undef)
 lone:∀ d∈D,(fr.tmps.getD d undef).cells=#[fr.tmps.getD d undef]
 turns:∀ j d t,D[j]? = some d->ts[j]? = some t->QT E c.tm res es seen d j (fr.tmps.getD d undef) t
theorem oc {rest:Code}{c:Ctx}{H:T AObj}{r m clock d1 d2 L:Nat}{D:List Nat}{tm:T V}{ih:Ih}{e:V×V×Nat}{vs:List V}(h:ct rest c H r m clock d1 d2 L D tm ih e=some vs) :
  ∃ c' k1,ih .run [.code rest,.halt L] { c with tm:=put au (put au tm d1 (.tup [.bool true,e.1,e.2.1])) d2 (.bool true),cs:=[],H:=put .no H r (.mit m e.2.2 clock),nx:=L+1 }=.st .run (.halt L::k1) c'/\
   c'.cs=[]/\c'.ds=[]/\c'.round=none/\c'.fn=c.fn/\c'.sz=c.sz/\c'.kind=c.kind/\fv c'.tm D=true/\
   im (d1::d2::D) c'.tm (put au (put au tm d1 (.tup [.bool true,e.1,e.2.1])) d2 (.bool true)) c.sz=true/\vs=D.map (getU c'.tm):=by
 unfold ct at h;simp only[bO] at h;split at h
 ·rename_i L' k1 c' he
  split at h
  ·rename_i q1 q2 q3
   cases hb:(Nat.beq L' L&&Nat.beq c'.fn c.fn&&Nat.beq c'.sz c.sz&&nJ c'.kind c.kind&&fv c'.tm D&&im (d1::d2::D) c'.tm (put au (put au tm d1 (.tup [.bool true,e.1,e.2.1])) d2 (.bool true)) c.sz) with
   |false=>rw[hb] at h;cases h
   |true=>
    rw[hb] at h;simp only[cond_true,Option.some.injEq] at h;simp only[Bool.and_eq_true] at hb;obtain⟨⟨⟨⟨⟨b1,b2⟩,b3⟩,b4⟩,b5⟩,b6⟩:=hb;have e1:=aa b1;subst e1
    have e4:c'.kind=c.kind:=by
     unfold nJ at b4;split at b4
     ·rename_i g1 g2;rw[g1,g2]
     ·cases b4
    exact⟨c',k1,he,q1,q2,q3,aa b2,aa b3,e4,b5,b6,h.symm⟩
  ·cases h
 ·cases h
section
variable {cs:List Frame}{c:Ctx}{b rest:Code}{t d1 d2 r m since:Nat}{D:List Nat}{es:List (V×V×Nat)}{k':List Item}{ih:Ih}{kk:Nat}{G:World->Prop}{pr pm:Pl}{ts:List Turn}
theorem loop_run (hG:Gd0 kk G)(hGB:GB kk G w0)(hsnd:∀ b cs,GB kk G b->Sound P b cs ih)(hgl:∀ g,g<P.globals.size->∃ s,E g=some ⟨g,0,s,undef,noOb,[]⟩)
  (hrl:dE b=some (t,d1,d2,rest))(htm:getU c.tm t=.ptr r 0)(hHr:getH c.H r=.mit0 m since)(hHm:getH c.H m=.map es since)(hround:c.round=none)(hds:c.ds=[])(hkind:c.kind=.normal)
  (ht1:t≠d1)(ht2:t≠d2)(htD:t∉D)(h12:d1≠d2)(h1D:d1∉D)(h2D:d2∉D)(hDn:D.Nodup)(hz1:d1<c.sz)(hz2:d2<c.sz)(hb1:∀ e∈es,e.2.2<since)(hb2:∀ e∈es,∀ e'∈es,e.2.2=e'.2.2->e=e')
  (hEr:E r=some pr)(hbase:pr.base=0)(hEm:E m=some pm)
  (hrsep:∀ l p,l≠r->E l=some p->p.blk=pr.blk->getH c.H l=.no)(hrold:¬ w0.old pr.blk)(hz:∀ l p b o v,E l=some p->p.ob.fz b o=some v->b≠pr.blk)
  (hres:∀ e∈es,∃ vs,ct rest c (roT c.H) r m since d1 d2 (c.nx+D.length) D (tops D c.nx c.tm) ih e=some vs)(hlen:ts.length=D.length)
  (hts:∀ j t,ts[j]? = some t->TInv (fun e=>(ct rest c (roT c.H) r m since d1 d2 (c.nx+D.length) D (tops D c.nx c.tm) ih e).getD []) c.nx j es t) :
  ∀ n fr w seen,(es.filter fun e=>decide (e.2.2∉seen)).length<n->
   LI w0 E (put .no c.H r .no) c pr pm since d1 d2 D ts (fun e=>(ct rest c (roT c.H) r m since d1 d2 (c.nx+D.length) D (tops D c.nx c.tm) ih e).getD []) es seen (.code b::.inLoop b::k') fr w->
   ∃ fr' w' seen',Steps P (lone fr cs w) (lone fr' cs w')/\LI w0 E (put .no c.H r .no) c pr pm since d1 d2 D ts (fun e=>(ct rest c (roT c.H) r m since d1 d2 (c.nx+D.length) D (tops D c.nx c.tm) ih e).getD []) es seen' (.code rest::.inLoop b::k') fr' w'/\
    (∀ e∈es,e.2.2∈seen')/\fr'.tmps.getD d1 undef=.tuple #[.bool false]/\fr'.tmps.getD d2 undef=.bool false:=by
 generalize hresd:(fun e=>(ct rest c (roT c.H) r m since d1 d2 (c.nx+D.length) D (tops D c.nx c.tm) ih e).getD [])=res at hts ⊢;have hself:getH (put .no c.H r .no) r=.no:=by rw[ar,if_pos rfl]
 have hget:∀ l,l≠r->getH (put .no c.H r .no) l=getH c.H l:=fun l e=>by rw[ar,if_neg e]
 have hmr:m≠r:=fun e=>by rw[e,hHr] at hHm;cases hHm
 have hsep1:∀ l p,l≠r->E l=some p->p.blk=pr.blk->getH (put .no c.H r .no) l=.no:=fun l p e hl hb=>by rw[hget l e];exact hrsep l p e hl hb
 intro n;induction n with
 |zero=>intro fr w seen hn _;omega
 |succ n ihn=>
  intro fr w seen hn hli;obtain⟨last,hit,hla⟩:=hli.it
  have hx:fr.tmps.getD t undef=.pointer (some ⟨pr.blk,0,none⟩):=by
   have:=hli.slots t ht1 ht2 htD;rw[htm] at this;generalize fr.tmps.getD t undef=x at this;cases this with
   |ptr l off p hp=>rw[hEr] at hp;cases hp;rw[hbase]
  have hobj:=hli.wr.objs m pm hEm;rw[hget m hmr,hHm] at hobj;obtain⟨es',hmap,hers⟩:=hobj
  have hborn:∀ e∈es',e.born<since:=fun e he=>by
   obtain⟨a,ha,_,_,hb⟩:=hers.mem e (by simpa using he);rw[hb];exact hb1 a ha
  have hs1:d1<fr.tmps.size:=by rw[hli.size];exact hz1
  have hs2:d2<fr.tmps.size:=by rw[hli.size];exact hz2
  have hgD:∀ (x y:Value)(i:Nat),i≠d1->i≠d2->((fr.tmps.setIfInBounds d1 x).setIfInBounds d2 y).getD i undef=fr.tmps.getD i undef:=fun x y i e1 e2=>by
   simp[Ne.symm e1,Ne.symm e2]
  have hg1:∀ (x y:Value),((fr.tmps.setIfInBounds d1 x).setIfInBounds d2 y).getD d1 undef=x:=fun x y=>by
   simp[Ne.symm h12,hs1]
  have hg2:∀ (x y:Value),((fr.tmps.setIfInBounds d1 x).setIfInBounds d2 y).getD d2 undef=y:=fun x y=>by
   simp[hs2]
  have hd1:∀ d∈D,d≠d1/\d≠d2:=fun d hd=>⟨fun e=>h1D (e ▸ hd),fun e=>h2D (e ▸ hd)⟩
  by_cases hall:∀ e∈es',e.born∈seen
  ·
   obtain⟨dr,hnext⟩:∃ d,∀ ty,(Instr.next (.pointer (some ⟨pr.blk,0,none⟩)) false ty).run P w=.ok (.tuple #[.bool false]) { w with drawn:=d }:=by
    obtain⟨_,d,h⟩|⟨e,d,he,hne,_⟩:=fD (P:=P) (ty:=0) hit hmap hborn hla
    ·exact⟨d,fun ty=>h⟩
    ·exact absurd (hall e he) hne
   refine⟨_,_,seen,yP hli.mode hli.round hli.todo hrl hx hnext (y:=.bool false) rfl hs1,?_,fun e he=>?_,hg1 _ _,hg2 _ _⟩
   ·refine⟨hli.wr.turn hEr hself hsep1 hrold hz (fun _ _=>rfl) rfl rfl rfl rfl,⟨last,hit,hla⟩,hli.fn,hli.kind,hli.round,hli.defers,hli.mode,by simp[hli.size],rfl,fun i a1 a2 a3=>?_,fun d hd=>?_,fun j d t' hj ht'=>?_⟩
    ·show VR E _ (((fr.tmps.setIfInBounds d1 _).setIfInBounds d2 _).getD i undef)
     rw[hgD _ _ i a1 a2];exact hli.slots i a1 a2 a3
    ·show (((fr.tmps.setIfInBounds d1 _).setIfInBounds d2 _).getD d undef).cells=#[((fr.tmps.setIfInBounds d1 _).setIfInBounds d2 _).getD d undef]
     rw[hgD _ _ d (hd1 d hd).1 (hd1 d hd).2];exact hli.lone d hd
    ·have hd:=List.mem_of_getElem? hj
     show QT E c.tm res es seen d j (((fr.tmps.setIfInBounds d1 _).setIfInBounds d2 _).getD d undef) t';rw[hgD _ _ d (hd1 d hd).1 (hd1 d hd).2];exact hli.turns j d t' hj ht'
   ·obtain⟨x,hx1,hx2⟩:=hers.mem' e he
    rw[<- hx2];exact hall x (by simpa using hx1)
  ·
   obtain⟨me,dr,hme,hnew,hnext⟩:∃ e d,e∈es'/\e.born∉seen/\∀ ty,(Instr.next (.pointer (some ⟨pr.blk,0,none⟩)) false ty).run P w=.ok (.tuple #[.bool true,e.key,e.val]) { w with heap:=w.heap.setIfInBounds pr.blk (.mapIter (some pm.blk) since (seen.push e.born) since),drawn:=d }:=by
    obtain⟨h,_⟩|⟨e,d,he,hne,h⟩:=fD (P:=P) (ty:=0) hit hmap hborn hla
    ·exact absurd h hall
    ·exact⟨e,d,he,hne,fun ty=>h⟩
   obtain⟨e,he,hvk,hvv,hbe⟩:=hers.mem me (by simpa using hme);rw[hbe] at hnew hnext;have hblk:pr.blk<w.heap.size:=(ag.1 hit).1;generalize hw1:({ w with heap:=w.heap.setIfInBounds pr.blk (.mapIter (some pm.blk) since (seen.push e.2.2) since),drawn:=dr }:World)=w1 at hnext
   have hwr1:WR w0 E (put .no c.H r .no) c.nx w1:=by
    subst hw1
    exact hli.wr.turn hEr hself hsep1 hrold hz (fun k hk=>by
     show (w.heap.setIfInBounds pr.blk _)[k]? = _
     rw[Array.getElem?_setIfInBounds_ne (Ne.symm hk)]) (by simp) rfl rfl rfl
   have hit1:w1.heap[pr.blk]? = some (.mapIter (some pm.blk) since (seen.push e.2.2) since):=by
    subst hw1;show (w.heap.setIfInBounds pr.blk _)[pr.blk]? = _;rw[Array.getElem?_setIfInBounds_self_of_lt hblk]
   have hsz1:w1.heap.size=w.heap.size:=by subst hw1;simp
   refine ?_;generalize hfr1:({ fr with tmps:=(fr.tmps.setIfInBounds d1 (.tuple #[.bool true,me.key,me.val])).setIfInBounds d2 (.bool true),todo:=.code rest::.inLoop b::k' }:Frame)=fr1
   have hst1:Steps P (lone fr cs w) (lone fr1 cs w1):=by
    rw[<- hfr1];exact yP hli.mode hli.round hli.todo hrl hx hnext (y:=.bool true) rfl hs1
   generalize hE2:envD E c.nx pr.blk (fun j=>fr.tmps.getD (D.getD j 0) undef) D.length (.inLoop b::k')=E2;have hlt2:∀ l,l<c.nx->E2 l=E l:=fun l h=>by rw[<- hE2];exact sI h
   have hle2:E.le E2:=by rw[<- hE2];exact yT fun l hl=>(hwr1.fresh l hl).1
   have hat2:∀ j d,D[j]? = some d->E2 (c.nx+j)=some ⟨pr.blk,0,0,fr.tmps.getD d undef,noOb,[]⟩:=fun j d hj=>by
    have hjl:j<D.length:=(ae.1 hj).1;rw[<- hE2,yQ hjl];simp[hj]
   have hend2:E2 (c.nx+D.length)=some ⟨pr.blk,0,0,undef,noOb,.inLoop b::k'⟩:=by rw[<- hE2];exact envD_end
   have hwr2:WR (Bs.round w1 E (put .no c.H r .no) E2) E2 (put .no (roT c.H) r (.mit m e.2.2 since)) (c.nx+D.length+1) w1:=by
    refine (hwr1.round hEr hself hsep1 hbase hEm hit1 (b:=e.2.2) (by simp) hlt2 (fun l p hl hp=>?_) (fun l hl=>by rw[<- hE2];exact yR hl) (by omega) (fun l p hl hp=>by rw[<- hE2] at hp;exact yS hl hp)).same fun l=>?_
    ·rw[<- hE2] at hp
     rw[u4 hl hp,hsz1];exact hblk
    ·rw[ar,ar]
     by_cases e1:l=r
     ·rw[if_pos e1,if_pos e1]
     ·rw[if_neg e1,if_neg e1,n9,n9,hget l e1]
   have hGB2:GB kk G (Bs.round w1 E (put .no c.H r .no) E2):=by
    refine⟨fun i hi=>⟨hwr1.lt_old (hGB.1 i hi),fun l p hl hc e=>?_⟩,hGB.at hG hwr1,hGB.2.2.mono (hwr1.le.trans hle2)⟩;rcases (hwr1.own l p hl).2 with g|g|g
    ·rw[g] at hc;cases hc
    ·obtain⟨a,b',c',e'⟩:=cA hc;rw[e'] at g;cases g
    ·exact g (e ▸ hGB.1 i hi)
   obtain⟨vs,hvs⟩:=hres e he;obtain⟨c',k1,hrun,q1,q2,q3,q4,q5,q6,q7,q8,q9⟩:=oc hvs;have hrese:res e=vs:=by rw[<- hresd];simp only[hvs,Option.getD_some]
   have htr2:TR E2 (put au (put au (tops D c.nx c.tm) d1 (.tup [.bool true,e.1,e.2.1])) d2 (.bool true)) fr1.tmps:=by
    intro i;rw[<- hfr1];show VR E2 _ (((fr.tmps.setIfInBounds d1 (.tuple #[.bool true,me.key,me.val])).setIfInBounds d2 (.bool true)).getD i undef);by_cases e2:i=d2
    ·subst e2
     rw[hg2,aD,if_pos rfl];exact .bool true
    by_cases e1:i=d1
    ·subst e1
     rw[hg1,aD,if_neg e2,aD,if_pos rfl];exact .tup [.bool true,e.1,e.2.1] [.bool true,me.key,me.val] (.cons _ _ _ _ (.bool true) (.cons _ _ _ _ (hvk.mono hle2) (.cons _ _ _ _ (hvv.mono hle2) .nil)))
    rw[hgD _ _ i e1 e2,aD,if_neg e2,aD,if_neg e1];by_cases hD:i∈D
    ·obtain⟨j,hj⟩:=List.getElem?_of_mem hD
     rw[yO D c.nx c.tm j i hDn hj];exact .top _ _ _ (hat2 j i hj) rfl (hli.lone i hD)
    ·rw[dW D c.nx c.tm i hD]
     exact (hli.slots i e1 e2 hD).mono hle2
   have hmr2:MR P (Bs.round w1 E (put .no c.H r .no) E2) cs E2 .run [.code rest,.halt (c.nx+D.length)] { c with tm:=put au (put au (tops D c.nx c.tm) d1 (.tup [.bool true,e.1,e.2.1])) d2 (.bool true),cs:=[],H:=put .no (roT c.H) r (.mit m e.2.2 since),nx:=c.nx+D.length+1 } fr1 cs w1:=by
    refine⟨hwr2,fun g hg=>(hgl g hg).imp fun s hs=>hle2 _ _ hs,⟨0,Nat.zero_le _,rfl⟩,?_,?_,?_,?_,?_,?_,?_⟩
    ·rw[<- hfr1];exact hli.fn
    ·rw[<- hfr1];show fr.kind=c.kind;rw[hkind];exact hli.kind
    ·show gN E2 c.round fr1.roundOf
     rw[hround,<- hfr1];exact hli.round
    ·show DRs E2 c.ds fr1.defers
     rw[hds,<- hfr1];exact hli.defers
    ·rw[<- hfr1];exact hli.mode
    ·rw[<- hfr1];show (((fr.tmps.setIfInBounds d1 _).setIfInBounds d2 _)).size=c.sz;simp[hli.size]
    ·refine RunR.of ⟨.code rest,.inLoop b::k',?_,rfl,_,hend2,rfl⟩ htr2
     rw[<- hfr1]
   obtain⟨E',fr2,cs2,w2,hst2,hm2⟩:=hsnd _ cs hGB2 E2 _ _ _ _ _ _ hmr2 _ _ _ hrun
   have hcs2:cs2=cs:=by
    obtain⟨_,_,hf⟩:=hm2.frs;rw[q1] at hf;exact hf
   subst cs2;obtain⟨htd2,htr3⟩:aU E' (.halt (c.nx+D.length)::k1) fr2.todo/\TR E' c'.tm fr2.tmps:=hm2.rest;have hle3:E2.le E':=hm2.wr.le
   have htodo2:fr2.todo=.inLoop b::k':=by
    obtain⟨p,hp,e⟩:=htd2;have:=hle3 _ _ hend2;rw[this] at hp;cases hp;exact e
   have hmode2:fr2.mode=.run:=hm2.mode
   have hold1:∀ b',b'=pr.blk->w2.heap[b']? = w1.heap[b']? := fun b' e=>hm2.wr.old b' ⟨by rw[e,hsz1];exact hblk,fun l p hl hc e2=>by
    by_cases e3:l=r
    ·rw[e3,hself] at hc;cases hc
    ·rw[hsep1 l p e3 hl (e2.trans e)] at hc;cases hc⟩
   have hli2:LI w0 E (put .no c.H r .no) c pr pm since d1 d2 D ts res es (seen.push e.2.2) (.code b::.inLoop b::k') { fr2 with todo:=.code b::.inLoop b::k' } w2:=by
    refine⟨hwr1.back hm2.wr,⟨since,by rw[hold1 _ rfl];exact hit1,am _⟩,hm2.fn.trans q4,hm2.kind.trans (q6.trans hkind),?_,?_,hmode2,hm2.size.trans q5,rfl,fun i a1 a2 a3=>?_,fun d hd=>?_,fun j d t' hj ht'=>?_⟩
    ·have:=hm2.round;rw[q3] at this;exact this
    ·have:=hm2.defers;rw[q2] at this;exact this
    ·show VR E _ (fr2.tmps.getD i undef)
     by_cases hi:i<c.sz
     ·have h1:=htr3 i
      have hsb:=oa q8 i hi (by simp[a1,a2,a3]);have hnx:=hsb.2;rw[hsb.1] at hnx;rw[aD,if_neg a2,aD,if_neg a1,dW D c.nx c.tm i a3] at hnx;rw[hsb.1,aD,if_neg a2,aD,if_neg a1,dW D c.nx c.tm i a3] at h1;refine h1.move (fun l hl p hp=>?_) hnx;obtain⟨p',hp'⟩:=VR.at (hli.slots i a1 a2 a3) l hl;rw[hle3 _ _ (hle2 _ _ hp')] at hp;cases hp;exact hp'
     ·have h1:=hli.slots i a1 a2 a3
      have e1:fr.tmps.getD i undef=undef:=by
       rw[Array.getD_eq_getD_getElem?,Array.getElem?_eq_none (by rw[hli.size];omega)];rfl
      have e2:fr2.tmps.getD i undef=undef:=by
       rw[Array.getD_eq_getD_getElem?,Array.getElem?_eq_none (by rw[hm2.size,q5];omega)];rfl
      rw[e1] at h1;rw[e2];exact h1
    ·exact VR.lone (htr3 d) (jy q7 d hd)
    ·show QT E c.tm res es (seen.push e.2.2) d j (fr2.tmps.getD d undef) t'
     have hrj:(res e)[j]? = some (getU c'.tm d):=by rw[hrese,q9];simp[hj]
     have hv:=htr3 d;have hti:=hts j t' ht';have hold:=hli.turns j d t' hj ht'
     have hsame:getU c'.tm d=.top (c.nx+j)->fr2.tmps.getD d undef=fr.tmps.getD d undef:=fun e1=>by
      rw[e1] at hv;generalize fr2.tmps.getD d undef=x2 at hv;cases hv with
      |top l p x hp hx hc=>
       rw[hle3 _ _ (hat2 j d hj)] at hp;cases hp;exact hx
     cases t' with
     |many=>trivial
     |no=>
      have h1:=hti e he;rw[hrj] at h1;rw[hsame (Option.some.inj h1)];exact hold
     |one v=>
      obtain⟨hf,e1,he1,hr1,ho⟩:=hti;intro e' he' hr' hs';by_cases hbb:e.2.2=e1.2.2
      ·have:=hb2 e he e1 he1 hbb
       subst this;rw[hrj] at hr1;have hvv:=Option.some.inj hr1;rw[hvv] at hv;exact VR.ofFine hf hv
      ·have h1:=ho e he hbb
       rw[hrj] at h1;rw[hsame (Option.some.inj h1)];rcases Array.mem_push.1 hs' with h2|h2
       ·exact hold e' he' hr' h2
       ·have:=hb2 e' he' e he h2
        subst this;rw[hrj,Option.some.inj h1] at hr';have:=Option.some.inj hr';rw[<- this] at hf;simp[V.fine] at hf
   have hst3:Steps P (lone fr2 cs w2) (lone { fr2 with todo:=.code b::.inLoop b::k' } cs w2):=Steps.one (qf hmode2 htodo2)
   obtain⟨fr',w',seen',g1,g2,g3,g4,g5⟩:=ihn { fr2 with todo:=.code b::.inLoop b::k' } w2 (seen.push e.2.2) (by
    have:=Ax (fun e:V×V×Nat=>decide (e.2.2∉seen)) (fun e'=>decide (e'.2.2∉seen.push e.2.2)) (fun x hx=>by
     simp only[decide_eq_true_eq,Array.mem_push,not_or] at hx ⊢
     exact hx.1) es e he (by simpa using hnew) (by simp)
    omega) hli2
   exact⟨fr',w',seen',hst1.trans (hst2.trans (hst3.trans g1)),g2,g3,g4,g5⟩
end
end
end Go.Exo
end

noncomputable section
namespace Go.Exo
variable [Sx] [Dc] [Tb]
section
variable {P:Program}{w0:Bs}{cs0:List Frame}{E:Env}{ih:Ih}
theorem yU {id:Nat}:∀ {k:List AItem}{t:List Item},aU E k t->(∀ k1,nH id k=some k1->∃ t1,exitTo id t=some t1/\aU E k1 t1)/\(nH id k=none->ji k=false->exitTo id t=none)
 |[],t,h=>by cases h;exact⟨(fun _ e=>by cases e),fun _ _=>rfl⟩
 |a::k,t,ht=>by
  by_cases hh:∃ l,a=.halt l
  ·obtain⟨l,rfl⟩:=hh
   exact⟨(fun _ e=>by cases e),fun _ e=>by cases e⟩
  have ht':∃ i r,t=i::r/\mj E a i/\aU E k r:=by
   cases a<;>first|exact ht|exact absurd ⟨_,rfl⟩ hh
  obtain⟨i,r,e,hi,hr⟩:=ht';subst e;have ih:=yU (id:=id) hr;cases a with
  |halt l=>exact absurd ⟨_,rfl⟩ hh
  |inBlock j=>
   cases hi;simp only[nH,exitTo,ji];cases hb:Nat.beq j id with
   |true=>
    rw[Nat.beq_eq] at hb;subst hb;simp only[beq_self_eq_true,if_true,cond_true];exact⟨fun k1 e=>by cases e;exact⟨r,rfl,hr⟩,fun e=>by cases e⟩
   |false=>
    have:(j==id)=false:=by
     rw[beq_eq_false_iff_ne];intro e;subst e;simp at hb
    simp only[this,cond_false,Bool.false_eq_true,if_false];exact ih
  |steps _ _ _=>exact hi.elim
  |call _ _=>exact hi.elim
  |inRF l=>obtain⟨p,_,rfl⟩:=hi;exact ih
  |endRF l=>obtain⟨p,_,rfl⟩:=hi;exact ih
  |_=>cases hi;exact ih
theorem yV {l:Nat}:∀ {k:List AItem}{t:List Item},aU E k t->(∀ k1,nI l k=some k1->∃ t1,gotoIn l t=some t1/\aU E k1 t1)/\(nI l k=none->ji k=false->gotoIn l t=none)
 |[],t,h=>by cases h;exact⟨(fun _ e=>by cases e),fun _ _=>rfl⟩
 |a::k,t,ht=>by
  by_cases hh:∃ l,a=.halt l
  ·obtain⟨l,rfl⟩:=hh
   exact⟨(fun _ e=>by cases e),fun _ e=>by cases e⟩
  have ht':∃ i r,t=i::r/\mj E a i/\aU E k r:=by
   cases a<;>first|exact ht|exact absurd ⟨_,rfl⟩ hh
  obtain⟨i,r,e,hi,hr⟩:=ht';subst e;have ih:=yV (l:=l) hr;cases a with
  |halt l=>exact absurd ⟨_,rfl⟩ hh
  |inScope body=>
   cases hi;simp only[nI,gotoIn,ji];cases findLabel body l with
   |none=>exact ih
   |some rest=>exact⟨fun k1 e=>by cases e;exact⟨_,rfl,_,_,rfl,rfl,_,_,rfl,rfl,hr⟩,fun e=>by cases e⟩
  |steps _ _ _=>exact hi.elim
  |call _ _=>exact hi.elim
  |inRF l=>obtain⟨p,_,rfl⟩:=hi;exact ih
  |endRF l=>obtain⟨p,_,rfl⟩:=hi;exact ih
  |_=>cases hi;exact ih
theorem xy:∀ (n:Nat)(v:Value)(t:Bool),ofVal n v=.bool t->v=.bool t:=by
 intro n v t h;unfold ofVal at h;split at h<;>first|(simp at h;done)|skip
 cases h;rfl
theorem xz:∀ (n:Nat)(v:Value)(fn:Fn)(a b:List V),ofVal n v=.func fn a b->∃ f,v=.func (.func f) #[] #[]/\fn=.func f/\a=[]/\b=[]:=by
 intro n v fn a b h;unfold ofVal at h;split at h<;>first|(simp at h;done)|skip
 cases h;exact⟨_,rfl,rfl,rfl,rfl⟩
theorem ev_bool {tm:T V}{fr:Frame}(htr:TR E tm fr.tmps){x:Operand}{t:Bool}(h:(ap x).ev tm=.bool t):fr.eval x=.bool t:=by
 cases x with
 |tmp i=>
  have:=htr i;change getU tm i=_ at h;rw[h] at this;show fr.tmps.getD i undef=_;generalize fr.tmps.getD i undef=y at this;cases this;rfl
 |const v=>exact xy 8 v t h
 |global g=>cases h
 |func f=>cases h
theorem ofVal_x:∀ (n:Nat)(v:Value)(t:X),ofVal n v=.x t->False:=by
 intro n v t h;unfold ofVal at h;split at h<;>simp at h
theorem ev_x (hd:DecE E){tm:T V}{fr:Frame}(htr:TR E tm fr.tmps){x:Operand}{t:X}(h:(ap x).ev tm=.x t){d:Bool}(ht:Dc.dec t=some d):fr.eval x=.bool d:=by
 cases x with
 |tmp i=>
  have:=htr i;change getU tm i=_ at h;show fr.tmps.getD i undef=_;exact gB_ok hd this (by rw[h];exact ht)
 |const v=>exact (ofVal_x 8 v t h).elim
 |global g=>cases h
 |func f=>cases h
theorem ev_func {tm:T V}{fr:Frame}(htr:TR E tm fr.tmps){x:Operand}{fn:Fn}{a b:List V}(h:(ap x).ev tm=.func fn a b):VR E (.func fn a b) (fr.eval x):=by
 cases x with
 |tmp i=>
  have:=htr i;change getU tm i=_ at h;rw[h] at this;exact this
 |const v=>
  obtain⟨f,rfl,rfl,rfl,rfl⟩:=xz 8 v fn a b h;exact .func (.func f) (.func f) [] [] [] [] rfl .nil .nil
 |global g=>cases h
 |func f=>
  cases h;exact .func (.func f) (.func f) [] [] [] [] rfl .nil .nil
theorem eT (hs:Sound P w0 cs0 ih){t t1:List AItem}{c:Ctx}{fr:Frame}{cs:List Frame}{w:World}{todo:List Item}(h:MR P w0 cs0 E .run t c fr cs w)(htr:TR E c.tm fr.tmps)(ht:aU E t1 todo)
  (hst:Go.step P (lone fr cs w)=.next (lone { fr with todo:=todo } cs w)):Fin P w0 cs0 (ih .run t1 c) fr cs w:=by
 obtain⟨b,hc⟩:=h.cur;exact Fin.step hst (hs E _ _ _ _ _ _ ((hc.to fr.tmps todo rfl).mr ht htr))
theorem sJ (hs:Sound P w0 cs0 ih){f:Operand}{ps:Array Tmp}{a b:Code}{k:List AItem}{c:Ctx}{fr:Frame}{cs:List Frame}{w:World}(h:MR P w0 cs0 E .run (.code (.rangeFunc f ps a b)::k) c fr cs w) :
  Fin P w0 cs0 (cRF P f ps a b c k ih) fr cs w:=by
 obtain⟨bb,hc⟩:=h.cur;obtain⟨⟨i,k',ht,hi,hk⟩,htr⟩:=h.rest;cases hi
 have main:∀ (E1:Env)(H1:T AObj)(nx1 d:Nat)(q:Pl)(mark:List ADef)(mark':List Deferred)(w1:World)(l1:Nat),E.le E1->bM bb E E1 c.H H1->c.nx<=nx1->WR w0 E1 H1 nx1 w1->E1 d=some q->DRs E1 mark mark'->
   l1=w1.heap.size->
   (Instr.enterLoop fr.fn fr.tmps ps a b fr.roundOf).run P w=.ok (l1,mark') { w1 with heap:=w1.heap.push (.loop { state:=.ready,pending:=none,fn:=fr.fn,tmps:=fr.tmps,params:=ps,assign:=a,body:=b,defers:=q.blk }) }->
   Fin P w0 cs0 (rfK P f ps a b k c ih nx1 d mark H1) fr cs w:=by
  intro E1 H1 nx1 d q mark mark' w1 l1 hE1 hkb hn hwr1 hq hmark hl1 he;unfold rfK;cases hev:AO.ev (ap f) c.tm with
  |func fn first captured=>
   cases fn with
   |func g=>
    simp only[dN];have hvf:=ev_func htr hev;generalize hF:fr.eval f=F at hvf;cases hvf;rename_i fn' fs cs2 hfn h1 h2;simp only[FnR] at hfn;subst hfn;have hfs:=hE1
    have hdE:d≠nx1:=fun e=>by
     have:=(hwr1.fresh nx1 (am _)).1;rw[<- e,hq] at this;cases this
    have hwr2:=hwr1.new (.loop { state:=.ready,pending:=none,fn:=fr.fn,tmps:=fr.tmps,params:=ps,assign:=a,body:=b,defers:=q.blk })
     (.loop .ready none c.fn c.tm c.sz ps.toList a b d) 0 w1.drawn rfl rfl ⟨fr.tmps,q,by rw[Env.set_other _ _ _ _ hdE];exact hq,(htr.mono hE1).mono (Env.le_set _ (hwr1.fresh nx1 (am _)).1),hc.size,by rw[hc.fn]⟩
    have hle2:E1.le (E1.set nx1 ⟨w1.heap.size,0,0,undef,noOb,[]⟩):=Env.le_set _ (hwr1.fresh nx1 (am _)).1;have hself:(E1.set nx1 ⟨w1.heap.size,0,0,undef,noOb,[]⟩) nx1=some ⟨w1.heap.size,0,0,undef,noOb,[]⟩:=Env.set_self _ _ _;generalize hE2:E1.set nx1 ⟨w1.heap.size,0,0,undef,noOb,[]⟩=E2 at hwr2 hle2 hself;have hall:=hE1.trans hle2
    have hkb2:bM bb E E2 c.H (put .no H1 nx1 (.loop .ready none c.fn c.tm c.sz ps.toList a b d)):=by
     intro l hl hEl hcl;have hlt:l<nx1:=by have:=hc.ble;omega
     obtain⟨g1,g2⟩:=hkb l hl hEl hcl;refine⟨by rw[<- hE2,Env.set_other _ _ _ _ (by omega)];exact g1,?_⟩;rw[ar,if_neg (by omega)];exact g2
    cases hfo:fnOf P g with
    |none=>unfold cq;rw[hfo];exact Fin.fail
    |some af=>
     have hinv:∀ w',(do let d <- Deferred.ofValue (fr.eval f) #[.func (.yield l1) #[] #[]];invoke d.target d.args:Sem Next).run P w'=.ok (.enter g (fs++(.func (.yield l1) #[] #[]::cs2)).toArray) w':=by
      intro w';rw[hF];have:=cw hfo (fs.toArray++#[.func (.yield l1) #[] #[]]++cs2.toArray) w';simp only[Deferred.ofValue,Sem.run_bind,Sem.run_pure,Result.andThen_ok,invoke];rw[this];simp
     refine Fin.step (sw hc.mode ht he (hinv _)) ?_;subst hl1
     have hargs:VRs E2 (first++(.func (.yield nx1) [] []::captured)) (fs++(.func (.yield w1.heap.size) #[] #[]::cs2)):=
      (VRs.mono hall h1).append (.cons _ _ _ _ (.func _ _ [] [] [] [] ⟨_,hself,rfl⟩ .nil .nil) (VRs.mono hall h2))
     have hdrs:∀ {as bs:List ADef}{xs ys:List Deferred},DRs E2 as xs->DRs E2 bs ys->DRs E2 (as++bs) (xs++ys):=by
      intro as;induction as with
      |nil=>intro bs xs ys h1 h2;cases h1;exact h2
      |cons a as ih=>intro bs xs ys h1 h2;obtain⟨d,r,rfl,g1,g2⟩:=h1;exact⟨d,_,rfl,g1,ih g2 h2⟩
     have hsr:SR P E2 (put .no H1 nx1 (.loop .ready none c.fn c.tm c.sz ps.toList a b d)) bb (nx1+1) { fn:=c.fn,tmps:=c.tm,size:=c.sz,todo:=.inRF nx1::k,defers:=mark++c.ds,mode:=.run,kind:=c.kind,round:=c.round }
       { fr with todo:=.inRangeFunc w1.heap.size::k',defers:=mark'++fr.defers }:=
      ⟨hc.fn,hc.kind,hc.round.mono hall,hdrs (hmark.mono hle2) (hc.defers.mono hall),hc.mode,hc.size,⟨_,k',hself,rfl,hk.mono hall,htr.mono hall⟩⟩
     have hgl2:∀ g,g<P.globals.size->∃ s,E2 g=some ⟨g,0,s,undef,noOb,[]⟩:=fun g hg=>(hc.gl g hg).imp fun s hs=>hall _ _ hs
     exact gO hs hwr2 hgl2 (afs:=_::c.cs) (frs:=_::cs) ⟨bb,_,cs,rfl,by have:=hc.ble;omega,hsr,hc.frs.mono hall hkb2⟩ hargs .normal
   |_=>exact Fin.fail
  |_=>exact Fin.fail
 unfold cRF;have hround:=hc.round;cases hr:c.round with
 |none=>
  rw[hr] at hround;change fr.roundOf=none at hround;simp only[dN];have hwr1:=hc.wr.new (.deferred (some [])) .defd 0 w.drawn rfl rfl rfl;have hn:=(hc.wr.fresh c.nx (am _)).1;refine main _ _ (c.nx+1) c.nx ⟨w.heap.size,0,0,undef,noOb,[]⟩ [.collected c.nx] [{ target:=.collected w.heap.size,args:=#[] }] _ _ (Env.le_set _ hn) (fun l hl hEl hcl=>?_) (Nat.le_succ _) hwr1 (Env.set_self _ _ _) ⟨_,_,rfl,⟨_,Env.set_self _ _ _,rfl⟩,rfl⟩ rfl ?_
  ·have hlt:l<c.nx:=by have:=hc.ble;omega
   exact⟨by rw[Env.set_other _ _ _ _ (by omega)];exact hEl,by rw[ar,if_neg (by omega)]⟩
  ·rw[hround]
   simp only[Instr.enterLoop,Sem.run_bind,run_newObj,Result.andThen_ok,Sem.run_pure]
 |some l=>
  rw[hr] at hround;obtain⟨p,hp,hro⟩:=hround;simp only;cases ho:getH c.H l with
  |loop st pd fn tm sz pps assign body d=>
   simp only;have hobj:=hc.wr.objs l p hp;rw[ho] at hobj;obtain⟨tmps,q,h1,h2,h3,h4⟩:=hobj;refine main E c.H c.nx d q [] [] w _ (Env.le.refl E) (fun _ _ h _=>⟨h,rfl⟩) (am _) hc.wr h1 rfl rfl ?_;rw[hro];have hg:(getObj p.blk).run P w=.ok (.loop { state:=st,pending:=pd,fn:=fn,tmps,params:=pps.toArray,assign:=assign,body:=body,defers:=q.blk }) w:=by simp only[getObj,Sem.run,h4]
   simp only[Instr.enterLoop,Instr.getLoop,Sem.run_bind,hg,run_newObj,Result.andThen_ok,Sem.run_pure]
  |_=>exact Fin.fail
theorem loopM_ok {kk:Nat}{G:World->Prop}(hG:Gd0 kk G)(hGB:GB kk G w0)(hall:∀ b cs,GB kk G b->Sound P b cs ih){b:Code}{k:List AItem}{c:Ctx}{fr:Frame}{cs:List Frame}{w:World}(h:MR P w0 cs0 E .run (.code (.loop b)::k) c fr cs w):Fin P w0 cs0 (wE b c k ih) fr cs w:=by
 have hs:Sound P w0 cs0 ih:=hall w0 cs0 hGB;obtain⟨bb,hc⟩:=h.cur;obtain⟨⟨i,k',ht,hi,hk⟩,htr⟩:=id h.rest;cases hi;have plain:Fin P w0 cs0 (ih .run (.code b::.inLoop b::k) c) fr cs w:=eT hs h htr (t1:=.code b::.inLoop b::k) ⟨_,_,rfl,rfl,_,_,rfl,rfl,hk⟩ (yJ hc.mode ht);unfold wE;cases hrl:dE b with
 |none=>exact plain
 |some q=>
  obtain⟨t,d1,d2,rest⟩:=q;simp only;cases hu:getU c.tm t with
  |ptr r o=>
   cases o with
   |succ o=>exact plain
   |zero=>
    simp only;cases hHr:getH c.H r with
    |mit0 m since=>
     simp only;cases hro:c.round with
     |some _=>exact Fin.fail
     |none=>
      cases hds:c.ds with
      |cons _ _=>exact Fin.fail
      |nil=>
       cases hHm:getH c.H m with
       |map es clock=>
        simp only;refine Fin.cond (fun _=>plain) fun _=>?_
        refine Fin.cond (fun _=>Fin.fail) fun hmem=>?_
        simp only[Bool.or_eq_false_iff] at hmem;obtain⟨⟨n1,n2⟩,n3⟩:=hmem;obtain⟨hDn,hDm⟩:=uZ (gj rest);generalize jY (gj rest)=D at hDn hDm ⊢;have nm:∀ {x:Nat}{l:List Nat},memN x l=false->x∉l:=fun {x l} h1 h2=>by rw[gS.2 h2] at h1;cases h1
        have m1:=nm n1;have m2:=nm n2;have m3:=nm n3;simp only[List.mem_cons,not_or] at m1 m2;have htD:t∉D:=fun e=>m1.2.2 ((hDm t).1 e)
        have h1D:d1∉D:=fun e=>m2.2 ((hDm d1).1 e)
        have h2D:d2∉D:=fun e=>m3 ((hDm d2).1 e)
        unfold yo;refine Fin.cond (fun hcd=>?_) fun _=>Fin.fail
        simp only[Bool.and_eq_true] at hcd;obtain⟨⟨⟨⟨⟨k1,k2⟩,k3⟩,k4⟩,k5⟩,k6⟩:=hcd;have e1:=aa k1;subst clock
        have hkind:c.kind=.normal:=by
         unfold nJ at k6;split at k6
         ·rename_i g1 _;exact g1
         ·cases k6
        obtain⟨hb1,hb2⟩:=qs k2;rw[u0]
        have hres0:∀ e vs,ct rest c (roT c.H) r m since d1 d2 (Nat.add c.nx D.length) D (tops D c.nx c.tm) ih e=some vs->vs.length=D.length:=fun e vs hv=>by
         obtain⟨_,_,_,_,_,_,_,_,_,_,_,hh⟩:=oc hv;rw[hh];simp
        cases hrs:lm rest c (roT c.H) r m since d1 d2 (Nat.add c.nx D.length) D (tops D c.nx c.tm) ih es (D.map fun _=>.no) with
        |none=>exact Fin.fail
        |some ts=>
         simp only
         obtain⟨hr1,hr2,hr3⟩:=qu (pre:=[]) hrs hres0 (by simp) fun j t' ht'=>by
          have:t'=.no:=by
           have:=List.mem_of_getElem? ht';simp only[List.mem_map] at this;obtain⟨_,_,e⟩:=this;exact e.symm
          subst this;exact fun e he=>by cases he
         rw[List.nil_append] at hr3;rw[qv];simp only[bO,dN];have hvt:=htr t;rw[hu] at hvt
         obtain⟨pr,hEr⟩:∃ pr,E r=some pr:=by
          generalize fr.tmps.getD t undef=x at hvt;cases hvt with
          |ptr l off p hp=>exact⟨p,hp⟩
         have hobr:=hc.wr.objs r pr hEr;rw[hHr] at hobr;obtain⟨pm,hEm,hob,hbase⟩:=hobr;have hself:getH (put .no c.H r .no) r=.no:=by rw[ar,if_pos rfl]
         have hmr:m≠r:=fun e=>by rw[e,hHr] at hHm;cases hHm
         have hrsep:∀ l p,l≠r->E l=some p->p.blk=pr.blk->getH c.H l=.no:=fun l p hl hp hb=>by
          rcases hc.wr.sep l r p pr hl hp hEr hb with (g|g|g)|g
          ·exact g
          ·rw[hHr] at g;cases g
          ·exact absurd (g.2.1.trans (by rw[hHr];rfl)) g.1
          ·rw[hHr] at g;cases g.2
         have hrold:¬ w0.old pr.blk:=by
          rcases (hc.wr.own r pr hEr).2 with g|g|g
          ·rw[hHr] at g;cases g
          ·rw[hHr] at g;cases g
          ·exact g
         have hwr0:WR w0 E (put .no c.H r .no) c.nx w:=hc.wr.drop (by rw[hHr];rfl) (by rw[hHr];rfl);have hfr0:fr.roundOf=none:=by have:=hc.round;rw[hro] at this;exact this
         have hd0:fr.defers=[]:=by have:=hc.defers;rw[hds] at this;exact this
         refine Fin.step (yJ hc.mode ht) ?_
         have hli:LI w0 E (put .no c.H r .no) c pr pm since d1 d2 D ts (fun e=>(ct rest c (roT c.H) r m since d1 d2 (c.nx+D.length) D (tops D c.nx c.tm) ih e).getD []) es #[] (.code b::.inLoop b::k') { fr with todo:=.code b::.inLoop b::k' } w:=by
          refine⟨hwr0,⟨since,hob,am _⟩,hc.fn,hc.kind.trans hkind,hfr0,hd0,hc.mode,hc.size,rfl,fun i _ _ _=>htr i,fun d hd=>VR.lone (htr d) (jy k3 d hd),fun j d t' hj ht'=>?_⟩;cases t' with
          |no=>exact htr d
          |one v=>exact fun _ _ _ hh=>by simp at hh
          |many=>trivial
         obtain⟨fr',w',seen',hst,li,hseen,hv1,hv2⟩:=loop_run (cs:=cs) hG hGB hall hc.gl hrl hu hHr hHm hro hds hkind m1.1 m1.2.1 htD m2.1 h1D h2D hDn (ab k4) (ab k5) hb1 hb2 hEr hbase hEm hrsep hrold (fun l p b o v hp hv e=>dP ((hc.wr.dat l p hp b o v hv).2 r pr hEr e.symm) (by rw[hHr];intro hh;cases hh) (by rw[hHr];rfl) (by rw[hHr];rfl)) hr1 hr2 hr3 _ _ w #[] (Nat.lt_succ_self _) hli;refine Fin.steps hst ?_;generalize hE2:envD E c.nx pr.blk (fun j=>fr'.tmps.getD (D.getD j 0) undef) D.length []=E2;have hlt2:∀ l,l<c.nx->E2 l=E l:=fun l h=>by rw[<- hE2];exact sI h
         have hle2:E.le E2:=by rw[<- hE2];exact yT fun l hl=>(hc.wr.fresh l hl).1
         have hat2:∀ j d,D[j]? = some d->E2 (c.nx+j)=some ⟨pr.blk,0,0,fr'.tmps.getD d undef,noOb,[]⟩:=fun j d hj=>by
          have hjl:j<D.length:=(ae.1 hj).1;rw[<- hE2,yQ hjl];simp[hj]
         have hwr2:WR w0 E2 (put .no c.H r .no) (c.nx+D.length+1) w':=li.wr.name hlt2 (fun l p hl hp=>by
          rw[<- hE2] at hp
          rw[u4 hl hp];exact (li.wr.own r pr hEr).1) (fun l hl=>by rw[<- hE2];exact yR hl) (by omega) (fun l p hl hp=>by rw[<- hE2] at hp;exact yS hl hp)
         have hkb:bM bb E E2 c.H (put .no c.H r .no):=fun l hl hEl _=>⟨by rw[hlt2 l (Nat.lt_of_lt_of_le hl hc.ble)];exact hEl,by
          rw[ar,if_neg (fun e=>by subst e;rw[hEr] at hEl;cases hEl)]⟩
         have htrF:TR E2 (put au (put au (dn D ts c.nx c.tm) d1 (.tup [.bool false])) d2 (.bool false)) fr'.tmps:=by
          intro i;by_cases i2:i=d2
          ·subst i2
           rw[hv2,aD,if_pos rfl];exact .bool false
          by_cases i1:i=d1
          ·subst i1
           rw[hv1,aD,if_neg i2,aD,if_pos rfl];exact .tup [.bool false] [.bool false] (.cons _ _ _ _ (.bool false) .nil)
          rw[aD,if_neg i2,aD,if_neg i1];by_cases hD:i∈D
          ·obtain⟨j,hj⟩:=List.getElem?_of_mem hD
           have hjl:j<ts.length:=by rw[hr2];exact (ae.1 hj).1
           have ht':ts[j]? = some ts[j]:=ah hjl;rw[qw D ts c.nx c.tm j i ts[j] hDn hj ht'];have hq:=li.turns j i _ hj ht';have hti:=hr3 j _ ht';generalize ts[j]=tt at hq hti;cases tt with
           |no=>exact VR.mono hle2 hq
           |one v=>
            obtain⟨hf,e1,he1,hr1',_⟩:=hti;exact VR.mono hle2 (hq e1 he1 hr1' (hseen e1 he1))
           |many=>exact .top _ _ _ (hat2 j i hj) rfl (li.lone i hD)
          ·rw[fJ D ts c.nx c.tm i hD]
           exact (li.slots i i1 i2 hD).mono hle2
         refine hs E2 .run _ _ _ _ _ ⟨hwr2,fun g hg=>(hc.gl g hg).imp fun s hs=>hle2 _ _ hs,⟨bb,by have:=hc.ble;show bb<=c.nx+D.length+1;omega,hc.frs.mono hle2 hkb⟩,li.fn,li.kind.trans hkind.symm,?_,?_,li.mode,li.size,RunR.of ⟨_,_,li.todo,rfl,_,_,rfl,rfl,hk.mono hle2⟩ htrF⟩
         ·show gN E2 c.round fr'.roundOf
          rw[hro];exact li.round
         ·show DRs E2 c.ds fr'.defers
          rw[hds];exact li.defers
       |_=>exact Fin.fail
    |_=>exact plain
  |_=>exact plain
theorem xA {kk:Nat}{G:World->Prop}(hG:Gd0 kk G)(hGB:GB kk G w0)(hall:∀ b cs,GB kk G b->Sound P b cs ih){code:Code}{k:List AItem}{c:Ctx}{fr:Frame}{cs:List Frame}{w:World}(h:MR P w0 cs0 E .run (.code code::k) c fr cs w):Fin P w0 cs0 (yq P code c k ih) fr cs w:=by
 have hs:Sound P w0 cs0 ih:=hall w0 cs0 hGB;obtain⟨b,hc⟩:=h.cur;obtain⟨⟨i,k',ht,hi,hk⟩,htr⟩:=id h.rest;cases hi;cases code with
 |skip=>exact eT hs h htr hk (st_skip hc.mode ht)
 |region id ops draw=>exact Ar hs h
 |seq a b=>exact eT hs h htr (t1:=.code a::.code b::k) ⟨_,_,rfl,rfl,_,_,rfl,rfl,hk⟩ (st_seq hc.mode ht)
 |cond x a b=>
  show Fin P w0 cs0 (cCond x a b c k ih) fr cs w;unfold cCond;cases hev:AO.ev (ap x) c.tm with
  |bool t=>
   simp only;refine eT hs h htr (t1:=.code (cond t a b)::k) (todo:=.code (if t then a else b)::k') ⟨_,_,rfl,?_,hk⟩ (yI hc.mode ht (ev_bool htr hev));cases t<;>rfl
  |x u=>
   simp only;cases hd:Dc.dec u with
   |none=>exact Fin.fail
   |some d=>
    simp only;refine eT hs h htr (t1:=.code (cond d a b)::k) (todo:=.code (if d then a else b)::k') ⟨_,_,rfl,?_,hk⟩ (yI hc.mode ht (ev_x hc.wr.decE htr hev hd));cases d<;>rfl
  |_=>exact Fin.fail
 |block id b=>exact eT hs h htr (t1:=.code b::.inBlock id::k) ⟨_,_,rfl,rfl,_,_,rfl,rfl,hk⟩ (st_block hc.mode ht)
 |loop b=>exact loopM_ok hG hGB hall h
 |rangeFunc f ps a b=>exact sJ hs h
 |exit id=>
  show Fin P w0 cs0 (cExit P id c k ih) fr cs w;unfold cExit;obtain⟨h1,h2⟩:=yU (id:=id) hk;cases he:nH id k with
  |some k1=>
   obtain⟨t1,g1,g2⟩:=h1 k1 he;exact eT hs h htr g2 (st_exit hc.mode ht g1)
  |none=>
   simp only;refine Fin.cond (fun _=>Fin.fail) fun hh=>?_
   exact ko hs hc htr (by unfold leaving;rw[ht];simp only[h2 he hh])
 |scope b=>exact eT hs h htr (t1:=.code b::.inScope b::k) ⟨_,_,rfl,rfl,_,_,rfl,rfl,hk⟩ (st_scope hc.mode ht)
 |label l=>exact eT hs h htr hk (st_label hc.mode ht)
 |goto l=>
  show Fin P w0 cs0 (cGoto P l c k ih) fr cs w;unfold cGoto;obtain⟨h1,h2⟩:=yV (l:=l) hk;cases he:nI l k with
  |some k1=>
   obtain⟨t1,g1,g2⟩:=h1 k1 he;exact eT hs h htr g2 (st_goto hc.mode ht g1)
  |none=>
   simp only;refine Fin.cond (fun _=>Fin.fail) fun hh=>?_
   exact ko hs hc htr (by unfold leaving;rw[ht];simp only[h2 he hh])
 |ret=>exact ko hs hc htr (by unfold leaving;rw[ht])
 |_=>exact Fin.fail
theorem u5 {b:Nat}{c:Ctx}{fr:Frame}{cs:List Frame}{w:World}(hc:Cur P w0 cs0 E b c fr cs w){l:Nat}{p:Pl}(hp:E l=some p){st:LoopState}{pd:Option Code}{fn:Nat}{tm:T V}{sz:Nat}{ps:List Nat}{assign body:Code}{d:Nat}
  (ho:getH c.H l=.loop st pd fn tm sz ps assign body d)(st':LoopState) :
  ∃ r:Loop,(getObj p.blk).run P w=.ok (.loop r) w/\r.state=st/\r.pending=pd/\∃ w',(setObj p.blk (.loop { r with state:=st' })).run P w=.ok () w'/\Cur P w0 cs0 E b { c with H:=put .no c.H l (.loop st' pd fn tm sz ps assign body d) } fr cs w':=by
 have hobj:=hc.wr.objs l p hp;rw[ho] at hobj;obtain⟨tmps,q,h1,h2,h3,h4⟩:=hobj;have hblk:p.blk<w.heap.size:=(hc.wr.own l p hp).1;refine⟨{ state:=st,pending:=pd,fn:=fn,tmps:=tmps,params:=ps.toArray,assign:=assign,body:=body,defers:=q.blk },by simp only[getObj,Sem.run,h4],rfl,rfl,_,by simp only[setObj,Sem.run,h4];rfl,?_⟩
 have hwr':WR w0 E (put .no c.H l (.loop st' pd fn tm sz ps assign body d)) c.nx { w with heap:=w.heap.setIfInBounds p.blk (.loop { state:=st',pending:=pd,fn,tmps,params:=ps.toArray,assign,body,defers:=q.blk }) }:=by
  refine hc.wr.upd l p hp _ (by rw[ho];intro h;cases h) (by rw[ho];rfl) (by rw[ho];rfl) (by rw[ho];rfl) (by rw[ho];rfl) rfl _ _ (by simp) (fun k hk=>by
   show (w.heap.setIfInBounds p.blk _)[k]? = _
   rw[Array.getElem?_setIfInBounds_ne (Ne.symm hk)]) (by
   show (w.heap.setIfInBounds p.blk _)[p.blk]? = _
   rw[Array.getElem?_setIfInBounds_self_of_lt hblk]) rfl rfl rfl ?_
  exact⟨tmps,q,h1,h2,h3,rfl⟩
 have hkb:bM b E E c.H (put .no c.H l (.loop st' pd fn tm sz ps assign body d)):=fun k _ hE _=>⟨hE,by
  rw[ar,if_neg (fun e=>by subst e;rw[hp] at hE;cases hE)]⟩
 exact hc.mono (Env.le.refl E) hkb (am _) hwr'
theorem iPan_ok (hs:Sound P w0 cs0 ih){c:Ctx}{fr:Frame}{cs:List Frame}{w w':World}(hwr:WR w0 E c.H c.nx w')(hgl:∀ g,g<P.globals.size->∃ s,E g=some ⟨g,0,s,undef,noOb,[]⟩){b:Nat}(hb:b<=c.nx)(hfrs:FrsR P cs0 E c.H b c.cs cs)
  {u:V}{x:Value}(hv:VR E u x)(hst:∀ f1 r,cs=f1::r->Go.step P (lone fr cs w)=.next (lone (f1.raise [{ v:=x,recovered:=false }]) r w')):Fin P w0 cs0 (iPan P c u ih) fr cs w:=by
 unfold iPan;cases hcc:c.cs with
 |nil=>exact Fin.fail
 |cons f fs=>
  rw[hcc] at hfrs;obtain⟨lo,f1,r,rfl,hlo,hsr,hfr⟩:=hfrs;simp only;refine Fin.cond (fun hc2=>?_) fun _=>Fin.fail
  simp only[Bool.and_eq_true] at hc2;obtain⟨hz,hfo⟩:=hc2;have hch:ChR E [(u,false)] [{ v:=x,recovered:=false }]:=⟨x,[],rfl,hv,rfl⟩
  refine Fin.step (hst f1 r rfl) ?_;have hmode1:=hsr.2.2.2.2.1;have hraise:f1.raise [{ v:=x,recovered:=false }]={ f1 with mode:=raised f1.mode [{ v:=x,recovered:=false }] }:=Frame.raise_mode f1 _;rw[hraise]
  have hmr:raise f.mode [(u,false)]≠.run/\iV E (raise f.mode [(u,false)]) (raised f1.mode [{ v:=x,recovered:=false }]):=by
   cases hfm:f.mode with
   |run=>rw[hfm] at hmode1;change f1.mode=_ at hmode1;rw[hmode1];exact⟨fun e=>by simp[raise] at e,_,rfl,hch⟩
   |returning=>rw[hfm] at hmode1;change f1.mode=_ at hmode1;rw[hmode1];exact⟨fun e=>by simp[raise] at e,_,rfl,hch⟩
   |panicking old=>
    rw[hfm] at hmode1;obtain⟨es0,h1,h2⟩:=hmode1;rw[h1];exact⟨fun e=>by simp[raise] at e,_,rfl,hch.append h2⟩
  refine hs E _ _ _ _ _ _ (kj hwr hgl hb hlo hsr hfr hmr.2 hmr.1 ?_)
  have hpan:∃ ch,raise f.mode [(u,false)]=.panicking ch:=by
   unfold raise;split<;>exact⟨_,rfl⟩
  cases hfm:f.mode with
  |returning=>exact .inl (qp hsr (by rw[hfm];intro h;cases h))
  |panicking _=>exact .inl (qp hsr (by rw[hfm];intro h;cases h))
  |run=>
   have h7:=hsr.2.2.2.2.2.2;rw[hfm] at h7;simp only at h7;split at h7
   ·rename_i s rr ops draw k heq
    obtain⟨is,k',b1,b2,b3⟩:=h7;rcases b3 with⟨rfl,o,i,c1,rfl,c3,rfl,c5⟩|⟨rfl,hreg⟩
    ·exact .inl c5
    ·unfold rzOk at hz
     rw[hfm,heq] at hz;cases hfd:f.defers with
     |nil=>exact .inr ⟨rfl,by rw[hfm] at hpan;exact hpan⟩
     |cons _ _=>rw[hfd] at hz;exact .inl (uY hz hreg.1 hreg.2.1 hreg.2.2.2.2.2)
   ·obtain⟨p,k',b1,b2,b3,b4⟩:=h7
    exact .inl b4
   ·exact h7.elim
theorem xB {kk:Nat}{G:World->Prop}(hG:Gd0 kk G)(hGB:GB kk G w0)(hall:∀ b cs,GB kk G b->Sound P b cs ih){hk:Hook}(hok:HookOk P w0 hk){it:AItem}{k:List AItem}{c:Ctx}{fr:Frame}{cs:List Frame}{w:World}(h:MR P w0 cs0 E .run (it::k) c fr cs w):Fin P w0 cs0 (yr P hk it c k ih) fr cs w:=by
 have hs:Sound P w0 cs0 ih:=hall w0 cs0 hGB;obtain⟨b,hc⟩:=h.cur;have hrest:=h.rest;by_cases hcall:∃ f args,it=.call f args
 ·obtain⟨f,args,rfl⟩:=hcall
  obtain⟨g1,g2,xs,g3,g4⟩:=hrest;show Fin P w0 cs0 (iCall P hk f args c k ih) fr cs w;unfold iCall;cases hh:hk f args c.H c.nx with
  |none=>exact hs E _ _ _ _ _ _ ⟨hc.wr,hc.gl,⟨b,hc.ble,hc.frs⟩,hc.fn,hc.kind,hc.round,hc.defers,hc.mode,hc.size,RunR.of g1 g2⟩
  |some r=>
   obtain⟨v,H',nx'⟩:=r;simp only;obtain⟨e,w',fr',hpost,hcomes,hfn,hleav⟩:=hok E c.H c.nx w f args xs v H' nx' hc.wr hc.gl g3 hh cs;subst g4;unfold dV at hpost;cases hpv:panV v with
   |none=>
    rw[hpv] at hpost;obtain⟨x,E',he,a1,a2,a3,a4,a5⟩:=hpost;subst he;have hfrs:=hc.frs.mono a1 (bM.le (a5:bM c.nx E E' c.H H') hc.ble);refine Fin.steps (hcomes:Steps P _ _) ?_;have hkind:c.kind=.normal:=by rw[<- hc.kind];rfl
    exact n8 hs (c:={ c with H:=H',nx:=nx' }) a3 (fun g hg=>(hc.gl g hg).imp fun s hs=>a1 _ _ hs) (Nat.le_trans hc.ble a4) hfrs a2 (fun _ f1 r e=>by
     subst e;exact step_leave_returned hleav) (fun h2=>by
     have h2':c.kind=.deferred:=h2
     rw[hkind] at h2';cases h2')
   |some u=>
    rw[hpv] at hpost;obtain⟨x,E',he,a1,a2,a3,a4,a5⟩:=hpost;subst he;have hfrs:=hc.frs.mono a1 (bM.le (a5:bM c.nx E E' c.H H') hc.ble);refine Fin.steps (hcomes:Steps P _ _) ?_
    exact iPan_ok hs (c:={ c with H:=H',nx:=nx' }) a3 (fun g hg=>(hc.gl g hg).imp fun s hs=>a1 _ _ hs) (Nat.le_trans hc.ble a4) hfrs a2 (fun f1 r e=>by
     subst e;exact step_leave_panicked hleav)
 have hrun:aU E (it::k) fr.todo/\TR E c.tm fr.tmps:=by
  cases it<;>first|exact hrest|exact absurd ⟨_,_,rfl⟩ hcall
 by_cases hhalt:∃ l,it=.halt l
 ·obtain⟨l,rfl⟩:=hhalt
  show Fin P w0 cs0 (.st .run (.halt l::k) c) fr cs w;intro m' t' c' e;cases e;exact⟨E,fr,cs,w,.refl _ _,h⟩
 have hrun2:∃ i k',fr.todo=i::k'/\mj E it i/\aU E k k':=by
  have:=hrun.1;cases it<;>first|exact this|exact absurd ⟨_,rfl⟩ hhalt
 have htr:=hrun.2;obtain⟨i,k',ht,hi,hk1⟩:=hrun2;cases it with
 |call f args=>exact absurd ⟨f,args,rfl⟩ hcall
 |halt l=>exact absurd ⟨l,rfl⟩ hhalt
 |code code=>exact xA hG hGB hall h
 |inBlock id=>cases hi;exact eT hs h htr hk1 (xi hc.mode ht)
 |inLoop b=>cases hi;exact eT hs h htr (t1:=.code b::.inLoop b::k) ⟨_,_,rfl,rfl,_,_,rfl,rfl,hk1⟩ (qf hc.mode ht)
 |inScope b=>cases hi;exact eT hs h htr hk1 (xj hc.mode ht)
 |steps _ _ _=>exact hi.elim
 |inRF l=>exact Fin.fail
 |endRF l=>
  obtain⟨p,hp,rfl⟩:=hi;show Fin P w0 cs0 (iEnd l c k ih) fr cs w;unfold iEnd;cases ho:getH c.H l with
  |loop st pd fn tm sz ps assign body d=>
   obtain⟨r,hg,hrs,hrp,w',hset,hc'⟩:=u5 hc hp ho .exhausted
   have main:st≠.busy->Fin P w0 cs0 (ih .run (match (generalizing:=false) pd with|some code=>.code code::k|none=>k) { c with H:=put .no c.H l (.loop .exhausted pd fn tm sz ps assign body d) }) fr cs w:=by
    intro hb
    have he:(Instr.endLoop p.blk).run P w=.ok pd w':=by
     have hbs:(r.state==LoopState.busy)=false:=by
      rw[hrs];cases st<;>first|rfl|exact absurd rfl hb
     simp only[Instr.endLoop,Instr.getLoop,Sem.run_bind,hg,Result.andThen_ok,Sem.run_pure,hbs,Bool.false_eq_true,if_false,Sem.run_ite];rw[hset];simp[hrp]
    refine Fin.step (xq hc.mode ht he) ?_;refine hs E _ _ _ _ _ _ ((hc'.to fr.tmps _ rfl).mr ?_ htr);cases pd with
    |none=>exact hk1
    |some code=>exact⟨_,_,rfl,rfl,hk1⟩
   cases st<;>first|exact Fin.fail|(simp only[dN];exact main (fun e=>by cases e))
  |_=>exact Fin.fail
 |beginRound=>
  cases hi;show Fin P w0 cs0 (wF c k ih) fr cs w;unfold wF;have hround:=hc.round;cases hr:c.round with
  |none=>exact Fin.fail
  |some l=>
   rw[hr] at hround;obtain⟨p,hp,hro⟩:=hround;simp only;cases ho:getH c.H l with
   |loop st pd fn tm sz ps assign body d=>
    obtain⟨r,hg,hrs,hrp,w',hset,hc'⟩:=u5 hc hp ho .busy;cases st<;>try exact Fin.fail
    simp only[dN]
    have he:(Instr.beginRound p.blk).run P w=.ok () w':=by
     simp only[Instr.beginRound,Instr.getLoop,Sem.run_bind,hg,Result.andThen_ok,Sem.run_pure];rw[hset];simp[hrs]
    refine Fin.step (st_begin hc.mode ht hro he) ?_;have:=hs E .run k _ _ _ _ ((hc'.to fr.tmps k' rfl).mr hk1 htr);simp only[hr] at this;exact this
   |_=>exact Fin.fail
theorem od {kk:Nat}{G:World->Prop}(hG:Gd0 kk G){hk:Hook}(hok:aq P kk G hk)(hall:∀ b cs,GB kk G b->Sound P b cs ih):∀ b cs,GB kk G b->Sound P b cs (Exo.step P hk ih):=by
 intro w0 cs0 hGB E m t c fr cs w h;have hs:Sound P w0 cs0 ih:=hall w0 cs0 hGB;cases m with
 |run=>
  cases t with
  |nil=>
   obtain⟨b,hc⟩:=h.cur;have ht:fr.todo=[]:=h.rest.1;exact ko hs hc h.rest.2 (by unfold leaving;rw[ht])
  |cons it k=>exact xB hG hGB hall (hok w0 hGB) h
 |returning=>exact unw_ok hs (fun e=>by cases e) h
 |panicking ch=>exact unw_ok hs (fun e=>by cases e) h
theorem iu {kk:Nat}{G:World->Prop}(hG:Gd0 kk G){hk:Hook}(hok:aq P kk G hk):∀ n,∀ b cs,GB kk G b->Sound P b cs (run P hk n)
 |0=>fun _ _ _ E m t c fr cs w h m' t' c' e=>by cases e;exact⟨E,fr,cs,w,.refl _ _,h⟩
 |n+1=>od hG hok (iu hG hok n)
def og (P:Program)(f:Nat)(o:Out):Option (V×T AObj×Nat):=
 match o with
 |.st .returning _ c=>(match c.cs,c.ds,c.kind with
  |[],[],.normal=>cond (Nat.beq c.fn f) (match resV P c.fn c.tm c.H with|.val v=>some (v,c.H,c.nx)|_=>none) none
  |_,_,_=>none)
 |_=>none
theorem u7 {kk:Nat}{G:World->Prop}(hG:Gd0 kk G)(hGB:GB kk G w0){hk:Hook}(hok:aq P kk G hk){f:Nat}{args:List V}{xs:List Value}{H:T AObj}{nx n:Nat}{w:World}(hwr:WR w0 E H nx w)(hgl:∀ g,g<P.globals.size->∃ s,E g=some ⟨g,0,s,undef,noOb,[]⟩)(ha:VRs E args xs){v:V}{H':T AObj}{nx':Nat}
  (h:og P f (cq P f args .normal [] H nx (run P hk n))=some (v,H',nx')):Calls P f xs.toArray w fun e w'=>∃ x E',e=.returned x/\VR E' v x/\WR w0 E' H' nx' w':=by
 intro cs;have hfin:Fin P w0 cs (cq P f args .normal [] H nx (run P hk n)) (Frame.enter P f xs.toArray .normal) cs w:=gO (iu hG hok n w0 cs hGB) hwr hgl (afs:=[]) (frs:=cs) rfl ha .normal;generalize cq P f args .normal [] H nx (run P hk n)=o at h hfin;unfold og at h;split at h
 ·rename_i todo c
  split at h
  ·rename_i h1 h2 h3
   cases hb:Nat.beq c.fn f with
   |false=>rw[hb] at h;cases h
   |true=>
    rw[hb] at h;simp only[cond_true] at h;rw[Nat.beq_eq] at hb;obtain⟨E',fr,cs',w',hst,hmr⟩:=hfin _ _ _ rfl;cases hr:resV P c.fn c.tm c.H with
    |val u=>
     rw[hr] at h;simp only[Option.some.injEq,Prod.mk.injEq] at h;obtain⟨rfl,rfl,rfl⟩:=h;obtain⟨fn,x,g1,g2,g3⟩:=sG hmr.wr hmr.rest hr;obtain⟨b,_,hf⟩:=hmr.frs;rw[h1] at hf;change cs'=cs at hf;subst hf;have hd:=hmr.defers;rw[h2] at hd;exact⟨.returned x,w',fr,⟨x,E',rfl,g3,hmr.wr⟩,hst,by rw[hmr.fn,hb],⟨hmr.mode,hd,by rw[hmr.kind,h3],fn,by rw[hmr.fn];exact g1,g2⟩⟩
    |_=>rw[hr] at h;cases h
  ·cases h
 ·cases h
end
end Go.Exo
end

noncomputable section
namespace Go.Exo
variable [Sx] [Dc]
def u9 (n x p:Nat):Nat->Nat->Int:=
 Nat.rec (motive:=fun _=>Nat->Int) (fun _=>Int.negSucc 0) (fun _ ih i=>cond (Nat.beq (Nat.mod (Nat.shiftRight n (Nat.mul 8 i)) p) x) (Int.ofNat i) (ih (Nat.succ i)))
def idxS (l n m x:Nat):Int:=cond (Nat.ble m l) (u9 n x (Nat.pow 256 m) (Nat.succ (Nat.sub l m)) 0) (Int.negSucc 0)
def sK (fn:Nat):Hook:=fun f args H nx=>
 cond (Nat.beq f fn) (match args with
  |[.str l n,.str m x]=>cond (Nat.ble l 4294967280) (some (.int .i64 (idxS l n m x),H,nx)) none
  |_=>none) none
end Go.Exo
end

noncomputable section
namespace Go.Exo
variable [Sx] [Dc] [Tb]
section
variable {P:Program}{w0:Bs}
def noEnv:Env:=fun _=>none
def yW (P:Program)(G:World->Prop)(f:Nat)(args:List V)(v:V):Prop:=
 ∀ w xs,G w->VRs noEnv args xs->Calls P f xs.toArray w fun e w'=>∃ x,e=.returned x/\VR noEnv v x/\Ext w w'
variable {k:Nat}{G:World->Prop}
theorem aq.nil:aq P k G fun _ _ _ _=>none:=by
 intro w0 _ E H nx w f args xs v H' nx' _ _ _ h;cases h
def hkOr (a b:Hook):Hook:=fun g args H nx=>match a g args H nx with|some r=>some r|none=>b g args H nx
theorem aq.or {a b:Hook}(h1:aq P k G a)(h2:aq P k G b):aq P k G (hkOr a b):=by
 intro w0 hw0 E H nx w g args xs v' H' nx' hwr hgl hxs hh;unfold hkOr at hh;cases ha:a g args H nx with
 |some r=>rw[ha] at hh;cases hh;exact h1 w0 hw0 E H nx w g args xs v' H' nx' hwr hgl hxs ha
 |none=>rw[ha] at hh;exact h2 w0 hw0 E H nx w g args xs v' H' nx' hwr hgl hxs hh
def oh (P:Program):Env:=fun g=>if g<P.globals.size then some ⟨g,0,0,undef,noOb,[]⟩ else none
def Bs.top (P:Program)(w:World):Bs:=⟨w,fun b=>b<w.heap.size,fun _ h=>h,oh P⟩
theorem WR.start {nx:Nat}{w:World}(hsz:P.globals.size<=w.heap.size)(hnx:P.globals.size<=nx)(hdc:∀ t,Dc.dec t=none):WR (Bs.top P w) (oh P) .e nx w:=by
 refine⟨fun l p _=>?_,fun l hl=>⟨?_,rfl⟩,fun l l' p p' _ _ _ _=>.inl (.inl rfl),fun l h=>absurd rfl h,fun l p hp=>⟨?_,.inl rfl⟩,fun _ _=>rfl,am _,rfl,rfl,rfl,Env.le.refl _,fun l p hp b o v hf=>?_,fun t b hd=>(by rw[hdc] at hd;cases hd),fun l p hl b o v hf _=>⟨l,p,hl,hf⟩⟩
 ·trivial
 ·unfold oh;rw[if_neg (by omega)]
 ·unfold oh at hp
  split at hp
  ·cases hp;show l<_;omega
  ·cases hp
 ·unfold oh at hp
  split at hp
  ·cases hp;cases hf
  ·cases hp
theorem WR.toExt {E:Env}{H:T AObj}{nx:Nat}{w w':World}(h:WR (Bs.top P w) E H nx w'):Ext w w':=⟨h.old,h.size,h.os,h.output,h.tape⟩
theorem glEnv_gl:∀ g,g<P.globals.size->∃ s,oh P g=some ⟨g,0,s,undef,noOb,[]⟩:=fun g hg=>⟨0,by unfold oh;rw[if_pos hg]⟩
def sL (P:Program)(hk:Hook)(f:Nat)(args:List V)(nx n:Nat)(v:V):Bool:=
 match og P f (cq P f args .normal [] .e nx (run P hk n)) with
 |some (u,_,_)=>V.eqB u v
 |none=>false
theorem answers {hk:Hook}{f:Nat}{args:List V}{nx n:Nat}{v:V}(h:sL P hk f args nx n v=true)(hok:aq P k G hk)(hG:Gd0 k G)(hsz:P.globals.size<=k)(hnx:P.globals.size<=nx)(hf:V.fineL args=true)(hv:v.fine=true)(hdc:∀ t,Dc.dec t=none)(htb:Tb.tab=none) :
  yW P G f args v:=by
 intro w xs he hxs;have hk:=hG.size w he;unfold sL at h;split at h
 ·rename_i u H' nx' hu
  have hq:=fG h;subst hq;refine (u7 (w0:=Bs.top P w) hG ⟨fun i hi=>by show i<w.heap.size;omega,he,fun pl fn ht=>by rw[htb] at ht;cases ht⟩ hok (WR.start (by omega) hnx hdc) glEnv_gl (VRs.ofFine hf hxs) hu).mono fun e w' ⟨x,E',h1,h2,h3⟩=>?_
  exact⟨x,h1,VR.ofFine hv h2,h3.toExt⟩
 ·cases h
end
end Go.Exo
end
