/-
  EXO, part P2: a list of one's own grows. Own text.
-/
import Derived.Test.YtihaakenfdkgnaaGreatDoorPart7
import Derived.Test.YtihaakenfdkgnaaGreatDoorPart6
set_option linter.all false
noncomputable section
namespace Go.Exo
variable [Sx] [Dc]
section
variable {P:Program}{w0:Bs}{E:Env}{H:T AObj}{nx:Nat}{w w':World}
theorem WR.grown (h:WR w0 E H nx w){l:Nat}{p:Pl}{e:TypeId}(hl:E l=some p)(hobj:getH H l=.own e)(q:Pl)(hsz:w.heap.size<=w'.heap.size)
  (hoth:∀ b,b<w.heap.size->b≠p.blk->w'.heap[b]? = w.heap[b]?)(hself:∀ o v,o<p.base->w.cell? ⟨p.blk,o,none⟩=some v->w'.cell? ⟨p.blk,o,none⟩=some v)
  (hos:w'.os=w.os)(hout:w'.output=w.output)(htape:w'.tape=w.tape)(hq:(q.blk=p.blk/\p.base<=q.base)\/(w.heap.size<=q.blk/\q.blk<w'.heap.size))
  (hobq:∃ c,w'.heap[q.blk]? = some (.cells c e (0,0))/\q.base+q.size<=c.size)(hfz:∀ b o v,q.ob.fz b o=some v->b=q.blk/\o<q.base/\w'.cell? ⟨b,o,none⟩=some v) :
  WR w0 (E.set nx q) (put .no (put .no H l .no) nx (.own e)) (nx+1) w':=by
 have hno:=h.fresh nx (am _);have hlt:l<nx:=Nat.lt_of_not_le fun hh=>by rw[(h.fresh l hh).1] at hl;cases hl
 have hle:E.le (E.set nx q):=Env.le_set _ hno.1
 have hE:∀ k r,(E.set nx q) k=some r->(k=nx/\r=q)\/(k≠nx/\E k=some r):=by
  intro k r hk;by_cases e:k=nx
  ·subst e;rw[Env.set_self] at hk;cases hk;exact .inl ⟨rfl,rfl⟩
  ·rw[Env.set_other _ _ _ _ e] at hk;exact .inr ⟨e,hk⟩
 have hnx:getH (put .no (put .no H l .no) nx (.own e)) nx=.own e:=by rw[ar,if_pos rfl]
 have hL:getH (put .no (put .no H l .no) nx (.own e)) l=.no:=by rw[ar,if_neg (by omega),ar,if_pos rfl]
 have hget:∀ k,k≠nx->k≠l->getH (put .no (put .no H l .no) nx (.own e)) k=getH H k:=fun k a b=>by rw[ar,if_neg a,ar,if_neg b]
 generalize put .no (put .no H l .no) nx (.own e)=H' at *;have hpb:p.blk<w.heap.size:=(h.own l p hl).1
 have hpo:¬ w0.old p.blk:=by
  rcases (h.own l p hl).2 with g|g|g
  ·rw[hobj] at g;cases g
  ·rw[hobj] at g;cases g
  ·exact g
 have hqo:¬ w0.old q.blk:=by
  rcases hq with⟨e1,_⟩|⟨e1,_⟩
  ·rw[e1];exact hpo
  ·exact h.not_old e1
 have hal:∀ k r,k≠nx->E k=some r->r.blk=q.blk->getH H' k=.no:=by
  intro k r hk hr hb;by_cases e2:k=l
  ·subst e2;exact hL
  rcases hq with⟨e1,_⟩|⟨e1,_⟩
  ·rw[hget k hk e2]
   rcases h.sep k l r p e2 hr hl (by rw[hb,e1]) with (g|g|g)|g
   ·exact g
   ·rw[hobj] at g;cases g
   ·rw[hobj] at g;exact absurd g.2.1 g.1
   ·rw[hobj] at g;cases g.2
  ·have:=(h.own k r hr).1;omega
 have hcl:∀ k,aw (getH H k)≠0->aw (getH H k)≠l/\aw (getH H k)≠nx:=fun k hk=>by
  obtain⟨a,b,c,h1,_⟩:=h.cls k hk;exact⟨fun e=>(by rw[e,hobj] at h1;cases h1),fun e=>(by rw[e,hno.2] at h1;cases h1)⟩
 refine⟨fun k r hk=>?_,fun k hk=>?_,fun k k' r r' hne hk hk' hb=>?_,fun k hk=>?_,fun k r hk=>?_,fun b hb=>?_,Nat.le_trans h.size hsz,hos.trans h.os,hout.trans h.output,htape.trans h.tape,h.le.trans hle,fun k r hk b o v hf=>?_,h.dec,fun k r hk b o v hf ho=>?_⟩
 ·rcases hE k r hk with⟨rfl,rfl⟩|⟨hne,hk⟩
  ·rw[hnx];exact hobq
  ·by_cases e2:k=l
   ·subst e2;rw[hL];trivial
   ·rw[hget k hne e2]
    by_cases hb:r.blk=p.blk
    ·rcases h.sep k l r p e2 hk hl hb with (g|g|g)|g
     ·rw[g];trivial
     ·rw[hobj] at g;cases g
     ·rw[hobj] at g;exact absurd g.2.1 g.1
     ·rw[hobj] at g;cases g.2
    ·rw[hoth _ (h.own k r hk).1 hb]
     exact (h.objs k r hk).trans hle fun pos ho=>ho.same fun hc0=>by
      obtain⟨a,b⟩:=hcl k hc0;exact hget _ b a
 ·have:=h.fresh k (by omega)
  exact⟨by rw[Env.set_other _ _ _ _ (by omega)];exact this.1,by rw[hget k (by omega) (by omega)];exact this.2⟩
 ·rcases hE k r hk with⟨e1,e1'⟩|⟨hn1,hk1⟩
  ·rcases hE k' r' hk' with⟨e2,_⟩|⟨hn2,hk2⟩
   ·exact absurd (e1.trans e2.symm) hne
   ·exact .inl (.inr (.inl (hal k' r' hn2 hk2 (by rw[<- hb,e1']))))
  ·rcases hE k' r' hk' with⟨e2,e2'⟩|⟨hn2,hk2⟩
   ·exact .inl (.inl (hal k r hn1 hk1 (by rw[hb,e2'])))
   ·by_cases e1:k=l
    ·subst e1;exact .inl (.inl hL)
    by_cases e2:k'=l
    ·subst e2;exact .inl (.inr (.inl hL))
    rw[hget k hn1 e1,hget k' hn2 e2];exact h.sep k k' r r' hne hk1 hk2 hb
 ·by_cases e1:k=nx
  ·subst e1;rw[hnx] at hk;exact absurd rfl hk
  by_cases e2:k=l
  ·subst e2;rw[hL] at hk;exact absurd rfl hk
  rw[hget k e1 e2] at hk ⊢;obtain⟨a,b,c,h1,h2,h3⟩:=h.cls k hk;obtain⟨g1,g2⟩:=hcl k hk;exact⟨a,b,c,by rw[hget _ g2 g1];exact h1,h2,by rw[Env.set_other _ _ _ _ g2];exact h3⟩
 ·rcases hE k r hk with⟨rfl,rfl⟩|⟨hne,hk⟩
  ·refine⟨?_,.inr (.inr hqo)⟩
   rcases hq with⟨e1,_⟩|⟨_,e1⟩
   ·rw[e1];omega
   ·exact e1
  ·have:=h.own k r hk
   refine⟨by omega,?_⟩;by_cases e2:k=l
   ·subst e2;exact .inl hL
   ·rw[hget k hne e2];exact this.2
 ·have hlo:=h.lt_old hb
  rw[hoth b hlo fun e=>hpo (e ▸ hb)];exact h.old b hb
 ·rcases hE k r hk with⟨e1,e1'⟩|⟨hne,hk⟩
  ·subst e1'
   obtain⟨rfl,h2,h3⟩:=hfz b o v hf;refine⟨h3,fun k' r' hk' hb'=>?_⟩;rcases hE k' r' hk' with⟨e2,e2'⟩|⟨hn2,hk2⟩
   ·rw[e2,hnx,e2'];exact h2
   ·rw[hal k' r' hn2 hk2 hb'];exact .inl rfl
  ·obtain⟨h1,h2⟩:=h.dat k r hk b o v hf
   have hbl:=fA h1
   have hown:b=p.blk->o<p.base:=fun e=>by
    have:=h2 l p hl e.symm;rw[hobj] at this;exact this
   refine⟨?_,fun k' r' hk' hb'=>?_⟩
   ·by_cases e:b=p.blk
    ·have:=hown e
     subst e;exact hself o v this h1
    ·exact (bG (hoth b hbl e)).trans h1
   ·rcases hE k' r' hk' with⟨e2,e2'⟩|⟨hn2,hk2⟩
    ·rw[e2,hnx]
     show o<r'.base;rw[e2'] at hb' ⊢;rcases hq with⟨e1,e2⟩|⟨e1,_⟩
     ·have:=hown (by rw[<- hb',e1]);omega
     ·omega
    ·by_cases e2:k'=l
     ·subst e2;rw[hL];exact .inl rfl
     ·rw[hget k' hn2 e2];exact h2 k' r' hk2 hb'
 ·rcases hE k r hk with⟨rfl,rfl⟩|⟨_,hk⟩
  ·obtain⟨rfl,_,_⟩:=hfz b o v hf
   exact absurd ho hqo
  ·exact h.fzo k r hk b o v hf ho
theorem Kd.beq_eq0 {a b:Kd}(h:Kd.beq a b=true):a=b:=by
 cases a<;>cases b<;>simp only[Kd.beq] at h<;>first|rfl|(cases h;done)|(rw[(fx _ _).1 h])|(rw[aa h])
theorem toXk_ok0 {k:Kd}{v:V}{x:Value}(h:VR E v x){t:X}(ht:toXk k v=some t):t.ok E/\CR E.fz k x (Cl.hd (t.den E)):=by
 have key:(match toX v with|some t=>cond (t.kd.beq k) (some t) none|none=>none)=some t->t.ok E/\CR E.fz k x (Cl.hd (t.den E)):=by
  intro ht;cases hx:toX v with
  |none=>rw[hx] at ht;cases ht
  |some u=>
   rw[hx] at ht;simp only at ht;cases hb:u.kd.beq k with
   |false=>rw[hb] at ht;cases ht
   |true=>
    rw[hb] at ht;simp only[cond_true,Option.some.injEq] at ht;subst ht;obtain⟨h1,h2⟩:=cI h hx;rw[Kd.beq_eq0 hb] at h2;exact⟨h1,h2⟩
 cases v<;>first|exact key ht|skip
 cases h;simp only[toXk] at ht;cases hk:kdS k with
 |none=>rw[hk] at ht;cases ht
 |some e=>rw[hk] at ht;cases ht;rw[lu hk];exact⟨trivial,.nil e⟩
def gK (w:World)(p:Pl)(m:Nat):Pl:=⟨p.blk,p.base+m,p.size-m,undef,{ noOb with fz:=fun b o=>if b=p.blk/\p.base<=o/\o<p.base+m then w.cell? ⟨b,o,none⟩ else none },[]⟩
theorem WR.freeze (h:WR w0 E H nx w){l:Nat}{p:Pl}(hl:E l=some p){vs:T V}{len:Nat}{e:TypeId}{rel:Nat}(hobj:getH H l=.cells vs len e 0 rel 0 false){m:Nat}(hm:m<=len) :
  WR w0 (E.set nx (gK w p m)) (put .no (put .no H l .no) nx (.own e)) (nx+1) w:=by
 have ho:=h.objs l p hl;rw[hobj] at ho;obtain⟨c,fr,h1,h2,h3,h4,h5⟩:=ho;have hfr:fr=(0,0):=h4;subst hfr;have h':=h.upd l p hl (.own e) (by rw[hobj];intro hh;cases hh) (by rw[hobj];rfl) (by rw[hobj];rfl) (by rw[hobj];rfl) (by rw[hobj];rfl) rfl w (.cells c e (0,0)) rfl (fun _ _=>rfl) h1 rfl rfl rfl ⟨c,rfl,by omega⟩;have hlt:l<nx:=Nat.lt_of_not_le fun hh=>by rw[(h.fresh l hh).1] at hl;cases hl
 have hg:=h'.grown hl (by rw[ar,if_pos rfl]) (gK w p m) (am _) (fun _ _ _=>rfl) (fun _ _ _ hv=>hv) rfl rfl rfl (.inl ⟨rfl,Nat.le_add_right _ _⟩) ⟨c,h1,by show p.base+m+(p.size-m)<=c.size;omega⟩ fun b o v hf=>by
  simp only[gK] at hf;split at hf
  ·rename_i hh;exact⟨hh.1,hh.2.2,hf⟩
  ·cases hf
 refine hg.congr fun k=>?_
 simp only[ar];by_cases c1:k=nx
 ·simp[c1]
 ·by_cases c2:k=l<;>simp[c1,c2]
theorem mT:∀ {ks:List Kd}{vs:List V}{xs:List Value}{a:X},VRs E vs xs->rowX ks vs=some a->a.ok E/\(a.den E).length=ks.length/\xs.length=ks.length/\
  ∀ (j:Nat) x c k,xs[j]? = some x->(a.den E)[j]? = some c->ks[j]? = some k->CR E.fz k x c
 |[],[],_,_,h,ha=>by cases h;cases ha;exact⟨trivial,rfl,rfl,fun j x c k h=>by simp at h⟩
 |[],_::_,_,_,_,ha=>by cases ha
 |_::_,[],_,_,_,ha=>by cases ha
 |k::ks,v::vs,_,a,h,ha=>by
  cases h with
  |cons _ x _ xs h1 h2=>
   simp only[rowX] at ha;cases hb:toXk k v with
   |none=>rw[hb] at ha;cases ha
   |some t=>
    cases hc:rowX ks vs with
    |none=>rw[hb,hc] at ha;cases ha
    |some r=>
     rw[hb,hc] at ha;cases ha;obtain⟨g1,g2,g3,g4⟩:=mT h2 hc;obtain⟨f1,f2⟩:=toXk_ok0 h1 hb;refine⟨⟨f1,g1⟩,by simp[X.den,g2],by simp[g3],fun j x' c k' a1 a2 a3=>?_⟩;cases j with
     |zero=>simp[X.den] at a1 a2 a3;subst a1 a2 a3;exact f2
     |succ j=>simp[X.den] at a1 a2 a3;exact g4 j x' c k' a1 a2 a3
theorem Al (h:WR w0 E H nx w){t u ty e e':TypeId}{i:TypeInfo}{z:Value}(ht:P.underlying t=some (.slice e))(hu:P.underlying u=some (.slice e'))(hi:P.info? e=some i)(hz:i.zero=some z)(hzl:z.cells.size=i.size)
  {l:Nat}{tt:X}{x:V}{S X':Value}(hs:VR E (.lst l tt) S)(hx:VR E x X'):VG w0 E H nx w ((Builtin.append_ #[t,u] ty #[S,X']).run P w) (wA e i.size i.bytes l tt x H nx):=by
 unfold wA;cases hobj:getH H l<;>try trivial
 rename_i e0;cases hkd:kdS tt.kd with
 |none=>trivial
 |some e1=>
 simp only;refine aN (fun hb=>?_) 333;simp only[Bool.and_eq_true] at hb;obtain⟨⟨b1,b2⟩,b3⟩:=hb;have q1:=aa b1;have q2:=aa b2;have hes:=aa b3;subst q1 q2;have hkd:=lu hkd;cases hx<;>try trivial
 rename_i k off n cp esz q c hq hn1 hn2 hn3;by_cases hn:n=1
 case neg=>rcases n with _|_|n<;>first|trivial|exact absurd rfl hn
 subst hn;simp only;refine jn h hq (Q:=VG w0 E H nx w _) (fun _=>trivial) fun news xs hnl hnr hnc=>?_
 cases hrow:rowX (Sx.row e1) news with
 |none=>trivial
 |some a=>
 simp only;refine dv h fun hroom=>?_
 simp only[aJ];obtain⟨ra,rl,rxl,rc⟩:=mT hnr hrow;cases hs with
 |lst _ p _ e2 o len cap hp hok hk2 hcr hbase hcap=>
 have he2:e1=e2:=by rw[hkd] at hk2;cases hk2;rfl
 subst he2;have ho:=h.objs l p hp;rw[hobj] at ho;obtain⟨cc,hcc,hcs⟩:=ho;generalize hrr:Cl.hd (tt.den E)=cr at hcr;obtain⟨rows,vs,rfl,a1,a2,a3,a4,a5,a6⟩:=hcr.sl_open
 have hlen:len<140737488355328 / i.bytes:=by
  have h1:inrD (lenC (Cl.hd (tt.den E))) (.int (roomN i.bytes 1))=.bool true:=hroom;rw[hrr] at h1;simp only[lenC,inrD,roomN,Cl.bool.injEq,decide_eq_true_eq] at h1;have h2:=h1.2;simp only[Int.ofNat_eq_natCast] at h2;have h3:(rows.length:Int)<((140737488355328 / i.bytes:Nat):Int):=h2;omega
 have hlen2:140737488355328 / i.bytes<=140737488355328:=Nat.div_le_self _ _
 have hroom2:dh (len+1) i.bytes=true:=by
  have h9:(len+1)*i.bytes<=140737488355328:=Nat.le_trans (Nat.mul_le_mul_right _ hlen) (Nat.div_mul_le_self _ _);simp only[dh,Bool.and_eq_true,Nat.mul_eq];exact⟨an h9,an (by omega)⟩
 have hXR:XR P w (.slice (some ⟨q.blk,q.base+off,none⟩) 1 c) 1 i.size xs:=XR.slice (by rw[rxl,hes];omega) hnc
 have hcell:∀ (r:Nat)(rw':List Cl)(j:Nat)(d:Cl),rows[r]? = some rw'->rw'[j]? = some d->cc[o+r*(Sx.row e1).length+j]? = some (vs r j):=fun r rw' j d h1 h2=>by
  have:=kc h (a5 r rw' j d h1 h2);simpa[World.cell?,hcc] using this
 have hno:=h.fresh nx (am _);have hsum:(len+1)*i.size=len*i.size+i.size:=by rw[Nat.add_mul,Nat.one_mul]
 have hxl:xs.length=i.size:=by rw[rxl,hes]
 have hkeep:∀ qq:Pl,Keep E (E.set nx qq) H (put .no (put .no H l .no) nx (.own e1)) nx:=fun qq k' hk' hE' hcl'=>by
  have hne:k'≠l:=fun e=>by rw[e,hp] at hE';cases hE'
  exact⟨by rw[Env.set_other _ _ _ _ (by omega)];exact hE',by rw[ar,if_neg (by omega),ar,if_neg hne]⟩
 have hdn:Cl.hd ((X.snoc tt a).den E)=.sl false (rows++[a.den E]):=by
  show iT (Cl.hd (tt.den E)) (a.den E)=_;rw[hrr];rfl
 rw[hes] at hsum hxl;by_cases hin:len+1<=cap
 ·
  have hst:=bB (P:=P) p.blk (o+len*(Sx.row e1).length) e1 (0,0) xs 0 cc w hcc (fun j _ h2 h3=>by simp at h3) (by rw[hxl,Nat.add_zero];have:(len+1)*(Sx.row e1).length<=cap*(Sx.row e1).length:=Nat.mul_le_mul_right _ hin;omega)
   (fun v hv=>by
    obtain⟨j,hj⟩:=List.getElem?_of_mem hv
    have hj2:j<(Sx.row e1).length:=by have:=(ae.1 hj).1;omega
    exact (rc j v _ _ hj (ah (by rw[rl];exact hj2)) (ah hj2)).one.2)
  simp only[Nat.add_zero] at hst;generalize hc':(cc.toList.take (o+len*(Sx.row e1).length)++xs++cc.toList.drop (o+len*(Sx.row e1).length+xs.length)).toArray=c' at hst;have hmul:(len+1)*(Sx.row e1).length<=cap*(Sx.row e1).length:=Nat.mul_le_mul_right _ hin;have hcsz:c'.size=cc.size:=by rw[<- hc'];simp;omega
  have hcg:∀ j,c'[j]? = if p.base<=j/\j<p.base+(Sx.row e1).length then xs[j-p.base]? else cc[j]? := by
   intro j;rw[<- hc'];simp only[List.getElem?_toArray];by_cases c1:j<p.base
   ·rw[if_neg (by omega),List.append_assoc,List.getElem?_append_left (by simp;omega),List.getElem?_take,if_pos (by omega),Array.getElem?_toList]
   ·by_cases c2:j<p.base+(Sx.row e1).length
    ·rw[if_pos (by omega),List.getElem?_append_left (by simp;omega),List.getElem?_append_right (by simp;omega)]
     congr 1;simp;omega
    ·rw[if_neg (by omega),List.getElem?_append_right (by simp;omega),List.getElem?_drop,Array.getElem?_toList]
     congr 1;simp;omega
  have hself:(w.setRow p.blk c').heap[p.blk]? = some (.cells c' e1 (0,0)):=setRow_heap w p.blk cc c' e1 (0,0) hcc
  let φ:Nat->Nat->Option Value:=fun b oo=>if b=p.blk/\p.base<=oo/\oo<p.base+(Sx.row e1).length then c'[oo]? else none
  have hφ:∀ b oo v,φ b oo=some v->b=p.blk/\p.base<=oo/\oo<p.base+(Sx.row e1).length/\c'[oo]? = some v:=fun b oo v hv=>by
   simp only[φ] at hv;split at hv
   ·rename_i hh;exact⟨hh.1,hh.2.1,hh.2.2,hv⟩
   ·cases hv
  have hle:E.le (E.set nx ⟨p.blk,p.base+(Sx.row e1).length,p.size-(Sx.row e1).length,undef,{ noOb with fz:=φ },[]⟩):=Env.le_set _ hno.1
  have hwr:=h.grown (w':=w.setRow p.blk c') hp hobj ⟨p.blk,p.base+(Sx.row e1).length,p.size-(Sx.row e1).length,undef,{ noOb with fz:=φ },[]⟩ (by rw[setRow_size];exact am _)
   (fun b _ hne=>setRow_other w p.blk b c' hne) (fun oo v ho hv=>by
    have h1:cc[oo]? = some v:=by simpa[World.cell?,hcc] using hv
    have h2:c'[oo]? = some v:=by rw[hcg,if_neg (by omega)];exact h1
    simp[World.cell?,hself,h2]) rfl rfl rfl (.inl ⟨rfl,Nat.le_add_right _ _⟩) ⟨c',hself,by rw[hcsz];show p.base+(Sx.row e1).length+(p.size-(Sx.row e1).length)<=_;omega⟩ (fun b oo v hv=>by
    obtain⟨rfl,h2,h3,h4⟩:=hφ b oo v hv
    exact⟨rfl,h3,by simp[World.cell?,hself,h4]⟩)
  refine⟨_,_,_,fB ht hu hi hXR hin (by rw[hes];exact hst),hle,?_,hwr,Nat.le_succ _,hkeep _⟩;generalize hE':E.set nx ⟨p.blk,p.base+(Sx.row e1).length,p.size-(Sx.row e1).length,undef,{ noOb with fz:=φ },[]⟩=E' at *;have hE'n:E' nx=some ⟨p.blk,p.base+(Sx.row e1).length,p.size-(Sx.row e1).length,undef,{ noOb with fz:=φ },[]⟩:=by rw[<- hE'];exact Env.set_self _ _ _
  refine VR.lst nx ⟨p.blk,p.base+(Sx.row e1).length,p.size-(Sx.row e1).length,undef,{ noOb with fz:=φ },[]⟩ (.snoc tt a) e1 o (len+1) cap hE'n ⟨X.ok_mono hle hok,X.ok_mono hle ra⟩ hkd ?_ (by show o+(len+1)*(Sx.row e1).length=p.base+(Sx.row e1).length;omega) (by show _<=p.base+(Sx.row e1).length+(p.size-(Sx.row e1).length);omega);have hden:Cl.hd ((X.snoc tt a).den E')=.sl false (rows++[a.den E]):=by rw[X.den_mono (t:=X.snoc tt a) hle ⟨hok,ra⟩];exact hdn
  rw[hden]
  have hg:∀ (r:Nat)(rr:List Cl),(rows++[a.den E])[r]? = some rr->(r<len/\rows[r]? = some rr)\/(r=len/\rr=a.den E):=fun r rr hr=>by
   by_cases h1:r<rows.length
   ·rw[List.getElem?_append_left h1] at hr;exact .inl ⟨by omega,hr⟩
   ·rw[List.getElem?_append_right (by omega)] at hr
    have:r-rows.length=0:=by have:=(ae.1 hr).1;simp at this;omega
    rw[this] at hr;simp at hr;exact .inr ⟨by omega,hr.symm⟩
  refine .sl e1 p.blk o (len+1) cap _ (fun r j=>if r<len then vs r j else (xs[j]?).getD undef) (by simp[a1]) hin a3 (fun r rr hr=>?_) (fun r rr j d hr hd=>?_) (fun r rr j d kk hr hd hk=>?_)
  ·rcases hg r rr hr with⟨_,h1⟩|⟨_,rfl⟩
   ·exact a4 r rr h1
   ·exact rl
  ·rcases hg r rr hr with⟨h0,h1⟩|⟨rfl,rfl⟩
   ·rw[if_pos h0];exact Env.fz_mono hle (a5 r rr j d h1 hd)
   ·rw[if_neg (Nat.lt_irrefl _)]
    have hj:j<(Sx.row e1).length:=by have:=(ae.1 hd).1;omega
    refine⟨nx,_,hE'n,?_⟩;show φ p.blk _=_;simp only[φ];rw[if_pos (by refine⟨?_,?_,?_⟩<;>first|trivial|omega),hcg,if_pos ⟨by omega,by omega⟩,hbase,Nat.add_sub_cancel_left,ah (by omega)];rfl
  ·rcases hg r rr hr with⟨h0,h1⟩|⟨rfl,rfl⟩
   ·rw[if_pos h0];exact (a6 r rr j d kk h1 hd hk).mono fun _ _ _=>Env.fz_mono hle
   ·rw[if_neg (Nat.lt_irrefl _)]
    have hj:j<xs.length:=by have:=(ae.1 hd).1;omega
    rw[ah hj];exact (rc j _ d kk (ah hj) hd hk).mono fun _ _ _=>Env.fz_mono hle
 ·
  let olds:List Value:=(cc.toList.drop o).take (len*(Sx.row e1).length)
  have hfit:len*(Sx.row e1).length<=cap*(Sx.row e1).length:=Nat.mul_le_mul_right _ a2;have hol:olds.length=len*(Sx.row e1).length:=by simp only[olds,List.length_take,List.length_drop,Array.length_toList];omega
  have hog:∀ j,j<len*(Sx.row e1).length->olds[j]? = cc[o+j]? := fun j hj=>by
   simp only[olds];rw[List.getElem?_take,if_pos hj,List.getElem?_drop,Array.getElem?_toList]
  have hcells:∀ j v,olds[j]? = some v->w.cell? ((⟨p.blk,o,none⟩:Addr).add j)=some v:=fun j v hv=>by
   have hj:j<len*(Sx.row e1).length:=by have:=(ae.1 hv).1;omega
   rw[hog j hj] at hv;have hadd:=bI ⟨p.blk,o,0,undef,noOb,[]⟩ 0 j;simp only[Nat.add_zero,Nat.zero_add] at hadd;rw[hadd];simp[World.cell?,hcc,hv]
  have hrun:=dR (w:=w) (ty:=ty) ht hu hi hz (XR.slice (P:=P) (c:=cap) (by rw[hol,hes]) hcells) hXR (by omega) hroom2;have hge:=grownCap_ge w (len+1) cap e1;generalize hnc2:grownCap w (len+1) cap e1=nc at hrun hge;generalize hrow2:(olds++xs++(Builtin.zeroCells z.cells (nc-(len+1))).toList).toArray=row at hrun
  have hrsz:row.size=nc*(Sx.row e1).length:=by
   rw[<- hrow2,List.size_toArray,List.length_append,List.length_append,bu,hzl,hol,hxl,hes];have:nc=(len+1)+(nc-(len+1)):=by omega
   generalize nc-(len+1)=d at this;subst this;rw[Nat.add_mul,Nat.add_mul,Nat.one_mul]
  have hrg:∀ j,j<(len+1)*(Sx.row e1).length->row[j]? = if j<len*(Sx.row e1).length then cc[o+j]? else xs[j-len*(Sx.row e1).length]? := fun j hj=>by
   rw[<- hrow2,List.getElem?_toArray,List.getElem?_append_left (by simp[hol,hxl];omega)];split
   ·rename_i h1;rw[List.getElem?_append_left (by omega)];exact hog j h1
   ·rw[List.getElem?_append_right (by omega),hol]
  have hmul:(len+1)*(Sx.row e1).length<=nc*(Sx.row e1).length:=Nat.mul_le_mul_right _ hge
  let φ:Nat->Nat->Option Value:=fun b oo=>if b=w.heap.size/\oo<(len+1)*(Sx.row e1).length then row[oo]? else none
  have hφ:∀ b oo v,φ b oo=some v->b=w.heap.size/\oo<(len+1)*(Sx.row e1).length/\row[oo]? = some v:=fun b oo v hv=>by
   simp only[φ] at hv;split at hv
   ·rename_i hh;exact⟨hh.1,hh.2,hv⟩
   ·cases hv
  have hle:E.le (E.set nx ⟨w.heap.size,(len+1)*(Sx.row e1).length,(nc-(len+1))*(Sx.row e1).length,undef,{ noOb with fz:=φ },[]⟩):=Env.le_set _ hno.1;have hself:(w.heap.push (.cells row e1 (0,0)))[w.heap.size]? = some (.cells row e1 (0,0)):=by simp
  have hdiff:(len+1)*(Sx.row e1).length+(nc-(len+1))*(Sx.row e1).length=nc*(Sx.row e1).length:=by rw[<- Nat.add_mul];congr 1;omega
  have hwr:=h.grown (w':={ w with heap:=w.heap.push (.cells row e1 (0,0)),drawn:=w.drawn+1 }) hp hobj ⟨w.heap.size,(len+1)*(Sx.row e1).length,(nc-(len+1))*(Sx.row e1).length,undef,{ noOb with fz:=φ },[]⟩ (by simp)
   (fun b hb _=>by show (w.heap.push _)[b]? = _;rw[Array.getElem?_push,if_neg (by omega)]) (fun oo v ho hv=>by
    have hpb:=(h.own l p hp).1
    rw[<- hv];refine bG ?_
    show (w.heap.push _)[p.blk]? = _;rw[Array.getElem?_push,if_neg (by omega)]) rfl rfl rfl (.inr ⟨am _,by simp⟩) ⟨row,hself,by show (len+1)*(Sx.row e1).length+(nc-(len+1))*(Sx.row e1).length<=row.size;omega⟩ (fun b oo v hv=>by
    obtain⟨rfl,h3,h4⟩:=hφ b oo v hv
    exact⟨rfl,h3,by simp[World.cell?,h4]⟩)
  refine⟨_,_,_,hrun,hle,?_,hwr,Nat.le_succ _,hkeep _⟩;generalize hE':E.set nx ⟨w.heap.size,(len+1)*(Sx.row e1).length,(nc-(len+1))*(Sx.row e1).length,undef,{ noOb with fz:=φ },[]⟩=E' at *;have hE'n:E' nx=some ⟨w.heap.size,(len+1)*(Sx.row e1).length,(nc-(len+1))*(Sx.row e1).length,undef,{ noOb with fz:=φ },[]⟩:=by rw[<- hE'];exact Env.set_self _ _ _
  refine VR.lst nx ⟨w.heap.size,(len+1)*(Sx.row e1).length,(nc-(len+1))*(Sx.row e1).length,undef,{ noOb with fz:=φ },[]⟩ (.snoc tt a) e1 0 (len+1) nc hE'n ⟨X.ok_mono hle hok,X.ok_mono hle ra⟩ hkd ?_ (by show 0+(len+1)*(Sx.row e1).length=(len+1)*(Sx.row e1).length;omega) (by show 0+nc*(Sx.row e1).length<=(len+1)*(Sx.row e1).length+(nc-(len+1))*(Sx.row e1).length;rw[hdiff];omega)
  have hncm:nc<=maxLen:=by
   rw[<- hnc2];refine grownCap_le_maxLen w (len+1) cap e1 ?_;have:=hlen2;show len+1<=9223372036854775807;omega
  have hden:Cl.hd ((X.snoc tt a).den E')=.sl false (rows++[a.den E]):=by rw[X.den_mono (t:=X.snoc tt a) hle ⟨hok,ra⟩];exact hdn
  rw[hden]
  have hg:∀ (r:Nat)(rr:List Cl),(rows++[a.den E])[r]? = some rr->(r<len/\rows[r]? = some rr)\/(r=len/\rr=a.den E):=fun r rr hr=>by
   by_cases h1:r<rows.length
   ·rw[List.getElem?_append_left h1] at hr;exact .inl ⟨by omega,hr⟩
   ·rw[List.getElem?_append_right (by omega)] at hr
    have:r-rows.length=0:=by have:=(ae.1 hr).1;simp at this;omega
    rw[this] at hr;simp at hr;exact .inr ⟨by omega,hr.symm⟩
  refine .sl e1 w.heap.size 0 (len+1) nc _ (fun r j=>if r<len then vs r j else (xs[j]?).getD undef) (by simp[a1]) hge hncm (fun r rr hr=>?_) (fun r rr j d hr hd=>?_) (fun r rr j d kk hr hd hk=>?_)
  ·rcases hg r rr hr with⟨_,h1⟩|⟨_,rfl⟩
   ·exact a4 r rr h1
   ·exact rl
  ·rcases hg r rr hr with⟨h0,h1⟩|⟨rfl,rfl⟩
   ·rw[if_pos h0]
    have hj:j<(Sx.row e1).length:=by have h2:=(ae.1 hd).1;have h3:=a4 r rr h1;omega
    have hrl:r*(Sx.row e1).length+j<len*(Sx.row e1).length:=by
     have:(r+1)*(Sx.row e1).length<=len*(Sx.row e1).length:=Nat.mul_le_mul_right _ h0;rw[Nat.add_mul,Nat.one_mul] at this;omega
    refine⟨nx,_,hE'n,?_⟩;show φ w.heap.size _=_;simp only[φ];rw[if_pos (by refine⟨?_,?_⟩<;>first|trivial|omega),Nat.zero_add,hrg _ (by omega),if_pos hrl,<- Nat.add_assoc];exact hcell r rr j d h1 hd
   ·rw[if_neg (Nat.lt_irrefl _)]
    have hj:j<(Sx.row e1).length:=by have:=(ae.1 hd).1;omega
    refine⟨nx,_,hE'n,?_⟩;show φ w.heap.size _=_;simp only[φ];rw[if_pos (by refine⟨?_,?_⟩<;>first|trivial|omega),Nat.zero_add,hrg _ (by omega),if_neg (by omega),Nat.add_sub_cancel_left,ah (by omega)];rfl
  ·rcases hg r rr hr with⟨h0,h1⟩|⟨rfl,rfl⟩
   ·rw[if_pos h0];exact (a6 r rr j d kk h1 hd hk).mono fun _ _ _=>Env.fz_mono hle
   ·rw[if_neg (Nat.lt_irrefl _)]
    have hj:j<xs.length:=by have:=(ae.1 hd).1;omega
    rw[ah hj];exact (rc j _ d kk (ah hj) hd hk).mono fun _ _ _=>Env.fz_mono hle
theorem Am (h:WR w0 E H nx w){t u ty e e':TypeId}{i:TypeInfo}{z:Value}(ht:P.underlying t=some (.slice e))(hu:P.underlying u=some (.slice e'))(hi:P.info? e=some i)(hz:i.zero=some z)(hzl:z.cells.size=i.size)
  {x:V}{X':Value}(hx:VR E x X'){alt:Res}(halt:VG w0 E H nx w ((Builtin.append_ #[t,u] ty #[.slice none 0 0,X']).run P w) alt):VG w0 E H nx w ((Builtin.append_ #[t,u] ty #[.slice none 0 0,X']).run P w) (wB e i.size i.bytes x H nx alt):=by
 unfold wB;cases hx<;>try exact halt
 rename_i k off n cp esz q c hq hn1 hn2 hn3;by_cases hn:n=1
 case neg=>rcases n with _|_|n<;>first|exact halt|exact absurd rfl hn
 subst hn;simp only;refine jn h hq (Q:=VG w0 E H nx w _) (fun _=>trivial) fun news xs hnl hnr hnc=>?_
 cases (V.fineL news && !ownM) with
 |true=>exact halt
 |false=>
 simp only[cond_false];cases hrow:rowX (Sx.row e) news with
 |none=>exact halt
 |some a=>
 simp only;refine aN (fun hb=>?_) 335;simp only[Bool.and_eq_true] at hb;have hes:=aa hb.1;have hroom:dh (0+1) i.bytes=true:=hb.2;simp only[aJ];obtain⟨ra,rl,rxl,rc⟩:=mT hnr hrow;have hXR:XR P w (.slice (some ⟨q.blk,q.base+off,none⟩) 1 c) 1 i.size xs:=XR.slice (by rw[rxl,hes];omega) hnc;have hrun:=dR (w:=w) (ty:=ty) ht hu hi hz (base:=none) (len:=0) (c:=0) (XR.nils _) hXR (by omega) hroom;have hge:=grownCap_ge w (0+1) 0 e;have hncm:grownCap w (0+1) 0 e<=maxLen:=grownCap_le_maxLen w (0+1) 0 e (by decide);generalize grownCap w (0+1) 0 e=nc at hrun hge hncm;generalize hrow2:(([]:List Value)++xs++(Builtin.zeroCells z.cells (nc-(0+1))).toList).toArray=row at hrun
 have hrsz:row.size=nc*(Sx.row e).length:=by
  rw[<- hrow2,List.size_toArray,List.length_append,List.nil_append,bu,hzl,rxl,hes];have:nc=1+(nc-(0+1)):=by omega
  generalize nc-(0+1)=d at this;subst this;rw[Nat.add_mul,Nat.one_mul]
 have hrg:∀ j,j<(Sx.row e).length->row[j]? = xs[j]? := fun j hj=>by
  rw[<- hrow2,List.getElem?_toArray,List.nil_append,List.getElem?_append_left (by omega)]
 have hnlen:news.length=(Sx.row e).length:=by rw[hnl,hes]
 have hone:(Sx.row e).length<=nc*(Sx.row e).length:=Nat.le_mul_of_pos_left _ (by omega)
 obtain⟨h1,h2,h3⟩:=jo h e (0,0) 0 (w.drawn+1) (vs:=news) (c:=row) (fun j v hv=>by
  obtain⟨y,hy,hr⟩:=hnr.get j v hv
  have hj:j<(Sx.row e).length:=by have:=(ae.1 hv).1;omega
  exact⟨y,by rw[hrg j hj];exact hy,hr⟩) (by omega) rfl
 generalize hw1:({ w with heap:=w.heap.push (.cells row e (0,0)),drawn:=w.drawn+1 }:World)=w1 at *;have hw1c:w1.heap[w.heap.size]? = some (.cells row e (0,0)):=by rw[<- hw1];simp
 generalize hp:(⟨w.heap.size,0,row.size,undef,noOb,[]⟩:Pl)=p at *;have hpb:p.blk=w.heap.size:=by rw[<- hp]
 have hpz:p.base=0:=by rw[<- hp]
 have hps:p.size=row.size:=by rw[<- hp]
 have h4:=h2.freeze (l:=nx) (p:=p) (Env.set_self _ _ _) (vs:=putL .bad news 0 .e) (len:=news.length) (e:=e) (rel:=0) (by rw[ar,if_pos rfl]) (m:=(Sx.row e).length) (by omega);have hno:=h.fresh nx (am _);have hno2:=h2.fresh (nx+1) (am _);have hle2:(E.set nx p).le ((E.set nx p).set (nx+1) (gK w1 p (Sx.row e).length)):=Env.le_set _ hno2.1;have hle:=h1.trans hle2;refine⟨_,_,_,hrun,hle,?_,h4.congr fun k=>?_,by show nx<=nx+1+1;omega,fun k hk hE hcl=>⟨?_,?_⟩⟩
 ·have hden:Cl.hd ((X.snoc (.nil e) a).den ((E.set nx p).set (nx+1) (gK w1 p (Sx.row e).length)))=.sl false [a.den E]:=by
   show iT (.sl true []) (a.den ((E.set nx p).set (nx+1) (gK w1 p (Sx.row e).length)))=_;rw[X.den_mono hle ra];rfl
  have:=VR.lst (E:=(E.set nx p).set (nx+1) (gK w1 p (Sx.row e).length)) (nx+1) (gK w1 p (Sx.row e).length) (.snoc (.nil e) a) e 0 1 nc (Env.set_self _ _ _) ⟨trivial,X.ok_mono hle ra⟩ rfl ?_ (by show 0+1*_=p.base+_;omega) (by show 0+nc*_<=p.base+(Sx.row e).length+(p.size-(Sx.row e).length);omega)
  ·rw[<- hpb];exact this
  rw[hden];refine .sl e p.blk 0 1 nc _ (fun _ j=>(xs[j]?).getD undef) rfl (by omega) hncm (fun r rr hr=>?_) (fun r rr j d hr hd=>?_) (fun r rr j d kk hr hd hk=>?_)
  ·obtain⟨rfl,rfl⟩:r=0/\rr=a.den E:=by cases r with|zero=>simp at hr;exact⟨rfl,hr.symm⟩|succ r=>simp at hr
   exact rl
  ·obtain⟨rfl,rfl⟩:r=0/\rr=a.den E:=by cases r with|zero=>simp at hr;exact⟨rfl,hr.symm⟩|succ r=>simp at hr
   have hj:j<(Sx.row e).length:=by have:=(ae.1 hd).1;omega
   refine⟨nx+1,_,Env.set_self _ _ _,?_⟩;show (if p.blk=p.blk/\p.base<=0+0*_+j/\0+0*_+j<p.base+(Sx.row e).length then w1.cell? ⟨p.blk,0+0*_+j,none⟩ else none)=_;rw[if_pos ⟨rfl,by omega,by omega⟩,hpb];have e0:0+0*(Sx.row e).length+j=j:=by omega
   rw[e0];simp only[World.cell?,hw1c];rw[hrg j hj,ah (by omega)];rfl
  ·obtain⟨rfl,rfl⟩:r=0/\rr=a.den E:=by cases r with|zero=>simp at hr;exact⟨rfl,hr.symm⟩|succ r=>simp at hr
   have hj:j<xs.length:=by have:=(ae.1 hd).1;omega
   rw[ah hj];exact (rc j _ d kk (ah hj) hd hk).mono fun _ _ _=>Env.fz_mono hle
 ·simp only[ar]
  by_cases c1:k=nx+1
  ·simp[c1]
  ·by_cases c2:k=nx
   ·subst c2;simp[hno.2]
   ·simp[c1,c2]
 ·rw[Env.set_other _ _ _ _ (by omega),Env.set_other _ _ _ _ (by omega)];exact hE
 ·rw[ar,if_neg (by omega)]
theorem uJ (h:WR w0 E H nx w){t u ty e e':TypeId}{i:TypeInfo}{z:V}(ht:P.underlying t=some (.slice e))(hu:P.underlying u=some (.slice e'))(hi:P.info? e=some i)(hz:aG i=some z)(hzl:z.cells.length=i.size)
  {s x:V}{S X:Value}(hs:VR E s S)(hx:VR E x X):VG w0 E H nx w ((Builtin.append_ #[t,u] ty #[S,X]).run P w) (uf e i.size i.bytes s x H nx):=by
 have key:=wZ (ty:=ty) h ht hu hi hz hzl hs hx;obtain⟨zx,hz1,hz2,hzr⟩:=bn (E:=E) hz;have hzl2:zx.cells.size=i.size:=by rw[<- hzl,(hz2.cells hzr).length];simp
 cases s<;>first|exact key|exact Al h ht hu hi hz1 hzl2 hs hx|(cases hs;exact Am h ht hu hi hz1 hzl2 hx key)
end
end Go.Exo
end

noncomputable section
namespace Go.Exo
variable [Sx] [Dc]
section
variable {P:Program}{w0:Bs}{E:Env}{H:T AObj}{nx:Nat}{w:World}{tm:T V}{ev:Operand->Value}
theorem gL {R:Result Next}{b:Bool}{r:Res}{n:Nat}(h:b=true->Good P w0 E H nx w R r):Good P w0 E H nx w R (cnd b r (.fail n)):=by
 cases b with
 |true=>exact h rfl
 |false=>trivial
theorem Good.bad {R:Result Next}:Good P w0 E H nx w R (exOp .bad tm H nx):=True.intro
theorem onEx {R:Result Next}{ao:AOp}(h0:Good P w0 E H nx w R (pT ao tm H nx))(hs:∀ r,sxOp ao tm=some r->Good P w0 E H nx w R r):Good P w0 E H nx w R (exOp ao tm H nx):=by
 unfold exOp;cases h:sxOp ao tm with
 |none=>exact h0
 |some r=>exact hs r h
theorem c9 {v:V}{r:X->Res}{r':Res}(h:onX v r=some r'):∃ t,asX v=some t/\r'=r t:=by
 unfold onX at h;split at h
 ·rename_i t ht;cases h;exact⟨t,ht,rfl⟩
 ·cases h
theorem mU {v:V}{r:X->X->Nat->Res}{r':Res}(h:onA v r=some r'):∃ s i j,v=.xa s i j/\r'=r s i j:=by
 cases v<;>simp only[onA] at h<;>first|(cases h;done)|(cases h;exact⟨_,_,_,rfl,rfl⟩)
theorem gM {x y:V}{r r':Res}(h:onX2 x y r=some r'):r'=r:=by
 unfold onX2 at h;split at h
 ·cases h;rfl
 ·split at h<;>cases h;rfl
theorem call_ok (h:WR w0 E H nx w)(c:Call)(ty:TypeId)(hev:∀ x∈c.operands.toList,VR E ((ap x).ev tm) (ev x)) :
  Good P w0 E H nx w ((do let d <- resolve ev c ty;invoke d.target d.args:Sem Next).run P w) (exOp (gr P c) tm H nx):=by
 have hargs:∀ x∈c.args.toList,VR E ((ap x).ev tm) (ev x):=fun x hx=>hev x (by unfold Call.operands;rw[Array.toList_append];exact List.mem_append.2 (.inr hx))
 have hA:c.args.map ev=(c.args.toList.map ev).toArray:=by apply Array.ext';simp
 unfold gr;cases hc:c.callee with
 |value x=>
  have hx:VR E ((ap x).ev tm) (ev x):=hev x (by unfold Call.operands;rw[Array.toList_append,hc];exact List.mem_append.2 (.inl (by simp)))
  have hcall:Good P w0 E H nx w ((do let d <- resolve ev c ty;invoke d.target d.args:Sem Next).run P w) (exOp (.call (ap x) (c.args.toList.map ap)) tm H nx):=by
   simp only[resolve,hc,hA];exact xCall_ok hx (mR hargs)
  cases x with
  |func f=>
   simp only;cases hf:mf P f with
   |none=>exact Good.bad
   |some fn=>
    simp only;cases hb:fn.body with
    |some b=>exact hcall
    |none=>
     simp only;cases hl:c.args.toList with
     |nil=>exact Good.bad
     |cons y r=>
      cases r with
      |nil=>exact Good.bad
      |cons z r=>
       cases r with
       |cons _ _=>exact Good.bad
       |nil=>
        simp only;cases hn:(fn.name == "internal/bytealg.IndexByteString" && (fn.origin == "" || fn.origin == "internal/bytealg.IndexByteString")) with
        |false=>
         simp only[cond_false];cases hn:(fn.name == "internal/bytealg.abigen_runtime_cmpstring" && (fn.origin == "" || fn.origin == "internal/bytealg.abigen_runtime_cmpstring")) with
         |false=>exact Good.bad
         |true=>
         simp only[Bool.and_eq_true,Bool.or_eq_true,beq_iff_eq] at hn;have hy:=hargs y (by rw[hl];simp);have hz:=hargs z (by rw[hl];simp);have key0:=w7 (H:=H) (nx:=nx) (w0:=w0) (w:=w) (gF P hf) hb hn.1 hn.2 hy hz;have key1:=sxCmp_ok (H:=H) (nx:=nx) (w0:=w0) (w:=w) (gF P hf) hb hn.1 hn.2 hy hz;have key:Good P w0 E H nx w ((callFunc f #[ev y,ev z]).run P w) (exOp (.extCmp (ap y) (ap z)) tm H nx):=onEx key0 fun r hr=>by rw[gM hr];exact key1
         have e:(do let d <- resolve ev c ty;invoke d.target d.args:Sem Next).run P w=(callFunc f #[ev y,ev z]).run P w:=by
          simp only[resolve,hc,hA,hl]
          have hfx:ev (.func f)=.func (.func f) #[] #[]:=by
           have hx':VR E (.func (.func f) [] []) (ev (.func f)):=hx;generalize ev (.func f)=F at hx';cases hx' with
           |func _ _ _ _ _ _ a b c=>cases b;cases c;simp only[FnR] at a;subst a;rfl
          simp[hfx,Deferred.ofValue,invoke]
         rw[e];exact key
        |true=>
         simp only[Bool.and_eq_true,Bool.or_eq_true,beq_iff_eq] at hn;have hy:=hargs y (by rw[hl];simp);have hz:=hargs z (by rw[hl];simp);have key:=Ah (H:=H) (nx:=nx) (w0:=w0) (w:=w) (gF P hf) hb hn.1 hn.2 hy hz
         have e:(do let d <- resolve ev c ty;invoke d.target d.args:Sem Next).run P w=(callFunc f #[ev y,ev z]).run P w:=by
          simp only[resolve,hc,hA,hl]
          have hfx:ev (.func f)=.func (.func f) #[] #[]:=by
           have hx':VR E (.func (.func f) [] []) (ev (.func f)):=hx;generalize ev (.func f)=F at hx';cases hx' with
           |func _ _ _ _ _ _ a b c=>cases b;cases c;simp only[FnR] at a;subst a;rfl
          simp[hfx,Deferred.ofValue,invoke]
         rw[e];exact key
  |tmp _=>exact hcall
  |const _=>exact hcall
  |global _=>exact hcall
 |invoke _ _=>exact Good.bad
 |builtin b=>
  have hres:∀ R,(do let d <- resolve ev c ty;invoke d.target d.args:Sem Next).run P w=R<->(builtin b c.argTypes ty (c.args.map fun|.const _=>true|_=>false) (c.args.toList.map ev).toArray).run P w=R:=by
   intro R;simp only[resolve,hc,hA,Sem.run_bind,Sem.run_pure,Result.andThen_ok,invoke];exact Iff.rfl
  cases b<;>try exact Good.bad
  case len=>
   simp only;cases hl:c.args.toList with
   |nil=>exact Good.bad
   |cons x r=>
    cases r with
    |cons _ _=>exact Good.bad
    |nil=>
     cases ht:c.argTypes.toList with
     |nil=>exact Good.bad
     |cons t r=>
      cases r with
      |cons _ _=>exact Good.bad
      |nil=>
       simp only;have hT:c.argTypes=#[t]:=by rw[<- Array.toArray_toList (xs:=c.argTypes),ht]
       have hx:=hargs x (by rw[hl];simp);have e:=(hres _).2 rfl;rw[e,hl,hT];cases hu:undT P t with
       |none=>exact Good.bad
       |some d=>
        cases d<;>first|exact Good.bad|skip
        ·exact onEx (ao:=.len 0 (ap x)) (VG.good (sn h (sh:=0) (av P hu) rfl (by omega) hx)) fun r hr=>by
          obtain⟨u,e,rfl⟩:=c9 hr;have hx:=VR.ofAs e hx;exact VG.good (nS (sh:=0) (av P hu) rfl hx)
        ·exact onEx (ao:=.len 1 (ap x)) (VG.good (sn h (sh:=1) (av P hu) ⟨_,rfl⟩ (by omega) hx)) fun r hr=>by
          obtain⟨u,e,rfl⟩:=c9 hr;have hx:=VR.ofAs e hx;exact VG.good (nS (sh:=1) (av P hu) ⟨_,rfl⟩ hx)
        ·exact onEx (ao:=.len 2 (ap x)) (VG.good (sn h (sh:=2) (av P hu) ⟨_,_,rfl⟩ (by omega) hx)) fun r hr=>by
          obtain⟨u,e,rfl⟩:=c9 hr;have hx:=VR.ofAs e hx;exact VG.good (nS (sh:=2) (av P hu) ⟨_,_,rfl⟩ hx)
  case append=>
   simp only;cases hl:c.args.toList with
   |nil=>exact Good.bad
   |cons s r=>
    cases r with
    |nil=>exact Good.bad
    |cons x r=>
     cases r with
     |cons _ _=>exact Good.bad
     |nil=>
      cases ht:c.argTypes.toList with
      |nil=>exact Good.bad
      |cons t r=>
       cases r with
       |nil=>exact Good.bad
       |cons u r=>
        cases r with
        |cons _ _=>exact Good.bad
        |nil=>
         simp only;have hT:c.argTypes=#[t,u]:=by rw[<- Array.toArray_toList (xs:=c.argTypes),ht]
         have hs:=hargs s (by rw[hl];simp);have hx:=hargs x (by rw[hl];simp);have e:=(hres _).2 rfl;rw[e,hl,hT];cases hu:undT P t with
         |none=>exact Good.bad
         |some d=>
          cases hu2:undT P u with
          |none=>cases d<;>exact Good.bad
          |some d2=>
           cases d<;>first|exact Good.bad|skip
           cases d2<;>first|exact Good.bad|skip
           case slice.int e1 k2=>
            simp only;cases hi:aT P e1 with
            |none=>exact Good.bad
            |some i=>
             simp only;cases hz:aG i with
             |none=>exact Good.bad
             |some z=>
              simp only;cases hzl:Nat.beq z.cells.length i.size with
              |false=>exact Good.bad
              |true=>exact VG.good (xAppN_ok h (av P hu) (av P hu2) (aM P hi) hz (aa hzl) hs hx)
           rename_i e1 e2;simp only;cases hi:aT P e1 with
           |none=>exact Good.bad
           |some i=>
            simp only;cases hz:aG i with
            |none=>exact Good.bad
            |some z=>
             simp only;cases hzl:Nat.beq z.cells.length i.size with
             |false=>exact Good.bad
             |true=>exact VG.good (uJ h (av P hu) (av P hu2) (aM P hi) hz (aa hzl) hs hx)
  case cap=>
   simp only;cases hl:c.args.toList with
   |nil=>exact Good.bad
   |cons x r=>
    cases r with
    |cons _ _=>exact Good.bad
    |nil=>
     cases ht:c.argTypes.toList with
     |nil=>exact Good.bad
     |cons t r=>
      cases r with
      |cons _ _=>exact Good.bad
      |nil=>
       simp only;have hT:c.argTypes=#[t]:=by rw[<- Array.toArray_toList (xs:=c.argTypes),ht]
       have hx:=hargs x (by rw[hl];simp);have e:=(hres _).2 rfl;rw[e,hl,hT];cases hu:undT P t with
       |none=>exact Good.bad
       |some d=>
        cases d<;>first|exact Good.bad|skip
        exact VG.good (xCap_ok (av P hu) hx)
  case delete=>
   simp only;cases hl:c.args.toList with
   |nil=>exact Good.bad
   |cons m r=>
    cases r with
    |nil=>exact Good.bad
    |cons k r=>
     cases r with
     |cons _ _=>exact Good.bad
     |nil=>
      cases ht:c.argTypes.toList with
      |nil=>exact Good.bad
      |cons t r=>
       cases r with
       |nil=>exact Good.bad
       |cons t2 r=>
        cases r with
        |cons _ _=>exact Good.bad
        |nil=>
         simp only;have hT:c.argTypes=#[t,t2]:=by rw[<- Array.toArray_toList (xs:=c.argTypes),ht]
         have hm:=hargs m (by rw[hl];simp);have hk:=hargs k (by rw[hl];simp);have e:=(hres _).2 rfl;rw[e,hl,hT];cases hu:undT P t with
         |none=>exact Good.bad
         |some d=>
          cases d<;>first|exact Good.bad|skip
          rename_i kt e1;simp only;cases hdk:undT P kt with
          |none=>exact Good.bad
          |some dk=>
           simp only;cases hkd:keyD P kt dk with
           |none=>exact Good.bad
           |some ks=>exact gL fun hkk=>VG.good (xMdel_ok h (av P hu) ⟨av P hdk,hkd⟩ hm hk hkk)
  case clear=>
   simp only;cases hl:c.args.toList with
   |nil=>exact Good.bad
   |cons x r=>
    cases r with
    |cons _ _=>exact Good.bad
    |nil=>
     cases ht:c.argTypes.toList with
     |nil=>exact Good.bad
     |cons t r=>
      cases r with
      |cons _ _=>exact Good.bad
      |nil=>
       simp only;have hT:c.argTypes=#[t]:=by rw[<- Array.toArray_toList (xs:=c.argTypes),ht]
       have hx:=hargs x (by rw[hl];simp);have e:=(hres _).2 rfl;rw[e,hl,hT];cases hu:undT P t with
       |none=>exact Good.bad
       |some d=>
        cases d<;>first|exact Good.bad|skip
        rename_i e1;simp only;cases hi:aT P e1 with
        |none=>exact Good.bad
        |some i=>
         simp only;cases hz:aG i with
         |none=>exact Good.bad
         |some z=>
          simp only;cases hzl:Nat.beq z.cells.length i.size with
          |false=>exact Good.bad
          |true=>exact VG.good (Ac h (av P hu) (aM P hi) hz hx)
  case max=>
   simp only;cases hl:c.args.toList with
   |nil=>exact Good.bad
   |cons x r=>
    cases r with
    |nil=>exact Good.bad
    |cons y r=>
     cases r with
     |cons _ _=>exact Good.bad
     |nil=>
      have hx:=hargs x (by rw[hl];simp);have hy:=hargs y (by rw[hl];simp);have e:=(hres _).2 rfl;rw[e,hl];exact onEx (ao:=.maxI (ap x) (ap y)) (VG.good (xMax_ok hx hy)) fun r hr=>by rw[gM hr];exact VG.good (sxMax_ok h hx hy)
  case recover=>
   have e:=(hres _).2 rfl;rw[e];exact rfl
theorem xg (h:WR w0 E H nx w)(o:Oper)(hev:∀ x∈o.op.operands.toList,VR E ((ap x).ev tm) (ev x)) :
  Good P w0 E H nx w ((execOp ev o).run P w) (exOp (ay P o.op) tm H nx):=by
 have m1:∀ x,x∈o.op.operands->VR E ((ap x).ev tm) (ev x):=fun x hx=>hev x (by simpa using hx)
 cases ho:o.op with
 |move x=>unfold execOp;simp only[ho];exact⟨.value (ev x),_,rfl,rfl,m1 x (by simp[ho,Op.operands])⟩
 |assign x=>unfold execOp;simp only[ho];exact⟨.value (ev x),_,rfl,rfl,m1 x (by simp[ho,Op.operands])⟩
 |pick c a b=>
  unfold execOp;simp only[ho];have:=(xPick_ok (w0:=w0) (H:=H) (nx:=nx) (P:=P) (w:=w) (m1 c (by simp[ho,Op.operands])) (m1 a (by simp[ho,Op.operands])) (m1 b (by simp[ho,Op.operands]))).good;have this2:=fun t (e:asX ((ap c).ev tm)=some t)=>(Ak (w0:=w0) (H:=H) (nx:=nx) (P:=P) (w:=w) h (t:=t) (VR.ofAs e (m1 c (by simp[ho,Op.operands]))) (m1 a (by simp[ho,Op.operands])) (m1 b (by simp[ho,Op.operands]))).good
  refine onEx (ao:=.pick (ap c) (ap a) (ap b)) ?_ fun r hr=>?_
  ·change Good P w0 E H nx w _ (pR _ _ _)
   simpa[Sem.run_bind] using this
  ·obtain⟨u,e,rfl⟩:=c9 hr
   simpa[Sem.run_bind] using this2 u e
 |alloc t=>
  unfold execOp;simp only[ho,ay];cases ht:tyOf P t with
  |none=>exact Good.bad
  |some di=>
   obtain⟨d,i⟩:=di;simp only;cases hz:aG i with
   |none=>exact Good.bad
   |some z=>
    simp only[bw];have:=z7 (w0:=w0) h (t:=t) (eu ht).2.2.1 hz (old:=.tuple #[]);rw[io] at this;exact VG.good this
 |box t x=>unfold execOp;simp only[ho,ay];exact VG.good (xBox_ok h (m1 x (by simp[ho,Op.operands])))
 |build t ps=>
  unfold execOp;simp only[ho,ay]
  have hps:∀ i x,(i,x)∈ps.toList->VR E ((ap x).ev tm) (ev x):=fun i x hx=>m1 x (by
   simp only[ho,Op.operands,List.mem_toArray,List.mem_map];exact⟨(i,x),hx,rfl⟩)
  cases ht:tyOf P t with
  |none=>exact Good.bad
  |some di=>
   obtain⟨d,i⟩:=di;simp only;cases hz:aG i with
   |none=>exact Good.bad
   |some z=>
    cases d<;>try exact Good.bad
    case struct fs=>
     simp only;cases hfo:gq P fs.toList with
     |false=>exact Good.bad
     |true=>
      simp only[cond_true];cases hl:aR (fun i=>(fs[i]?).map fun f=>(f.offset,eN P f.type)) ps.toList with
      |none=>exact Good.bad
      |some l=>exact VG.good (p8 ht hz hl hps (.inl ⟨fs,rfl,hfo,rfl⟩))
    case array n e=>
     simp only;cases hi:aT P e with
     |none=>exact Good.bad
     |some ie=>
      simp only;cases hl:aR (fun i=>some (i*ie.size,ie.size)) ps.toList with
      |none=>exact Good.bad
      |some l=>exact VG.good (p8 ht hz hl hps (.inr ⟨n,e,ie,rfl,hi,rfl⟩))
 |buildSlice t len ps=>
  unfold execOp;simp only[ho,ay]
  have hps:∀ i x,(i,x)∈ps.toList->VR E ((ap x).ev tm) (ev x):=fun i x hx=>m1 x (by
   simp only[ho,Op.operands,List.mem_toArray,List.mem_map];exact⟨(i,x),hx,rfl⟩)
  cases hu:undT P t with
  |none=>exact Good.bad
  |some d=>
   cases d<;>try exact Good.bad
   rename_i e;simp only;cases hi:aT P e with
   |none=>exact Good.bad
   |some i=>
    simp only;cases hz:aG i with
    |none=>exact Good.bad
    |some z=>
     simp only;cases hb:(Nat.ble (len*i.size) 16777216&&Nat.beq z.cells.length i.size) with
     |false=>exact Good.bad
     |true=>
      simp only[Bool.and_eq_true] at hb;simp only[cond_true];cases hl:aR (fun j=>some (j*i.size,i.size)) ps.toList with
      |none=>exact Good.bad
      |some l=>exact VG.good (wS h (av P hu) (aM P hi) hz (ab hb.1) (aa hb.2) hl hps)
 |load t x=>
  unfold execOp;simp only[ho,ay];cases ht:tyOf P t with
  |none=>exact Good.bad
  |some di=>
   obtain⟨d,i⟩:=di;obtain⟨q1,q2,q3,q4⟩:=eu ht;simp only;cases hd:aggD d with
   |true=>
    exact onEx (ao:=.loadN i.size (ap x)) (VG.good (qa h (fun w=>by rw[cH q1 w,hd]) q3 (m1 x (by simp[ho,Op.operands])))) fun r hr=>by
     obtain⟨s,ix,j,e,rfl⟩:=mU hr;exact VG.good (sxLdN_ok h (fun w=>by rw[cH q1 w,hd]) q3 (e ▸ m1 x (by simp[ho,Op.operands])))
   |false=>
    exact onEx (ao:=.load1 (ap x)) (VG.good (p9 h (fun w=>by rw[cH q1 w,hd]) (m1 x (by simp[ho,Op.operands])))) fun r hr=>by
     obtain⟨s,ix,j,e,rfl⟩:=mU hr;exact VG.good (sxLd1_ok h (fun w=>by rw[cH q1 w,hd]) (e ▸ m1 x (by simp[ho,Op.operands])))
 |store t a x=>
  unfold execOp;simp only[ho,ay];cases hi:aT P t with
  |none=>exact Good.bad
  |some i=>exact Good.unit (z8 h (aM P hi) (m1 a (by simp[ho,Op.operands])) (m1 x (by simp[ho,Op.operands])))
 |nilCheck x=>
  exact onEx (ao:=.nilck (ap x)) (xNil_ok (m1 x (by simp[ho,Op.operands])) o x ev ho rfl) fun r hr=>by
   obtain⟨s,ix,j,e,rfl⟩:=mU hr;have hx:=m1 x (by simp[ho,Op.operands]);rw[e] at hx;unfold execOp;simp only[ho];generalize ev x=vx at hx;cases hx with
   |xa _ _ _ e blk off len cap n rows h1 h2 h3 h4 h5 h6 h7=>exact⟨_,_,rfl,rfl,.xa _ _ _ e blk off len cap n rows h1 h2 h3 h4 h5 h6 h7⟩
 |binOp op t x y b=>
  unfold execOp;simp only[ho,ay];have hx:=m1 x (by simp[ho,Op.operands]);have hy:=m1 y (by simp[ho,Op.operands]);cases hu:undT P t with
  |none=>exact Good.bad
  |some d=>
   have heq:Good P w0 E H nx w (Sem.run P (do let a <- (do eqGuard op t x y (ev x) (ev y);binOp op t (ev x) (ev y):Sem Value);pure (.value a)) w)
     (exOp (match (generalizing:=false) op with|.eql=>.eqv false (isC x || isC y) d (ap x) (ap y)|.neq=>.eqv true (isC x || isC y) d (ap x) (ap y)|_=>.bad) tm H nx):=by
    cases op<;>try exact Good.bad
    ·exact onEx (ao:=.eqv false (isC x || isC y) d (ap x) (ap y)) (VG.good (yx (neg:=false) rfl rfl (av P hu) hx hy)) fun r hr=>by rw[gM hr];exact VG.good (uH (neg:=false) rfl (av P hu) hx hy)
    ·exact onEx (ao:=.eqv true (isC x || isC y) d (ap x) (ap y)) (VG.good (yx (neg:=true) rfl rfl (av P hu) hx hy)) fun r hr=>by rw[gM hr];exact VG.good (uH (neg:=true) rfl (av P hu) hx hy)
   have hbin:Good P w0 E H nx w (Sem.run P (do let a <- (do eqGuard op t x y (ev x) (ev y);binOp op t (ev x) (ev y):Sem Value);pure (.value a)) w) (exOp (.bin op (ap x) (ap y)) tm H nx):=onEx (VG.good (binV_ok op t x y hx hy)) fun r hr=>by rw[gM hr];exact VG.good (sxBin_ok h op t x y hx hy)
   cases d<;>first|exact hbin|exact heq|skip
   rename_i fs;show Good P w0 E H nx w _ (exOp (match (generalizing:=false) iQ P t fs with|some l=>(match (generalizing:=false) op with|.eql=>.eqAgg false l (ap x) (ap y)|.neq=>.eqAgg true l (ap x) (ap y)|_=>.bad)|none=>.bad) tm H nx);cases hf:iQ P t fs with
   |none=>exact Good.bad
   |some ks=>
    simp only;cases op<;>try exact Good.bad
    ·exact VG.good (qd (neg:=false) rfl (av P hu) hf hx hy)
    ·exact VG.good (qd (neg:=true) rfl (av P hu) hf hx hy)
 |unOp op t x=>
  unfold execOp;simp only[ho,ay]
  exact onEx (VG.good (unV_ok op (m1 x (by simp[ho,Op.operands])))) fun r hr=>by
   obtain⟨u,e,rfl⟩:=c9 hr;exact VG.good (sxUn_ok op (VR.ofAs e (m1 x (by simp[ho,Op.operands]))))
 |convert a b x=>
  unfold execOp;simp only[ho,ay];have hx:=m1 x (by simp[ho,Op.operands]);cases ha:undT P a with
  |none=>exact Good.bad
  |some da=>
   cases hb:undT P b with
   |none=>cases da<;>exact Good.bad
   |some db=>
    cases da<;>try exact Good.bad
    case int k0=>
     cases db<;>try exact Good.bad
     exact onEx (VG.good (zW (av P ha) (av P hb) hx)) fun r hr=>by
      obtain⟨u,e,rfl⟩:=c9 hr;exact VG.good (Ai (av P ha) (av P hb) (VR.ofAs e hx))
    case string=>
     cases db<;>try exact Good.bad
     rename_i e;simp only;cases he:undT P e with
     |none=>exact Good.bad
     |some de=>
      cases de<;>try exact Good.bad
      rename_i k;cases k<;>first|exact Good.bad|exact VG.good (wT h (av P ha) (av P hb) (av P he) hx)
    case slice e=>
     cases db<;>try exact Good.bad
     simp only;cases he:undT P e with
     |none=>exact Good.bad
     |some de=>
      cases de<;>try exact Good.bad
      rename_i k;cases k<;>first|exact Good.bad|exact VG.good (wU h (av P ha) (av P hb) (av P he) hx)
 |makeInterface t x=>
  unfold execOp;simp only[ho,ay];have hx:=m1 x (by simp[ho,Op.operands]);cases hu:undT P t with
  |none=>exact Good.bad
  |some d=>
   have key:(∀ ms,d≠.interface ms)->Good P w0 E H nx w (Sem.run P (do let a <- Instr.makeInterface t (ev x);pure (.value a)) w) (exOp (.mkIface t (ap x)) tm H nx):=by
    intro hni;refine VG.good (VG.val (x:=.iface t (ev x)) ?_ (.iface _ _ _ hx));simp only[Instr.makeInterface,Sem.run_bind,run_underlying (av P hu),Result.andThen_ok]
    all_goals (cases d<;>first|rfl|exact absurd rfl (hni _))
   cases d<;>first|exact Good.bad|exact key (by intro ms hh;cases hh)
 |makeFunc fn first captured=>
  unfold execOp;simp only[ho,ay];cases fn<;>try exact Good.bad
  rename_i f;have h1:∀ x∈first.toList,VR E ((ap x).ev tm) (ev x):=fun x hx=>m1 x (by simp only[ho,Op.operands,Array.mem_append];exact .inl (by simpa using hx))
  have h2:∀ x∈captured.toList,VR E ((ap x).ev tm) (ev x):=fun x hx=>m1 x (by simp only[ho,Op.operands,Array.mem_append];exact .inr (by simpa using hx))
  refine VG.good (s:=Instr.makeFunc (.func f) (first.map ev) (captured.map ev)) (VG.val (x:=.func (.func f) (first.toList.map ev).toArray (captured.toList.map ev).toArray) ?_ (.func _ _ _ _ _ _ rfl (mR h1) (mR h2)));have e:∀ a:Array Operand,a.map ev=(a.toList.map ev).toArray:=fun a=>by apply Array.ext';simp
  simp[Instr.makeFunc,e]
 |makeSlice t l c=>
  unfold execOp;simp only[ho,ay];cases hu:undT P t with
  |none=>exact Good.bad
  |some d=>
   cases d<;>try exact Good.bad
   rename_i e;simp only;cases hi:aT P e with
   |none=>exact Good.bad
   |some i=>
    simp only;cases hz:aG i with
    |none=>exact Good.bad
    |some z=>
     simp only;cases hb:Nat.beq z.cells.length i.size with
     |false=>exact Good.bad
     |true=>exact VG.good (xMkSl_ok h (av P hu) (aM P hi) hz (aa hb) (m1 l (by simp[ho,Op.operands])) (m1 c (by simp[ho,Op.operands])))
 |makeMap t r=>
  unfold execOp;simp only[ho,ay];cases r with
  |none=>exact VG.good (Aa h)
  |some _=>exact Good.bad
 |slice t x lo hi mx=>
  unfold execOp;simp only[ho,ay];have hx:=m1 x (by simp[ho,Op.operands]);have hlo:=sq (tm:=tm) (ev:=ev) (E:=E) (x:=lo) fun y hy=>m1 y (by simp[ho,Op.operands,hy])
  have hhi:=sq (tm:=tm) (ev:=ev) (E:=E) (x:=hi) fun y hy=>m1 y (by simp[ho,Op.operands,hy])
  have hmx:=sq (tm:=tm) (ev:=ev) (E:=E) (x:=mx) fun y hy=>m1 y (by simp[ho,Op.operands,hy])
  cases hu:undT P t with
  |none=>exact Good.bad
  |some d=>
   cases d<;>try exact Good.bad
   case string=>
    cases mx with
    |some _=>exact Good.bad
    |none=>
     exact onEx (ao:=.slStr (ap x) (lo.map ap) (hi.map ap)) (VG.good (zX (av P hu) hx hlo hhi)) fun r hr=>by
      obtain⟨u,e,rfl⟩:=c9 hr;exact VG.good (xe h (av P hu) (VR.ofAs e hx) hlo hhi)
   case slice e=>
    simp only;cases hi2:aT P e with
    |none=>exact Good.bad
    |some i=>
     exact onEx (ao:=.slSl i.size (ap x) (lo.map ap) (hi.map ap) (mx.map ap)) (VG.good (xSlSl_ok (av P hu) (aM P hi2) hx hlo hhi hmx)) fun r hr=>by
      obtain⟨u,e,rfl⟩:=c9 hr;exact VG.good (Aj h (av P hu) (aM P hi2) (VR.ofAs e hx) hlo hhi hmx)
 |fieldAddr t x f=>
  unfold execOp;simp only[ho,ay];have hx:=m1 x (by simp[ho,Op.operands]);cases hu:undT P t with
  |none=>exact Good.bad
  |some d=>
   cases d<;>try exact Good.bad
   rename_i fs;simp only;cases hf:fs[f]? with
   |none=>exact Good.bad
   |some fd=>
    simp only;cases hi:aT P fd.type with
    |none=>exact Good.bad
    |some i=>
     simp only;cases hz:Nat.beq i.size 0 with
     |true=>exact Good.bad
     |false=>
      exact onEx (ao:=.faddr fd.offset (ap x)) (VG.good (zY (av P hu) hf (aM P hi) (fun e=>by rw[e] at hz;cases hz) hx)) fun r hr=>by
       obtain⟨s,ix,j,e,rfl⟩:=mU hr;exact VG.good (xf (av P hu) hf (aM P hi) (fun e=>by rw[e] at hz;cases hz) (e ▸ hx))
 |field t x f=>
  unfold execOp;simp only[ho,ay];have hx:=m1 x (by simp[ho,Op.operands]);cases hu:undT P t with
  |none=>exact Good.bad
  |some d=>
   cases d<;>try exact Good.bad
   rename_i fs;simp only;cases hf:fs[f]? with
   |none=>exact Good.bad
   |some fd=>
    simp only;cases ht:tyOf P fd.type with
    |none=>exact Good.bad
    |some di=>
     obtain⟨d,i⟩:=di;obtain⟨q1,q2,q3,q4⟩:=eu ht;simp only;cases hd:aggD d with
     |true=>exact VG.good (wN (av P hu) hf q3 (fun w=>by rw[cH q1 w,hd]) hx)
     |false=>exact VG.good (wO (av P hu) hf (fun w=>by rw[cH q1 w,hd]) hx)
 |indexAddr t x i=>
  unfold execOp;simp only[ho,ay];have hx:=m1 x (by simp[ho,Op.operands]);have hi:=m1 i (by simp[ho,Op.operands]);cases hu:undT P t with
  |none=>exact Good.bad
  |some d=>
   cases d<;>try exact Good.bad
   case slice e=>
    simp only;cases hie:aT P e with
    |none=>exact Good.bad
    |some ie=>
     exact onEx (ao:=.idxSl ie.size (ap x) (ap i)) (VG.good (zZ (av P hu) (aM P hie) hx hi)) fun r hr=>by
      obtain⟨u,e,rfl⟩:=c9 hr;exact VG.good (sxIdx_ok h (av P hu) (aM P hie) (VR.ofAs e hx) hi)
   case array n e=>
    simp only;cases hie:aT P e with
    |none=>exact Good.bad
    |some ie=>exact VG.good (wP (av P hu) (aM P hie) hx hi)
 |index t x i=>
  unfold execOp;simp only[ho,ay];have hx:=m1 x (by simp[ho,Op.operands]);have hi:=m1 i (by simp[ho,Op.operands]);cases hu:undT P t with
  |none=>exact Good.bad
  |some d=>
   cases d<;>try exact Good.bad
   case array n e=>
    simp only;cases ht:tyOf P e with
    |none=>exact Good.bad
    |some di=>
     obtain⟨d,ie⟩:=di;obtain⟨q1,q2,q3,q4⟩:=eu ht;exact VG.good (w6 (av P hu) q3 (fun w=>cH q1 w) hx hi)
   exact onEx (ao:=.idxStr (ap x) (ap i)) (VG.good (wQ (av P hu) hx hi)) fun r hr=>by
    obtain⟨u,e,rfl⟩:=c9 hr;exact VG.good (uI h (av P hu) (VR.ofAs e hx) hi)
 |lookup t x k ok=>
  unfold execOp;simp only[ho,ay];have hx:=m1 x (by simp[ho,Op.operands]);have hk:=m1 k (by simp[ho,Op.operands]);cases hu:undT P t with
  |none=>exact Good.bad
  |some d=>
   cases d<;>try exact Good.bad
   rename_i kt e;simp only;cases hdk:undT P kt with
   |none=>exact Good.bad
   |some dk=>
    cases hie:aT P e with
    |none=>exact Good.bad
    |some ie=>
     simp only;cases hz:aG ie with
     |none=>exact Good.bad
     |some z=>
      simp only;cases hkd:keyD P kt dk with
      |none=>exact Good.bad
      |some ks=>exact gL fun hkk=>VG.good (wW h (av P hu) ⟨av P hdk,hkd⟩ (aM P hie) hz hx hk hkk)
 |mapUpdate t m k v=>
  unfold execOp;simp only[ho,ay];have hm:=m1 m (by simp[ho,Op.operands]);have hk:=m1 k (by simp[ho,Op.operands]);have hv:=m1 v (by simp[ho,Op.operands]);cases hu:undT P t with
  |none=>exact Good.bad
  |some d=>
   cases d<;>try exact Good.bad
   rename_i kt e;simp only;cases hdk:undT P kt with
   |none=>exact Good.bad
   |some dk=>
    simp only;cases hkd:keyD P kt dk with
    |none=>exact Good.bad
    |some ks=>exact gL fun hkk=>Good.unit (uC h (av P hu) ⟨av P hdk,hkd⟩ hm hk hv hkk)
 |insert t m k v=>
  unfold execOp;simp only[ho,ay];have hm:=m1 m (by simp[ho,Op.operands]);have hk:=m1 k (by simp[ho,Op.operands]);have hv:=m1 v (by simp[ho,Op.operands]);cases hu:undT P t with
  |none=>exact Good.bad
  |some d=>
   cases d<;>try exact Good.bad
   rename_i kt e;simp only;cases hdk:undT P kt with
   |none=>exact Good.bad
   |some dk=>
    simp only;cases hkd:keyD P kt dk with
    |none=>exact Good.bad
    |some ks=>exact gL fun hkk=>Good.unit (uC h (av P hu) ⟨av P hdk,hkd⟩ hm hk hv hkk)
 |range t x=>
  unfold execOp;simp only[ho,ay];have hx:=m1 x (by simp[ho,Op.operands]);cases hu:undT P t with
  |none=>exact Good.bad
  |some d=>
   cases d<;>try exact Good.bad
   case map kt e=>exact VG.good (w8 h (av P hu) hx)
   exact VG.good (wX h (av P hu) hx)
 |entry x=>unfold execOp;simp only[ho,ay];exact VG.good (w9 h (m1 x (by simp[ho,Op.operands])))
 |mapEntry t m k=>
  unfold execOp;simp only[ho,ay];have hm:=m1 m (by simp[ho,Op.operands]);have hk:=m1 k (by simp[ho,Op.operands]);cases hu:undT P t with
  |none=>exact Good.bad
  |some d=>
   cases d<;>try exact Good.bad
   rename_i kt e;simp only;cases hdk:undT P kt with
   |none=>exact Good.bad
   |some dk=>
    cases hie:aT P e with
    |none=>exact Good.bad
    |some ie=>
     simp only;cases hz:aG ie with
     |none=>exact Good.bad
     |some z=>
      simp only;cases hkd:keyD P kt dk with
      |none=>exact Good.bad
      |some ks=>exact gL fun hkk=>VG.good (xb h (av P hu) ⟨av P hdk,hkd⟩ (aM P hie) hz hm hk hkk)
 |entryStore t m s v=>
  unfold execOp;simp only[ho,ay];exact Good.unit (Ad h (m1 m (by simp[ho,Op.operands])) (m1 s (by simp[ho,Op.operands])) (m1 v (by simp[ho,Op.operands])))
 |next x s=>
  unfold execOp;simp only[ho,ay];have hx:=m1 x (by simp[ho,Op.operands]);cases s with
  |false=>exact VG.good (Ae h hx)
  |true=>exact VG.good (Ab h hx)
 |typeAssert x xt t ok=>
  unfold execOp;simp only[ho,ay];have hx:=m1 x (by simp[ho,Op.operands]);cases ht:tyOf P t with
  |none=>exact Good.bad
  |some di=>
   obtain⟨d,i⟩:=di;obtain⟨q1,q2,q3,q4⟩:=eu ht;simp only;cases hz:aG i with
   |none=>cases d<;>exact Good.bad
   |some z=>
    obtain⟨zx,hz1,hz2,hzr⟩:=bn (E:=E) hz
    have key:(∀ ms,d≠.interface ms)->Good P w0 E H nx w (Sem.run P (do let a <- Instr.typeAssert (ev x) xt t ok;pure (.value a)) w) (exOp (.tassert t ok z (ap x)) tm H nx):=
     fun hni=>VG.good (uw q2 hni q3 hz1 hz2 hx)
    cases d<;>first|exact Good.bad|exact key (by intro ms hh;cases hh)
 |extract x i=>unfold execOp;simp only[ho,ay];exact VG.good (ux (m1 x (by simp[ho,Op.operands])))
 |call c=>
  unfold execOp;simp only[ho,ay];exact call_ok h c o.type fun x hx=>hev x (by simp only[ho,Op.operands];exact hx)
 |panic x=>unfold execOp;simp only[ho,ay];exact VG.good (Ag (m1 x (by simp[ho,Op.operands])))
 |_=>first
  |exact Good.bad
  |(rename_i c
    unfold execOp;simp only[ho,ay]
    have hc:∀ x∈c.operands.toList,VR E ((ap x).ev tm) (ev x):=fun x hx=>hev x (by simp only[ho,Op.operands];exact hx)
    have hargs:∀ x∈c.args.toList,VR E ((ap x).ev tm) (ev x):=fun x hx=>hc x (by unfold Call.operands;rw[Array.toList_append];exact List.mem_append.2 (.inr hx))
    cases hcc:c.callee with
    |value f=>
     have hf:VR E ((ap f).ev tm) (ev f):=hc f (by unfold Call.operands;rw[Array.toList_append,hcc];exact List.mem_append.2 (.inl (by simp)))
     have hA:c.args.map ev=(c.args.toList.map ev).toArray:=by apply Array.ext';simp
     simp only[resolve,hcc,hA]
     exact Af hf (mR hargs)
    |_=>exact Good.bad)
theorem xh {x:Operand}(hx:ce P.globals.size x=true)(ht:∀ t,x=.tmp t->VR E (getU tm t) (ev x))(hc:∀ v,x=.const v->ev x=v)(hf:∀ f,x=.func f->ev x=.func (.func f) #[] #[])
  (hg:∀ g,x=.global g->g<P.globals.size->VR E (.ptr g 0) (ev x)):VR E ((ap x).ev tm) (ev x):=by
 cases x with
 |tmp t=>exact ht t rfl
 |const v=>
  rw[hc v rfl];exact VR.ofVal E 8 v hx
 |func f=>
  rw[hf f rfl];exact .func _ _ _ _ _ _ rfl .nil .nil
 |global g=>exact hg g rfl (ab hx)
theorem qe (h:WR w0 E H nx w)(o:Oper)(hev:∀ x∈o.op.operands.toList,ce P.globals.size x=true->VR E ((ap x).ev tm) (ev x)) :
  Good P w0 E H nx w ((execOp ev o).run P w) (exOp (bK P o) tm H nx):=by
 unfold bK;cases hb:o.op.operands.toList.all (ce P.globals.size) with
 |false=>exact Good.bad
 |true=>exact xg h o fun x hx=>hev x hx (List.all_eq_true.1 hb x hx)
end
end Go.Exo
end
