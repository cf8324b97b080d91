/-
  EXO, part V: what an operation makes, made later than the abstract machine made it. Own text.
-/
import Derived.Test.YtihaakenfdkgnaaGreatDoorPart9
set_option linter.all false
noncomputable section
namespace Go.Exo
variable [Sx] [Dc]
section
variable {P:Program}{w0:Bs}{E:Env}{H:T AObj}{nx:Nat}{w:World}
theorem WR.made (h:WR w0 E H nx w){l:Nat}(hl:E l=none)(hlt:l<nx)(o:Obj)(size d:Nat)(hc:aw (getH H l)=0)(hk:a8 (getH H l)=false)
  (hor:OR (E.set l ⟨w.heap.size,0,size,undef,noOb,[]⟩) H l ⟨w.heap.size,0,size,undef,noOb,[]⟩ (some o) (getH H l)) :
  WR w0 (E.set l ⟨w.heap.size,0,size,undef,noOb,[]⟩) H nx { w with heap:=w.heap.push o,drawn:=d }:=by
 have hle:E.le (E.set l ⟨w.heap.size,0,size,undef,noOb,[]⟩):=Env.le_set _ hl
 have hcn:∀ k,aw (getH H k)≠0->aw (getH H k)≠l:=fun k hc0 e=>by
  obtain⟨a,b,m,h1,_⟩:=h.cls k hc0;rw[e] at h1;rw[h1] at hk;cases hk
 have hE:∀ k p,(E.set l ⟨w.heap.size,0,size,undef,noOb,[]⟩) k=some p->(k=l/\p=⟨w.heap.size,0,size,undef,noOb,[]⟩)\/(k≠l/\E k=some p):=by
  intro k p hp;by_cases e:k=l
  ·subst e;rw[Env.set_self] at hp;cases hp;exact .inl ⟨rfl,rfl⟩
  ·rw[Env.set_other _ _ _ _ e] at hp;exact .inr ⟨e,hp⟩
 have hpush:∀ b,b<w.heap.size->(w.heap.push o)[b]? = w.heap[b]? := fun b hb=>by
  rw[Array.getElem?_push];rw[if_neg (by omega)]
 refine⟨?_,?_,?_,?_,?_,?_,?_,h.os,h.output,h.tape,h.le.trans hle,?dat,h.dec,fun l p hl b o v hf ho=>by
  rcases hE l p hl with⟨rfl,rfl⟩|⟨_,hl⟩
  ·cases hf
  ·exact h.fzo l p hl b o v hf ho⟩
 case dat=>
  intro k p hp b off v hf;rcases hE k p hp with⟨rfl,rfl⟩|⟨hne,hp⟩
  ·cases hf
  ·obtain⟨h1,h2⟩:=h.dat k p hp b off v hf
   have hb:=fA h1;refine⟨(bG (w:=w) (hpush b hb)).trans h1,fun l' p' hl' hb'=>?_⟩;rcases hE l' p' hl' with⟨rfl,rfl⟩|⟨hne',hl'⟩
   ·simp only at hb';omega
   ·exact h2 l' p' hl' hb'
 ·intro k p hp
  rcases hE k p hp with⟨rfl,rfl⟩|⟨hne,hp⟩
  ·show OR _ _ _ _ (w.heap.push o)[w.heap.size]? _
   rw[Array.getElem?_push,if_pos rfl];exact hor
  ·show OR _ _ _ _ (w.heap.push o)[p.blk]? _
   rw[hpush _ (h.own k p hp).1];exact (h.objs k p hp).trans hle fun _ ho=>ho
 ·intro k hkx
  have:=h.fresh k hkx;exact⟨by rw[Env.set_other _ _ _ _ (by omega)];exact this.1,this.2⟩
 ·intro k k' p p' hne hp hp' hb
  rcases hE k p hp with⟨e1,e2⟩|⟨hn1,g1⟩<;>rcases hE k' p' hp' with⟨e3,e4⟩|⟨hn2,g2⟩
  ·exact absurd (e1.trans e3.symm) hne
  ·have:=(h.own k' p' g2).1;rw[e2] at hb;simp only at hb;omega
  ·have:=(h.own k p g1).1;rw[e4] at hb;simp only at hb;omega
  ·exact h.sep k k' p p' hne g1 g2 hb
 ·intro k hc0
  obtain⟨a,b,m,h1,h2,h3⟩:=h.cls k hc0;exact⟨a,b,m,h1,h2,by rw[Env.set_other _ _ _ _ (hcn k hc0)];exact h3⟩
 ·intro k p hp
  show p.blk<(w.heap.push o).size/\_;rw[Array.size_push];rcases hE k p hp with⟨rfl,rfl⟩|⟨hne,hp⟩
  ·exact⟨Nat.lt_succ_self _,.inr (.inr (h.not_old (am _)))⟩
  ·have:=h.own k p hp
   exact⟨Nat.lt_succ_of_lt this.1,this.2⟩
 ·intro b hb
  show (w.heap.push o)[b]? = _;rw[hpush b (h.lt_old hb)];exact h.old b hb
 ·show _<=(w.heap.push o).size
  rw[Array.size_push];exact Nat.le_succ_of_le h.size
theorem WR.lazy (h:WR w0 E H nx w)(ao:AObj)(hc:aw ao=0):WR w0 E (put .no H nx ao) (nx+1) w:=by
 have hn:=h.fresh nx (am _);have hget:∀ k,k≠nx->getH (put .no H nx ao) k=getH H k:=fun k e=>by rw[ar,if_neg e]
 have hself:getH (put .no H nx ao) nx=ao:=by rw[ar,if_pos rfl]
 have hne:∀ k p,E k=some p->k≠nx:=fun k p hk e=>by subst e;rw[hn.1] at hk;cases hk
 have hcn:∀ k,aw (getH H k)≠0->aw (getH H k)≠nx:=fun k hc0 e=>by
  obtain⟨a,b,m,h1,_⟩:=h.cls k hc0;rw[e,hn.2] at h1;cases h1
 refine⟨?_,?_,?_,?_,?_,h.old,h.size,h.os,h.output,h.tape,h.le,fun k p hp b off v hf=>⟨(h.dat k p hp b off v hf).1,fun l' p' hl' hb'=>by rw[hget l' (hne l' p' hl')];exact (h.dat k p hp b off v hf).2 l' p' hl' hb'⟩,h.dec,h.fzo⟩
 ·intro k p hp
  rw[hget k (hne k p hp)];exact (h.objs k p hp).trans (Env.le.refl E) fun pos ho=>ho.same fun hc0=>hget _ (hcn k hc0)
 ·intro k hkx
  have:=h.fresh k (by omega);exact⟨this.1,by rw[hget k (by omega)];exact this.2⟩
 ·intro k k' p p' hn' hp hp' hb
  rw[hget k (hne k p hp),hget k' (hne k' p' hp')];exact h.sep k k' p p' hn' hp hp' hb
 ·intro k hc0
  by_cases e:k=nx
  ·subst e;rw[hself] at hc0;exact absurd hc hc0
  ·rw[hget k e] at hc0 ⊢
   obtain⟨a,b,m,h1,h2,h3⟩:=h.cls k hc0;exact⟨a,b,m,by rw[hget _ (hcn k hc0)];exact h1,h2,h3⟩
 ·intro k p hp
  rw[hget k (hne k p hp)];exact h.own k p hp
def cJ (E:Env)(w:World)(R:Result Value)(mk:Nat->V)(ob:AObj):Prop:=
 ∃ X obj sz d,R=.ok X { w with heap:=w.heap.push obj,drawn:=d }/\
  ∀ l E2,E.le E2->E2 l=some ⟨w.heap.size,0,sz,undef,noOb,[]⟩->VR E2 (mk l) X/\∀ H,OR E2 H l ⟨w.heap.size,0,sz,undef,noOb,[]⟩ (some obj) ob
theorem gP {vs:List V}{c:Array Value}{elem:TypeId}{fr:Nat×Nat}{fz:Nat}(hv:∀ (i:Nat) v,vs[i]? = some v->∃ x,c[i]? = some x/\VR E v x)(hle:vs.length<=c.size)(hfz:FzR fr fz 0 c.size)
  {E2:Env}(hE:E.le E2)(H:T AObj)(l n:Nat):OR E2 H l ⟨n,0,c.size,undef,noOb,[]⟩ (some (.cells c elem fr)) (.cells (putL .bad vs 0 .e) vs.length elem 0 0 fz false):=by
 refine⟨c,fr,rfl,by simp,hle,hfz,fun i hi _=>?_⟩;rw[gI,if_pos (Nat.zero_le _),Nat.sub_zero,ah hi];obtain⟨x,hx,hr⟩:=hv i _ (ah hi);exact⟨x,by simpa using hx,hr.mono hE⟩
theorem ptr_at {E2:Env}{l n s:Nat}(h:E2 l=some ⟨n,0,s,undef,noOb,[]⟩):VR E2 (.ptr l 0) (.pointer (some ⟨n,0,none⟩)):=by
 have:=VR.ptr (E:=E2) l 0 ⟨n,0,s,undef,noOb,[]⟩ h;simpa using this
theorem nV {E2:Env}{l n s len esz:Nat}{cap:Option Nat}{c:Nat}(h:E2 l=some ⟨n,0,s,undef,noOb,[]⟩)(h1:len<=c)(h2:c*esz<=s)(h3:∀ k,cap=some k->k=c):VR E2 (.slice l 0 len cap esz) (.slice (some ⟨n,0,none⟩) len c):=by
 have:=VR.slice (E:=E2) l 0 len cap esz ⟨n,0,s,undef,noOb,[]⟩ c h h1 (by simpa using h2) h3;simpa using this
theorem nAlloc {t:TypeId}{i:TypeInfo}{z:V}(hi:P.info? t=some i)(hz:aG i=some z){old:Value}:cJ E w ((Instr.alloc t true old).run P w) (fun l=>.ptr l 0) (nj t z.cells):=by
 obtain⟨x,hx,hv,hzr⟩:=bn (E:=E) hz;have hc:=hv.cells hzr;refine⟨.pointer (some ⟨w.heap.size,0,none⟩),.cells x.cells t (0,0),x.cells.size,w.drawn,?_,fun l E2 hE hl=>⟨ptr_at hl,fun H=>?_⟩⟩
 ·simp[Instr.alloc,newVar,newRow,aP hi hx]
 ·rw[io];exact gP (fr:=(0,0)) (fz:=0) (fun i v hv=>by simpa using hc.get i v hv) (by rw[hc.length];simp) rfl hE H l _
theorem nBox {t:TypeId}{v:V}{X:Value}(hv:VR E v X)(hr:v.real=true):cJ E w ((Instr.box t X).run P w) (fun l=>.ptr l 0) (.cells (putL .bad v.cells 0 .e) v.cells.length t 0 0 0 false):=by
 have hc:=hv.cells hr;refine⟨.pointer (some ⟨w.heap.size,0,none⟩),.cells X.cells t (0,0),X.cells.size,w.drawn,?_,fun l E2 hE hl=>⟨ptr_at hl,fun H=>?_⟩⟩
 ·simp[Instr.box,newVar,newRow]
 ·exact gP (fr:=(0,0)) (fz:=0) (fun i v hv=>by simpa using hc.get i v hv) (by rw[hc.length];simp) rfl hE H l _
theorem nMap {t:TypeId}:cJ E w ((Instr.makeMap t none).run P w) (fun l=>.map l) (.map [] 0):=by
 refine⟨.map (some w.heap.size),.map #[] 0,0,w.drawn,?_,fun l E2 hE hl=>⟨VR.map l _ hl,fun H=>⟨#[],rfl,trivial⟩⟩⟩;simp[Instr.makeMap]
theorem nConvSB {a b e:TypeId}(ha:P.underlying a=some .string)(hb:P.underlying b=some (.slice e))(he:P.underlying e=some (.int .u8)){l n:Nat}{s:ByteArray}(h1:s.data.toList=sB l n) :
  cJ E w ((convert a b (.string s)).run P w) (fun k=>.slice k 0 l none 1) (.cells (putL .bad (dM l n) 0 .e) (dM l n).length e 0 0 1 false):=by
 have hs:=cZ h1;have hq:(Question.appendCap s.size 0 e).forced=false:=rfl;generalize hcap:(Question.appendCap s.size 0 e).cut (w.tape w.drawn (.appendCap s.size 0 e))=cap;have hge:s.size<=cap:=by rw[<- hcap];simp[Question.cut]
 let c:Array Value:=(s.data.map fun b=>Value.int .u8 b.toNat)++Array.replicate (cap-s.size) (.int .u8 0)
 have hcs:c.size=cap:=by
  have:s.data.size=s.size:=rfl;simp only[c,Array.size_append,Array.size_map,Array.size_replicate];omega
 have hrel:∀ (i:Nat) v,(dM l n)[i]? = some v->∃ x,c[i]? = some x/\VR E v x:=by
  intro i v hv;obtain⟨x,hx,hr⟩:=(jq (E:=E) l n).get i v hv;refine⟨x,?_,hr⟩
  have hil:i<l:=by
   have:=(ae.1 hv).1;rwa [b9] at this
  have hsz:s.data.size=s.size:=rfl;simp only[c];rw[Array.getElem?_append_left (by simp;omega),Array.getElem?_map,<- hx,List.getElem?_map,<- h1,Array.getElem?_toList]
 refine⟨.slice (some ⟨w.heap.size,0,none⟩) s.size cap,.cells c e (cap,cap+1),c.size,w.drawn+1,?_,fun k E2 hE hk=>⟨?_,fun H=>?_⟩⟩
 ·simp only[convert,Sem.run_bind,run_underlying ha,run_underlying hb,run_underlying he,Result.andThen_ok,Conv.stringToBytes,run_choose,hq,Bool.false_eq_true,if_false,hcap,newRow,run_newObj,Sem.run_pure]
  rw[ew _ w.heap.size cap c e (by simp[c]) hcs];simp only[Result.andThen_ok];congr 1;exact mi w.heap c e cap w.tape (w.drawn+1) w.os w.output
 ·rw[hs];exact nV hk (by omega) (by omega) (fun k hk=>by cases hk)
 ·exact gP hrel (by rw[b9];omega) (by show (cap,cap+1)=(c.size,c.size+1);rw[hcs]) hE H k _
theorem uL {tm:T V}{ev:Operand->Value}(place:Nat->Option (Nat×Nat)) :
  ∀ (ps:List (Nat×Operand))(l:List (Nat×Nat×AO))(cs:List V)(xs:Array Value),aR place ps=some l->VRs E cs xs.toList->
   (∀ i x,(i,x)∈ps->VR E ((ap x).ev tm) (ev x))->
   (∃ n,∀ k,bD tm l cs k=.fail n)\/
   ∃ cs' xs',(∀ k,bD tm l cs k=k cs')/\Instr.fill place xs (ps.map fun (i,x)=>(i,ev x))=some xs'/\VRs E cs' xs'.toList/\cs'.length=cs.length
 |[],l,cs,xs,hl,hcs,_=>by
  cases hl;exact .inr ⟨cs,xs,fun _=>rfl,rfl,hcs,rfl⟩
 |(i,x)::r,l,cs,xs,hl,hcs,hev=>by
  simp only[aR] at hl;cases hp:place i with
  |none=>rw[hp] at hl;simp at hl
  |some os=>
   obtain⟨off,size⟩:=os;rw[hp] at hl;cases hr:aR place r with
   |none=>rw[hr] at hl;simp at hl
   |some l'=>
    rw[hr] at hl;simp only[Option.some.injEq] at hl;subst hl;have hx:=hev i x (aj ..);cases hb:(Nat.beq ((ap x).ev tm).cells.length size&&Nat.ble (Nat.add off size) cs.length&&((ap x).ev tm).real) with
    |false=>exact .inl ⟨21,fun k=>by simp only[bD,hb];rfl⟩
    |true=>
     have hb':=hb;simp only[Bool.and_eq_true] at hb;have hs:=aa hb.1.1;have hle:=ab hb.1.2;have hc:=hx.cells hb.2;have hcl:=hc.length;have hxl:=hcs.length;simp only[Array.length_toList] at hcl hxl;have e:∀ k,bD tm ((off,size,ap x)::l') cs k=bD tm l' (bU ((ap x).ev tm).cells off cs) k:=fun k=>by simp only[bD,hb'];rfl
     rcases uL place r l' _ _ hr (p7 hcs hc off) (fun j y hj=>hev j y (ai _ hj)) with⟨n,hn⟩|⟨cs',xs',h1,hf,hv,hlen⟩
     ·exact .inl ⟨n,fun k=>by rw[e];exact hn k⟩
     ·refine .inr ⟨cs',xs',fun k=>by rw[e];exact h1 k,?_,hv,by rw[hlen,bZ]⟩
      rw[List.map_cons,Instr.fill];simp only[hp]
      rw[if_neg (by
       simp only[ne_eq,Bool.or_eq_true,decide_eq_true_eq,not_or,Decidable.not_not]
       have hle':off+size<=cs.length:=hle
       constructor<;>omega)]
      rw[<- hf];congr 1;rw[<- Array.foldl_toList,Array.toList_zipIdx]
theorem nBslice {t e:TypeId}{ps:Array (Nat×Operand)}{tm:T V}{ev:Operand->Value}{i:TypeInfo}{z:V}{len:Nat}(ht:P.underlying t=some (.slice e))(hi:P.info? e=some i)
  (hz:aG i=some z)(hsmall:len*i.size<=16777216)(hzl:z.cells.length=i.size){l:List (Nat×Nat×AO)}(hl:aR (fun j=>some (j*i.size,i.size)) ps.toList=some l)
  (hev:∀ i x,(i,x)∈ps.toList->VR E ((ap x).ev tm) (ev x)) :
  (∃ n,∀ k,bD tm l (br z.cells len) k=.fail n)\/
  ∃ cs,(∀ k,bD tm l (br z.cells len) k=k cs)/\cJ E w ((Instr.buildSlice t len (ps.map fun (i,x)=>(i,ev x))).run P w) (fun k=>.slice k 0 len (some len) i.size) (.cells (putL .bad cs 0 .e) cs.length e 0 0 0 false):=by
 obtain⟨x,hx,hv,hzr⟩:=bn (E:=E) hz;have hxs:x.cells.size=i.size:=by have:=(hv.cells hzr).length;simp only[Array.length_toList] at this;omega
 rcases uL _ ps.toList l _ _ hl (j7 hv hzr len) hev with⟨n,hn⟩|⟨cs',xs',h1,hf,hr,hlen⟩
 ·exact .inl ⟨n,hn⟩
 refine .inr ⟨cs',h1,?_⟩;have hrl:=hr.length;simp only[Array.length_toList] at hrl;have hsz:xs'.size=len*i.size:=by rw[<- hrl,hlen,bL,hzl]
 refine⟨.slice (some ⟨w.heap.size,0,none⟩) len len,.cells xs' e (0,0),xs'.size,w.drawn,?_,fun k E2 hE hk=>⟨nV hk (am _) (by omega) (fun k hk=>by cases hk;rfl),fun H=>?_⟩⟩
 ·have e1:(ps.map fun (i,x)=>(i,ev x)).toList=ps.toList.map fun (i,x)=>(i,ev x):=by simp
  rw[hxs] at hf;by_cases h0:len*i.size=0
  ·have hf':Instr.fill (fun j=>some (j*i.size,i.size)) ((Array.range (len*i.size)).map ((#[]:Array Value)[· % (#[]:Array Value).size]!)) (ps.toList.map fun (i,x)=>(i,ev x))=some xs':=by
    rw[<- hf];congr 1;rw[h0];simp
   simp only[Instr.buildSlice,Sem.run_bind,run_underlying ht,Result.andThen_ok,aK hi,Sem.run_ite,run_unsupported];rw[if_neg (by have:(2:Nat) ^ 24=16777216:=rfl;omega)];simp only[Sem.run_pure,Result.andThen_ok];rw[if_pos h0];simp only[Result.andThen_ok,e1,hf',newRow,Sem.run_bind,run_newObj,Sem.run_pure]
  ·simp only[Instr.buildSlice,Sem.run_bind,run_underlying ht,Result.andThen_ok,aK hi,Sem.run_ite,run_unsupported]
   rw[if_neg (by have:(2:Nat) ^ 24=16777216:=rfl;omega)];simp only[Sem.run_pure,Result.andThen_ok];rw[if_neg h0];simp only[Result.andThen_ok,aP hi hx,e1,hxs,hf,newRow,Sem.run_bind,run_newObj,Sem.run_pure]
 ·exact gP (fr:=(0,0)) (fz:=0) (fun i v hv=>by simpa using hr.get i v hv) (by omega) rfl hE H k _
theorem nMkSl {t e:TypeId}{i:TypeInfo}{z:V}{n:Nat}(ht:P.underlying t=some (.slice e))(hi:P.info? e=some i)(hz:aG i=some z)(hzl:z.cells.length=i.size)(h1:n*i.bytes<=16777216)(h2:n<=16777216) :
  cJ E w ((Instr.makeSlice t (.int .i64 n) (.int .i64 n)).run P w) (fun k=>.slice k 0 n (some n) i.size) (.cells (putL .bad (br z.cells n) 0 .e) (br z.cells n).length e 0 0 0 false):=by
 obtain⟨x,hx,hv,hzr⟩:=bn (E:=E) hz;have hxs:x.cells.size=i.size:=by have:=(hv.cells hzr).length;simp only[Array.length_toList] at this;omega
 have hr:=j7 hv hzr n;have hrl:=hr.length;simp only[Array.length_toList] at hrl;refine⟨.slice (some ⟨w.heap.size,0,none⟩) n n,.cells ((Array.range (n*x.cells.size)).map (x.cells[· % x.cells.size]!)) e (0,0),((Array.range (n*x.cells.size)).map (x.cells[· % x.cells.size]!)).size,w.drawn,uz ht hi hx hxs h1 h2,fun k E2 hE hk=>⟨nV hk (am _) (by simp[hxs]) (fun k hk=>by cases hk;rfl),fun H=>?_⟩⟩;exact gP (fr:=(0,0)) (fz:=0) (fun i v hv=>by have:=hr.get i v hv;rwa [Array.getElem?_toList] at this) (by omega) rfl hE H k _
theorem NewOp.same {ao:AOp}{tm:T V}{mk mk':Nat->V}{ob ob':AObj}(h:NewOp ao tm mk ob)(h':∀ H nx,exOp ao tm H nx=.valH (mk' nx) (put .no H nx ob') (nx+1)):mk=mk'/\ob=ob':=by
 constructor
 ·funext n
  have e:=(h.ex .e n).symm.trans (h' .e n);injection e
 ·have e:=(h.ex .e 0).symm.trans (h' .e 0)
  injection e with _ e2 _
  have:=congrArg (fun H=>getH H 0) e2;simpa[ar] using this
theorem NewOp.no {ao:AOp}{tm:T V}{mk:Nat->V}{ob:AObj}(h:NewOp ao tm mk ob){n:Nat}(h':exOp ao tm .e 0=.fail n):False:=by
 have:=h.ex .e 0;rw[h'] at this;cases this
end
end Go.Exo
end

noncomputable section
namespace Go.Exo
variable [Sx] [Dc]
section
variable {P:Program}{E:Env}{w:World}{tm:T V}{ev:Operand->Value}
def yK (P:Program)(E:Env)(w:World)(R:Result Next)(mk:Nat->V)(ob:AObj):Prop:=
 ∃ X obj sz d,R=.ok (.value X) { w with heap:=w.heap.push obj,drawn:=d }/\
  ∀ l E2,E.le E2->E2 l=some ⟨w.heap.size,0,sz,undef,noOb,[]⟩->VR E2 (mk l) X/\∀ H,OR E2 H l ⟨w.heap.size,0,sz,undef,noOb,[]⟩ (some obj) ob
theorem cJ.next {s:Sem Value}{mk:Nat->V}{ob:AObj}(h:cJ E w (s.run P w) mk ob):yK P E w ((do pure (.value (<- s)):Sem Next).run P w) mk ob:=by
 obtain⟨X,obj,sz,d,h1,h2⟩:=h;exact⟨X,obj,sz,d,by rw[Sem.run_bind,h1];rfl,h2⟩
theorem sC (c:Call):(gr P c).cls≠1:=by
 unfold gr
 repeat' split
 all_goals first|(simp[AOp.cls];done)|skip
 all_goals (
  rename_i fn _ _ _ _ _ _
  first|(cases (fn.name == "internal/bytealg.IndexByteString" && (fn.origin == "" || fn.origin == "internal/bytealg.IndexByteString"))<;>simp[AOp.cls];done)|skip)
 all_goals (simp only[Bool.cond_eq_ite];repeat' split)
 all_goals simp[AOp.cls]
theorem new_run (o:Oper)(hev:∀ x∈o.op.operands.toList,VR E ((ap x).ev tm) (ev x))(hcls:(ay P o.op).cls=1){mk:Nat->V}{ob:AObj}(hn:NewOp (ay P o.op) tm mk ob) :
  yK P E w ((execOp ev o).run P w) mk ob:=by
 have m1:∀ x,x∈o.op.operands->VR E ((ap x).ev tm) (ev x):=fun x hx=>hev x (by simpa using hx)
 cases ho:o.op with
 |alloc t=>
  unfold execOp;simp only[ho];rw[ho] at hn;simp only[ay] at hn;cases ht:tyOf P t with
  |none=>rw[ht] at hn;exact (hn.no rfl).elim
  |some di=>
   obtain⟨d,i⟩:=di;rw[ht] at hn;simp only at hn;cases hz:aG i with
   |none=>rw[hz] at hn;exact (hn.no rfl).elim
   |some z=>
    rw[hz] at hn;simp only[bw] at hn;obtain⟨rfl,rfl⟩:=hn.same (mk':=fun l=>.ptr l 0) (ob':=nj t z.cells) (fun H nx=>by rw[io];show jg _ H nx=_;simp only[jg,cn,aJ]);exact cJ.next (nAlloc (eu ht).2.2.1 hz)
 |box t x=>
  unfold execOp;simp only[ho];rw[ho] at hn;simp only[ay] at hn;cases hr:((ap x).ev tm).real with
  |false=>exact (hn.no (by show xBox _ _ _ _=_;simp only[xBox,hr];rfl)).elim
  |true=>
   obtain⟨rfl,rfl⟩:=hn.same (mk':=fun l=>.ptr l 0) (fun H nx=>by show xBox _ _ H nx=_;simp only[xBox,aS,hr,cond_true];rfl);exact cJ.next (nBox (m1 x (by simp[ho,Op.operands])) hr)
 |buildSlice t len ps=>
  unfold execOp;simp only[ho];rw[ho] at hn;simp only[ay] at hn
  have hps:∀ i x,(i,x)∈ps.toList->VR E ((ap x).ev tm) (ev x):=fun i x hx=>m1 x (by
   simp only[ho,Op.operands,List.mem_toArray,List.mem_map];exact⟨(i,x),hx,rfl⟩)
  cases hu:undT P t with
  |none=>rw[hu] at hn;exact (hn.no rfl).elim
  |some d=>
   rw[hu] at hn;cases d<;>try exact (hn.no rfl).elim
   rename_i e;simp only at hn;cases hi:aT P e with
   |none=>rw[hi] at hn;exact (hn.no rfl).elim
   |some i=>
    rw[hi] at hn;simp only at hn;cases hz:aG i with
    |none=>rw[hz] at hn;exact (hn.no rfl).elim
    |some z=>
     rw[hz] at hn;simp only at hn;cases hb:(Nat.ble (len*i.size) 16777216&&Nat.beq z.cells.length i.size) with
     |false=>rw[hb] at hn;exact (hn.no rfl).elim
     |true=>
      rw[hb] at hn;simp only[cond_true] at hn;simp only[Bool.and_eq_true] at hb;cases hl:aR (fun j=>some (j*i.size,i.size)) ps.toList with
      |none=>rw[hl] at hn;exact (hn.no rfl).elim
      |some l=>
       rw[hl] at hn;simp only at hn;rcases nBslice (E:=E) (w:=w) (P:=P) (tm:=tm) (ev:=ev) (av P hu) (aM P hi) hz (ab hb.1) (aa hb.2) hl hps with⟨n,hf⟩|⟨cs,hk,hr⟩
       ·exact (hn.no (n:=n) (hf _)).elim
       ·obtain⟨rfl,rfl⟩:=hn.same (fun H nx=>by
         show bD tm l (br z.cells len) (fun cs=>bV e cs 0 H nx (.slice nx 0 len (some len) i.size))=_
         rw[hk,aS])
        exact cJ.next hr
 |makeSlice t l c=>
  unfold execOp;simp only[ho];have hl:=m1 l (by simp[ho,Op.operands]);have hc:=m1 c (by simp[ho,Op.operands]);rw[ho] at hn;simp only[ay] at hn;cases hu:undT P t with
  |none=>rw[hu] at hn;exact (hn.no rfl).elim
  |some d=>
   rw[hu] at hn;cases d<;>try exact (hn.no rfl).elim
   rename_i e;simp only at hn;cases hi:aT P e with
   |none=>rw[hi] at hn;exact (hn.no rfl).elim
   |some i=>
    rw[hi] at hn;simp only at hn;cases hz:aG i with
    |none=>rw[hz] at hn;exact (hn.no rfl).elim
    |some z=>
     rw[hz] at hn;simp only at hn;cases hb:Nat.beq z.cells.length i.size with
     |false=>rw[hb] at hn;exact (hn.no rfl).elim
     |true=>
      rw[hb] at hn;simp only[cond_true] at hn;have hex:∀ H nx,exOp (.mkSl e i.size i.bytes z.cells (ap l) (ap c)) tm H nx=gx e i.size i.bytes z.cells ((ap l).ev tm) ((ap c).ev tm) H nx:=fun _ _=>rfl
      generalize (ap l).ev tm=lv at hl hex;generalize (ap c).ev tm=cv at hc hex;generalize ev l=LV at hl ⊢;generalize ev c=CV at hc ⊢;cases hl<;>try exact (hn.no (hex _ _)).elim
      rename_i k n;cases k<;>try exact (hn.no (hex _ _)).elim
      cases n with
      |negSucc _=>exact (hn.no (hex _ _)).elim
      |ofNat n=>
       cases hc<;>try exact (hn.no (hex _ _)).elim
       rename_i k m;cases k<;>try exact (hn.no (hex _ _)).elim
       cases m with
       |negSucc _=>exact (hn.no (hex _ _)).elim
       |ofNat m=>
        cases hb2:(Nat.beq n m&&Nat.ble (Nat.mul n i.bytes) 16777216&&Nat.ble n 16777216) with
        |false=>exact (hn.no (n:=171) ((hex _ _).trans (by simp only[gx,hb2];rfl))).elim
        |true=>
         have hb3:=hb2;simp only[Bool.and_eq_true] at hb3;obtain rfl:=aa hb3.1.1;obtain⟨rfl,rfl⟩:=hn.same (fun H nx=>(hex H nx).trans (by simp only[gx,hb2,cond_true,aS];rfl));exact cJ.next (nMkSl (av P hu) (aM P hi) hz (aa hb) (ab hb3.1.2) (ab hb3.2))
 |makeMap t r=>
  unfold execOp;simp only[ho];rw[ho] at hn;simp only[ay] at hn;cases r with
  |some _=>exact (hn.no rfl).elim
  |none=>
   obtain⟨rfl,rfl⟩:=hn.same (mk':=fun l=>.map l) (ob':=.map [] 0) (fun H nx=>by show cn (.map [] 0) H nx (fun H nx'=>.valH (.map nx) H nx')=_;simp only[cn,aJ]);exact cJ.next nMap
 |range t x=>
  unfold execOp;simp only[ho];have hx:=m1 x (by simp[ho,Op.operands]);rw[ho] at hn;simp only[ay] at hn;cases hu:undT P t with
  |none=>rw[hu] at hn;exact (hn.no rfl).elim
  |some d=>
   rw[hu] at hn;cases d<;>try exact (hn.no rfl).elim
   case map kt e=>rw[ho] at hcls;simp only[ay,hu] at hcls;exact absurd (show (4:Nat)=1 from hcls) (by decide)
 |convert a b x=>
  unfold execOp;simp only[ho];have hx:=m1 x (by simp[ho,Op.operands]);rw[ho] at hn hcls;simp only[ay] at hn hcls;cases ha:undT P a with
  |none=>rw[ha] at hn;exact (hn.no rfl).elim
  |some da=>
   cases hb:undT P b with
   |none=>rw[ha,hb] at hn;cases da<;>exact (hn.no rfl).elim
   |some db=>
    rw[ha,hb] at hn hcls;cases da<;>try exact (hn.no rfl).elim
    case int k0=>
     cases db<;>first|exact (hn.no rfl).elim|cases hcls
    case string=>
     cases db<;>try exact (hn.no rfl).elim
     rename_i e;simp only at hn;cases he:undT P e with
     |none=>rw[he] at hn;exact (hn.no rfl).elim
     |some de=>
      rw[he] at hn;cases de<;>try exact (hn.no rfl).elim
      rename_i k;cases k<;>try exact (hn.no rfl).elim
      simp only at hn;generalize hxv:(ap x).ev tm=v at hx;have hee:∀ H nx,exOp (.convSB e (ap x)) tm H nx=fl e v H nx:=fun H nx=>by rw[<- hxv];rfl
      generalize hX:ev x=X at hx ⊢;cases hx
      case str l n s h1 h2=>
       obtain⟨rfl,rfl⟩:=hn.same (mk':=fun k=>.slice k 0 l none 1) (fun H nx=>by rw[hee];simp only[fl,aS];rfl);exact cJ.next (nConvSB (av P ha) (av P hb) (av P he) h1)
      all_goals exact (hn.no (hee _ _)).elim
    case slice e=>
     cases db<;>try exact (hn.no rfl).elim
     simp only at hn hcls;cases he:undT P e with
     |none=>rw[he] at hn;exact (hn.no rfl).elim
     |some de=>
      rw[he] at hn hcls;cases de<;>try exact (hn.no rfl).elim
      rename_i k;cases k<;>first|exact (hn.no rfl).elim|cases hcls
 |call c=>rw[ho] at hcls;exact absurd hcls (sC c)
 |next x b=>exfalso;rw[ho] at hcls;cases b<;>exact absurd (show (4:Nat)=1 from hcls) (by decide)
 |_=>
  exfalso;rw[ho] at hcls
  first
   |exact absurd (show (4:Nat)=1 from hcls) (by decide)
   |exact absurd (show (0:Nat)=1 from hcls) (by decide)
   |(simp only[ay,Bool.cond_eq_ite] at hcls
     repeat' split at hcls
     all_goals first
      |exact absurd (show (4:Nat)=1 from hcls) (by decide)
      |exact absurd (show (0:Nat)=1 from hcls) (by decide)
      |exact absurd (show (2:Nat)=1 from hcls) (by decide)
      |exact absurd (show (3:Nat)=1 from hcls) (by decide))
   |(simp only[ay] at hcls
     repeat' split at hcls
     all_goals first
      |exact absurd (show (4:Nat)=1 from hcls) (by decide)
      |exact absurd (show (0:Nat)=1 from hcls) (by decide)
      |exact absurd (show (2:Nat)=1 from hcls) (by decide)
      |exact absurd (show (3:Nat)=1 from hcls) (by decide))
end
end Go.Exo
end

noncomputable section
namespace Go.Exo
variable [Sx] [Dc]
section
variable {P:Program}{w0:Bs}{cs0:List Frame}{E:Env}{ih:Ih}
theorem Ord.tail {ops:Array Oper}{i:Nat}{is:List Nat}(h:Ord P ops (i::is)):Ord P ops is:=by
 obtain⟨h1,h2,h3,h4,h5⟩:=h;refine⟨(List.nodup_cons.1 h1).2,fun j hj=>h2 j (ai _ hj),fun j hj k hk=>h3 j (ai _ hj) k (ai _ hk),fun a j b e=>?_,fun x hx j hj=>⟨fun hn hm=>?_,fun a b e=>?_⟩⟩
 ·exact h4 (i::a) j b (by rw[e];rfl)
 ·obtain⟨g1,g2⟩:=h5 x hx j hj
  by_cases e:x.1.idx=i
  ·exact g2 [] is (by rw[e];rfl) (ai _ hm)
  ·refine g1 (fun hh=>?_) (ai _ hm)
   cases hh with
   |head=>exact e rfl
   |tail _ hh=>exact hn hh
 ·exact (h5 x hx j hj).2 (i::a) b (by rw[e];rfl)
theorem fE.tail {ops:Array Oper}{i:Nat}{is:List Nat}(hnd:i∉is):∀ {l:List PStep},fE P ops l (i::is)->(∀ s∈l,s.idx≠i)->fE P ops l is
 |[],_,_=>trivial
 |s::r,⟨h1,h2,h3,h4,h5,h6⟩,hi=>by
  have hne:=hi s (aj ..);refine⟨h1,?_,h3,h4,fun d hd j hj hp hw=>h5 d hd j (ai _ hj) hp (hw.imp id fun⟨x,y,e,hy⟩=>⟨i::x,y,by rw[e];rfl,hy⟩),?_⟩
  ·cases h2 with
   |head=>exact absurd rfl hne
   |tail _ h=>exact h
  ·rcases h6 with⟨g1,g2,g3⟩|⟨g1,a,b,g2,g3,g4,g5⟩
   ·exact .inl ⟨g1,g2,fE.tail hnd g3 fun s hs=>hi s (ai _ hs)⟩
   ·cases a with
    |nil=>simp only[List.nil_append,List.cons.injEq] at g2;exact absurd g2.1.symm hne
    |cons x a=>
     simp only[List.cons_append,List.cons.injEq] at g2;exact .inr ⟨g1,a,b,g2.2,fun j hj=>g3 j (ai _ hj),g4,g5⟩
theorem FitZ.tail {ops:Array Oper}{i:Nat}{is:List Nat}(hnd:i∉is){l:List PStep}(h:FitZ P ops l (i::is))(hi:∀ s∈l,s.idx≠i):FitZ P ops l is:=by
 rcases h with h|h
 ·exact .inl (h.tail hnd hi)
 ·exact .inr h
theorem cls0 {o:AOp}(h:o.cls=0)(tm:T V)(H H':T AObj)(nx nx':Nat):exOp o tm H nx=exOp o tm H' nx':=by
 cases o<;>first|rfl|(simp[AOp.cls] at h)
theorem cls2 {o:AOp}(h:o.cls=2)(tm:T V)(H:T AObj)(nx nx':Nat):exOp o tm H nx=exOp o tm H nx':=by
 cases o<;>first|rfl|(simp[AOp.cls] at h)
theorem yes_ok (hdc:DecE E){ops:Array Oper}{o:Oper}{tmps:Array Value}{tm:T V}(hbad:eP ops o=false)(hv:∀ t∈looks ops o,VR E (getU tm t) (tmps.getD t undef))(h:GYes (gdOf ops o) tm):Region.wanted o (yielded ops tmps)=true:=by
 cases hg:o.guard with
 |none=>exact mn hg
 |some jw=>
  obtain⟨j,want⟩:=jw;unfold eP at hbad;rw[hg] at hbad;simp only at hbad;cases hd:(ops[j]?).bind (·.dst) with
  |none=>rw[hd] at hbad;cases hbad
  |some t=>
   have hgo:gdOf ops o=some (t,want):=by unfold gdOf;rw[hg];simp only[hd]
   rcases h with h|⟨t',want',h1,h2⟩
   ·rw[hgo] at h;cases h
   ·rw[hgo] at h1;cases h1
    have:=hv t (by unfold looks;rw[hgo];simp);have hx:=gB_ok hdc this h2;rw[eE hg hd hx];simp
theorem no_ok (hdc:DecE E){ops:Array Oper}{o:Oper}{tmps:Array Value}{tm:T V}(hv:∀ t∈looks ops o,VR E (getU tm t) (tmps.getD t undef))(h:GNo (gdOf ops o) tm):Region.wanted o (yielded ops tmps)=false:=by
 obtain⟨t,want,h1,h2⟩:=h;have:=hv t (by unfold looks;rw[h1];simp);unfold gdOf at h1;cases hg:o.guard with
 |none=>rw[hg] at h1;cases h1
 |some jw=>
  obtain⟨j,w'⟩:=jw;rw[hg] at h1;simp only at h1;cases hd:(ops[j]?).bind (·.dst) with
  |none=>rw[hd] at h1;cases h1
  |some t'=>
   rw[hd] at h1;cases h1;rcases h2 with⟨b,h2,h3⟩|⟨vs,h2⟩
   ·have hx:=gB_ok hdc this h2
    rw[eE hg hd hx];cases b<;>cases want<;>simp_all
   ·generalize hx:tmps.getD t undef=x at this
    rw[h2] at this;cases this;exact nU hg hd hx
theorem flush1 {b:Nat}{c:Ctx}{fr:Frame}{cs:List Frame}{w:World}(hc:Cur P w0 cs0 E b c fr cs w){ops:Array Oper}{i:Nat}{is:List Nat}{k':List Item}(ht:fr.todo=.inRegion ops (i::is)::k'){l:List PStep}{tm:T V}
  (hd:DInv P E c.H b c.nx ops l (i::is) tm fr.tmps true)(hp:∀ s∈l,s.idx≠i) :
  ∃ E' fr' w',Steps P (lone fr cs w) (lone fr' cs w')/\E.le E'/\Cur P w0 cs0 E' b c fr' cs w'/\fr'.todo=.inRegion ops is::k'/\DInv P E' c.H b c.nx ops l is tm fr'.tmps true:=by
 obtain⟨hord,hfit,htm,hsz,pl,hinj,hpf⟩:=hd;have hnd:i∉is:=(List.nodup_cons.1 hord.1).1;obtain⟨o,tm0,ho,hag,hcase⟩:=hpf i (aj ..) hp;have hdst:bR ops i=o.dst:=by simp[bR,ho]
 have hlook:∀ t∈looks ops o,VR E (getU tm0 t) (fr.tmps.getD t undef):=fun t htl=>by
  rw[hag t htl];exact htm t fun j hj hjp=>hord.2.2.2.1 [] i is rfl o ho t htl j hj (hpf j hj hjp).early
 have hev:∀ x∈o.op.operands.toList,ce P.globals.size x=true->VR E ((ap x).ev tm0) (fr.eval x):=fun x hx hf=>lA hc.gl hf fun t e=>hlook t (by
  unfold looks nE;subst e;exact List.mem_append.2 (.inl (List.mem_filterMap.2 ⟨_,hx,rfl⟩)))
 have fin:∀ (E':Env)(w':World)(v:V)(x:Value),E.le E'->Go.step P (lone fr cs w)=.next (lone (fr.finish x) cs w')->WR w0 E' c.H c.nx w'->bM b E E' c.H c.H->VR E' v x->(∀ d,o.dst=some d->getU tm d=v)->
   (∀ j∈is,(∀ s∈l,s.idx≠j)->∀ lj,pl j=some lj->E lj=none->E' lj=none)->
   ∃ E' fr' w',Steps P (lone fr cs w) (lone fr' cs w')/\E.le E'/\Cur P w0 cs0 E' b c fr' cs w'/\fr'.todo=.inRegion ops is::k'/\DInv P E' c.H b c.nx ops l is tm fr'.tmps true:=by
  intro E' w' v x hE hst hwr hkb hv hvd hnone;refine⟨E',fr.finish x,w',.one hst,hE,?_,?_,?_⟩
  ·rw[cS ht ho]
   have:=hc.mono hE hkb (am _) hwr;exact this.to _ _ (by cases o.dst<;>simp)
  ·rw[cS ht ho]
  ·rw[cS ht ho]
   have hszE:∀ d,o.dst=some d->d<fr.tmps.size:=fun d hd=>hsz i (aj ..) hp d (by rw[hdst,hd])
   refine⟨hord.tail,hfit.tail hnd hp,?_,?_,pl,hinj,?_⟩
   ·intro t hts
    cases hd2:o.dst with
    |none=>
     simp only;refine (htm t fun j hj hjp=>?_).mono hE;cases hj with
     |head=>rw[hdst,hd2];intro h;cases h
     |tail _ hj=>exact hts j hj hjp
    |some d=>
     simp only;by_cases e:t=d
     ·subst e
      rw[hvd t hd2];have:(fr.tmps.setIfInBounds t x).getD t undef=x:=by simp[hszE t hd2]
      rw[this];exact hv
     ·have:(fr.tmps.setIfInBounds d x).getD t undef=fr.tmps.getD t undef:=by simp[Ne.symm e]
      rw[this];refine (htm t fun j hj hjp=>?_).mono hE;cases hj with
      |head=>rw[hdst,hd2];intro h;cases h;exact e rfl
      |tail _ hj=>exact hts j hj hjp
   ·intro j hj hjp d hdj
    have:=hsz j (ai _ hj) hjp d hdj;cases o.dst<;>simpa using this
   ·intro j hj hjp
    obtain⟨o',tm1,g1,g2,g3⟩:=hpf j (ai _ hj) hjp;refine⟨o',tm1,g1,g2,g3.imp id fun⟨gy,v',gv,gg⟩=>⟨gy,v',gv,?_⟩⟩;rcases gg with gg|gg|⟨c1,lj,mk,a1,a2,a3,a4,a5,a6⟩
    ·exact .inl gg
    ·exact .inr (.inl gg)
    ·exact .inr (.inr ⟨c1,lj,mk,a1,a2,a3,hnone j hj hjp lj a1 a4,a5,a6⟩)
 rcases hcase with⟨hno,hund⟩|⟨hyes,v,hvd,hh⟩
 ·
  exact fin E w au undef (Env.le.refl E) (lz hc.mode ht (by rw[ho];exact no_ok hc.wr.decE hlook hno)) hc.wr (fun _ _ h _=>⟨h,rfl⟩) (VR.undef E) hund (fun _ _ _ _ _ h=>h)
 ·have hop:eP ops o=false/\(aF P ops i o).op=bK P o:=by
   cases hb:eP ops o with
   |false=>exact⟨rfl,by simp only[aF,hb,cond_false]⟩
   |true=>
    have hbad:(aF P ops i o).op=.bad:=by simp only[aF,hb,cond_true]
    rw[hbad] at hh;rcases hh with⟨h1,_⟩|⟨h1,_⟩|⟨h1,_⟩<;>cases h1
  obtain⟨hbad,hop⟩:=hop;rw[hop] at hh;have hw:=yes_ok hc.wr.decE hbad hlook hyes
  have hnd2:(∀ d,exOp (bK P o) tm0 c.H c.nx≠.defer d)->(∀ n,exOp (bK P o) tm0 c.H c.nx≠.fail n)->fr.roundOf=none\/∀ c,o.op≠.defer c:=by
   intro h1 h2;refine .inr fun cc hcc=>?_
   rcases qh (P:=P) hcc tm0 c.H c.nx with⟨n,e⟩|⟨d,e⟩
   ·exact h2 n e
   ·exact h1 d e
  have hval:exOp (bK P o) tm0 c.H c.nx=.val v->∃ E' fr' w',Steps P (lone fr cs w) (lone fr' cs w')/\E.le E'/\Cur P w0 cs0 E' b c fr' cs w'/\fr'.todo=.inRegion ops is::k'/\DInv P E' c.H b c.nx ops l is tm fr'.tmps true:=by
   intro hx;have hgood:=qe (tm:=tm0) (ev:=fr.eval) hc.wr o hev;rw[hx] at hgood;obtain⟨n,x,h1,h2,h3⟩:=hgood;exact fin E w v x (Env.le.refl E) (eS hc.mode ht ho hw (hnd2 (by rw[hx];intro _ e;cases e) (by rw[hx];intro _ e;cases e)) h1 h2) hc.wr (fun _ _ h _=>⟨h,rfl⟩) h3 hvd (fun _ _ _ _ _ h=>h)
  rcases hh with⟨c1,h1⟩|⟨c1,h1⟩|⟨c1,lx,mk,a1,a2,a3,a4,a5,a6⟩
  ·exact hval (h1 _ _)
  ·obtain⟨nx',h1⟩:=h1 rfl
   exact hval (by rw[cls2 c1 tm0 c.H c.nx nx'];exact h1)
  ·have hfine:o.op.operands.toList.all (ce P.globals.size)=true:=by
    cases hb:o.op.operands.toList.all (ce P.globals.size) with
    |true=>rfl
    |false=>unfold bK at c1;rw[hb] at c1;cases c1
   have hc0:bK P o=ay P o.op:=by unfold bK;rw[hfine];rfl
   rw[hc0] at c1 a5;obtain⟨X,obj,sz,d,r1,r2⟩:=new_run (E:=E) (w:=w) o (fun x hx=>hev x hx (List.all_eq_true.1 hfine x hx)) c1 a5;have hle:E.le (E.set lx ⟨w.heap.size,0,sz,undef,noOb,[]⟩):=Env.le_set _ a4;obtain⟨r3,r4⟩:=r2 lx _ hle (Env.set_self _ _ _);have hx:∀ n,exOp (bK P o) tm0 c.H c.nx≠.fail n:=fun n e=>by rw[hc0,a5.ex] at e;cases e
   have hx2:∀ n,exOp (bK P o) tm0 c.H c.nx≠.defer n:=fun n e=>by rw[hc0,a5.ex] at e;cases e
   refine fin _ _ v X hle (eS hc.mode ht ho hw (hnd2 hx2 hx) r1 rfl) (hc.wr.made a4 a3 obj sz d a5.cls a5.isc (r4 c.H)) ?_ (by rw[a6];exact r3) hvd ?_
   ·intro k hk hE _
    have:k≠lx:=by omega
    exact⟨by rw[Env.set_other _ _ _ _ this];exact hE,rfl⟩
   ·intro j hj hjp lj hpj hEj
    have:lj≠lx:=fun e=>by
     subst e;have:=hinj _ _ _ a1 hpj;subst this;exact hnd hj
    rw[Env.set_other _ _ _ _ this];exact hEj
theorem flush {b:Nat}{c:Ctx}{cs:List Frame}{ops:Array Oper}{k':List Item}{l:List PStep}{tm:T V}:∀ (a is:List Nat)(E:Env)(fr:Frame)(w:World),Cur P w0 cs0 E b c fr cs w->fr.todo=.inRegion ops (a++is)::k'->
  DInv P E c.H b c.nx ops l (a++is) tm fr.tmps true->(∀ i∈a,∀ s∈l,s.idx≠i)->
  ∃ E' fr' w',Steps P (lone fr cs w) (lone fr' cs w')/\E.le E'/\Cur P w0 cs0 E' b c fr' cs w'/\fr'.todo=.inRegion ops is::k'/\DInv P E' c.H b c.nx ops l is tm fr'.tmps true
 |[],is,E,fr,w,hc,ht,hd,_=>⟨E,fr,w,.refl _ _,Env.le.refl E,hc,ht,hd⟩
 |i::a,is,E,fr,w,hc,ht,hd,hp=>by
  obtain⟨E1,fr1,w1,h1,h2,h3,h4,h5⟩:=flush1 hc ht hd (hp i (aj ..));obtain⟨E2,fr2,w2,g1,g2,g3,g4,g5⟩:=flush a is E1 fr1 w1 h3 h4 h5 fun j hj=>hp j (ai _ hj)
  exact⟨E2,fr2,w2,h1.trans g1,h2.trans g2,g3,g4,g5⟩
end
end Go.Exo
end

noncomputable section
namespace Go.Exo
variable [Sx] [Dc]
def isVF:Res->Prop
 |.val _|.fail _=>True
 |_=>False
theorem isVF.elim {r:Res}(h:isVF r):(∃ v,r=.val v)\/∃ n,r=.fail n:=by
 cases r<;>first|exact .inl ⟨_,rfl⟩|exact .inr ⟨_,rfl⟩|exact False.elim h
theorem isVF.v (v:V):isVF (.val v):=True.intro
theorem isVF.cond {b:Bool}{x y:Res}(h1:isVF x)(h2:isVF y):isVF (cond b x y):=by cases b<;>assumption
theorem isVF.nat {d:Nat}{x:Option V}{k:Nat->Res}(h:∀ n,isVF (k n)):isVF (eO d x k):=by
 cases x with
 |none=>exact h d
 |some v=>
  cases v<;>first|exact True.intro|skip
  rename_i kk n;cases n with
  |ofNat n=>exact h n
  |negSucc n=>exact True.intro
theorem isVF.fill {tm:T V}{k:List V->Res}(h:∀ l,isVF (k l)):∀ (ps:List (Nat×Nat×AO))(cs:List V),isVF (bD tm ps cs k)
 |[],cs=>h cs
 |(off,size,x)::r,cs=>by
  simp only[bD];exact isVF.cond (isVF.fill h r _) True.intro
theorem isVF.binI (op:BinOp)(k:IntKind)(a b:Int):isVF (Exo.binI op k a b):=by
 cases op<;>first|exact True.intro|exact isVF.cond True.intro True.intro
theorem isVF.binS (op:BinOp)(l n l' n':Nat):isVF (Exo.binS op l n l' n'):=by
 cases op<;>first|exact True.intro|exact isVF.cond True.intro True.intro
theorem isVF.binII (op:BinOp)(k k':IntKind)(a b:Int):isVF (Exo.binII op k a k' b):=by
 cases op<;>first
  |exact isVF.cond (isVF.binI _ _ _ _) True.intro
  |(cases b<;>exact True.intro)
theorem isVF.binV (op:BinOp)(x y:V):isVF (Exo.binV op x y):=by
 cases x<;>first|exact True.intro|(cases y<;>first|exact True.intro|exact isVF.binII _ _ _ _ _|exact isVF.binS _ _ _ _ _)
theorem isVF.rd1 (l off:Nat)(H:T AObj):isVF (Exo.rd1 l off H):=by
 unfold Exo.rd1;cases getH H l<;>first|exact True.intro|exact isVF.cond True.intro True.intro
theorem isVF.rdN (l off n:Nat)(H:T AObj){k:List V->Res}(h:∀ l,isVF (k l)):isVF (Exo.rdN l off n H k):=by
 unfold Exo.rdN;cases getH H l<;>first|exact True.intro|exact isVF.cond (h _) True.intro
theorem isVF.pack:∀ (vs:List V){k:Nat->Res},(∀ n,isVF (k n))->isVF (nq vs k)
 |[],_,h=>h 0
 |v::r,k,h=>by
  simp only[nq];cases v<;>first|exact True.intro|skip
  rename_i kk n;cases kk<;>first|exact True.intro|skip
  cases n with
  |ofNat n=>exact isVF.pack r fun m=>h _
  |negSucc n=>exact True.intro
theorem isVF.findK (k:V){no:Res}{yes:V->Res}(h1:isVF no)(h2:∀ v,isVF (yes v)):∀ es,isVF (Exo.findK k no yes es)
 |[]=>h1
 |(a,v,_)::r=>by
  simp only[Exo.findK];cases gi k a with
  |none=>exact True.intro
  |some b=>cases b<;>first|exact isVF.findK k h1 h2 r|exact h2 v
theorem isVF.cnd {b:Bool}{x y:Res}(h1:isVF x)(h2:isVF y):isVF (Exo.cnd b x y):=by cases b<;>assumption
theorem sx_vf {o:AOp}{tm:T V}{r:Res}(h:sxOp o tm=some r):isVF r:=by
 have hx:∀ {v:V}{f:X->Res}{r:Res},(∀ t,isVF (f t))->onX v f=some r->isVF r:=fun hf h=>by
  unfold onX at h;split at h<;>cases h;exact hf _
 have ha:∀ {v:V}{f:X->X->Nat->Res}{r:Res},(∀ s i j,isVF (f s i j))->onA v f=some r->isVF r:=fun hf h=>by
  unfold onA at h;split at h<;>cases h;exact hf _ _ _
 have h2:∀ {u v:V}{q r:Res},isVF q->onX2 u v q=some r->isVF r:=fun hf h=>by
  unfold onX2 at h;split at h
  ·cases h;exact hf
  ·split at h<;>cases h;exact hf
 have hy:∀ {t:X}{q:Res},isVF q->isVF (yes t q):=fun hf=>by unfold yes;split<;>first|exact hf|exact True.intro
 cases o<;>simp only[sxOp] at h<;>try (cases h;done)
 case pick c a b=>exact hx (fun t=>by unfold rN;split<;>exact True.intro) h
 case load1 x=>exact ha (fun s i j=>by unfold sxLd1;split<;>first|exact True.intro|(split<;>exact True.intro)) h
 case loadN n x=>exact ha (fun s i j=>by unfold sxLdN;split<;>first|exact True.intro|(split<;>exact True.intro)) h
 case nilck x=>exact ha (f:=fun s i j=>.val (.xa s i j)) (fun s i j=>True.intro) h
 case bin op x y=>
  refine h2 ?_ h;unfold sxBin;split<;>try exact True.intro
  split<;>try exact True.intro
  split
  ·unfold sxInt
   split<;>try exact True.intro
   refine isVF.cond ?_ True.intro;split<;>first|exact True.intro|exact hy True.intro
  ·refine isVF.cond ?_ True.intro
   unfold sxStr;refine isVF.cond ?_ True.intro;split<;>first|exact hy (hy True.intro)|exact isVF.cond True.intro True.intro
 case eqv neg cst d x y=>
  refine h2 ?_ h;unfold sxEqv;split<;>try exact True.intro
  ·split<;>try exact True.intro
   split<;>try exact True.intro
   exact isVF.cond True.intro True.intro
  ·split
   ·split<;>exact True.intro
   ·split<;>first|exact True.intro|(split<;>exact True.intro)
 case un op x=>exact hx (fun t=>by unfold sxUn;split<;>first|exact isVF.cond True.intro True.intro|exact True.intro|(split<;>exact True.intro)) h
 case convI k x=>exact hx (fun t=>by unfold rL;split<;>exact True.intro) h
 case slStr x lo hi=>exact hx (fun t=>by unfold mM;refine isVF.cond ?_ True.intro;split<;>first|exact True.intro|exact hy True.intro) h
 case slSl esz x lo hi mx=>exact hx (fun t=>by unfold rM;split<;>first|exact True.intro|(refine isVF.cond ?_ True.intro;split<;>first|exact True.intro|exact hy True.intro)) h
 case faddr off x=>exact ha (f:=fun s i j=>.val (.xa s i (Nat.add j off))) (fun s i j=>True.intro) h
 case idxSl esz x i=>exact hx (fun t=>by unfold sxIdx;split<;>first|exact True.intro|(split<;>first|exact True.intro|exact isVF.cond (hy True.intro) True.intro)) h
 case idxStr x i=>exact hx (fun t=>by unfold jU;split<;>first|exact True.intro|(split<;>first|exact True.intro|exact isVF.cond (hy True.intro) True.intro)) h
 case len sh x=>exact hx (fun t=>by unfold sxLen;split<;>first|exact True.intro|exact isVF.cond True.intro True.intro) h
 case maxI x y=>exact h2 (by unfold sxMax;split<;>first|exact True.intro|(split<;>first|exact True.intro|(refine isVF.cond ?_ True.intro;split<;>exact True.intro))) h
 case extCmp x y=>exact h2 (by unfold sxCmp;split<;>first|exact True.intro|exact isVF.cond True.intro True.intro) h
theorem vf0' {o:AOp}(h:o.cls=0)(tm:T V)(H:T AObj)(nx:Nat):isVF (pT o tm H nx):=by
 cases o<;>try (simp[AOp.cls] at h;done)
 case mv x=>exact True.intro
 case pick c a b=>show isVF (pR _ _ _);unfold pR;split<;>exact True.intro
 case build z ps=>exact isVF.fill (k:=fun cs=>.val (.agg cs)) (fun _=>isVF.v _) ps z
 case nilck x=>show isVF (xNil _);unfold xNil;split<;>exact True.intro
 case bin op x y=>exact isVF.binV _ _ _
 case eqv neg cst d x y=>show isVF (eqvR _ _ _ _ _);unfold eqvR;split<;>exact True.intro
 case un op x=>show isVF (unV _ _);unfold unV;split<;>exact True.intro
 case convI k x=>show isVF (np _ _);unfold np;split<;>exact True.intro
 case mkIface t x=>exact True.intro
 case mkFunc fn f c=>exact True.intro
 case slStr x lo hi=>show isVF (nr _ _ _);unfold nr;split<;>first|exact True.intro|exact isVF.nat fun _=>isVF.nat fun _=>isVF.cond True.intro True.intro
 case slSl es x lo hi mx=>
  show isVF (ud _ _ _ _ _);unfold ud;split
  ·split
   ·exact isVF.nat fun _=>isVF.nat fun _=>isVF.cond True.intro True.intro
   ·exact True.intro
  ·refine isVF.cond ?_ True.intro
   split
   ·refine isVF.nat fun _=>isVF.nat fun _=>?_
    split<;>first|exact isVF.cond True.intro True.intro|exact isVF.cond True.intro (isVF.cond True.intro True.intro)
   ·split
    ·exact True.intro
    ·exact isVF.nat fun _=>isVF.nat fun _=>isVF.nat fun _=>isVF.cond True.intro True.intro
  ·exact True.intro
 case slArr n esz x lo hi=>exact True.intro
 case faddr off x=>show isVF (ns _ _);unfold ns;split<;>exact True.intro
 case field size off x=>
  show isVF (jh _ _ _);unfold jh;split
  ·split<;>exact isVF.cond True.intro True.intro
  ·exact True.intro
 case idxSl esz x i=>show isVF (nt _ _ _);unfold nt;(repeat' split)<;>first|exact True.intro|exact isVF.cond True.intro True.intro
 case idxArr n esz x i=>show isVF (jS _ _ _ _);unfold jS;(repeat' split)<;>first|exact True.intro|exact isVF.cond True.intro True.intro
 case idxStr x i=>show isVF (jT _ _);unfold jT;(repeat' split)<;>first|exact True.intro|exact isVF.cond True.intro True.intro
 case tassert t ok z x=>
  show isVF (gz _ _ _ _);unfold gz;split
  ·exact isVF.cond True.intro (isVF.cond True.intro True.intro)
  ·exact isVF.cond True.intro True.intro
  ·exact True.intro
 case extract x i=>show isVF (gA _ _);unfold gA;split<;>first|exact True.intro|exact isVF.cond True.intro True.intro
 case extIB x y=>show isVF (nv _ _);unfold nv;split<;>first|exact True.intro|exact isVF.cond True.intro True.intro
 case maxI x y=>show isVF (xMax _ _);unfold xMax;split<;>first|exact True.intro|exact isVF.cond True.intro True.intro
 case idxAgg n esz g x i=>exact True.intro
 case capv x=>exact True.intro
 case extCmp x y=>exact True.intro
 case eqAgg neg ks x y=>
  show isVF (nu _ _ _ _);unfold nu;split
  ·refine isVF.cond ?_ True.intro
   split<;>exact True.intro
  ·exact True.intro
theorem vf0 {o:AOp}(h:o.cls=0)(tm:T V)(H:T AObj)(nx:Nat):isVF (exOp o tm H nx):=by
 unfold exOp;cases hs:sxOp o tm with
 |none=>exact vf0' h tm H nx
 |some r=>exact sx_vf hs
theorem vf2' {o:AOp}(h:o.cls=2)(tm:T V)(H:T AObj)(nx:Nat):isVF (pT o tm H nx):=by
 cases o<;>try (simp[AOp.cls] at h;done)
 case load1 x=>show isVF (dK _ _);unfold dK;split<;>first|exact True.intro|exact isVF.rd1 _ _ _
 case loadN n x=>show isVF (dL _ _ _);unfold dL;split<;>first|exact True.intro|exact isVF.rdN _ _ _ _ fun _=>isVF.v _
 case convBS x=>show isVF (fm _ _);unfold fm;split<;>first|exact True.intro|exact isVF.rdN _ _ _ _ fun _=>isVF.pack _ fun _=>isVF.v _
 case lookup kd ks z ok x k=>
  show isVF (cnd _ (cY _ _ _ _ _) _);refine isVF.cnd ?_ True.intro;unfold cY;split
  ·exact True.intro
  ·split<;>first|exact True.intro|exact isVF.findK _ (isVF.v _) (fun _=>isVF.v _) _
  ·exact True.intro
 case len sh x=>
  show isVF (xLen _ _ _);unfold xLen;split<;>first|exact True.intro|exact isVF.cond True.intro True.intro|skip
  refine isVF.cond ?_ True.intro;split<;>exact True.intro
theorem vf2 {o:AOp}(h:o.cls=2)(tm:T V)(H:T AObj)(nx:Nat):isVF (exOp o tm H nx):=by
 unfold exOp;cases hs:sxOp o tm with
 |none=>exact vf2' h tm H nx
 |some r=>exact sx_vf hs
theorem res1 {o:AOp}(h:o.cls=1)(tm:T V):(∃ n,∀ H nx,exOp o tm H nx=.fail n)\/∃ mk ob,NewOp o tm mk ob:=by
 cases o<;>try (simp[AOp.cls] at h;done)
 case alloc vs len elem=>exact .inr ⟨fun l=>.ptr l 0,.cells vs len elem 0 0 0 false,⟨fun H nx=>by show jg _ H nx=_;simp only[jg,cn,aJ],rfl,rfl⟩⟩
 case box t x=>
  cases hr:(x.ev tm).real with
  |false=>exact .inl ⟨301,fun H nx=>by show xBox _ _ H nx=_;simp only[xBox,hr];rfl⟩
  |true=>exact .inr ⟨fun l=>.ptr l 0,.cells (putL .bad (x.ev tm).cells 0 .e) (x.ev tm).cells.length t 0 0 0 false,⟨fun H nx=>by show xBox _ _ H nx=_;simp only[xBox,aS,hr,cond_true],rfl,rfl⟩⟩
 case bslice elem esz len z ps=>
  have key:∀ (ps:List (Nat×Nat×AO))(cs:List V),(∃ n,∀ k,bD tm ps cs k=.fail n)\/∃ cs',∀ k,bD tm ps cs k=k cs':=by
   intro ps;induction ps with
   |nil=>intro cs;exact .inr ⟨cs,fun _=>rfl⟩
   |cons p r ih=>
    intro cs;obtain⟨off,size,x⟩:=p;cases hb:(Nat.beq (x.ev tm).cells.length size&&Nat.ble (Nat.add off size) cs.length&&(x.ev tm).real) with
    |false=>exact .inl ⟨21,fun k=>by simp only[bD,hb];rfl⟩
    |true=>
     have e:∀ k,bD tm ((off,size,x)::r) cs k=bD tm r (bU (x.ev tm).cells off cs) k:=fun k=>by simp only[bD,hb];rfl
     rcases ih (bU (x.ev tm).cells off cs) with⟨n,hn⟩|⟨cs',hk⟩
     ·exact .inl ⟨n,fun k=>by rw[e];exact hn k⟩
     ·exact .inr ⟨cs',fun k=>by rw[e];exact hk k⟩
  rcases key ps z with⟨n,hn⟩|⟨cs,hk⟩
  ·exact .inl ⟨n,fun H nx=>hn _⟩
  ·exact .inr ⟨fun k=>.slice k 0 len (some len) esz,_,⟨fun H nx=>by
    show bD tm ps z (fun cs=>bV elem cs 0 H nx (.slice nx 0 len (some len) esz))=_
    rw[hk,aS],rfl,rfl⟩⟩
 case mkSl e esz bytes z l c=>
  have he:∀ H nx,exOp (.mkSl e esz bytes z l c) tm H nx=gx e esz bytes z (l.ev tm) (c.ev tm) H nx:=fun _ _=>rfl
  by_cases hx:∃ n m,l.ev tm=.int .i64 (.ofNat n)/\c.ev tm=.int .i64 (.ofNat m)
  ·obtain⟨n,m,e1,e2⟩:=hx
   rw[e1,e2] at he;cases hb2:(Nat.beq n m&&Nat.ble (Nat.mul n bytes) 16777216&&Nat.ble n 16777216) with
   |false=>exact .inl ⟨171,fun H nx=>by rw[he];simp only[gx,hb2];rfl⟩
   |true=>exact .inr ⟨fun k=>.slice k 0 n (some n) esz,_,⟨fun H nx=>by rw[he];simp only[gx,hb2,cond_true,aS];rfl,rfl,rfl⟩⟩
  ·have hf:∃ f,∀ H nx,gx e esz bytes z (l.ev tm) (c.ev tm) H nx=.fail f:=by
    generalize l.ev tm=lv at hx;generalize c.ev tm=cv at hx;unfold gx;split
    ·rename_i n
     split
     ·rename_i m
      exact absurd ⟨n,m,rfl,rfl⟩ hx
     ·exact⟨172,fun _ _=>rfl⟩
    ·exact⟨173,fun _ _=>rfl⟩
   obtain⟨f,hf⟩:=hf;exact .inl ⟨f,fun H nx=>(he H nx).trans (hf H nx)⟩
 case mkMap=>exact .inr ⟨fun l=>.map l,.map [] 0,⟨fun H nx=>by show cn (.map [] 0) H nx (fun H nx'=>.valH (.map nx) H nx')=_;simp only[cn,aJ],rfl,rfl⟩⟩
 case convSB elem x=>
  have he:∀ H nx,exOp (.convSB elem x) tm H nx=fl elem (x.ev tm) H nx:=fun _ _=>rfl
  cases hx:x.ev tm<;>rw[hx] at he<;>first
   |exact .inl ⟨28,fun H nx=>by rw[he];rfl⟩
   |skip
  rename_i l n;exact .inr ⟨fun k=>.slice k 0 l none 1,_,⟨fun H nx=>by rw[he];simp only[fl,aS];rfl,rfl,rfl⟩⟩
 case rangeS x=>exact .inl ⟨805,fun _ _=>rfl⟩
section
variable {H H':T AObj}{nx:Nat}(hno:getH H nx=.no)(hs:∀ k,k≠nx->getH H' k=getH H k)
include hno hs
theorem dS {l:Nat}{o:AObj}(h:getH H l=o)(hn:o≠.no):getH H' l=o:=by
 rw[hs l (fun e=>by subst e;rw[hno] at h;exact hn h.symm)];exact h
theorem qj {l cls pos:Nat}(h:rdOk H l cls pos=true):rdOk H' l cls pos=true:=by
 cases cls with
 |zero=>rfl
 |succ c=>
  simp only[rdOk,clsOk] at h ⊢;cases hc:getH H (c+1) with
  |cls a b d=>rw[hc] at h;rw[dS hno hs hc (by simp)];exact h
  |_=>rw[hc] at h;cases h
theorem rd1_keep {l off:Nat}{v:V}(h:rd1 l off H=.val v):rd1 l off H'=.val v:=by
 unfold rd1 at h ⊢;cases hc:getH H l with
 |cells cs len elem cls rel fz ro=>
  rw[hc] at h;rw[dS hno hs hc (by simp)];simp only at h ⊢;cases hb:(Nat.ble (Nat.succ off) len&&rdOk H l cls (Nat.add rel (Nat.succ off))) with
  |false=>rw[hb] at h;cases h
  |true=>
   rw[hb] at h;simp only[Bool.and_eq_true] at hb;rw[hb.1,qj hno hs hb.2];exact h
 |_=>rw[hc] at h;cases h
theorem uM {l off n:Nat}{k:List V->Res}{v:V}(h:rdN l off n H k=.val v):rdN l off n H' k=.val v:=by
 unfold rdN at h ⊢;cases hc:getH H l with
 |cells cs len elem cls rel fz ro=>
  rw[hc] at h;rw[dS hno hs hc (by simp)];simp only at h ⊢;cases hb:(Nat.ble (Nat.add off n) len&&rdOk H l cls (Nat.add rel (Nat.add off n))) with
  |false=>rw[hb] at h;cases h
  |true=>
   rw[hb] at h;simp only[Bool.and_eq_true] at hb;rw[hb.1,qj hno hs hb.2];exact h
 |_=>rw[hc] at h;cases h
theorem xx {o:AOp}(hcl:o.cls=2){tm:T V}{n:Nat}{v:V}(h:pT o tm H n=.val v):pT o tm H' n=.val v:=by
 cases o<;>try (simp[AOp.cls] at hcl;done)
 case load1 x=>
  change dK (x.ev tm) H=_ at h;show dK (x.ev tm) H'=_;cases hx:x.ev tm<;>rw[hx] at h<;>first|exact rd1_keep hno hs h|cases h
 case loadN m x=>
  change dL m (x.ev tm) H=_ at h;show dL m (x.ev tm) H'=_;cases hx:x.ev tm<;>rw[hx] at h<;>first|exact uM (k:=fun cs=>.val (.agg cs)) hno hs h|cases h
 case convBS x=>
  change fm (x.ev tm) H=_ at h;show fm (x.ev tm) H'=_;cases hx:x.ev tm<;>rw[hx] at h<;>first|exact h|cases h|exact uM (k:=fun cs=>nq cs fun m=>.val (.str _ m)) hno hs h
 case lookup kd ks z ok x k=>
  change cnd (keyK kd ks (k.ev tm)) (cY z ok (x.ev tm) (k.ev tm) H) (.fail 98)=_ at h;show cnd (keyK kd ks (k.ev tm)) (cY z ok (x.ev tm) (k.ev tm) H') (.fail 98)=_;cases hb:keyK kd ks (k.ev tm) with
  |false=>rw[hb] at h;cases h
  |true=>
   rw[hb] at h;change cY z ok (x.ev tm) (k.ev tm) H=_ at h;show cY z ok (x.ev tm) (k.ev tm) H'=_;cases hx:x.ev tm<;>rw[hx] at h<;>first|exact h|(cases h;done)|skip
   rename_i l;simp only[cY] at h ⊢;cases hc:getH H l with
   |map es cl=>rw[hc] at h;rw[dS hno hs hc (by simp)];exact h
   |mapR es cl=>rw[hc] at h;rw[dS hno hs hc (by simp)];exact h
   |_=>rw[hc] at h;cases h
 case len sh x=>
  change xLen sh (x.ev tm) H=_ at h;show xLen sh (x.ev tm) H'=_;cases hx:x.ev tm<;>rw[hx] at h<;>first|exact h|(cases h;done)|skip
  rename_i l;simp only[xLen] at h ⊢;cases hb:Nat.beq sh 2 with
  |false=>rw[hb] at h;cases h
  |true=>
   rw[hb] at h;simp only[cond_true] at h ⊢;cases hc:getH H l with
   |map es cl=>rw[hc] at h;rw[dS hno hs hc (by simp)];exact h
   |mapR es cl=>rw[hc] at h;rw[dS hno hs hc (by simp)];exact h
   |_=>rw[hc] at h;cases h
theorem Ap {o:AOp}(hcl:o.cls=2){tm:T V}{n:Nat}{v:V}(h:exOp o tm H n=.val v):exOp o tm H' n=.val v:=by
 unfold exOp at h ⊢;cases hq:sxOp o tm with
 |none=>rw[hq] at h;exact xx hno hs hcl h
 |some r=>rw[hq] at h;exact h
end
theorem kg {a b:IntKind}(h:Nat.beq (kNum a) (kNum b)=true):a=b:=by
 cases a<;>cases b<;>first|rfl|cases h
theorem opN_inj {a b:BinOp}(h:Nat.beq (opN a) (opN b)=true):a=b:=by
 cases a<;>cases b<;>first|rfl|cases h
theorem unN_inj {a b:UnOp}(h:Nat.beq (unN a) (unN b)=true):a=b:=by
 cases a<;>cases b<;>first|rfl|cases h
theorem Kd.beq_eq {a b:Kd}(h:Kd.beq a b=true):a=b:=by
 cases a<;>cases b<;>simp only[Kd.beq] at h<;>first|rfl|(cases h;done)|(rw[kg h])|(rw[aa h])
theorem X.beq_eq:∀ {a b:X},X.beq a b=true->a=b:=by
 intro a;induction a with
 |var l i k=>intro b h;cases b<;>simp only[X.beq] at h<;>first|(cases h;done)|(simp only[Bool.and_eq_true] at h;rw[aa h.1.1,aa h.1.2,Kd.beq_eq h.2])
 |int k n=>intro b h;cases b<;>simp only[X.beq] at h<;>first|(cases h;done)|(simp only[Bool.and_eq_true,gE,beq_iff_eq] at h;rw[kg h.1,h.2])
 |bool b=>intro b h;cases b<;>simp only[X.beq] at h<;>first|(cases h;done)|(simp only[beq_iff_eq] at h;rw[h])
 |str l n=>intro b h;cases b<;>simp only[X.beq] at h<;>first|(cases h;done)|(simp only[Bool.and_eq_true] at h;rw[aa h.1,aa h.2])
 |nil e=>intro b h;cases b<;>simp only[X.beq] at h<;>first|(cases h;done)|(rw[aa h])
 |bin op a b iha ihb=>intro c h;cases c<;>simp only[X.beq] at h<;>first|(cases h;done)|(simp only[Bool.and_eq_true] at h;rw[opN_inj h.1.1,iha h.1.2,ihb h.2])
 |un op a ih=>intro c h;cases c<;>simp only[X.beq] at h<;>first|(cases h;done)|(simp only[Bool.and_eq_true] at h;rw[unN_inj h.1,ih h.2])
 |conv k a ih=>intro c h;cases c<;>simp only[X.beq] at h<;>first|(cases h;done)|(simp only[Bool.and_eq_true] at h;rw[kg h.1,ih h.2])
 |len a ih=>intro c h;cases c<;>simp only[X.beq] at h<;>first|(cases h;done)|(rw[ih h])
 |inr a b iha ihb=>intro c h;cases c<;>simp only[X.beq] at h<;>first|(cases h;done)|(simp only[Bool.and_eq_true] at h;rw[iha h.1,ihb h.2])
 |rng a b c iha ihb ihc=>intro d h;cases d<;>simp only[X.beq] at h<;>first|(cases h;done)|(simp only[Bool.and_eq_true] at h;rw[iha h.1.1,ihb h.1.2,ihc h.2])
 |cmp a b iha ihb=>intro c h;cases c<;>simp only[X.beq] at h<;>first|(cases h;done)|(simp only[Bool.and_eq_true] at h;rw[iha h.1,ihb h.2])
 |atx a b iha ihb=>intro c h;cases c<;>simp only[X.beq] at h<;>first|(cases h;done)|(simp only[Bool.and_eq_true] at h;rw[iha h.1,ihb h.2])
 |sub a b c iha ihb ihc=>intro d h;cases d<;>simp only[X.beq] at h<;>first|(cases h;done)|(simp only[Bool.and_eq_true] at h;rw[iha h.1.1,ihb h.1.2,ihc h.2])
 |el a b j k iha ihb=>intro c h;cases c<;>simp only[X.beq] at h<;>first|(cases h;done)|(simp only[Bool.and_eq_true] at h;rw[aa h.1.1.1,Kd.beq_eq h.1.1.2,iha h.1.2,ihb h.2])
 |cut a b c iha ihb ihc=>intro d h;cases d<;>simp only[X.beq] at h<;>first|(cases h;done)|(simp only[Bool.and_eq_true] at h;rw[iha h.1.1,ihb h.1.2,ihc h.2])
 |isnil a ih=>intro c h;cases c<;>simp only[X.beq] at h<;>first|(cases h;done)|(rw[ih h])
 |snoc a b iha ihb=>intro c h;cases c<;>simp only[X.beq] at h<;>first|(cases h;done)|(simp only[Bool.and_eq_true] at h;rw[iha h.1,ihb h.2])
 |cat a b iha ihb=>intro c h;cases c<;>simp only[X.beq] at h<;>first|(cases h;done)|(simp only[Bool.and_eq_true] at h;rw[iha h.1,ihb h.2])
 |app l f a k ih=>intro c h;cases c<;>simp only[X.beq] at h<;>first|(cases h;done)|(simp only[Bool.and_eq_true] at h;rw[aa h.1.1.1,aa h.1.1.2,Kd.beq_eq h.1.2,ih h.2])
 |nilA=>intro c h;cases c<;>simp only[X.beq] at h<;>first|(cases h;done)|rfl
 |cons a b iha ihb=>intro c h;cases c<;>simp only[X.beq] at h<;>first|(cases h;done)|(simp only[Bool.and_eq_true] at h;rw[iha h.1,ihb h.2])
mutual
theorem fG:∀ {a b:V},V.eqB a b=true->a=b
 |.bool a,.bool b,h=>by simp only[V.eqB,beq_iff_eq] at h;rw[h]
 |.int k a,.int k' b,h=>by
  simp only[V.eqB,Bool.and_eq_true,gE,beq_iff_eq] at h;rw[kg h.1,h.2]
 |.str l n,.str l' n',h=>by
  simp only[V.eqB,Bool.and_eq_true] at h;rw[aa h.1,aa h.2]
 |.nilp,.nilp,_=>rfl
 |.nils,.nils,_=>rfl
 |.nilm,.nilm,_=>rfl
 |.nilf,.nilf,_=>rfl
 |.nili,.nili,_=>rfl
 |.ptr l o,.ptr l' o',h=>by
  simp only[V.eqB,Bool.and_eq_true] at h;rw[aa h.1,aa h.2]
 |.slice l o n c e,.slice l' o' n' c' e',h=>by
  simp only[V.eqB,Bool.and_eq_true,beq_iff_eq] at h;obtain⟨⟨⟨⟨h1,h2⟩,h3⟩,h4⟩,h5⟩:=h;rw[aa h1,aa h2,aa h3,h4,aa h5]
 |.map l,.map l',h=>by simp only[V.eqB] at h;rw[aa h]
 |.func fn a b,.func fn' a' b',h=>by
  simp only[V.eqB,Bool.and_eq_true,decide_eq_true_eq] at h;rw[h.1.1,jv h.1.2,jv h.2]
 |.iface t v,.iface t' v',h=>by
  simp only[V.eqB,Bool.and_eq_true] at h;rw[aa h.1,fG h.2]
 |.agg a,.agg b,h=>by simp only[V.eqB] at h;rw[jv h]
 |.tup a,.tup b,h=>by simp only[V.eqB] at h;rw[jv h]
 |.sym l,.sym l',h=>by simp only[V.eqB] at h;rw[aa h]
 |.top l,.top l',h=>by simp only[V.eqB] at h;rw[aa h]
 |.emp l o,.emp l' o',h=>by
  simp only[V.eqB,Bool.and_eq_true] at h;rw[aa h.1,aa h.2]
 |.x t,.x t',h=>by simp only[V.eqB] at h;rw[X.beq_eq h]
 |.xa s i j,.xa s' i' j',h=>by
  simp only[V.eqB,Bool.and_eq_true] at h;rw[aa h.1.1,X.beq_eq h.1.2,X.beq_eq h.2]
 |.lst l t,.lst l' t',h=>by simp only[V.eqB,Bool.and_eq_true] at h;rw[aa h.1,X.beq_eq h.2]
 |.bad,.bad,h=>by simp[V.eqB] at h
theorem jv:∀ {a b:List V},V.eqL a b=true->a=b
 |[],[],_=>rfl
 |a::r,b::s,h=>by
  simp only[V.eqL,Bool.and_eq_true] at h;rw[fG h.1,jv h.2]
end
end Go.Exo
end
