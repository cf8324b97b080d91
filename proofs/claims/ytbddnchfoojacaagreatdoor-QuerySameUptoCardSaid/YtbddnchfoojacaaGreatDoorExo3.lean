/-
  EXO, part N: texts and bytes, maps, lengths, append. Own text.
-/
import Derived.Test.YtbddnchfoojacaaGreatDoorExo2
import Derived.Laws.Append
import Derived.Laws.AppendOwn
import Derived.Lib.Bytealg
import Derived.Laws.Externs
set_option linter.all false
namespace Go.Exo
set_option linter.unusedSectionVars false
variable [Sx] [Dc]
section
variable {P:Program}{w0:Bs}{E:Env}{H:T AObj}{nx:Nat}{w:World}
theorem markStringish_run (W:World)(b n:Nat)(c:Array Value)(elem:TypeId)(hb:W.heap[b]? = some (.cells c elem (0,0)))(hn:c.size=n) :
  (markStringish ⟨b,0,none⟩).run P W=.ok () (W.freeze ⟨b,n,none⟩ 1):=by
 simp[markStringish,World.shape?,hb,hn]
theorem freeze_push (h:Array Obj)(c:Array Value)(elem:TypeId)(n:Nat)(tape:Nat→Question→Nat)(d:Nat)(os:Os)(out:Array (Nat×ByteArray)) :
  World.freeze { heap:=h.push (.cells c elem (0,0)),tape:=tape,drawn:=d,os:=os,output:=out } ⟨h.size,n,none⟩ 1={ heap:=h.push (.cells c elem (n,n+1)),tape:=tape,drawn:=d,os:=os,output:=out }:=by
 simp only[World.freeze]
 rw[if_neg (by omega)]
 congr 1
 apply Array.ext
 ·simp
 ·intro i h1 h2
  rw[Array.getElem_modify]
  simp only[Array.getElem_push]
  by_cases c1:h.size=i
  ·subst c1;simp
  ·rw[if_neg c1]
   have:i<h.size:=by simp at h2;omega
   simp[this]
theorem xConvSB_ok (h:WR w0 E H nx w){a b e:TypeId}(ha:P.underlying a=some .string)(hb:P.underlying b=some (.slice e))(he:P.underlying e=some (.int .u8)){x:V}{X:Value}(hx:VR E x X) :
  VG w0 E H nx w ((convert a b X).run P w) (xConvSB e x H nx):=by
 cases hx<;>simp only[xConvSB]<;>try trivial
 rename_i l n s h1 h2
 rw[newCells_eq]
 have hs:=size_sB h1
 have hq:(Question.appendCap s.size 0 e).forced=false:=rfl
 generalize hcap:(Question.appendCap s.size 0 e).cut (w.tape w.drawn (.appendCap s.size 0 e))=cap
 have hge:s.size≤cap:=by rw[← hcap];simp[Question.cut]
 let c:Array Value:=(s.data.map fun b=>Value.int .u8 b.toNat)++Array.replicate (cap-s.size) (.int .u8 0)
 have hcs:c.size=cap:=by
  have:s.data.size=s.size:=rfl
  simp only[c,Array.size_append,Array.size_map,Array.size_replicate];omega
 have hrel:∀ (i:Nat) v,(bytesV l n)[i]? = some v→∃ x,c[i]? = some x∧VR E v x:=by
  intro i v hv
  obtain⟨x,hx,hr⟩:=(bytesV_rel (E:=E) l n).get i v hv
  refine⟨x,?_,hr⟩
  have hil:i<l:=by
   have:=(List.getElem?_eq_some_iff.1 hv).1
   rwa [bytesV_length] at this
  have hsz:s.data.size=s.size:=rfl
  simp only[c]
  rw[Array.getElem?_append_left (by simp;omega),Array.getElem?_map,← hx,List.getElem?_map,← h1,Array.getElem?_toList]
 obtain⟨g1,g2,g3⟩:=new_ok h e (cap,cap+1) 1 (w.drawn+1) (vs:=bytesV l n) (c:=c) hrel (by rw[bytesV_length];omega) (by show (cap,cap+1)=(c.size,c.size+1);rw[hcs])
 refine⟨.slice (some ⟨w.heap.size,0,none⟩) s.size cap,_,_,?_,g1,?_,g2,by omega,g3⟩
 ·simp only[convert,Sem.run_bind,run_underlying ha,run_underlying hb,run_underlying he,Result.andThen_ok,Conv.stringToBytes,run_choose,hq,Bool.false_eq_true,if_false,hcap,newRow,run_newObj,Sem.run_pure]
  rw[markStringish_run _ w.heap.size cap c e (by simp[c]) hcs]
  simp only[Result.andThen_ok]
  congr 1
  exact freeze_push w.heap c e cap w.tape (w.drawn+1) w.os w.output
 ·rw[hs]
  exact slice_new E nx _ _ l 1 none cap (by omega) (by omega) (fun k hk=>by cases hk)
theorem packV_ok {R:Result Value}{k:Nat→Res}:∀ (vs:List V)(xs:List Value),VRs E vs xs→
  (∀ (bs:List UInt8),bs.length=vs.length→(∀ (i:Nat) b,bs[i]? = some b→∃ n:Nat,xs[i]? = some (Value.int .u8 n)∧b=UInt8.ofNat n)→VG w0 E H nx w R (k (packL bs)))→VG w0 E H nx w R (packV vs k)
 |[],xs,h,hk=>by cases h;exact hk [] rfl (by simp)
 |v::r,xs,h,hk=>by
  cases h with
  |cons _ x _ ys h1 h2=>
   simp only[packV]
   cases h1<;>try trivial
   rename_i kk m
   cases kk<;>try trivial
   cases m<;>try trivial
   rename_i m
   refine packV_ok r ys h2 fun bs hlen hbs=>?_
   have:=hk (UInt8.ofNat m::bs) (by simp[hlen]) (by
    intro i b hb
    cases i with
    |zero=>simp at hb;exact⟨m,rfl,hb.symm⟩
    |succ i=>simpa using hbs i b (by simpa using hb))
   have e:packL (UInt8.ofNat m::bs)=Nat.add (Nat.mod m 256) (Nat.mul 256 (packL bs)):=by
    simp only[packL]
    have:(UInt8.ofNat m).toNat=m % 256:=by simp
    rw[this];rfl
   rw[e] at this;exact this
theorem xConvBS_ok (h:WR w0 E H nx w){a b e:TypeId}(ha:P.underlying a=some (.slice e))(hb:P.underlying b=some .string)(he:P.underlying e=some (.int .u8)){x:V}{X:Value}(hx:VR E x X) :
  VG w0 E H nx w ((convert a b X).run P w) (xConvBS x H):=by
 cases hx<;>simp only[xConvBS]<;>try trivial
 case nils=>
  refine VG.val (x:=.string .empty) ?_ (.str 0 0 _ rfl (by simp))
  simp[convert,run_underlying ha,run_underlying hb,run_underlying he,Conv.bytesToString]
 case slice l off n cap esz p c hp _ _ _=>
  refine rdN_ok h (n:=n) hp (fun m=>trivial) fun vs xs hlen hr hc=>?_
  refine packV_ok vs xs hr fun bs hbl hbs=>?_
  have hxl:xs.length=n:=by rw[← hr.length,hlen]
  have hld:=run_loadCells_list (P:=P) w ⟨p.blk,p.base+off,none⟩ xs hc
  rw[hxl] at hld
  refine VG.val (x:=.string ⟨bs.toArray⟩) ?_ ?_
  ·simp only[convert,Sem.run_bind,run_underlying ha,run_underlying hb,run_underlying he,Result.andThen_ok,Conv.bytesToString,hld]
   have key:∀ (f:Value→ByteArray→Sem (ForInStep ByteArray)),(∀ (m:Nat) r,f (.int .u8 (m:Int)) r=pure (.yield (r.push (UInt8.ofNat m))))→
     ∀ (l:List Value)(bl:List UInt8)(acc:ByteArray),bl.length=l.length→(∀ (i:Nat) b,bl[i]? = some b→∃ m:Nat,l[i]? = some (Value.int .u8 m)∧b=UInt8.ofNat m)→
     (forIn (m:=Sem) l acc f).run P w=.ok ⟨(acc.data.toList++bl).toArray⟩ w:=by
    intro f hf
    intro l
    induction l with
    |nil=>
     intro bl acc hl _
     have:bl=[]:=List.eq_nil_of_length_eq_zero (by simpa using hl)
     subst this
     simp[Sem.run_pure]
    |cons y ys ih=>
     intro bl acc hl hg
     cases bl with
     |nil=>simp at hl
     |cons b bl=>
      obtain⟨m,hm,rfl⟩:=hg 0 b rfl
      simp at hm;subst hm
      simp only[List.forIn_cons,hf,Sem.run_bind,Sem.run_pure,Result.andThen_ok]
      rw[ih bl _ (by simpa using hl) (fun i b hb=>by simpa using hg (i+1) b (by simpa using hb))]
      simp
   simp only[List.forIn_toArray]
   rw[key _ ?hf xs bs ByteArray.empty (by omega) hbs]
   case hf=>intro m r;rfl
   simp
  ·have h1:(⟨bs.toArray⟩:ByteArray).data.toList=sB bs.length (packL bs):=by rw[sB_packL]
   have:n=bs.length:=by omega
   rw[this]
   exact .str _ _ _ h1 (packL_lt bs)
end
end Go.Exo

namespace Go.Exo
set_option linter.unusedSectionVars false
variable [Sx] [Dc]
section
variable {P:Program}{w0:Bs}{E:Env}{H:T AObj}{nx:Nat}{w:World}
theorem ba_beq {s s':ByteArray}{l n l' n':Nat}(h:s.data.toList=sB l n)(hn:n<256 ^ l)(h':s'.data.toList=sB l' n')(hn':n'<256 ^ l'):(s==s')=(Nat.beq l l'&&Nat.beq n n'):=by
 rw[← str_eq h hn h' hn',toL,toL]
 show (s.data==s'.data)=_
 rw[Bool.eq_iff_iff,beq_iff_eq,beq_iff_eq]
 exact⟨fun e=>by rw[e],Array.toList_inj.1⟩
theorem ba_comm {s s':ByteArray}(h:(s==s')=true):(s'==s)=true:=by
 have h1:(s.data==s'.data)=true:=h
 show (s'.data==s.data)=true
 rw[beq_iff_eq] at h1 ⊢
 exact h1.symm
theorem flatF_cons {f:Field}{r:List Field}{i:Nat}{l:List TypeDesc}(h:flatF P (f::r) i=some l):f.offset=i∧f.name ≠ "_" ∧ ∃ d l',undT P f.type=some d∧basicD d=true∧flatF P r (i+1)=some l'∧l=d::l':=by
 simp only[flatF] at h
 cases hb:(Nat.beq f.offset i&&f.name != "_") with
 |false=>rw[hb] at h;cases h
 |true=>
  rw[hb] at h
  simp only[Bool.and_eq_true,bne_iff_ne,ne_eq] at hb
  refine⟨Nat.eq_of_beq_eq_true hb.1,hb.2,?_⟩
  simp only[cond_true] at h
  cases hu:undT P f.type with
  |none=>rw[hu] at h;cases h
  |some d=>
   cases hr:flatF P r (Nat.succ i) with
   |none=>rw[hu,hr] at h;cases h
   |some l'=>
    rw[hu,hr] at h
    simp only at h
    cases hd:basicD d with
    |false=>rw[hd] at h;cases h
    |true=>rw[hd] at h;simp only[cond_true,Option.some.injEq] at h;exact⟨d,l',rfl,hd,rfl,h.symm⟩
theorem flatS_some {t:TypeId}{fs:Array Field}{l:List TypeDesc}(h:flatS P t fs=some l):flatF P fs.toList 0=some l∧P.stoodInHeld t=false:=by
 unfold flatS at h
 cases hf:flatF P fs.toList 0 with
 |none=>rw[hf] at h;cases h
 |some l'=>
  rw[hf] at h
  simp only at h
  cases hs:P.stoodInHeld t with
  |true=>rw[hs] at h;cases h
  |false=>rw[hs] at h;simp only[cond_false,Option.some.injEq] at h;subst h;exact⟨rfl,rfl⟩
theorem fitL_cons {d:TypeDesc}{ds:List TypeDesc}{vs:List V}(h:fitL (d::ds) vs=true):∃ v r,vs=v::r∧keyK0 d v=true∧fitL ds r=true:=by
 cases vs with
 |nil=>cases h
 |cons v r=>
  simp only[fitL] at h
  cases hk:keyK0 d v with
  |false=>rw[hk] at h;cases h
  |true=>rw[hk] at h;exact⟨v,r,rfl,hk,h⟩
theorem fitL_nil {vs:List V}(h:fitL [] vs=true):vs=[]:=by
 cases vs with
 |nil=>rfl
 |cons _ _=>cases h
theorem basic_notAgg {t:TypeId}{d:TypeDesc}(hu:undT P t=some d)(hb:basicD d=true)(w:World):(isAgg t).run P w=.ok false w:=by
 refine isAggT_false P hu ?_ w
 unfold isAggT;rw[hu]
 cases d<;>first|rfl|cases hb
theorem run_part1 {t:TypeId}{cs:Array Value}{i:Nat}{x:Value}(ha:∀ w,(isAgg t).run P w=.ok false w)(hx:cs[i]? = some x):(part t cs i).run P w=.ok x w:=by
 simp[part,ha,hx]
theorem cell_eq {t:TypeId}{d:TypeDesc}{n:Nat}(hu:undT P t=some d){x y:V}{X Y:Value}(hx:VR E x X)(hy:VR E y Y)(hk:keyK0 d x=true) :
  (∀ r s,aggEq (x::r) (y::s)=none)∨∃ b,(∀ w,(Op.equalIn (n+1) t X Y).run P w=.ok b w)∧(b=true→∀ m,Instr.sameBits m Y X=true)∧∀ r s,aggEq (x::r) (y::s)=cond b (aggEq r s) (some false):=by
 have ht:=undT_eq P hu
 cases hx<;>cases d<;>(try (cases hk;done))<;>cases hy<;>(try (exact .inl fun _ _=>rfl))
 case bool.bool.bool a c=>
  refine .inr ⟨a==c,fun w=>by simp[Op.equalIn,run_underlying ht],fun e m=>?_,fun r s=>by simp only[aggEq]⟩
  simp at e;subst e;cases m<;>simp[Instr.sameBits]
 case int.int.int k a k0 k' c=>
  by_cases hkk:k=k'
  ·subst hkk
   refine .inr ⟨a==c,fun w=>by simp[Op.equalIn,run_underlying ht],fun e m=>?_,fun r s=>by simp only[aggEq];rw[(kNum_eq k k).2 rfl,eqF_eq];rfl⟩
   simp at e;subst e;cases m<;>simp[Instr.sameBits]
  ·refine .inl fun r s=>?_
   simp only[aggEq]
   cases hb:Nat.beq (kNum k) (kNum k') with
   |true=>exact absurd ((kNum_eq k k').1 hb) hkk
   |false=>rfl
 case str.string.str l n s h1 h2 l' n' s' h3 h4=>
  refine .inr ⟨s==s',fun w=>by simp[Op.equalIn,run_underlying ht],fun e m=>?_,fun r s=>by simp only[aggEq];rw[ba_beq h1 h2 h3 h4]⟩
  have:=ba_comm e
  cases m<;>simp only[Instr.sameBits]<;>exact this
theorem fields_eq {n:Nat}{xs ys:Array Value}{g:Field→Option Bool×Unit→Sem (ForInStep (Option Bool×Unit))}
  (hg:∀ f s,f.name ≠ "_" → g f s=(do
   let a ← part f.type xs f.offset
   let b ← part f.type ys f.offset
   let e ← Op.equalIn (n+1) f.type a b
   if (!e)=true then pure (ForInStep.done (some false,())) else pure (ForInStep.yield (none,())))) :
  ∀ (l:List Field)(i:Nat)(ks:List TypeDesc)(a b:List V),flatF P l i=some ks→fitL ks a=true→
   (∀ j v,a[j]? = some v→∃ x,xs[i+j]? = some x∧VR E v x)→(∀ j v,b[j]? = some v→∃ x,ys[i+j]? = some x∧VR E v x)→∀ t,aggEq a b=some t→
   (∀ w,(forIn l (none,()) g).run P w=.ok (cond t none (some false),()) w)∧(t=true→∀ j,j<a.length→∃ x y,xs[i+j]? = some x∧ys[i+j]? = some y∧∀ m,Instr.sameBits m y x=true)
 |[],i,ks,a,b,hf,ha,_,_,t,h=>by
  simp only[flatF,Option.some.injEq] at hf;subst hf
  obtain rfl:=fitL_nil ha
  cases b with
  |cons _ _=>cases h
  |nil=>
  simp only[aggEq,Option.some.injEq] at h;subst h
  exact⟨fun w=>by simp,fun _ j hj=>by simp at hj⟩
 |f::l,i,ks,a,b,hf,ha,hxa,hyb,t,h=>by
  obtain⟨ho,hn,d,ks',hu,hd,hf',rfl⟩:=flatF_cons hf
  obtain⟨x,a,rfl,hkx,ha⟩:=fitL_cons ha
  cases b with
  |nil=>cases x<;>cases h
  |cons y b=>
  obtain⟨X,hX,hvx⟩:=hxa 0 x rfl
  obtain⟨Y,hY,hvy⟩:=hyb 0 y rfl
  rw[Nat.add_zero] at hX hY
  rcases cell_eq (n:=n) hu hvx hvy hkx with hc|⟨e,he,hs,hc⟩
  ·rw[hc] at h;cases h
  ·rw[hc] at h
   have hna:=basic_notAgg hu hd
   have hstep:∀ w s,(g f s).run P w=.ok (if (!e)=true then ForInStep.done (some false,()) else ForInStep.yield (none,())) w:=by
    intro w s
    rw[hg f s hn,ho]
    simp only[Sem.run_bind,run_part1 hna hX,run_part1 hna hY,he,Result.andThen_ok]
    cases e<;>rfl
   cases e with
   |false=>
    simp only[cond_false,Option.some.injEq] at h;subst h
    refine⟨fun w=>?_,fun e=>by cases e⟩
    simp only[List.forIn_cons,Sem.run_bind,hstep,Result.andThen_ok]
    rfl
   |true=>
    simp only[cond_true] at h
    obtain⟨h1,h2⟩:=fields_eq hg l (i+1) ks' a b hf' ha (fun j v hv=>by have:=hxa (j+1) v hv;rwa [show i+1+j=i+(j+1) by omega]) (fun j v hv=>by have:=hyb (j+1) v hv;rwa [show i+1+j=i+(j+1) by omega]) t h
    refine⟨fun w=>?_,fun ht j hj=>?_⟩
    ·simp only[List.forIn_cons,Sem.run_bind,hstep,Result.andThen_ok]
     exact h1 w
    ·cases j with
     |zero=>exact⟨X,Y,hX,hY,hs rfl⟩
     |succ j=>have:=h2 ht j (by simpa using hj);rwa [show i+1+j=i+(j+1) by omega] at this
theorem aggEq_tail {x y:V}{a b:List V}(h:aggEq (x::a) (y::b)=some true):aggEq a b=some true:=by
 unfold aggEq at h
 split at h
 ·rename_i e _;cases e
 ·rename_i e1 e2
  cases e1;cases e2
  rename_i k m k' m'
  cases h1:Nat.beq (kNum k) (kNum k') with
  |false=>rw[h1] at h;cases h
  |true=>
   rw[h1] at h
   cases h2:eqF m m' with
   |false=>rw[h2] at h;cases h
   |true=>rw[h2] at h;exact h
 ·rename_i e1 e2
  cases e1;cases e2
  rename_i l n l' n'
  cases h1:(Nat.beq l l'&&Nat.beq n n') with
  |false=>rw[h1] at h;cases h
  |true=>rw[h1] at h;exact h
 ·rename_i e1 e2
  cases e1;cases e2
  rename_i s t
  cases h1:(s==t) with
  |false=>rw[h1] at h;cases h
  |true=>rw[h1] at h;exact h
 ·cases h
theorem VRs.arr {vs:List V}{xs:List Value}(h:VRs E vs xs):∀ j v,vs[j]? = some v→∃ x,xs.toArray[0+j]? = some x∧VR E v x:=by
 intro j v hv
 obtain⟨x,h1,h2⟩:=h.get j v hv
 exact⟨x,by simpa using h1,h2⟩
theorem equal_flat {t:TypeId}{fs:Array Field}{ks:List TypeDesc}(ht:P.underlying t=some (.struct fs))(hf:flatS P t fs=some ks){a b:List V}{xs ys:List Value}(ha:VRs E a xs)(hb:VRs E b ys)
  (hka:fitL ks a=true){r:Bool}(h:aggEq a b=some r) :
  (∀ w,(Op.equal t (.agg xs.toArray) (.agg ys.toArray)).run P w=.ok r w)∧(r=true→∀ m,Instr.sameBits (m+1) (.agg ys.toArray) (.agg xs.toArray)=true):=by
 obtain⟨h1,h2⟩:=flatS_some hf
 have e:∃ n,Op.equal t (.agg xs.toArray) (.agg ys.toArray)=Op.equalIn (n+2) t (.agg xs.toArray) (.agg ys.toArray):=⟨9998,rfl⟩
 obtain⟨n,e⟩:=e
 have key:=fields_eq (P:=P) (E:=E) (n:=n) (xs:=xs.toArray) (ys:=ys.toArray) (g:=fun f _=>if f.name ≠ "_" then (do
   let a ← part f.type xs.toArray f.offset
   let b ← part f.type ys.toArray f.offset
   let e ← Op.equalIn (n+1) f.type a b
   if (!e)=true then pure (ForInStep.done (some false,())) else pure (ForInStep.yield (none,()))) else pure (ForInStep.yield (none,()))) (fun f s hn=>by rw[if_pos hn])
   fs.toList 0 ks a b h1 hka ha.arr hb.arr r h
 constructor
 ·intro w
  rw[e]
  rw[Op.equalIn]
  simp only[Sem.run_bind,run_underlying ht,Result.andThen_ok]
  have hp:(program:Sem Program).run P w=.ok P w:=rfl
  simp only[hp,Result.andThen_ok,h2,Bool.false_eq_true,if_false,Sem.run_bind]
  rw[← Array.forIn_toList]
  have:=key.1 w
  rw[this]
  cases r<;>rfl
 ·intro hr m
  have hl:xs.length=ys.length:=by
   have e1:=ha.length;have e2:=hb.length
   have:∀ (a b:List V),aggEq a b=some true→a.length=b.length:=by
    intro a
    induction a with
    |nil=>intro b h;cases b with|nil=>rfl|cons _ _=>cases h
    |cons x a ih=>
     intro b h
     cases b with
     |nil=>cases x<;>cases h
     |cons y b=>
      have:aggEq a b=some true:=aggEq_tail h
      simp[ih b this]
   have:=this a b (hr ▸ h)
   omega
  simp only[Instr.sameBits,Bool.and_eq_true,beq_iff_eq,List.all_eq_true,List.size_toArray]
  refine⟨hl.symm,fun z hz=>?_⟩
  obtain⟨j,hj,hzj⟩:=List.mem_iff_getElem.1 hz
  simp only[List.length_zip] at hj
  have e1:=ha.length
  obtain⟨x,y,g1,g2,g3⟩:=key.2 hr j (by omega)
  rw[Nat.zero_add] at g1 g2
  simp only[List.getElem_zip] at hzj
  rw[← hzj]
  have q1:ys[j]? = some y:=by simpa using g2
  have q2:xs[j]? = some x:=by simpa using g1
  have q3:ys[j]=y:=(List.getElem?_eq_some_iff.1 q1).2
  have q4:xs[j]=x:=(List.getElem?_eq_some_iff.1 q2).2
  simp only[q3,q4]
  exact g3 m
end
end Go.Exo

namespace Go.Exo
set_option linter.unusedSectionVars false
variable [Sx] [Dc]
section
variable {P:Program}{w0:Bs}{E:Env}{H:T AObj}{nx:Nat}{w:World}
structure KD (P:Program)(kt:TypeId)(dk:TypeDesc)(ks:List TypeDesc):Prop where
 und:P.underlying kt=some dk
 key:keyD P kt dk=some ks
theorem KD.struct {kt:TypeId}{fs:Array Field}{ks:List TypeDesc}(h:KD P kt (.struct fs) ks):flatS P kt fs=some ks:=h.key
def keyKind (dk:TypeDesc)(X:Value):Prop:=(∃ k,dk=.int k∧∃ k' n,X=.int k' n)∨(dk=.string∧∃ s,X=.string s)∨(dk=.bool∧∃ b,X=.bool b)
theorem keyK0_ok {dk:TypeDesc}{x:V}{X:Value}(hx:VR E x X)(h:keyK0 dk x=true):keyKind dk X:=by
 cases hx<;>cases dk<;>first|(cases h;done)|exact .inl ⟨_,rfl,_,_,rfl⟩|exact .inr (.inl ⟨rfl,_,rfl⟩)|exact .inr (.inr ⟨rfl,_,rfl⟩)
theorem keyK_ok {dk:TypeDesc}{ks:List TypeDesc}{x:V}{X:Value}(hx:VR E x X)(h:keyK dk ks x=true):keyKind dk X∨∃ fs cs xs,dk=.struct fs∧x=.agg cs∧X=.agg xs.toArray∧VRs E cs xs∧fitL ks cs=true:=by
 unfold keyK at h
 split at h
 ·rename_i fs cs
  cases hx with
  |agg _ xs h1=>exact .inr ⟨fs,cs,xs,rfl,rfl,rfl,h1,h⟩
 ·exact .inl (keyK0_ok hx h)
theorem checkKey_ok {kt:TypeId}{dk:TypeDesc}{ks:List TypeDesc}(hd:KD P kt dk ks){k:V}{K:Value}(hk:VR E k K)(hkk:keyK dk ks k=true)(b:Bool)(W:World):(Instr.checkKey b 10000 kt K).run P W=.ok () W:=by
 have e:∃ n,Instr.checkKey b 10000 kt K=Instr.checkKey b (n+2) kt K:=⟨9998,rfl⟩
 obtain⟨n,e⟩:=e
 rw[e]
 rcases keyK_ok hk hkk with h|⟨fs,cs,xs,rfl,rfl,rfl,hxs,hfit⟩
 ·rcases h with⟨k,rfl,k',m,rfl⟩|⟨rfl,s,rfl⟩|⟨rfl,c,rfl⟩<;>simp[Instr.checkKey,run_underlying hd.und]
 ·obtain⟨h1,_⟩:=flatS_some hd.struct
  rw[Instr.checkKey]
  simp only[Sem.run_bind,run_underlying hd.und,Result.andThen_ok]
  rw[← Array.forIn_toList]
  have key:∀ (g:Field→PUnit→Sem (ForInStep PUnit)),(∀ f s,f.name ≠ "_" → g f s=(do
    let x ← part f.type xs.toArray f.offset
    Instr.checkKey b (n+1) f.type x
    pure (.yield PUnit.unit)))→∀ (l:List Field)(i:Nat)(ks:List TypeDesc)(a:List V),flatF P l i=some ks→fitL ks a=true→
     (∀ j v,a[j]? = some v→∃ x,xs.toArray[i+j]? = some x∧VR E v x)→(forIn l PUnit.unit g).run P W=.ok PUnit.unit W:=by
   intro g hg l
   induction l with
   |nil=>intro i ks a _ _ _;simp
   |cons f l ih=>
    intro i ks a hf ha hxa
    obtain⟨ho,hn,d,ks',hu,hd,hf',rfl⟩:=flatF_cons hf
    obtain⟨x,a,rfl,hkx,ha⟩:=fitL_cons ha
    obtain⟨X,hX,hvx⟩:=hxa 0 x rfl
    rw[Nat.add_zero] at hX
    have hc:(Instr.checkKey b (n+1) f.type X).run P W=.ok () W:=by
     rcases keyK0_ok hvx hkx with⟨k,rfl,k',m,rfl⟩|⟨rfl,s,rfl⟩|⟨rfl,c,rfl⟩<;>simp[Instr.checkKey,run_underlying (undT_eq P hu)]
    simp only[List.forIn_cons,Sem.run_bind,hg f _ hn,ho,run_part1 (basic_notAgg hu hd) hX,hc,Result.andThen_ok,Sem.run_pure]
    exact ih (i+1) ks' a hf' ha fun j v hv=>by have:=hxa (j+1) v hv;rwa [show i+1+j=i+(j+1) by omega]
  have:=key (fun f _=>if f.name ≠ "_" then (do
    let x ← part f.type xs.toArray f.offset
    Instr.checkKey b (n+1) f.type x
    pure (.yield PUnit.unit)) else pure (.yield PUnit.unit)) (fun f s hn=>by rw[if_pos hn]) fs.toList 0 ks cs h1 hfit hxs.arr
  rw[this];rfl
def SameR (P:Program)(kt:TypeId)(dk:TypeDesc)(K Y:Value)(b:Bool):Prop:=
 (Instr.sameNow dk K Y=some b∨((∃ fs,dk=.struct fs)∧∀ w,(Op.equal kt K Y).run P w=.ok b w))∧(b=true→Instr.sameBits 10000 Y K=true)
theorem sameBits_self {K:Value}{dk:TypeDesc}(h:keyKind dk K):∀ K',Instr.sameNow dk K K'=some true→Instr.sameBits 10000 K' K=true:=by
 intro K' hs
 rcases h with⟨k,rfl,k',n,rfl⟩|⟨rfl,s,rfl⟩|⟨rfl,b,rfl⟩
 ·cases K'<;>simp only[Instr.sameNow] at hs<;>(try (cases hs;done))
  split at hs
  ·rename_i e;subst e;simp at hs;subst hs;simp[Instr.sameBits]
  ·cases hs
 ·cases K'<;>simp only[Instr.sameNow] at hs<;>(try (cases hs;done))
  simp only[Option.some.injEq] at hs
  exact ba_comm hs
 ·cases K'<;>simp only[Instr.sameNow] at hs<;>(try (cases hs;done))
  simp at hs;subst hs;simp[Instr.sameBits]
theorem keyEq_ok {kt:TypeId}{dk:TypeDesc}{ks:List TypeDesc}(hd:KD P kt dk ks){x y:V}{X Y:Value}(hx:VR E x X)(hy:VR E y Y){b:Bool}(h:keyEq x y=some b)(hkk:keyK dk ks x=true):SameR P kt dk X Y b:=by
 rcases keyK_ok hx hkk with hkind|⟨fs,cs,xs,rfl,rfl,rfl,hxs,hfit⟩
 ·have hs:Instr.sameNow dk X Y=some b:=by
   cases hx<;>cases hy<;>simp only[keyEq] at h<;>(try (cases h;done))
   case bool.bool a c=>
    simp only[Option.some.injEq] at h;subst h
    rcases hkind with⟨k,_,k',n,e⟩|⟨_,s,e⟩|⟨rfl,_⟩<;>first|(cases e;done)|rfl
   case int.int k a k' c=>
    rcases hkind with⟨k0,rfl,_⟩|⟨_,s,e⟩|⟨_,b',e⟩<;>try (cases e;done)
    cases hk:Nat.beq (kNum k) (kNum k') with
    |false=>rw[hk] at h;cases h
    |true=>
     rw[hk] at h
     obtain rfl:=(kNum_eq k k').1 hk
     simp only[cond_true,Option.some.injEq] at h;subst h
     simp[Instr.sameNow,eqF_eq]
   case str.str l n s h1 h2 l' n' s' h3 h4=>
    simp only[Option.some.injEq] at h;subst h
    rcases hkind with⟨k,_,k',m,e⟩|⟨rfl,_⟩|⟨_,b',e⟩<;>try (cases e;done)
    show some (s==s')=_
    rw[ba_beq h1 h2 h3 h4]
   case agg.agg=>rcases hkind with⟨_,_,_,_,e⟩|⟨_,_,e⟩|⟨_,_,e⟩<;>cases e
  exact⟨.inl hs,fun e=>sameBits_self hkind Y (e ▸ hs)⟩
 ·cases hy<;>simp only[keyEq] at h<;>(try (cases h;done))
  rename_i cs' ys hys
  obtain⟨g1,g2⟩:=equal_flat hd.und hd.struct hxs hys hfit h
  exact⟨.inr ⟨⟨_,rfl⟩,g1⟩,fun e=>g2 e 9999⟩
inductive FindR (P:Program)(kt:TypeId)(dk:TypeDesc)(K:Value):List MapEntry→Nat→Option (Nat×Value)→Prop where
 |nil (i:Nat):FindR P kt dk K [] i none
 |hit (e:MapEntry)(es:List MapEntry)(i:Nat):SameR P kt dk K e.key true→FindR P kt dk K (e::es) i (some (i,e.val))
 |miss (e:MapEntry)(es:List MapEntry)(i:Nat)(r:Option (Nat×Value)):SameR P kt dk K e.key false→FindR P kt dk K es (i+1) r→FindR P kt dk K (e::es) i r
theorem findKey_run {kt:TypeId}{dk:TypeDesc}(hu:P.underlying kt=some dk){K:Value}{es:List MapEntry}{r:Option (Nat×Value)}(h:FindR P kt dk K es 0 r)(w:World):(Instr.findKey kt K es).run P w=.ok r w:=by
 by_cases hs:∃ fs,dk=.struct fs
 ·obtain⟨fs,rfl⟩:=hs
  have hno:∀ X Y,Instr.sameNow (.struct fs) X Y=none:=fun X Y=>by cases X<;>cases Y<;>rfl
  have key:∀ {es:List MapEntry}{i:Nat} {r},FindR P kt (.struct fs) K es i r→(Instr.findAsking kt K es i).run P w=.ok r w:=by
   intro es i r h
   induction h with
   |nil i=>simp[Instr.findAsking]
   |hit e es i h1=>
    rcases h1.1 with h2|⟨_,h2⟩
    ·rw[hno] at h2;cases h2
    ·simp[Instr.findAsking,h2]
   |miss e es i r h1 _ ih=>
    rcases h1.1 with h2|⟨_,h2⟩
    ·rw[hno] at h2;cases h2
    ·simp[Instr.findAsking,h2,ih]
  cases es with
  |nil=>cases h;simp[Instr.findKey,run_underlying hu,Instr.findNow]
  |cons e es=>
   have:Instr.findNow (.struct fs) K (e::es) 0=none:=by simp only[Instr.findNow,hno]
   simp[Instr.findKey,run_underlying hu,this,key h]
 ·have key:∀ {es:List MapEntry}{i:Nat} {r},FindR P kt dk K es i r→Instr.findNow dk K es i=some r:=by
   intro es i r h
   induction h with
   |nil i=>rfl
   |hit e es i h1=>
    rcases h1.1 with h2|⟨h3,_⟩
    ·simp only[Instr.findNow,h2]
    ·exact absurd h3 hs
   |miss e es i r h1 _ ih=>
    rcases h1.1 with h2|⟨h3,_⟩
    ·simp only[Instr.findNow,h2];exact ih
    ·exact absurd h3 hs
  simp[Instr.findKey,run_underlying hu,key h]
theorem findK_ok {kt:TypeId}{dk:TypeDesc}{ks:List TypeDesc}(hd:KD P kt dk ks){k:V}{K:Value}(hk:VR E k K)(hkk:keyK dk ks k=true){Q:Res→Prop}(hf:∀ m,Q (.fail m)){no:Res}{yes:V→Res} :
  ∀ (es:List (V×V×Nat))(es':List MapEntry)(i:Nat),ERs E es es'→(FindR P kt dk K es' i none→Q no)→
   (∀ v j X,FindR P kt dk K es' i (some (j,X))→VR E v X→Q (yes v))→Q (findK k no yes es)
 |[],[],i,_,h1,_=>h1 (.nil i)
 |[],_::_,_,h,_,_=>h.elim
 |(a,v,b)::r,[],_,h,_,_=>h.elim
 |(a,v,b)::r,e::es',i,⟨h1,h2,h3,h4⟩,hn,hy=>by
  simp only[findK]
  cases hq:keyEq k a with
  |none=>exact hf _
  |some t=>
   have hs:=keyEq_ok hd hk h1 hq hkk
   cases t with
   |true=>exact hy v i e.val (.hit e es' i hs) h2
   |false=>
    refine findK_ok hd hk hkk hf r es' (i+1) h4 (fun hh=>hn (.miss e es' i _ hs hh)) fun v j X hh=>hy v j X (.miss e es' i _ hs hh)
theorem WR.mapObj (h:WR w0 E H nx w){l:Nat}{p:Pl}(hl:E l=some p){es:List (V×V×Nat)}{clock:Nat}(ho:getH H l=.map es clock):∃ es':Array MapEntry,w.heap[p.blk]? = some (.map es' clock)∧ERs E es es'.toList:=by
 have:=h.objs l p hl
 rw[ho] at this
 exact this
theorem WR.mapObjR (h:WR w0 E H nx w){l:Nat}{p:Pl}(hl:E l=some p){es:List (V×V×Nat)}{clock:Nat}(ho:getH H l=.mapR es clock):∃ es':Array MapEntry,w.heap[p.blk]? = some (.map es' clock)∧ERs E es es'.toList:=by
 have:=h.objs l p hl
 rw[ho] at this
 exact this
theorem run_getMap {r:Nat}{es:Array MapEntry}{clock:Nat}(h:w.heap[r]? = some (.map es clock)):(getObj r).run P w=.ok (.map es clock) w:=by
 simp only[getObj,Sem.run,h]
theorem xLookup_ok (h:WR w0 E H nx w){t kt e:TypeId}{dk:TypeDesc}{ks:List TypeDesc}{i:TypeInfo}{z:V}{ok:Bool}(ht:P.underlying t=some (.map kt e))(hd:KD P kt dk ks)
  (hi:P.info? e=some i)(hz:zeroOf i=some z){x k:V}{X K:Value}(hx:VR E x X)(hkv:VR E k K)(hkk:keyK dk ks k=true):VG w0 E H nx w ((Instr.lookup t X K ok).run P w) (xLookup z ok x k H):=by
 obtain⟨zx,hzx,hzv,hzr⟩:=zeroOf_eq (E:=E) hz
 have fin:∀ (v:V)(Y:Value)(b:Bool)(R:Result Value),VR E v Y→R=.ok (if ok then .tuple #[Y,.bool b] else Y) w→VG w0 E H nx w R (.val (cond ok (.tup [v,.bool b]) v)):=by
  intro v Y b R hv hR
  refine⟨_,hR,?_⟩
  cases ok with
  |true=>exact .tup _ [Y,.bool b] (.cons _ _ _ _ hv (.cons _ _ _ _ (.bool b) .nil))
  |false=>exact hv
 cases hx<;>simp only[xLookup]<;>try trivial
 case nilm=>
  refine fin z zx false _ hzv ?_
  simp[Instr.lookup,run_underlying ht,checkKey_ok hd hkv hkk,findKey_run hd.und (.nil 0),run_zeroValue' hi hzx]
 case map l p hp=>
  cases ho:getH H l with
  |map es clock=>
   obtain⟨es',h1,h2⟩:=h.mapObj hp ho
   simp only
   refine findK_ok hd hkv hkk (fun m=>trivial) es es'.toList 0 h2 (fun hn=>fin z zx false _ hzv ?_) fun v j Y hy hv=>fin v Y true _ hv ?_
   ·simp[Instr.lookup,run_underlying ht,run_getMap h1,checkKey_ok hd hkv hkk,findKey_run hd.und hn,run_zeroValue' hi hzx]
   ·simp[Instr.lookup,run_underlying ht,run_getMap h1,checkKey_ok hd hkv hkk,findKey_run hd.und hy]
  |mapR es clock=>
   obtain⟨es',h1,h2⟩:=h.mapObjR hp ho
   simp only
   refine findK_ok hd hkv hkk (fun m=>trivial) es es'.toList 0 h2 (fun hn=>fin z zx false _ hzv ?_) fun v j Y hy hv=>fin v Y true _ hv ?_
   ·simp[Instr.lookup,run_underlying ht,run_getMap h1,checkKey_ok hd hkv hkk,findKey_run hd.und hn,run_zeroValue' hi hzx]
   ·simp[Instr.lookup,run_underlying ht,run_getMap h1,checkKey_ok hd hkv hkk,findKey_run hd.und hy]
  |_=>trivial
theorem run_setMap {r:Nat}{es:Array MapEntry}{clock:Nat}(h:w.heap[r]? = some (.map es clock))(o:Obj):(setObj r o).run P w=.ok () { w with heap:=w.heap.setIfInBounds r o }:=by
 simp only[setObj,Sem.run,h]
theorem updK_ok {kt:TypeId}{dk:TypeDesc}{ks:List TypeDesc}(hd:KD P kt dk ks){k v:V}{K X:Value}(hk:VR E k K)(hv:VR E v X)(hkk:keyK dk ks k=true){clock:Nat}{Q:Res→Prop}(hf:∀ m,Q (.fail m)){f:List (V×V×Nat)→Nat→Res} :
  ∀ (es:List (V×V×Nat))(es':List MapEntry)(i:Nat),ERs E es es'→
   (∀ l l',(FindR P kt dk K es' i none∧l'=es'++[{ key:=K,val:=X,born:=clock }])→ERs E l l'→Q (f l (Nat.succ clock)))→
   (∀ l l' j Y e,FindR P kt dk K es' i (some (i+j,Y))→es'[j]? = some e→Instr.sameBits 10000 e.key K=true→l'=es'.set j { e with key:=K,val:=X }→ERs E l l'→Q (f l clock))→Q (updK k v clock f es)
 |[],[],i,_,h1,_=>h1 _ _ ⟨.nil i,rfl⟩ ⟨hk,hv,rfl,trivial⟩
 |[],_::_,_,h,_,_=>h.elim
 |(a,u,b)::r,[],_,h,_,_=>h.elim
 |(a,u,b)::r,e::es',i,⟨h1,h2,h3,h4⟩,hn,hy=>by
  simp only[updK]
  cases hq:keyEq k a with
  |none=>exact hf _
  |some t=>
   have hs:=keyEq_ok hd hk h1 hq hkk
   cases t with
   |true=>
    refine hy _ _ 0 e.val e (.hit e es' i hs) rfl (hs.2 rfl) rfl ?_
    exact⟨hk,hv,h3,h4⟩
   |false=>
    refine updK_ok hd hk hv hkk hf r es' (i+1) h4 (fun l l' hl hr=>hn _ (e::l') ⟨.miss e es' i _ hs hl.1,by rw[hl.2];rfl⟩ ⟨h1,h2,h3,hr⟩) fun l l' j Y e2 hj he hb hl hr=>
     hy _ (e::l') (j+1) Y e2 (.miss e es' i _ hs (by rwa [show i+(j+1)=i+1+j by omega])) (by simpa using he) hb (by rw[hl];rfl) ⟨h1,h2,h3,hr⟩
theorem xMupd_ok (h:WR w0 E H nx w){t kt e:TypeId}{dk:TypeDesc}{ks:List TypeDesc}(ht:P.underlying t=some (.map kt e))(hd:KD P kt dk ks){m k v:V}{M K X:Value}
  (hm:VR E m M)(hkv:VR E k K)(hv:VR E v X)(hkk:keyK dk ks k=true):match xMupd m k v H nx with
  |.valH v' H' nx2=>v'=undefV∧nx2=nx∧∃ w',(Instr.mapUpdate t M K X).run P w=.ok () w'∧WR w0 E H' nx w'∧Keep E E H H' nx
  |.fail _=>True
  |_=>False:=by
 cases hm<;>simp only[xMupd]<;>try trivial
 rename_i l p hp
 cases ho:getH H l with
 |map es clock=>
  obtain⟨es',h1,h2⟩:=h.mapObj hp ho
  have hlt:p.blk<w.heap.size:=(h.own l p hp).1
  have fin:∀ (l2:List (V×V×Nat))(l':List MapEntry)(c:Nat),ERs E l2 l'→(Instr.mapUpdate t (.map (some p.blk)) K X).run P w=.ok () { w with heap:=w.heap.setIfInBounds p.blk (.map l'.toArray c) }→
    undefV=undefV∧nx=nx∧∃ w',(Instr.mapUpdate t (.map (some p.blk)) K X).run P w=.ok () w'∧WR w0 E (put .no H l (.map l2 c)) nx w'∧Keep E E H (put .no H l (.map l2 c)) nx:=by
   intro l2 l' c hr hrun
   refine⟨rfl,rfl,_,hrun,?_,WR.noTouch hp⟩
   refine h.upd l p hp _ (by rw[ho];intro hh;cases hh) (by rw[ho];rfl) (by rw[ho];rfl) (by rw[ho];rfl) (by rw[ho];rfl) rfl _ (.map l'.toArray c) (by simp) ?_ ?_ rfl rfl rfl ?_
   ·intro j hj;show (w.heap.setIfInBounds p.blk _)[j]? = _;simp[Ne.symm hj]
   ·show (w.heap.setIfInBounds p.blk _)[p.blk]? = _;simp[hlt]
   ·exact⟨l'.toArray,rfl,hr⟩
  simp only
  refine updK_ok (Q:=fun r=>match r with
   |.valH v' H' nx2=>v'=undefV∧nx2=nx∧∃ w',(Instr.mapUpdate t (.map (some p.blk)) K X).run P w=.ok () w'∧WR w0 E H' nx w'∧Keep E E H H' nx
   |.fail _=>True
   |_=>False) hd hkv hv hkk (fun m=>trivial) es es'.toList 0 h2 ?_ ?_
  ·rintro l2 l' ⟨hn,rfl⟩ hr
   simp only[setHR_eq]
   refine⟨trivial,trivial,(fin l2 _ _ hr ?_).2.2⟩
   have:(es'.toList++[({ key:=K,val:=X,born:=clock }:MapEntry)]).toArray=es'.push { key:=K,val:=X,born:=clock }:=by
    rw[← List.push_toArray,Array.toArray_toList]
   rw[this]
   simp[Instr.mapUpdate,run_underlying ht,run_getMap h1,checkKey_ok hd hkv hkk,findKey_run hd.und hn,run_setMap h1]
  ·intro l2 l' j Y e2 hj he hb hl hr
   simp only[setHR_eq]
   refine⟨trivial,trivial,(fin l2 _ _ hr ?_).2.2⟩
   rw[Nat.zero_add] at hj
   have hje:es'[j]? = some e2:=by simpa using he
   have hj2:j<es'.size:=(Array.getElem?_eq_some_iff.1 hje).1
   have hje2:es'[j]=e2:=(Array.getElem?_eq_some_iff.1 hje).2
   have:l'.toArray=es'.modify j fun e=>{ e with key:=K,val:=X }:=by
    rw[hl]
    apply Array.ext
    ·simp
    ·intro i h3 h4
     rw[Array.getElem_modify]
     simp only[List.getElem_toArray,List.getElem_set,Array.getElem_toList]
     by_cases c:j=i
     ·subst c;simp[hje2]
     ·simp[c]
   rw[this]
   simp[Instr.mapUpdate,run_underlying ht,run_getMap h1,checkKey_ok hd hkv hkk,findKey_run hd.und hj,Instr.keyThatStays,hje,hb,run_setMap h1]
 |_=>trivial
theorem delK_ok {kt:TypeId}{dk:TypeDesc}{ks:List TypeDesc}(hd:KD P kt dk ks){k:V}{K:Value}(hk:VR E k K)(hkk:keyK dk ks k=true){Q:Res→Prop}(hf:∀ m,Q (.fail m)){f:List (V×V×Nat)→Res} :
  ∀ (es:List (V×V×Nat))(es':List MapEntry)(i:Nat),ERs E es es'→
   (FindR P kt dk K es' i none→∀ l,ERs E l es'→Q (f l))→
   (∀ j Y,FindR P kt dk K es' i (some (i+j,Y))→j<es'.length→∀ l,ERs E l (es'.eraseIdx j)→Q (f l))→Q (delK k f es)
 |[],[],i,_,h1,_=>h1 (.nil i) [] trivial
 |[],_::_,_,h,_,_=>h.elim
 |(a,u,b)::r,[],_,h,_,_=>h.elim
 |(a,u,b)::r,e::es',i,⟨h1,h2,h3,h4⟩,hn,hy=>by
  simp only[delK]
  cases hq:keyEq k a with
  |none=>exact hf _
  |some t=>
   have hs:=keyEq_ok hd hk h1 hq hkk
   cases t with
   |true=>exact hy 0 e.val (.hit e es' i hs) (Nat.succ_pos _) r h4
   |false=>
    refine delK_ok hd hk hkk hf r es' (i+1) h4 (fun hh l hl=>hn (.miss e es' i _ hs hh) ((a,u,b)::l) ⟨h1,h2,h3,hl⟩) fun j Y hj hlt l hl=>
     hy (j+1) Y (.miss e es' i _ hs (by rwa [show i+(j+1)=i+1+j by omega])) (Nat.succ_lt_succ hlt) ((a,u,b)::l) ⟨h1,h2,h3,hl⟩
theorem xMdel_ok (h:WR w0 E H nx w){t t2 ty kt e:TypeId}{dk:TypeDesc}{ks:List TypeDesc}(ht:P.underlying t=some (.map kt e))(hd:KD P kt dk ks){m k:V}{M K:Value}
  (hm:VR E m M)(hkv:VR E k K)(hkk:keyK dk ks k=true):VG w0 E H nx w ((Builtin.delete_ #[t,t2] ty #[M,K]).run P w) (xMdel m k H nx):=by
 cases hm<;>simp only[xMdel]<;>try trivial
 case nilm=>
  refine⟨undef,w,E,?_,Env.le.refl E,VR.undef E,h,Nat.le_refl _,Keep.refl E H nx⟩
  simp[Builtin.delete_,run_underlying ht,checkKey_ok hd hkv hkk];rfl
 case map l p hp=>
 cases ho:getH H l with
 |map es clock=>
  obtain⟨es',h1,h2⟩:=h.mapObj hp ho
  have hlt:p.blk<w.heap.size:=(h.own l p hp).1
  have fin:∀ (l2:List (V×V×Nat))(l':List MapEntry),ERs E l2 l'→(Builtin.delete_ #[t,t2] ty #[.map (some p.blk),K]).run P w=.ok undef { w with heap:=w.heap.setIfInBounds p.blk (.map l'.toArray clock) }→
    VG w0 E H nx w ((Builtin.delete_ #[t,t2] ty #[.map (some p.blk),K]).run P w) (.valH undefV (put .no H l (.map l2 clock)) nx):=by
   intro l2 l' hr hrun
   refine⟨undef,_,E,hrun,Env.le.refl E,VR.undef E,?_,Nat.le_refl _,WR.noTouch hp⟩
   refine h.upd l p hp _ (by rw[ho];intro hh;cases hh) (by rw[ho];rfl) (by rw[ho];rfl) (by rw[ho];rfl) (by rw[ho];rfl) rfl _ (.map l'.toArray clock) (by simp) ?_ ?_ rfl rfl rfl ?_
   ·intro j hj;show (w.heap.setIfInBounds p.blk _)[j]? = _;simp[Ne.symm hj]
   ·show (w.heap.setIfInBounds p.blk _)[p.blk]? = _;simp[hlt]
   ·exact⟨l'.toArray,rfl,hr⟩
  simp only
  refine delK_ok (Q:=fun r=>VG w0 E H nx w ((Builtin.delete_ #[t,t2] ty #[.map (some p.blk),K]).run P w) r) hd hkv hkk (fun m=>trivial) es es'.toList 0 h2 ?_ ?_
  ·intro hn l2 hr
   simp only[setHR_eq]
   refine fin l2 _ hr ?_
   rw[Array.toArray_toList]
   simp[Builtin.delete_,run_underlying ht,run_getMap h1,checkKey_ok hd hkv hkk,findKey_run hd.und hn,run_setMap h1];rfl
  ·intro j Y hj hjl l2 hr
   simp only[setHR_eq]
   refine fin l2 _ hr ?_
   rw[Nat.zero_add] at hj
   have hj2:j<es'.size:=by simpa using hjl
   have:(es'.toList.eraseIdx j).toArray=es'.eraseIdxIfInBounds j:=by
    unfold Array.eraseIdxIfInBounds
    rw[dif_pos hj2]
    apply Array.ext'
    simp
   rw[this]
   simp[Builtin.delete_,run_underlying ht,run_getMap h1,checkKey_ok hd hkv hkk,findKey_run hd.und hj,run_setMap h1];rfl
 |_=>trivial
theorem xRangeS_ok (h:WR w0 E H nx w){t:TypeId}(ht:P.underlying t=some .string){x:V}{X:Value}(hx:VR E x X):VG w0 E H nx w ((Instr.range t X).run P w) (xRangeS x H nx):=by
 cases hx<;>simp only[xRangeS]<;>try trivial
 rename_i l n s h1 h2
 simp only[newObj,setHR_eq]
 have hn:=h.fresh nx (Nat.le_refl _)
 have hle:E.le (E.set nx ⟨w.heap.size,0,0,undef,noOb,[]⟩):=Env.le_set _ hn.1
 refine⟨.pointer (some ⟨w.heap.size,0,none⟩),_,_,?_,hle,ptr_new E nx _ 0,h.new (.stringIter s 0) (.siter l n 0) 0 w.drawn rfl rfl ⟨s,rfl,h1,h2,rfl⟩,by omega,?_⟩
 ·simp[Instr.range,run_underlying ht]
 ·intro k hk hE _
  have:k≠nx:=by omega
  exact⟨by rw[Env.set_other _ _ _ _ this];exact hE,by rw[getH_put,if_neg this]⟩
theorem xMkMap_ok (h:WR w0 E H nx w){t:TypeId}:VG w0 E H nx w ((Instr.makeMap t none).run P w) (newObj (.map [] 0) H nx fun H nx'=>.valH (.map nx) H nx'):=by
 simp only[newObj,setHR_eq]
 have hn:=h.fresh nx (Nat.le_refl _)
 have hle:E.le (E.set nx ⟨w.heap.size,0,0,undef,noOb,[]⟩):=Env.le_set _ hn.1
 refine⟨.map (some w.heap.size),_,_,?_,hle,?_,h.new (.map #[] 0) (.map [] 0) 0 w.drawn rfl rfl ⟨#[],rfl,trivial⟩,by omega,?_⟩
 ·simp[Instr.makeMap]
 ·exact VR.map (E:=E.set nx ⟨w.heap.size,0,0,undef,noOb,[]⟩) nx ⟨w.heap.size,0,0,undef,noOb,[]⟩ (Env.set_self _ _ _)
 ·intro k hk hE _
  have:k≠nx:=by omega
  exact⟨by rw[Env.set_other _ _ _ _ this];exact hE,by rw[getH_put,if_neg this]⟩
theorem decode_ascii {s:ByteArray}{l n p:Nat}(h:s.data.toList=sB l n)(hp:p<l)(hlt:byteAt n p<128):Utf8.decode s p=(byteAt n p,1):=by
 have hs:=size_sB h
 have hg:(s.get! p).toNat=byteAt n p:=by
  have e1:s.data.toList[p]? = some (UInt8.ofNat (n / 256 ^ p % 256)):=by rw[h];exact sB_get l n p hp
  rw[Array.getElem?_toList] at e1
  have hlt2:p<s.data.size:=by have:s.data.size=s.size:=rfl;omega
  have h3:s.data[p]? = some s.data[p]:=Array.getElem?_eq_getElem hlt2
  rw[h3] at e1
  have e2:=Option.some.inj e1
  have:s.get! p=s.data[p]:=by
   show s.data[p]! = _
   exact getElem!_pos s.data p hlt2
  rw[this,e2,byteAt_eq];simp
 unfold Utf8.decode
 simp only[Nat.add_zero,hg]
 rw[if_pos (by simpa using hlt)]
theorem xNextS_ok (h:WR w0 E H nx w){ty:TypeId}{x:V}{X:Value}(hx:VR E x X):VG w0 E H nx w ((Instr.next X true ty).run P w) (xNextS x H nx):=by
 cases hx<;>simp only[xNextS]<;>try trivial
 rename_i r off p hp
 cases off with
 |succ _=>trivial
 |zero=>
  simp only
  cases ho:getH H r with
  |siter l n q=>
   have hobj:=h.objs r p hp
   rw[ho] at hobj
   obtain⟨s,h1,h2,h3,h4⟩:=hobj
   have hlt:p.blk<w.heap.size:=(h.own r p hp).1
   have hget:(getObj p.blk).run P w=.ok (.stringIter s q) w:=by simp only[getObj,Sem.run,h1]
   have hset:∀ o,(setObj p.blk o).run P w=.ok () { w with heap:=w.heap.setIfInBounds p.blk o }:=fun o=>by simp only[setObj,Sem.run,h1]
   have hs:=size_sB h2
   simp only[h4,Nat.add_zero,Nat.zero_add]
   cases hb:Nat.ble (Nat.succ q) l with
   |false=>
    simp only[cond_false]
    refine VG.val (x:=.tuple #[.bool false]) ?_ (.tup _ [.bool false] (.cons _ _ _ _ (.bool _) .nil))
    have:¬ q<s.size:=fun hh=>by
     have:Nat.ble (Nat.succ q) l=true:=Nat.ble_eq_true_of_le (by omega)
     rw[this] at hb;cases hb
    simp[Instr.next,hget,this]
   |true=>
    have hq:q<l:=Nat.le_of_ble_eq_true hb
    simp only[cond_true]
    cases hb2:Nat.ble (Nat.succ (byteAt n q)) 128 with
    |false=>trivial
    |true=>
     have hasc:byteAt n q<128:=Nat.le_of_ble_eq_true hb2
     simp only[cond_true,setHR_eq]
     refine⟨.tuple #[.bool true,goInt q,.int .i32 (byteAt n q)],{ w with heap:=w.heap.setIfInBounds p.blk (.stringIter s (q+1)) },E,?_,Env.le.refl E,.tup _ [.bool true,goInt q,.int .i32 (byteAt n q)] (.cons _ _ _ _ (.bool _) (.cons _ _ _ _ (.int _ _) (.cons _ _ _ _ (.int _ _) .nil))),?_,Nat.le_refl _,WR.noTouch hp⟩
     ·have hd:=decode_ascii h2 hq hasc
      simp[Instr.next,hget,hs,hq,hd,hset]
     ·refine h.upd r p hp _ (by rw[ho];intro hh;cases hh) (by rw[ho];rfl) (by rw[ho];rfl) (by rw[ho];rfl) (by rw[ho];rfl) rfl _ (.stringIter s (q+1)) (by simp) ?_ ?_ rfl rfl rfl ⟨s,rfl,h2,h3,h4⟩
      ·intro j hj;show (w.heap.setIfInBounds p.blk _)[j]? = _;simp[Ne.symm hj]
      ·show (w.heap.setIfInBounds p.blk _)[p.blk]? = _;simp[hlt]
  |_=>trivial
theorem ERs.length {es:List (V×V×Nat)}{es':List MapEntry}(h:ERs E es es'):es.length=es'.length:=by
 induction es generalizing es' with
 |nil=>cases es' with|nil=>rfl|cons _ _=>exact h.elim
 |cons a r ih=>cases es' with|nil=>exact h.elim|cons e es'=>simp[ih h.2.2.2]
def lenD (sh:Nat)(d:TypeDesc):Prop:=
 match sh with
 |0=>d=.string
 |1=>∃ e,d=.slice e
 |_=>∃ k e,d=.map k e
theorem xLen_ok (h:WR w0 E H nx w){t ty:TypeId}{d:TypeDesc}{sh:Nat}(ht:P.underlying t=some d)(hd:lenD sh d)(hsh:sh≤2){x:V}{X:Value}(hx:VR E x X) :
  VG w0 E H nx w ((Builtin.len_ #[t] ty #[X]).run P w) (xLen sh x H):=by
 cases hx<;>simp only[xLen]<;>try trivial
 case str l n s h1 h2=>
  cases hb:Nat.beq sh 0 with
  |false=>trivial
  |true=>
   have e:=Nat.eq_of_beq_eq_true hb;subst e
   simp only[lenD] at hd;subst hd
   have:=size_sB h1
   refine VG.val (x:=.int .i64 (l:Int)) ?_ (.int _ _)
   simp[Builtin.len_,run_underlying ht,goInt,this]
 case nils=>
  cases hb:Nat.beq sh 1 with
  |false=>trivial
  |true=>
   have e:=Nat.eq_of_beq_eq_true hb;subst e
   obtain⟨e,rfl⟩:=hd
   refine VG.val (x:=.int .i64 (0:Int)) ?_ (.int _ _)
   simp[Builtin.len_,run_underlying ht,goInt]
 case slice l off n cap esz p c hp _ _ _=>
  cases hb:Nat.beq sh 1 with
  |false=>trivial
  |true=>
   have e:=Nat.eq_of_beq_eq_true hb;subst e
   obtain⟨e,rfl⟩:=hd
   refine VG.val (x:=.int .i64 (n:Int)) ?_ (.int _ _)
   simp[Builtin.len_,run_underlying ht,goInt]
 case emp l esz p o c hp _=>
  cases hb:Nat.beq sh 1 with
  |false=>trivial
  |true=>
   have e:=Nat.eq_of_beq_eq_true hb;subst e
   obtain⟨e,rfl⟩:=hd
   refine VG.val (x:=.int .i64 (0:Int)) ?_ (.int _ _)
   simp[Builtin.len_,run_underlying ht,goInt]
 case nilm=>
  cases hb:Nat.beq sh 2 with
  |false=>trivial
  |true=>
   have e:=Nat.eq_of_beq_eq_true hb;subst e
   obtain⟨k,e,rfl⟩:=hd
   refine VG.val (x:=.int .i64 (0:Int)) ?_ (.int _ _)
   simp[Builtin.len_,run_underlying ht,goInt]
 case map l p hp=>
  cases hb:Nat.beq sh 2 with
  |false=>trivial
  |true=>
   have e:=Nat.eq_of_beq_eq_true hb;subst e
   obtain⟨k,e,rfl⟩:=hd
   simp only[cond_true]
   cases ho:getH H l with
   |map es clock=>
    obtain⟨es',h1,h2⟩:=h.mapObj hp ho
    refine VG.val (x:=.int .i64 (es.length:Int)) ?_ (.int _ _)
    have hl:=h2.length
    simp only[Array.length_toList] at hl
    simp[Builtin.len_,run_underlying ht,goInt,run_getMap h1,hl]
   |mapR es clock=>
    obtain⟨es',h1,h2⟩:=h.mapObjR hp ho
    refine VG.val (x:=.int .i64 (es.length:Int)) ?_ (.int _ _)
    have hl:=h2.length
    simp only[Array.length_toList] at hl
    simp[Builtin.len_,run_underlying ht,goInt,run_getMap h1,hl]
   |_=>trivial
end
end Go.Exo

namespace Go.Exo
set_option linter.unusedSectionVars false
variable [Sx] [Dc]
section
variable {P:Program}{w0:Bs}{E:Env}{H:T AObj}{nx:Nat}{w:World}
theorem OR.congr {E:Env}{H H':T AObj}{l:Nat}{p:Pl}{ob:Option Obj}{o:AObj}(h:OR E H l p ob o)(e:∀ k,getH H' k=getH H k):OR E H' l p ob o:=
 h.trans (Env.le.refl E) fun _ ho=>ho.same fun _=>e _
theorem WR.congr (h:WR w0 E H nx w){H':T AObj}(e:∀ k,getH H' k=getH H k):WR w0 E H' nx w:=by
 refine⟨?_,?_,?_,?_,?_,h.old,h.size,h.os,h.output,h.tape,h.le,fun l p hl b o v hf=>⟨(h.dat l p hl b o v hf).1,fun l' p' hl' hb=>by rw[e];exact (h.dat l p hl b o v hf).2 l' p' hl' hb⟩,h.dec,h.fzo⟩
 ·intro l p hl;rw[e];exact (h.objs l p hl).congr e
 ·intro l hl;rw[e];exact h.fresh l hl
 ·intro l l' p p' h1 h2 h3 h4;rw[e,e];exact h.sep l l' p p' h1 h2 h3 h4
 ·intro l hl;rw[e] at hl;simp only[e];exact h.cls l hl
 ·intro l p hl;rw[e];exact h.own l p hl
theorem WR.mkCls (h:WR w0 E H nx w){l:Nat}{p:Pl}(hl:E l=some p){cs:T V}{clen:Nat}{elem:TypeId}{rel fz:Nat}(hobj:getH H l=.cells cs clen elem 0 rel fz false) :
  WR w0 E (put .no (put .no H l (.cells cs clen elem nx 0 fz false)) nx (.cls l none clen)) (nx+1) w:=by
 have hn:=h.fresh nx (Nat.le_refl _)
 have hlt:l<nx:=Nat.lt_of_not_le fun hh=>by rw[(h.fresh l hh).1] at hl;cases hl
 have hget:∀ k,k≠l→k≠nx→getH (put .no (put .no H l (.cells cs clen elem nx 0 fz false)) nx (.cls l none clen)) k=getH H k:=fun k e e'=>by rw[getH_put,if_neg e',getH_put,if_neg e]
 have hself:getH (put .no (put .no H l (.cells cs clen elem nx 0 fz false)) nx (.cls l none clen)) l=.cells cs clen elem nx 0 fz false:=by rw[getH_put,if_neg (by omega),getH_put,if_pos rfl]
 have hC:getH (put .no (put .no H l (.cells cs clen elem nx 0 fz false)) nx (.cls l none clen)) nx=.cls l none clen:=by rw[getH_put,if_pos rfl]
 generalize hH':put .no (put .no H l (.cells cs clen elem nx 0 fz false)) nx (.cls l none clen)=H' at *
 have hEn:∀ k q,E k=some q→k≠nx:=fun k q hk e=>by subst e;rw[hn.1] at hk;cases hk
 have hcl:∀ k,clsOf (getH H k)≠0→clsOf (getH H k)≠l∧clsOf (getH H k)≠nx:=fun k hc0=>by
  obtain⟨a,b,m,h1,_⟩:=h.cls k hc0
  exact⟨fun e=>(by rw[e,hobj] at h1;cases h1),fun e=>(by rw[e,hn.2] at h1;cases h1)⟩
 have halone:∀ k q,k≠l→E k=some q→q.blk=p.blk→getH H k=.no:=by
  intro k q hne hk hb
  rcases h.sepW (by rw[hobj];rfl) hne hk hl hb with hh|hh|hh
  ·exact hh
  ·rw[hobj] at hh;cases hh
  ·rw[hobj] at hh;exact absurd hh.2.1 hh.1
 have hn0:nx≠0:=by omega
 refine⟨?_,?_,?_,?_,?_,h.old,h.size,h.os,h.output,h.tape,h.le,?dat,h.dec,h.fzo⟩
 case dat=>
  intro k q hk b off v hf
  obtain⟨h1,h2⟩:=h.dat k q hk b off v hf
  refine⟨h1,fun l' p' hl' hb'=>?_⟩
  by_cases e:l'=l
  ·subst e;rw[hl] at hl';cases hl'
   exact (mayFz_no (h2 l' p hl hb') (by rw[hobj];intro hh;cases hh) (by rw[hobj];rfl) (by rw[hobj];rfl)).elim
  ·rw[hget l' e (hEn l' p' hl')];exact h2 l' p' hl' hb'
 ·intro k q hk
  by_cases e:k=l
  ·subst e;rw[hl] at hk;cases hk
   rw[hself]
   have ho:=h.objs k p hl
   rw[hobj] at ho
   obtain⟨c,fr,h1,h2,h3,h4,h5⟩:=ho
   exact⟨c,fr,h1,h2,h3,h4,fun i hi _=>h5 i hi (.inl rfl)⟩
  ·rw[hget k e (hEn k q hk)]
   exact (h.objs k q hk).trans (Env.le.refl E) fun pos hp=>hp.same fun hc0=>hget _ (hcl k hc0).1 (hcl k hc0).2
 ·intro k hk
  have:=h.fresh k (by omega)
  exact⟨this.1,by rw[hget k (by omega) (by omega)];exact this.2⟩
 ·intro k k' q q' hne hk hk' hb
  by_cases e:k=l
  ·subst e;rw[hl] at hk;cases hk
   rw[hget k' (Ne.symm hne) (hEn k' q' hk')]
   exact .inl (.inr (.inl (halone k' q' (Ne.symm hne) hk' hb.symm)))
  ·rw[hget k e (hEn k q hk)]
   by_cases e':k'=l
   ·subst e';rw[hl] at hk';cases hk'
    exact .inl (.inl (halone k q e hk hb))
   ·rw[hget k' e' (hEn k' q' hk')];exact h.sep k k' q q' hne hk hk' hb
 ·intro k hc0
  by_cases e:k=l
  ·subst e;rw[hself]
   exact⟨_,none,clen,hC,by simp[endOf],hn.1⟩
  ·by_cases e':k=nx
   ·subst e';rw[hC] at hc0;exact absurd rfl hc0
   ·rw[hget k e e'] at hc0 ⊢
    obtain⟨a,b,m,h1,h2,h3⟩:=h.cls k hc0
    exact⟨a,b,m,by rw[hget _ (hcl k hc0).1 (hcl k hc0).2];exact h1,h2,h3⟩
 ·intro k q hk
  by_cases e:k=l
  ·subst e;rw[hl] at hk;cases hk
   have:=h.own k p hl
   rw[hobj] at this;rw[hself]
   refine⟨this.1,.inr (.inr ?_)⟩
   rcases this.2 with hh|hh|hh
   ·cases hh
   ·cases hh
   ·exact hh
  ·rw[hget k e (hEn k q hk)];exact h.own k q hk
theorem minO_lt {lim:Option Nat}{p pos:Nat}(h:pos<minO lim p):pos<p∧(lim=none∨∃ m,lim=some m∧pos<m):=by
 cases lim with
 |none=>exact⟨h,.inl rfl⟩
 |some m=>
  simp only[minO] at h
  cases hb:Nat.ble m p with
  |true=>rw[hb] at h;have:=Nat.le_of_ble_eq_true hb;exact⟨by simp at h;omega,.inr ⟨m,rfl,h⟩⟩
  |false=>
   rw[hb] at h
   have:¬ m≤p:=fun hh=>by rw[Nat.ble_eq_true_of_le hh] at hb;cases hb
   exact⟨h,.inr ⟨m,rfl,by simp at h;omega⟩⟩
theorem WR.join (h:WR w0 E H nx w){l:Nat}{p:Pl}(hl:E l=some p){cs:T V}{clen:Nat}{elem:TypeId}{c rel fz:Nat}(hc:c≠0)
  (hobj:getH H l=.cells cs clen elem c rel fz false){cur:Nat}{lim:Option Nat}{mk:Nat}(hcls:getH H c=.cls cur lim mk)
  (rel' pos len':Nat)(lim':Option Nat)(mk':Nat)(cs':T V)(fz':Nat)(q:Pl)(w':World)
  (hlim:(lim'=lim∧mk≤pos)∨lim'=some (minO lim pos))(hmk:mk≤mk')(hmk2:rel'+len'≤mk')
  (hqz:∀ b o,q.ob.fz b o=none)(hos:w'.os=w.os)(hout:w'.output=w.output)(htape:w'.tape=w.tape)
  (hkeep:∀ b,b<w.heap.size→b≠q.blk→w'.heap[b]? = w.heap[b]?)(hsz:w.heap.size≤w'.heap.size)(hq:q.blk<w'.heap.size)
  (hcase:w.heap.size≤q.blk∨(q.blk=p.blk∧q.base+rel=p.base+rel'∧∃ cells cells' fr,w.heap[p.blk]? = some (.cells cells elem fr)∧w'.heap[p.blk]? = some (.cells cells' elem fr)∧
   cells'.size=cells.size∧∀ i,i+rel<p.base+pos→cells'[i]? = cells[i]?))
  (hor:OR (E.set nx q) (put .no (put .no H c (.cls nx lim' mk')) nx (.cells cs' len' elem c rel' fz' false)) nx q w'.heap[q.blk]? (.cells cs' len' elem c rel' fz' false)) :
  WR w0 (E.set nx q) (put .no (put .no H c (.cls nx lim' mk')) nx (.cells cs' len' elem c rel' fz' false)) (nx+1) w':=by
 have hn:=h.fresh nx (Nat.le_refl _)
 have hle:E.le (E.set nx q):=Env.le_set _ hn.1
 have hcn:c≠nx:=fun e=>by rw[e,hn.2] at hcls;cases hcls
 have hclt:c<nx:=Nat.lt_of_not_le fun hh=>by rw[(h.fresh c hh).2] at hcls;cases hcls
 have hEc:E c=none:=by
  obtain⟨_,_,_,_,_,h3⟩:=h.cls l (by rw[hobj];exact hc)
  rw[hobj] at h3;exact h3
 have hget:∀ k,k≠nx→k≠c→getH (put .no (put .no H c (.cls nx lim' mk')) nx (.cells cs' len' elem c rel' fz' false)) k=getH H k:=
  fun k e e'=>by rw[getH_put,if_neg e,getH_put,if_neg e']
 have hself:getH (put .no (put .no H c (.cls nx lim' mk')) nx (.cells cs' len' elem c rel' fz' false)) nx=.cells cs' len' elem c rel' fz' false:=by rw[getH_put,if_pos rfl]
 have hC:getH (put .no (put .no H c (.cls nx lim' mk')) nx (.cells cs' len' elem c rel' fz' false)) c=.cls nx lim' mk':=by
  rw[getH_put,if_neg hcn,getH_put,if_pos rfl]
 generalize hH':put .no (put .no H c (.cls nx lim' mk')) nx (.cells cs' len' elem c rel' fz' false)=H' at *
 have hB:¬ w0.old p.blk:=by
  rcases (h.own l p hl).2 with hh|hh|hh
  ·rw[hobj] at hh;cases hh
  ·rw[hobj] at hh;cases hh
  ·exact hh
 have hBq:¬ w0.old q.blk:=by
  rcases hcase with hh|hh
  ·exact h.not_old hh
  ·rw[hh.1];exact hB
 have hE:∀ k r,(E.set nx q) k=some r→(k=nx∧r=q)∨(k≠nx∧k≠c∧E k=some r):=by
  intro k r hk
  by_cases e:k=nx
  ·subst e;rw[Env.set_self] at hk;cases hk;exact .inl ⟨rfl,rfl⟩
  ·rw[Env.set_other _ _ _ _ e] at hk;exact .inr ⟨e,fun e'=>(by subst e';rw[hEc] at hk;cases hk),hk⟩
 have hokc:∀ k i,k≠nx→i<endOf (getH H k)→clsOf (getH H k)=c→okAt H' k c i→i<pos∧okAt H k c i:=by
  intro k i hk hi hkc ho
  rcases ho with ho|⟨a,b,m,h1,h2⟩
  ·exact absurd ho hc
  ·rw[hC] at h1;cases h1
   rcases hlim with⟨rfl,hle'⟩|rfl
   ·obtain⟨_,_,_,g1,g2,_⟩:=h.cls k (by rw[hkc];exact hc)
    rw[hkc,hcls] at g1;cases g1
    refine⟨by omega,.inr ⟨_,_,_,hcls,?_⟩⟩
    rcases h2 with h2|h2|h2
    ·exact .inl h2
    ·exact absurd h2.symm hk
    ·exact .inr (.inr h2)
   ·rcases h2 with h2|h2|⟨m',h2,h3⟩
    ·cases h2
    ·exact absurd h2.symm hk
    ·cases h2
     obtain⟨h4,h5⟩:=minO_lt h3
     refine⟨h4,.inr ⟨_,_,_,hcls,?_⟩⟩
     rcases h5 with h5|h5
     ·exact .inl h5
     ·exact .inr (.inr h5)
 have hcnn:∀ k,clsOf (getH H k)≠0→clsOf (getH H k)≠nx:=fun k hc0 e=>by
  obtain⟨a,b,m,h1,_⟩:=h.cls k hc0
  rw[e,hn.2] at h1;cases h1
 have hORk:∀ k r,k≠nx→k≠c→E k=some r→∀ ob,OR E H k r ob (getH H k)→(∀ vs len2 elem2 rel2 fz2 ro2,getH H k≠.cells vs len2 elem2 c rel2 fz2 ro2)→OR (E.set nx q) H' k r ob (getH H k):=by
  intro k r hk1 hk2 hk ob ho hne
  by_cases h0:clsOf (getH H k)=0
  ·exact ho.trans hle fun pos _=>by rw[h0];exact .inl rfl
  ·refine ho.trans hle fun pos hp=>hp.same fun _=>hget _ (hcnn k h0) fun e=>?_
   cases hko:getH H k with
   |cells vs len2 elem2 c2 rel2 fz2 ro2=>rw[hko] at e;simp only[clsOf] at e;subst e;exact hne _ _ _ _ _ _ hko
   |_=>rw[hko] at h0;exact absurd rfl h0
 refine⟨?_,?_,?_,?_,?_,?_,Nat.le_trans h.size hsz,hos.trans h.os,hout.trans h.output,htape.trans h.tape,h.le.trans (Env.le_set _ (h.fresh nx (Nat.le_refl _)).1),?dat,h.dec,fun l p hl b o v hf ho=>by
  rcases hE l p hl with⟨rfl,rfl⟩|⟨_,_,hl⟩
  ·rw[hqz] at hf;cases hf
  ·exact h.fzo l p hl b o v hf ho⟩
 case dat=>
  intro k r hk b off v hf
  rcases hE k r hk with⟨rfl,rfl⟩|⟨hne,hnc,hk⟩
  ·rw[hqz] at hf;cases hf
  ·obtain⟨h1,h2⟩:=h.dat k r hk b off v hf
   have hblt:=cell_lt h1
   have hbq:b≠q.blk:=by
    intro e
    rcases hcase with hh|⟨hqb,_⟩
    ·omega
    ·exact mayFz_no (h2 l p hl (by rw[e,hqb])) (by rw[hobj];intro hh;cases hh) (by rw[hobj];rfl) (by rw[hobj];rfl)
   refine⟨(cell_heap (hkeep b hblt hbq)).trans h1,fun l' p' hl' hb'=>?_⟩
   rcases hE l' p' hl' with⟨rfl,rfl⟩|⟨hne',hnc',hl'⟩
   ·exact absurd hb'.symm hbq
   ·rw[hget l' hne' hnc'];exact h2 l' p' hl' hb'
 ·intro k r hk
  rcases hE k r hk with⟨rfl,rfl⟩|⟨hne,hnc,hk⟩
  ·rw[hself];exact hor
  ·rw[hget k hne hnc]
   have ho:=h.objs k r hk
   have hblt:=(h.own k r hk).1
   cases hko:getH H k with
   |cells vs len2 elem2 c2 rel2 fz2 ro2=>
    by_cases hcc:c2=c
    ·subst hcc
     rw[hko] at ho
     obtain⟨c0,fr0,h1,h2,h3,h4,h5⟩:=ho
     have hoki:∀ i,i<len2→okAt H' k c2 (rel2+i)→rel2+i<pos∧okAt H k c2 (rel2+i):=fun i hi ho=>hokc k _ hne (by rw[hko];simp only[endOf];omega) (by rw[hko];rfl) ho
     by_cases hb:r.blk=q.blk
     ·rcases hcase with hh|⟨hqb,hqr,cells,cells',fr,g1,g2,g3,g4⟩
      ·omega
      ·have hrel:r.base+rel=p.base+rel2:=by
        by_cases e:k=l
        ·subst e;rw[hl] at hk;cases hk;rw[hobj] at hko;cases hko;rfl
        ·rcases h.sepW (by rw[hobj];rfl) e hk hl (by rw[hb,hqb]) with hh|hh|hh
         ·rw[hko] at hh;cases hh
         ·rw[hobj] at hh;cases hh
         ·have:=hh.2.2;rw[hko,hobj] at this;exact this
       rw[hb,hqb,g1] at h1
       injection h1 with h1;injection h1 with e1 e2 e3;subst e1 e2 e3
       rw[hb,hqb,g2]
       refine⟨cells',fr,rfl,by rw[g3];exact h2,h3,by rw[g3];exact h4,fun i hi ho=>?_⟩
       obtain⟨hlt',hok'⟩:=hoki i hi ho
       obtain⟨x,hx,hv⟩:=h5 i hi hok'
       exact⟨x,by rw[g4 _ (by omega)];exact hx,hv.mono hle⟩
     ·rw[hkeep _ hblt hb]
      refine⟨c0,fr0,h1,h2,h3,h4,fun i hi ho=>?_⟩
      obtain⟨x,hx,hv⟩:=h5 i hi (hoki i hi ho).2
      exact⟨x,hx,hv.mono hle⟩
    ·have hb:r.blk≠q.blk:=by
      intro hb
      rcases hcase with hh|⟨hqb,_⟩
      ·omega
      ·have e:k≠l:=fun e=>by subst e;rw[hobj] at hko;cases hko;exact hcc rfl
       rcases h.sepW (by rw[hobj];rfl) e hk hl (by rw[hb,hqb]) with hh|hh|hh
       ·rw[hko] at hh;cases hh
       ·rw[hobj] at hh;cases hh
       ·have:=hh.2.1;rw[hko,hobj] at this;exact hcc this
     rw[hkeep _ hblt hb,← hko]
     exact hORk k r hne hnc hk _ ho fun vs len2' elem2' rel2' fz2' ro2' e=>by rw[hko] at e;cases e;exact hcc rfl
   |no=>trivial
   |cls _ _ _=>trivial
   |_=>
    have hb:r.blk≠q.blk:=by
     intro hb
     rcases hcase with hh|⟨hqb,_⟩
     ·omega
     ·have e:k≠l:=fun e=>by subst e;rw[hobj] at hko;cases hko
      rcases h.sepW (by rw[hobj];rfl) e hk hl (by rw[hb,hqb]) with hh|hh|hh
      ·rw[hko] at hh;cases hh
      ·rw[hobj] at hh;cases hh
      ·have:=hh.1;rw[hko] at this;exact this rfl
    rw[hkeep _ hblt hb,← hko]
    exact hORk k r hne hnc hk _ ho fun vs len2' elem2' rel2' fz2' ro2' e=>by rw[hko] at e;cases e
 ·intro k hk
  have:=h.fresh k (by omega)
  exact⟨by rw[Env.set_other _ _ _ _ (by omega)];exact this.1,by rw[hget k (by omega) (by omega)];exact this.2⟩
 ·intro k k' r r' hne hk hk' hb
  have key:∀ k r,k≠nx→k≠c→E k=some r→r.blk=q.blk→getH H k=.no∨(clsOf (getH H k)=c∧r.base+rel'=q.base+relOf (getH H k)):=by
   intro k r hk1 hk2 hk hb
   rcases hcase with hh|⟨hqb,hqr,_⟩
   ·have:=(h.own k r hk).1;omega
   ·by_cases e:k=l
    ·subst e;rw[hl] at hk;cases hk;rw[hobj];exact .inr ⟨rfl,by simp only[relOf];omega⟩
    ·rcases h.sepW (by rw[hobj];rfl) e hk hl (by rw[hb,hqb]) with hh|hh|hh
     ·exact .inl hh
     ·rw[hobj] at hh;cases hh
     ·refine .inr ⟨by rw[hh.2.1,hobj];rfl,?_⟩
      have:=hh.2.2;rw[hobj] at this;simp only[relOf] at this ⊢;omega
  rcases hE k r hk with⟨rfl,rfl⟩|⟨hn1,hc1,g1⟩<;>rcases hE k' r' hk' with⟨e3,e4⟩|⟨hn2,hc2,g2⟩
  ·exact absurd e3.symm hne
  ·rw[hself,hget k' hn2 hc2]
   rcases key k' r' hn2 hc2 g2 hb.symm with hh|⟨hh,hr⟩
   ·exact .inl (.inr (.inl hh))
   ·exact .inl (.inr (.inr ⟨hc,hh.symm,by show _+relOf (getH H k')=_+rel';omega⟩))
  ·subst e3;subst e4
   rw[hself,hget k hn1 hc1]
   rcases key k r hn1 hc1 g1 hb with hh|⟨hh,hr⟩
   ·exact .inl (.inl hh)
   ·exact .inl (.inr (.inr ⟨by rw[hh];exact hc,hh,by show _+rel'=_+relOf (getH H k);omega⟩))
  ·rw[hget k hn1 hc1,hget k' hn2 hc2];exact h.sep k k' r r' hne g1 g2 hb
 ·intro k hc0
  by_cases e:k=nx
  ·subst e;rw[hself]
   exact⟨_,_,_,hC,by simp only[endOf];exact hmk2,by show (E.set _ q) c=none;rw[Env.set_other _ _ _ _ hcn];exact hEc⟩
  ·by_cases e':k=c
   ·subst e';rw[hC] at hc0;exact absurd rfl hc0
   ·rw[hget k e e'] at hc0 ⊢
    obtain⟨a,b,m,h1,h2,h3⟩:=h.cls k hc0
    by_cases hcc:clsOf (getH H k)=c
    ·rw[hcc] at h1 ⊢
     rw[hcls] at h1;cases h1
     exact⟨_,_,_,hC,by omega,by rw[Env.set_other _ _ _ _ hcn];exact hEc⟩
    ·exact⟨a,b,m,by rw[hget _ (hcnn k hc0) hcc];exact h1,h2,by rw[Env.set_other _ _ _ _ (hcnn k hc0)];exact h3⟩
 ·intro k r hk
  rcases hE k r hk with⟨rfl,rfl⟩|⟨hn1,hc1,hk⟩
  ·exact⟨hq,.inr (.inr hBq)⟩
  ·rw[hget k hn1 hc1]
   have:=h.own k r hk
   exact⟨by omega,this.2⟩
 ·intro b hb
  rw[hkeep b (h.lt_old hb) (fun e=>hBq (e ▸ hb))];exact h.old b hb
end
end Go.Exo

namespace Go.Exo
set_option linter.unusedSectionVars false
variable [Sx] [Dc]
section
variable {P:Program}{w0:Bs}{E:Env}{H:T AObj}{nx:Nat}{w:World}
def XR (P:Program)(w:World)(X:Value)(n size:Nat)(xs:List Value):Prop:=
 (∀ d,(Builtin.lenOf X).run P { w with drawn:=d }=.ok n { w with drawn:=d })∧∀ d,(Builtin.firstCells size n X).run P { w with drawn:=d }=.ok xs.toArray { w with drawn:=d }
theorem XR.nils (size:Nat):XR P w (.slice none 0 0) 0 size []:=⟨fun _=>by simp[Builtin.lenOf],fun _=>by simp[Builtin.firstCells]⟩
theorem XR.slice {a:Addr}{n c size:Nat}{xs:List Value}(hl:xs.length=n*size)(h:∀ j u,xs[j]? = some u→w.cell? (a.add j)=some u):XR P w (.slice (some a) n c) n size xs:=
 ⟨fun _=>by simp[Builtin.lenOf],fun d=>run_firstCells_some _ size n a n c xs hl h⟩
theorem XR.emp (a:Addr)(c size:Nat):XR P w (.slice (some a) 0 c) 0 size []:=⟨fun _=>by simp[Builtin.lenOf],fun _=>by simp[Builtin.firstCells,loadCells,loadCellsFrom]⟩
section runs
variable {t u ty e:TypeId}{e':TypeId}{i:TypeInfo}{z:Value}(ht:P.underlying t=some (.slice e))(hu:P.underlying u=some (.slice e'))(hi:P.info? e=some i)
include ht hu hi
theorem run_app_in {b o len c n:Nat}{X:Value}{xs:List Value}{w':World}(hx:XR P w X n i.size xs)(hc:len+n≤c)(hst:(storeCells ⟨b,o+len*i.size,none⟩ xs).run P w=.ok () w') :
  (Builtin.append_ #[t,u] ty #[.slice (some ⟨b,o,none⟩) len c,X]).run P w=.ok (.slice (some ⟨b,o,none⟩) (len+n) c) w':=by
 have h1:=hx.1 w.drawn
 have h2:=hx.2 w.drawn
 simp[Builtin.append_,run_underlying ht,run_underlying hu,sizeOf,typeInfo,hi,h1,h2,hc,Addr.add_lit,hst]
theorem run_app_nil0 {X:Value}(hx:XR P w X 0 i.size []):(Builtin.append_ #[t,u] ty #[.slice none 0 0,X]).run P w=.ok (.slice none 0 0) w:=by
 have h1:=hx.1 w.drawn
 have h2:=hx.2 w.drawn
 simp[Builtin.append_,run_underlying ht,run_underlying hu,sizeOf,typeInfo,hi,h1,h2]
theorem run_app_up (hz:i.zero=some z){base:Option Addr}{len c n:Nat}{X:Value}{olds xs:List Value}(hs:XR P w (.slice base len c) len i.size olds)(hx:XR P w X n i.size xs)(hc:c<len+n)
  (hb:roomOk (len+n) i.bytes=true) :
  (Builtin.append_ #[t,u] ty #[.slice base len c,X]).run P w=.ok (.slice (some ⟨w.heap.size,0,none⟩) (len+n) (grownCap w (len+n) c e))
   { w with heap:=w.heap.push (.cells (olds++xs++(Builtin.zeroCells z.cells (grownCap w (len+n) c e-(len+n))).toList).toArray e (0,0)),drawn:=w.drawn+1 }:=by
 have h1:=hx.1 w.drawn
 have h2:=hx.2 (w.drawn+1)
 have h3:=hs.2 (w.drawn+1)
 have hb':=hb
 simp only[roomOk,Bool.and_eq_true,Nat.mul_eq] at hb'
 have hm:(len+n)*i.bytes≤140737488355328:=Nat.le_of_ble_eq_true hb'.1
 have hkk:len+n≤1099511627776000:=Nat.le_of_ble_eq_true hb'.2
 have hn:¬ (len+n≤c):=by omega
 have h63:¬ (9223372036854775807<((len:Int)+(n:Int))):=by omega
 have h48:¬ (281474976710656<Builtin.nextslicecap (len+n) c*i.bytes):=by
  have:=growslice_fits (need:=len+n) (old:=c) (bytes:=i.bytes) hc (by omega)
  omega
 simp[Builtin.append_,run_underlying ht,run_underlying hu,sizeOf,typeInfo,zeroValue,hi,hz,h1,hn,h63,h48,Question.forced,h2,h3,newRow,grownCap,World.drew,-World.drew_eq]
 unfold World.alloc
 congr 3
 apply Array.ext'
 simp
end runs
theorem grow_ok (h:WR w0 E H nx w){e:TypeId}{esz bytes need c d:Nat}{cs:List V}{xs rest:List Value}(hcs:VRs E cs xs)(hnc:need≤c)(hrest:rest.length=(c-need)*esz)
  {R:Result Value}(hR:roomOk need bytes=true→R=.ok (.slice (some ⟨w.heap.size,0,none⟩) need c) { w with heap:=w.heap.push (.cells (xs++rest).toArray e (0,0)),drawn:=d }) :
  VG w0 E H nx w R (grow e esz bytes need cs H nx):=by
 unfold grow
 cases hb:(roomOk need bytes&&Nat.beq cs.length (Nat.mul need esz)) with
 |false=>trivial
 |true=>
  simp only[Bool.and_eq_true] at hb
  have hlen:cs.length=need*esz:=Nat.eq_of_beq_eq_true hb.2
  rw[hR hb.1]
  simp only[cond_true,newCells_eq]
  have hsz:(xs++rest).toArray.size=c*esz:=by
   have:=hcs.length
   simp only[List.size_toArray,List.length_append,hrest,← this,hlen,← Nat.add_mul];congr 1;omega
  obtain⟨h1,h2,h3⟩:=new_ok h e (0,0) 0 d (vs:=cs) (c:=(xs++rest).toArray) (fun i v hv=>by
   obtain⟨x,hx,hr⟩:=hcs.get i v hv
   refine⟨x,?_,hr⟩
   rw[List.getElem?_toArray,List.getElem?_append_left (List.getElem?_eq_some_iff.1 hx).1];exact hx) (by rw[hsz,hlen];exact Nat.mul_le_mul_right _ hnc) rfl
  refine⟨_,_,_,rfl,h1,?_,h2,by omega,h3⟩
  exact slice_new E nx _ _ need esz none c hnc (by rw[hsz];exact Nat.le_refl _) (by simp)
theorem zeroCells_length (zc:Array Value)(n:Nat):(Builtin.zeroCells zc n).toList.length=n*zc.size:=by simp[Builtin.zeroCells]
theorem upon2_ok (h:WR w0 E H nx w){t u ty e e':TypeId}{i:TypeInfo}{z:Value}(ht:P.underlying t=some (.slice e))(hu:P.underlying u=some (.slice e'))(hi:P.info? e=some i)(hz:i.zero=some z)(hzl:z.cells.size=i.size)
  {l off len cap n:Nat}{p:Pl}(hl:E l=some p)(hfit:off+cap*i.size≤p.size)
  {cs:T V}{clen c rel fz:Nat}(hc:c≠0)(hobj:getH H l=.cells cs clen e c rel fz false){cur:Nat}{lim:Option Nat}{mk:Nat}(hcls:getH H c=.cls cur lim mk)
  (hfz:fzOk fz (off+len*i.size)=true){old news:List V}{olds xs:List Value}(hold:VRs E old olds)(hnews:VRs E news xs)(hone:allOne news=true)(holen:old.length=len*i.size)
  (hcells:∀ j v,olds[j]? = some v→w.cell? ((⟨p.blk,p.base+off,none⟩:Addr).add j)=some v)
  {X:Value}(hx:XR P w X n i.size xs)(hlen:news.length=n*i.size)(hroom:roomOk (len+n) i.bytes=true){nx0:Nat}{H0:T AObj}(hnx:nx0≤nx)
  (hkeep:∀ k,k<nx0→E k=none→isCls (getH H0 k)=false→getH H k=getH H0 k∧k≠c) :
  VG w0 E H0 nx0 w ((Builtin.append_ #[t,u] ty #[.slice (some ⟨p.blk,p.base+off,none⟩) len cap,X]).run P w)
   (upon2 e i.size off (len+n) old news H nx c (rel+(off+len*i.size)) rel mk lim fz):=by
 simp only[upon2,setHR_eq]
 have hn:=h.fresh nx (Nat.le_refl _)
 have e1:∀ (k:T AObj→Res) lim' mk',T.setK .no (.cls nx lim' mk') H c k=k (put .no H c (.cls nx lim' mk')):=fun k _ _=>setK_eq _ _ _ _ _
 have e2:∀ (k:T V→Res),T.ofK .bad (old++news) 0 .e k=k (putL .bad (old++news) 0 .e):=fun k=>ofK_eq _ _ _ _ _
 simp only[e1,e2]
 generalize hlim':cond (Nat.ble mk (rel+(off+len*i.size))) lim (some (minO lim (rel+(off+len*i.size))))=lim'
 have hlim:(lim'=lim∧mk≤rel+(off+len*i.size))∨lim'=some (minO lim (rel+(off+len*i.size))):=by
  rw[← hlim']
  cases hb:Nat.ble mk (rel+(off+len*i.size)) with
  |true=>exact .inl ⟨rfl,Nat.le_of_ble_eq_true hb⟩
  |false=>exact .inr rfl
 have hall:(old++news).length=(len+n)*i.size:=by rw[List.length_append,holen,hlen,Nat.add_mul]
 have hallR:VRs E (old++news) (olds++xs):=hold.append hnews
 have hlo:olds.length=len*i.size:=by rw[← hold.length,holen]
 have hlx:xs.length=n*i.size:=by rw[← hnews.length,hlen]
 have hkeepF:∀ q:Pl,Keep E (E.set nx q) H0 (put .no (put .no H c (.cls nx lim' (max mk (rel+(off+len*i.size)+news.length)))) nx
   (.cells (putL .bad (old++news) 0 .e) ((len+n)*i.size) e c (rel+off) (fzUp fz off) false)) nx0:=by
  intro q k hk hE hcl
  have hne:k≠nx:=by omega
  obtain⟨a1,a2⟩:=hkeep k hk hE hcl
  exact⟨by rw[Env.set_other _ _ _ _ hne];exact hE,by rw[getH_put,if_neg hne,getH_put,if_neg a2,a1]⟩
 have hgetc:∀ j,j<(len+n)*i.size→getC (putL .bad (old++news) 0 .e) j=((old++news)[j]?).getD .bad:=by
  intro j hj
  rw[putL_get,if_pos (Nat.zero_le _),Nat.sub_zero,List.getElem?_eq_getElem (by omega)];rfl
 have ho:=h.objs l p hl
 rw[hobj] at ho
 obtain⟨cc,fr,h1,h2,h3,h4,h5⟩:=ho
 by_cases hin:len+n≤cap
 ·
  have hcc:(len+n)*i.size≤cap*i.size:=Nat.mul_le_mul_right _ hin
  have hsum:(len+n)*i.size=len*i.size+n*i.size:=Nat.add_mul _ _ _
  have hrun:=run_storeCells_any (P:=P) p.blk (p.base+off+len*i.size) e fr xs 0 cc w h1
   (fun j hj1 hj2=>FzR.ok h4 hfz (by omega) (by omega)) (by omega) (hnews.one hone)
  simp only[Nat.add_zero] at hrun
  generalize hc':(cc.toList.take (p.base+off+len*i.size)++xs++cc.toList.drop (p.base+off+len*i.size+xs.length)).toArray=c' at hrun
  have hcsz:c'.size=cc.size:=by rw[← hc'];simp;omega
  have hcg:∀ j,c'[j]? = if p.base+off+len*i.size≤j∧j<p.base+off+len*i.size+xs.length then xs[j-(p.base+off+len*i.size)]? else cc[j]? := by
   intro j
   rw[← hc']
   simp only[List.getElem?_toArray]
   by_cases c1:j<p.base+off+len*i.size
   ·rw[if_neg (by omega),List.append_assoc,List.getElem?_append_left (by simp;omega),List.getElem?_take,if_pos c1,Array.getElem?_toList]
   ·by_cases c2:j<p.base+off+len*i.size+xs.length
    ·rw[if_pos (by omega),List.getElem?_append_left (by simp;omega),List.getElem?_append_right (by simp;omega)]
     congr 1;simp;omega
    ·rw[if_neg (by omega),List.getElem?_append_right (by simp;omega),List.getElem?_drop,Array.getElem?_toList]
     congr 1;simp;omega
  have hself:(w.setRow p.blk c').heap[p.blk]? = some (.cells c' e fr):=setRow_heap w p.blk cc c' e fr h1
  have hq:VR (E.set nx ⟨p.blk,p.base+off,p.size-off,undef,noOb,[]⟩) (.slice nx 0 (len+n) none i.size) (.slice (some ⟨p.blk,p.base+off,none⟩) (len+n) cap):=by
   have:=VR.slice (E:=E.set nx ⟨p.blk,p.base+off,p.size-off,undef,noOb,[]⟩) nx 0 (len+n) none i.size ⟨p.blk,p.base+off,p.size-off,undef,noOb,[]⟩ cap (Env.set_self _ _ _) hin (by show 0+cap*i.size≤p.size-off;omega) (by simp)
   simpa using this
  have hle:E.le (E.set nx ⟨p.blk,p.base+off,p.size-off,undef,noOb,[]⟩):=Env.le_set _ hn.1
  refine⟨_,_,_,run_app_in ht hu hi hx hin hrun,hle,hq,?_,by show nx0≤nx+1;omega,hkeepF _⟩
  refine h.join hl hc hobj hcls (rel+off) (rel+(off+len*i.size)) _ _ _ _ _ _ _ hlim (Nat.le_max_left _ _) ?_ (fun _ _=>rfl) rfl rfl rfl ?_ (by rw[setRow_size];exact Nat.le_refl _) (by rw[setRow_size];exact (h.own l p hl).1) (.inr ⟨rfl,?_,cc,c',fr,h1,hself,hcsz,?_⟩) ?_
  ·refine Nat.le_trans ?_ (Nat.le_max_right _ _);rw[hlen];show rel+off+(len+n)*i.size≤rel+(off+len*i.size)+n*i.size;omega
  ·intro b hb hne;exact setRow_other w p.blk b c' hne
  ·show p.base+off+rel=p.base+(rel+off);omega
  ·intro j hj;rw[hcg,if_neg (by omega)]
  ·show OR _ _ _ _ ((w.setRow p.blk c').heap[p.blk]?) _
   rw[hself]
   refine⟨c',fr,rfl,by rw[hcsz];show cc.size=p.base+off+(p.size-off);omega,by show (len+n)*i.size≤p.size-off;omega,?_,?_⟩
   ·rw[hcsz]
    cases fz with
    |zero=>simp only[FzR] at h4;subst h4;simp[fzUp,FzR]
    |succ k=>
     cases k with
     |zero=>simp only[FzR] at h4;subst h4;simp only[fzUp,FzR];omega
     |succ k=>
      simp only[FzR] at h4
      show ∀ j,p.base+off+(k-off)≤j→_
      intro j hj1 hj2
      exact h4 j (by omega) hj2
   ·intro j hj _
    replace hj:j<(len+n)*i.size:=hj
    rw[hgetc j hj]
    obtain⟨x,hx',hr⟩:=hallR.get j _ (List.getElem?_eq_getElem (by omega))
    refine⟨x,?_,?_⟩
    ·show c'[p.base+off+j]? = some x
     rw[hcg]
     by_cases c1:j<len*i.size
     ·rw[if_neg (by omega)]
      rw[List.getElem?_append_left (by omega)] at hx'
      have:=hcells j x hx'
      rw[add_add,cell_at h1] at this
      rw[← this];congr 1;omega
     ·rw[if_pos (by omega)]
      rw[List.getElem?_append_right (by omega)] at hx'
      rw[← hx',hlo];congr 1;omega
    ·rw[List.getElem?_eq_getElem (by omega)];exact hr.mono hle
 ·
  have hrun:=run_app_up (w:=w) (ty:=ty) ht hu hi hz (XR.slice (P:=P) (c:=cap) hlo hcells) hx (by omega) hroom
  have hge:=grownCap_ge w (len+n) cap e
  generalize hcap:grownCap w (len+n) cap e=nc at hrun hge
  generalize hrow:(olds++xs++(Builtin.zeroCells z.cells (nc-(len+n))).toList).toArray=row at hrun
  have hsz:row.size=nc*i.size:=by
   rw[← hrow,List.size_toArray,List.length_append,List.length_append,zeroCells_length,hzl,hlo,hlx,← Nat.add_mul,← Nat.add_mul];congr 1;omega
  have hle:E.le (E.set nx ⟨w.heap.size,0,nc*i.size,undef,noOb,[]⟩):=Env.le_set _ hn.1
  refine⟨_,_,_,hrun,hle,slice_new E nx _ _ (len+n) i.size none nc hge (Nat.le_refl _) (by simp),?_,by show nx0≤nx+1;omega,hkeepF _⟩
  refine h.join hl hc hobj hcls (rel+off) (rel+(off+len*i.size)) _ _ _ _ _ _ _ hlim (Nat.le_max_left _ _) ?_ (fun _ _=>rfl) rfl rfl rfl ?_ (by simp) (by simp) (.inl (Nat.le_refl _)) ?_
  ·refine Nat.le_trans ?_ (Nat.le_max_right _ _);rw[hlen];show rel+off+(len+n)*i.size≤rel+(off+len*i.size)+n*i.size;rw[Nat.add_mul];omega
  ·intro b hb hne;show (w.heap.push _)[b]? = _;rw[Array.getElem?_push,if_neg (by omega)]
  ·show OR _ _ _ _ ((w.heap.push _)[w.heap.size]?) _
   rw[Array.getElem?_push,if_pos rfl]
   refine⟨row,(0,0),rfl,by rw[hsz];show _=0+nc*i.size;omega,Nat.mul_le_mul_right _ hge,?_,?_⟩
   ·cases fz with
    |zero=>simp[fzUp,FzR]
    |succ k=>cases k with
     |zero=>simp[fzUp,FzR]
     |succ k=>intro j _ _;simp
   ·intro j hj _
    replace hj:j<(len+n)*i.size:=hj
    rw[hgetc j hj]
    obtain⟨x,hx',hr⟩:=hallR.get j _ (List.getElem?_eq_getElem (by omega))
    refine⟨x,?_,?_⟩
    ·show row[0+j]? = some x
     rw[← hrow,List.getElem?_toArray,Nat.zero_add,List.getElem?_append_left (List.getElem?_eq_some_iff.1 hx').1];exact hx'
    ·rw[List.getElem?_eq_getElem (by omega)];exact hr.mono hle
end
end Go.Exo

namespace Go.Exo
set_option linter.unusedSectionVars false
variable [Sx] [Dc]
section
variable {P:Program}{w0:Bs}{E:Env}{H:T AObj}{nx:Nat}{w:World}
theorem VG.of_wr {R:Result Value}{v:V}{x:Value}{r:Res}(hv:VR E v x)(h:match r with
  |.valH v' H' nx2=>v'=v∧nx2=nx∧∃ w',R=.ok x w'∧WR w0 E H' nx w'∧Keep E E H H' nx
  |.fail _=>True
  |_=>False):VG w0 E H nx w R r:=by
 cases r with
 |valH v' H' nx2=>
  obtain⟨rfl,rfl,w',h1,h2,h3⟩:=h
  exact⟨x,w',E,h1,Env.le.refl E,hv,h2,Nat.le_refl _,h3⟩
 |fail _=>trivial
 |_=>exact h.elim
theorem app_ok (h:WR w0 E H nx w){t u ty e e':TypeId}{i:TypeInfo}{z:Value}(ht:P.underlying t=some (.slice e))(hu:P.underlying u=some (.slice e'))(hi:P.info? e=some i)(hz:i.zero=some z)(hzl:z.cells.size=i.size)
  {s:V}{S:Value}(hs:VR E s S){n:Nat}{X:Value}{news:List V}{xs:List Value}(hx:XR P w X n i.size xs)(hnews:VRs E news xs)(hlen:news.length=n*i.size) :
  VG w0 E H nx w ((Builtin.append_ #[t,u] ty #[S,X]).run P w) (app e i.size i.bytes s n news H nx):=by
 have hlx:xs.length=n*i.size:=by rw[← hnews.length,hlen]
 cases hs<;>simp only[app]<;>try trivial
 case nils=>
  cases n with
  |zero=>
   have:xs=[]:=List.eq_nil_of_length_eq_zero (by omega)
   subst this
   exact VG.val (run_app_nil0 ht hu hi hx) .nils
  |succ m=>
   simp only
   refine grow_ok h hnews (c:=grownCap w (m+1) 0 e) (rest:=(Builtin.zeroCells z.cells (grownCap w (m+1) 0 e-(m+1))).toList) (d:=w.drawn+1) (grownCap_ge w (m+1) 0 e) (by rw[zeroCells_length,hzl]) fun hr=>?_
   have:=run_app_up (w:=w) (ty:=ty) ht hu hi hz (base:=none) (len:=0) (c:=0) (XR.nils i.size) hx (by omega) (by have:=hr;simpa using this)
   simpa using this
 case slice l off len cap esz p c hp h1 h2 h3=>
  cases hb:Nat.beq esz i.size with
  |false=>trivial
  |true=>
   have:=Nat.eq_of_beq_eq_true hb
   subst this
   simp only[cond_true]
   cases cap with
   |some k=>
    have hk:=h3 k rfl
    subst hk
    simp only
    cases hb2:Nat.ble (Nat.add len n) k with
    |true=>
     have hle:len+n≤k:=Nat.le_of_ble_eq_true hb2
     simp only[cond_true]
     have hw:=wr_ok (P:=P) h hp hnews (off:=off+len*i.size) (v:=.slice l off (len+n) (some k) i.size) (nx':=nx) rfl
     refine VG.of_wr (v:=.slice l off (len+n) (some k) i.size) (x:=.slice (some ⟨p.blk,p.base+off,none⟩) (len+n) k) (.slice _ _ _ _ _ _ _ hp hle h2 (by simp)) ?_
     have e1:Nat.add off (Nat.mul len i.size)=off+len*i.size:=rfl
     rw[e1]
     revert hw
     cases wr l (off+len*i.size) news H nx (.slice l off (Nat.add len n) (some k) i.size) with
     |valH v' H' nx2=>
      rintro⟨a1,a2,w',a3,a4⟩
      refine⟨a1,a2,w',run_app_in ht hu hi hx hle ?_,a4⟩
      rw[Nat.add_assoc];exact a3
     |fail _=>intro _;trivial
     |_=>intro hh;exact hh
    |false=>
     have hgt:k<len+n:=Nat.lt_of_not_le fun hh=>by rw[show Nat.ble (Nat.add len n) k=true from Nat.ble_eq_true_of_le hh] at hb2;cases hb2
     simp only[cond_false]
     refine rdN_ok h hp (Q:=VG w0 E H nx w _) (fun _=>trivial) fun vs ys hvl hvr hc=>?_
     have hyl:ys.length=len*i.size:=by rw[← hvr.length,hvl];rfl
     refine grow_ok h (hvr.append hnews) (c:=grownCap w (len+n) k e) (rest:=(Builtin.zeroCells z.cells (grownCap w (len+n) k e-(len+n))).toList) (d:=w.drawn+1) (grownCap_ge w (len+n) k e) (by rw[zeroCells_length,hzl]) fun hr=>?_
     exact run_app_up (w:=w) (ty:=ty) ht hu hi hz (XR.slice (P:=P) (c:=k) hyl hc) hx hgt (hr)
   |none=>
    simp only
    cases n with
    |zero=>
     have:xs=[]:=List.eq_nil_of_length_eq_zero (by omega)
     subst this
     have:=run_app_in (ty:=ty) (b:=p.blk) (o:=p.base+off) (c:=c) (len:=len) ht hu hi hx (by omega) (w':=w) (by simp[storeCells])
     exact VG.val this (.slice _ _ _ _ _ _ _ hp h1 h2 (by simp))
    |succ m=>
     simp only[upon]
     cases hb2:(roomOk (Nat.add len (m+1)) i.bytes&&allOne news&&Nat.beq (Nat.add (Nat.mul len i.size) news.length) (Nat.mul (Nat.add len (m+1)) i.size)) with
     |false=>trivial
     |true=>
      simp only[Bool.and_eq_true] at hb2
      obtain⟨⟨hroom,hone⟩,_⟩:=hb2
      simp only[cond_true]
      refine rdN_ok h hp (Q:=VG w0 E H nx w _) (fun _=>trivial) fun old olds hvl hvr hc=>?_
      cases hobj:getH H l with
      |cells cs clen el cls rel fz ro=>
       simp only
       cases hb3:(ro || !Nat.beq el e) with
       |true=>trivial
       |false=>
        simp only[Bool.or_eq_false_iff,Bool.not_eq_false'] at hb3
        obtain⟨rfl,hel⟩:=hb3
        have:=Nat.eq_of_beq_eq_true hel
        subst this
        simp only[cond_false,upon1]
        cases hfz:fzOk fz (Nat.add off (Nat.mul len i.size)) with
        |false=>trivial
        |true=>
         simp only[cond_true]
         cases cls with
         |zero=>
          simp only[setHR_eq]
          have hm:=h.mkCls hp hobj
          have hn:=h.fresh nx (Nat.le_refl _)
          have hlt:l<nx:=Nat.lt_of_not_le fun hh=>by rw[(h.fresh l hh).1] at hp;cases hp
          have hself:getH (put .no (put .no H l (.cells cs clen el nx 0 fz false)) nx (.cls l none clen)) l=.cells cs clen el nx 0 fz false:=by rw[getH_put,if_neg (by omega),getH_put,if_pos rfl]
          have hC:getH (put .no (put .no H l (.cells cs clen el nx 0 fz false)) nx (.cls l none clen)) nx=.cls l none clen:=by rw[getH_put,if_pos rfl]
          have key:=upon2_ok hm (ty:=ty) ht hu hi hz hzl hp h2 (by omega) hself hC hfz hvr hnews hone hvl hc hx hlen hroom (H0:=H) (nx0:=nx) (by omega) (fun k hk hE _=>by
           refine⟨?_,by omega⟩
           rw[getH_put,if_neg (by omega),getH_put,if_neg (fun e=>by subst e;rw[hp] at hE;cases hE)])
          revert key
          simp only[upon2,setHR_eq]
          have e1:∀ (k:T AObj→Res)(H:T AObj) lim' mk',T.setK .no (.cls (nx+1) lim' mk') H nx k=k (put .no H nx (.cls (nx+1) lim' mk')):=fun k _ _ _=>setK_eq _ _ _ _ _
          have e2:∀ (k:T V→Res),T.ofK .bad (old++news) 0 .e k=k (putL .bad (old++news) 0 .e):=fun k=>ofK_eq _ _ _ _ _
          simp only[e1,e2,Nat.succ_eq_add_one,Nat.zero_add,Nat.add_eq,Nat.mul_eq]
          rintro⟨x,w',E',a1,a2,a3,a4,a5,a6⟩
          refine⟨x,w',E',a1,a2,a3,?_,a5,?_⟩
          ·refine a4.congr fun k=>?_
           simp only[getH_put]
           by_cases c1:k=nx+1
           ·simp[c1]
           ·by_cases c2:k=nx<;>simp[c1,c2]
          ·intro k hk hE hcl
           obtain⟨b1,b2⟩:=a6 k hk hE hcl
           refine⟨b1,?_⟩
           rw[← b2]
           simp only[getH_put]
           have c1:k≠nx+1:=by omega
           have c2:k≠nx:=by omega
           simp[c1,c2]
         |succ c0=>
          simp only
          cases hcls:getH H (c0+1) with
          |cls cur lim mk=>
           simp only
           exact upon2_ok h (ty:=ty) ht hu hi hz hzl hp h2 (by omega) hobj hcls hfz hvr hnews hone hvl hc hx hlen hroom (H0:=H) (nx0:=nx) (Nat.le_refl _)
            (fun k _ _ hcl=>⟨rfl,fun e=>by subst e;rw[hcls] at hcl;cases hcl⟩)
          |_=>trivial
      |_=>trivial
theorem xAppend_ok (h:WR w0 E H nx w){t u ty e e':TypeId}{i:TypeInfo}{z:V}(ht:P.underlying t=some (.slice e))(hu:P.underlying u=some (.slice e'))(hi:P.info? e=some i)(hz:zeroOf i=some z)(hzl:z.cells.length=i.size)
  {s x:V}{S X:Value}(hs:VR E s S)(hx:VR E x X):VG w0 E H nx w ((Builtin.append_ #[t,u] ty #[S,X]).run P w) (xAppend e i.size i.bytes s x H nx):=by
 obtain⟨zx,hz1,hz2,hzr⟩:=zeroOf_eq (E:=E) hz
 have hzl2:zx.cells.size=i.size:=by rw[← hzl,(hz2.cells hzr).length];simp
 cases hx<;>simp only[xAppend]<;>try trivial
 case nils=>exact app_ok h ht hu hi hz1 hzl2 hs (XR.nils _) .nil (by simp)
 case slice l off n cap esz p c hp h1 h2 h3=>
  refine rdN_ok h hp (Q:=VG w0 E H nx w _) (fun _=>trivial) fun vs ys hvl hvr hc=>?_
  exact app_ok h ht hu hi hz1 hzl2 hs (XR.slice (by rw[← hvr.length,hvl];rfl) hc) hvr hvl
 case emp l esz p o c hp _=>exact app_ok h ht hu hi hz1 hzl2 hs (XR.emp _ _ _) .nil (by simp)
theorem zeroCells_rel {z:V}{x:Value}(hv:VR E z x)(hzr:z.real=true)(n:Nat):VRs E (repeatL z.cells n) (Builtin.zeroCells x.cells n).toList:=by
 have:=zero_rel hv hzr n
 exact this
theorem xAppN_ok (h:WR w0 E H nx w){t u ty e:TypeId}{k0:IntKind}{i:TypeInfo}{z:V}(ht:P.underlying t=some (.slice e))(hu:P.underlying u=some (.int k0))(hi:P.info? e=some i)(hz:zeroOf i=some z)(hzl:z.cells.length=i.size)
  {s x:V}{S X:Value}(hs:VR E s S)(hx:VR E x X):VG w0 E H nx w ((Builtin.append_ #[t,u] ty #[S,X]).run P w) (xAppN e i.size i.bytes z.cells s x H nx):=by
 obtain⟨zx,hz1,hz2,hzr⟩:=zeroOf_eq (E:=E) hz
 have hzl2:zx.cells.size=i.size:=by rw[← hzl,(hz2.cells hzr).length];simp
 cases hs<;>simp only[xAppN]<;>try trivial
 cases hx<;>(try trivial)
 rename_i k n
 cases n with
 |negSucc _=>trivial
 |ofNat n=>
  cases n with
  |zero=>trivial
  |succ m=>
   simp only
   cases hb:Nat.ble m 1048576 with
   |false=>trivial
   |true=>
    have hm:m≤1048576:=Nat.le_of_ble_eq_true hb
    simp only[cond_true]
    have hr:=zeroCells_rel hz2 hzr (m+1)
    refine grow_ok h hr (c:=grownCap w (m+1) 0 e) (rest:=(Builtin.zeroCells zx.cells (grownCap w (m+1) 0 e-(m+1))).toList) (d:=w.drawn+1) (grownCap_ge w (m+1) 0 e) (by rw[zeroCells_length,hzl2]) fun hroom=>?_
    have hb':=hroom
    simp only[roomOk,Bool.and_eq_true,Nat.mul_eq] at hb'
    have hmm:(m+1)*i.bytes≤140737488355328:=Nat.le_of_ble_eq_true hb'.1
    have hb:m+1≤1099511627776000:=Nat.le_of_ble_eq_true hb'.2
    have h48:¬ (281474976710656<Builtin.nextslicecap (m+1) 0*i.bytes):=by
     have:=growslice_fits (need:=m+1) (old:=0) (bytes:=i.bytes) (by omega) (by omega)
     omega
    have hwrap:IntKind.i64.wrap ((m:Int)+1)=(m:Int)+1:=by
     have:IntKind.i64.wrap ((m:Int)+1)=wrapF .i64 (.ofNat (m+1)):=by rw[wrapF_eq];rfl
     rw[this]
     show cond (Nat.ble (Nat.succ (m+1)) 9223372036854775808) (Int.ofNat (m+1)) _=_
     rw[show Nat.ble (Nat.succ (m+1)) 9223372036854775808=true from Nat.ble_eq_true_of_le (by omega)]
     rfl
    have g1:¬ ((m:Int)+1<0):=by omega
    have g2:¬ (281474976710656<((m:Int)+1)*(i.bytes:Int)):=by
     have:((m:Int)+1)*(i.bytes:Int)=(((m+1)*i.bytes:Nat):Int):=by push_cast;rfl
     rw[this];omega
    have g3:¬ ((m:Int)+1≤0):=by omega
    have g4:¬ (9223372036854775807<max ((m:Int)+1) 0):=by omega
    have g5:((m:Int)+1).toNat=m+1:=by omega
    have hz0:(m+1)*i.size=0→Builtin.zeroCells zx.cells (m+1)=#[]:=fun h0=>by
     apply Array.eq_empty_of_size_eq_zero
     have:=zeroCells_length zx.cells (m+1)
     rw[Array.length_toList] at this
     rw[this,hzl2,h0]
    by_cases h0:(m+1)*i.size=0
    ·simp[Builtin.append_,run_underlying ht,run_underlying hu,sizeOf,typeInfo,hi,asInt,asIntOf,hwrap,g1,g2,g3,g4,g5,h48,zeroValue,hz1,Question.forced,newRow,grownCap,World.drew,-World.drew_eq,Builtin.firstCells,h0,hz0 h0]
     unfold World.alloc
     rfl
    ·simp[Builtin.append_,run_underlying ht,run_underlying hu,sizeOf,typeInfo,hi,asInt,asIntOf,hwrap,g1,g2,g3,g4,g5,h48,zeroValue,hz1,Question.forced,newRow,grownCap,World.drew,-World.drew_eq,Builtin.firstCells,h0]
     unfold World.alloc
     congr 3
     apply Array.ext'
     simp
end
end Go.Exo

namespace Go.Exo
set_option linter.unusedSectionVars false
variable [Sx] [Dc]
section
variable {P:Program}{w0:Bs}{E:Env}{H:T AObj}{nx:Nat}{w:World}
theorem eqGuard_flat {t:TypeId}{fs:Array Field}{ks:List TypeDesc}(ht:P.underlying t=some (.struct fs))(hf:flatS P t fs=some ks)(op:BinOp)(ox oy:Operand)(xs ys:Array Value)(w:World) :
  (eqGuard op t ox oy (.agg xs) (.agg ys)).run P w=.ok () w:=by
 obtain⟨h1,_⟩:=flatS_some hf
 have hg:P.eqGuardType P.depth t=false:=by
  have:∃ n,P.depth=n+2:=⟨2*(P.types.size+Made.depth),rfl⟩
  obtain⟨n,e⟩:=this
  rw[e]
  simp only[Program.eqGuardType,ht]
  rw[← Array.any_toList]
  have:∀ (l:List Field)(i:Nat)(ks:List TypeDesc),flatF P l i=some ks→(l.any fun f=>f.name != "_" && P.eqGuardType (n+1) f.type)=false:=by
   intro l
   induction l with
   |nil=>intro _ _ _;rfl
   |cons f l ih=>
    intro i ks hf
    obtain⟨_,_,d,ks',hu,hd,hf',rfl⟩:=flatF_cons hf
    have hb:P.eqGuardType (n+1) f.type=false:=by
     simp only[Program.eqGuardType,undT_eq P hu]
     cases d<;>first|rfl|cases hd
    simp only[List.any_cons,hb,Bool.and_false,Bool.false_or]
    exact ih _ _ hf'
  exact this fs.toList 0 ks h1
 have hp:(program:Sem Program).run P w=.ok P w:=rfl
 cases op<;>simp only[eqGuard]<;>first|rfl|simp[hg]
theorem xEqAgg_ok {op:BinOp}{neg:Bool}(hop:op=cond neg .neq .eql){t:TypeId}{fs:Array Field}{ks:List TypeDesc}{ox oy:Operand}(ht:P.underlying t=some (.struct fs))(hf:flatS P t fs=some ks)
  {x y:V}{X Y:Value}(hx:VR E x X)(hy:VR E y Y):VG w0 E H nx w ((do eqGuard op t ox oy X Y;binOp op t X Y:Sem Value).run P w) (xEqAgg neg ks x y):=by
 cases hx<;>simp only[xEqAgg]<;>try trivial
 rename_i a xs ha
 cases hy<;>(try trivial)
 rename_i b ys hb
 simp only
 cases hfit:fitL ks a with
 |false=>trivial
 |true=>
  simp only[cond_true]
  cases hq:aggEq a b with
  |none=>trivial
  |some r=>
   obtain⟨h1,_⟩:=equal_flat ht hf ha hb hfit hq
   have h1:=h1 w
   refine VG.val ?_ (.bool _)
   rw[Sem.run_bind,eqGuard_flat ht hf,Result.andThen_ok]
   subst hop
   cases neg with
   |false=>
    have:binOp .eql t (.agg xs.toArray) (.agg ys.toArray)=(do pure (.bool (← Op.equal t (.agg xs.toArray) (.agg ys.toArray))):Sem Value):=rfl
    show (binOp .eql t _ _).run P w=_
    rw[this];simp[h1]
   |true=>
    have:binOp .neq t (.agg xs.toArray) (.agg ys.toArray)=(do pure (.bool (!(← Op.equal t (.agg xs.toArray) (.agg ys.toArray)))):Sem Value):=rfl
    show (binOp .neq t _ _).run P w=_
    rw[this];simp[h1]
theorem xIdxAgg_ok {t e:TypeId}{i:TypeInfo}{n:Nat}{g:Bool}(ht:P.underlying t=some (.array n e))(hi:P.info? e=some i)(ha:∀ w,(isAgg e).run P w=.ok g w){x j:V}{X J:Value}(hx:VR E x X)(hj:VR E j J) :
  VG w0 E H nx w ((Instr.index t X J).run P w) (xIdxAgg n i.size g x j):=by
 have hsz:=fun w=>run_sizeOf (P:=P) (w:=w) hi
 cases hx<;>simp only[xIdxAgg]<;>try trivial
 rename_i cs xs h
 cases hj<;>(try trivial)
 rename_i k m
 cases m with
 |negSucc _=>trivial
 |ofNat m=>
  simp only
  cases hb:Nat.ble (Nat.succ m) n with
  |false=>trivial
  |true=>
   have hlt:m<n:=Nat.le_of_ble_eq_true hb
   simp only[cond_true]
   have hb1:¬ n≤m:=by omega
   cases g with
   |true=>
    simp only[cond_true]
    refine cnd_VG (fun hb=>?_) 155
    refine VG.val (x:=.agg ((xs.drop (m*i.size)).take i.size).toArray) ?_ (.agg _ _ ((h.drop _).take _))
    simp[Instr.index,asIntOf,part,run_underlying ht,hsz,ha,hb1,List.extract_toArray,List.take_drop,Nat.add_comm]
   |false=>
    simp only[cond_false]
    refine cnd_VG (fun hb=>?_) 155
    have hb:=Nat.le_of_ble_eq_true hb
    obtain⟨y,hy,hv⟩:=h.nth (m*i.size) hb
    refine VG.val (x:=y) ?_ hv
    simp[Instr.index,asIntOf,part,run_underlying ht,hsz,ha,hb1,hy]
theorem xCap_ok {t ty e:TypeId}(ht:P.underlying t=some (.slice e)){x:V}{X:Value}(hx:VR E x X):VG w0 E H nx w ((Builtin.cap_ #[t] ty #[X]).run P w) (xCap x):=by
 cases hx<;>simp only[xCap]<;>try trivial
 case nils=>
  refine VG.val (x:=.int .i64 (0:Int)) ?_ (.int _ _)
  simp[Builtin.cap_,run_underlying ht,goInt]
 case slice l off n cap esz p c hp h1 h2 h3=>
  cases cap with
  |none=>trivial
  |some k=>
   obtain rfl:=h3 k rfl
   refine VG.val (x:=.int .i64 (k:Int)) ?_ (.int _ _)
   simp[Builtin.cap_,run_underlying ht,goInt]
theorem xClear_ok (h:WR w0 E H nx w){t ty e:TypeId}{i:TypeInfo}{z:V}(ht:P.underlying t=some (.slice e))(hi:P.info? e=some i)(hz:zeroOf i=some z){x:V}{X:Value}(hx:VR E x X) :
  VG w0 E H nx w ((Builtin.clear_ #[t] ty #[X]).run P w) (xClear z.cells x H nx):=by
 obtain⟨zx,hz1,hz2,hzr⟩:=zeroOf_eq (E:=E) hz
 cases hx<;>simp only[xClear]<;>try trivial
 case nils=>
  refine⟨undef,w,E,?_,Env.le.refl E,VR.undef E,h,Nat.le_refl _,Keep.refl E H nx⟩
  simp[Builtin.clear_,run_underlying ht];rfl
 case slice l off n cap esz p c hp h1 h2 h3=>
  cases n with
  |zero=>
   refine⟨undef,w,E,?_,Env.le.refl E,VR.undef E,h,Nat.le_refl _,Keep.refl E H nx⟩
   simp[Builtin.clear_,run_underlying ht];rfl
  |succ m=>
   simp only
   have hr:=zeroCells_rel hz2 hzr (m+1)
   have hw:=wr_ok (P:=P) h hp hr (off:=off) (v:=undefV) (nx':=nx) rfl
   refine VG.of_wr (VR.undef E) ?_
   revert hw
   cases wr l off (repeatL z.cells (m+1)) H nx undefV with
   |valH v' H' nx2=>
    rintro⟨a1,a2,w',a3,a4⟩
    refine⟨a1,a2,w',?_,a4⟩
    simp[Builtin.clear_,run_underlying ht,zeroValue,typeInfo,hi,hz1,a3];rfl
   |fail _=>intro _;trivial
   |_=>intro hh;exact hh
theorem cmpB_eq:∀ a b:List UInt8,cmpB a b=Lib.compareBytes a b
 |[],[]=>by simp[cmpB,Lib.compareBytes]
 |[],_::_=>by simp[cmpB,Lib.compareBytes]
 |_::_,[]=>by simp[cmpB,Lib.compareBytes]
 |a::r,b::s=>by
  have ih:=cmpB_eq r s
  simp only[cmpB,Lib.compareBytes]
  have h1:Nat.ble (Nat.succ a.toNat) b.toNat=decide (a<b):=by
   rw[Bool.eq_iff_iff,Nat.ble_eq,decide_eq_true_iff];exact Iff.rfl
  have h2:Nat.ble (Nat.succ b.toNat) a.toNat=decide (b<a):=by
   rw[Bool.eq_iff_iff,Nat.ble_eq,decide_eq_true_iff];exact Iff.rfl
  rw[h1,h2,ih]
  by_cases c1:a<b
  ·simp[c1]
  ·by_cases c2:b<a<;>simp[c1,c2]
theorem findNextCmp (fn:Func)(hn:fn.name = "internal/bytealg.abigen_runtime_cmpstring")(ho:fn.origin = "" ∨ fn.origin = "internal/bytealg.abigen_runtime_cmpstring"):Extern.findNext fn=none:=by
 rcases ho with ho|ho <;>
 ·unfold Extern.findNext
  simp only[hn,ho]
  rfl
theorem findCmp (fn:Func)(hn:fn.name = "internal/bytealg.abigen_runtime_cmpstring"):Extern.find fn=some Extern.BytealgCompare.compare:=by
 unfold Extern.find
 simp only[hn]
 rfl
theorem xExtCmp_ok {f:FuncId}{fn:Func}(hf:P.funcs[f]? = some fn)(hb:fn.body=none)(hn:fn.name = "internal/bytealg.abigen_runtime_cmpstring")(ho:fn.origin = "" ∨ fn.origin = "internal/bytealg.abigen_runtime_cmpstring")
  {x y:V}{X Y:Value}(hx:VR E x X)(hy:VR E y Y):Good P w0 E H nx w ((callFunc f #[X,Y]).run P w) (xExtCmp x y):=by
 have hrun:=fun args=>run_callFunc_extern (P:=P) hf (by rw[hn];rfl) (by rw[hb];rfl) (findNextCmp fn hn ho) (findCmp fn hn) args w
 rw[hrun]
 cases hx<;>simp only[xExtCmp]<;>try trivial
 rename_i l n s h1 h2
 cases hy<;>try trivial
 rename_i l' n' s' h3 h4
 refine⟨.value (.int .i64 (Lib.compareBytes s.data.toList s'.data.toList)),_,?_,rfl,?_⟩
 ·rw[Lib.run_compareString];rfl
 ·rw[h1,h3,cmpB_eq];exact .int _ _
theorem xRangeM_ok (h:WR w0 E H nx w){t kt e:TypeId}(ht:P.underlying t=some (.map kt e)){x:V}{X:Value}(hx:VR E x X):VG w0 E H nx w ((Instr.range t X).run P w) (xRangeM x H nx):=by
 cases hx<;>simp only[xRangeM]<;>try trivial
 rename_i l p hp
 cases ho:getH H l with
 |map es clock=>
  obtain⟨es',h1,h2⟩:=h.mapObj hp ho
  simp only[newObj,setHR_eq]
  have hn:=h.fresh nx (Nat.le_refl _)
  have hle:E.le (E.set nx ⟨w.heap.size,0,0,undef,noOb,[]⟩):=Env.le_set _ hn.1
  refine⟨.pointer (some ⟨w.heap.size,0,none⟩),_,_,?_,hle,ptr_new E nx _ 0,h.new (.mapIter (some p.blk) clock #[] clock) (.mit0 l clock) 0 w.drawn rfl rfl ⟨p,hle _ _ hp,rfl,rfl⟩,by omega,?_⟩
  ·simp[Instr.range,run_underlying ht,run_getMap h1]
  ·intro k hk hE _
   have:k≠nx:=by omega
   exact⟨by rw[Env.set_other _ _ _ _ this];exact hE,by rw[getH_put,if_neg this]⟩
 |_=>trivial
theorem findBorn_ok {b:Nat}{Q:Res→Prop}(hf:∀ m,Q (.fail m)):∀ (es:List (V×V×Nat))(es':List MapEntry),ERs E es es'→
  (∀ k v e,es'.find? (fun e=>e.born==b)=some e→VR E k e.key→VR E v e.val→Q (.val (.tup [k,v])))→Q (findBorn b es)
 |[],_,_,_=>hf _
 |_::_,[],h,_=>h.elim
 |(k,v,c)::r,e::es',⟨h1,h2,h3,h4⟩,hq=>by
  simp only[findBorn]
  cases hc:Nat.beq c b with
  |true=>
   have:(e.born==b)=true:=by rw[h3,beq_iff_eq];exact Nat.eq_of_beq_eq_true hc
   exact hq k v e (by rw[List.find?_cons,this]) h1 h2
  |false=>
   have:(e.born==b)=false:=by
    rw[h3,beq_eq_false_iff_ne];intro hh;subst hh;rw[Nat.beq_refl] at hc;cases hc
   exact findBorn_ok hf r es' h4 fun k v e2 he=>hq k v e2 (by rw[List.find?_cons,this];exact he)
theorem xEntryM_ok (h:WR w0 E H nx w){x:V}{X:Value}(hx:VR E x X):VG w0 E H nx w ((Instr.entry X).run P w) (xEntryM x H):=by
 cases hx<;>simp only[xEntryM]<;>try trivial
 rename_i r off p hp
 cases off with
 |succ _=>trivial
 |zero=>
  simp only
  cases ho:getH H r with
  |mit m b c=>
   have hobj:=h.objs r p hp
   rw[ho] at hobj
   obtain⟨q,since,seen,h1,h2,h3,hbase⟩:=hobj
   simp only
   cases hm:getH H m with
   |mapR es c'=>
    obtain⟨es',h4,h5⟩:=h.mapObjR h1 hm
    simp only
    cases hcc:Nat.beq c c' with
    |false=>trivial
    |true=>
     obtain rfl:=Nat.eq_of_beq_eq_true hcc
     simp only[cond_true]
     refine findBorn_ok (fun m=>trivial) es es'.toList h5 fun k v e he hk hv=>?_
     refine VG.val (x:=.tuple #[e.key,e.val]) ?_ (.tup _ [e.key,e.val] (.cons _ _ _ _ hk (.cons _ _ _ _ hv .nil)))
     have hg:(getObj p.blk).run P w=.ok (.mapIter (some q.blk) since seen c) w:=by simp only[getObj,Sem.run,h2]
     have he':es'.find? (fun e=>e.born==b)=some e:=by rw[← Array.find?_toList];exact he
     simp[Instr.entry,hbase,hg,h3,run_getMap h4,he']
   |map es c'=>
    obtain⟨es',h4,h5⟩:∃ es':Array MapEntry,w.heap[q.blk]? = some (.map es' c')∧ERs E es es'.toList:=by
     have:=h.objs m q h1
     rw[hm] at this
     exact this
    simp only
    cases hcc:Nat.beq c c' with
    |false=>trivial
    |true=>
     obtain rfl:=Nat.eq_of_beq_eq_true hcc
     simp only[cond_true]
     refine findBorn_ok (fun m=>trivial) es es'.toList h5 fun k v e he hk hv=>?_
     refine VG.val (x:=.tuple #[e.key,e.val]) ?_ (.tup _ [e.key,e.val] (.cons _ _ _ _ hk (.cons _ _ _ _ hv .nil)))
     have hg:(getObj p.blk).run P w=.ok (.mapIter (some q.blk) since seen c) w:=by simp only[getObj,Sem.run,h2]
     have he':es'.find? (fun e=>e.born==b)=some e:=by rw[← Array.find?_toList];exact he
     simp[Instr.entry,hbase,hg,h3,run_getMap h4,he']
   |_=>trivial
  |_=>trivial
theorem entK_ok {kt:TypeId}{dk:TypeDesc}{ks:List TypeDesc}(hd:KD P kt dk ks){k z:V}{K Z:Value}(hk:VR E k K)(hz:VR E z Z)(hkk:keyK dk ks k=true){clock:Nat}{Q:Res→Prop}(hf:∀ m,Q (.fail m)){f:V→Nat→List (V×V×Nat)→Nat→Res} :
  ∀ (es:List (V×V×Nat))(es':List MapEntry)(i:Nat),ERs E es es'→
   (∀ l l',(FindR P kt dk K es' i none∧l'=es'++[{ key:=K,val:=Z,born:=clock }])→ERs E l l'→Q (f z clock l (Nat.succ clock)))→
   (∀ l l' j v Y e,FindR P kt dk K es' i (some (i+j,Y))→VR E v Y→es'[j]? = some e→Instr.sameBits 10000 e.key K=true→l'=es'.set j { e with key:=K }→ERs E l l'→Q (f v e.born l clock))→Q (entK k z clock f es)
 |[],[],i,_,h1,_=>h1 _ _ ⟨.nil i,rfl⟩ ⟨hk,hz,rfl,trivial⟩
 |[],_::_,_,h,_,_=>h.elim
 |(a,u,b)::r,[],_,h,_,_=>h.elim
 |(a,u,b)::r,e::es',i,⟨h1,h2,h3,h4⟩,hn,hy=>by
  simp only[entK]
  cases hq:keyEq k a with
  |none=>exact hf _
  |some t=>
   have hs:=keyEq_ok hd hk h1 hq hkk
   cases t with
   |true=>
    have:=hy ((k,u,b)::r) ({ e with key:=K }::es') 0 u e.val e (.hit e es' i hs) h2 rfl (hs.2 rfl) rfl ⟨hk,h2,h3,h4⟩
    rw[h3] at this;exact this
   |false=>
    refine entK_ok hd hk hz hkk hf (f:=fun v b' l c=>f v b' ((a,u,b)::l) c) r es' (i+1) h4 (fun l l' hl hr=>hn _ (e::l') ⟨.miss e es' i _ hs hl.1,by rw[hl.2];rfl⟩ ⟨h1,h2,h3,hr⟩) fun l l' j v Y e2 hj hv he hb hl hr=>
     hy _ (e::l') (j+1) v Y e2 (.miss e es' i _ hs (by rwa [show i+(j+1)=i+1+j by omega])) hv (by simpa using he) hb (by rw[hl];rfl) ⟨h1,h2,h3,hr⟩
theorem map_turn (h:WR w0 E H nx w){l:Nat}{p:Pl}(hp:E l=some p){es:List (V×V×Nat)}{clock:Nat}(ho:getH H l=.map es clock){l2:List (V×V×Nat)}{l':List MapEntry}{c:Nat}(hr:ERs E l2 l') :
  WR w0 E (put .no H l (.map l2 c)) nx { w with heap:=w.heap.setIfInBounds p.blk (.map l'.toArray c) }:=by
 have hlt:p.blk<w.heap.size:=(h.own l p hp).1
 refine h.upd l p hp _ (by rw[ho];intro hh;cases hh) (by rw[ho];rfl) (by rw[ho];rfl) (by rw[ho];rfl) (by rw[ho];rfl) rfl _ (.map l'.toArray c) (by simp) ?_ ?_ rfl rfl rfl ?_
 ·intro j hj;show (w.heap.setIfInBounds p.blk _)[j]? = _;simp[Ne.symm hj]
 ·show (w.heap.setIfInBounds p.blk _)[p.blk]? = _;simp[hlt]
 ·exact⟨l'.toArray,rfl,hr⟩
theorem arr_modify {es':Array MapEntry}{l':List MapEntry}{j:Nat}{e2:MapEntry}{g:MapEntry→MapEntry}(he:es'.toList[j]? = some e2)(hl:l'=es'.toList.set j (g e2)):l'.toArray=es'.modify j g:=by
 have hje:es'[j]? = some e2:=by simpa using he
 have hje2:es'[j]? = some e2:=hje
 obtain⟨hj2,hje3⟩:=Array.getElem?_eq_some_iff.1 hje2
 rw[hl]
 apply Array.ext
 ·simp
 ·intro i h3 h4
  rw[Array.getElem_modify]
  simp only[List.getElem_toArray,List.getElem_set,Array.getElem_toList]
  by_cases c:j=i
  ·subst c;simp[hje3]
  ·simp[c]
theorem xMapEnt_ok (h:WR w0 E H nx w){t kt e:TypeId}{dk:TypeDesc}{ks:List TypeDesc}{i:TypeInfo}{z:V}(ht:P.underlying t=some (.map kt e))(hd:KD P kt dk ks)(hi:P.info? e=some i)(hz:zeroOf i=some z){m k:V}{M K:Value}
  (hm:VR E m M)(hkv:VR E k K)(hkk:keyK dk ks k=true):VG w0 E H nx w ((Instr.mapEntry t M K).run P w) (xMapEnt z m k H nx):=by
 obtain⟨zx,hz1,hz2,hzr⟩:=zeroOf_eq (E:=E) hz
 cases hm<;>simp only[xMapEnt]<;>try trivial
 rename_i l p hp
 cases ho:getH H l with
 |map es clock=>
  obtain⟨es',h1,h2⟩:=h.mapObj hp ho
  simp only
  have fin:∀ (v:V)(Y:Value)(b:Nat)(l2:List (V×V×Nat))(l':List MapEntry)(c:Nat)(R:Result Value),VR E v Y→ERs E l2 l'→R=.ok (.tuple #[Y,goInt b]) { w with heap:=w.heap.setIfInBounds p.blk (.map l'.toArray c) }→
    VG w0 E H nx w R (setHR (.map l2 c) H l fun H=>.valH (.tup [v,.int .i64 (.ofNat b)]) H nx):=by
   intro v Y b l2 l' c R hv hr hR
   simp only[setHR_eq]
   refine⟨.tuple #[Y,goInt b],_,E,hR,Env.le.refl E,.tup _ [Y,goInt b] (.cons _ _ _ _ hv (.cons _ _ _ _ (.int _ _) .nil)),map_turn h hp ho hr,Nat.le_refl _,WR.noTouch hp⟩
  refine entK_ok (Q:=fun r=>VG w0 E H nx w _ r) hd hkv hz2 hkk (fun m=>trivial) es es'.toList 0 h2 ?_ ?_
  ·rintro l2 l' ⟨hn,rfl⟩ hr
   refine fin z zx clock l2 _ _ _ hz2 hr ?_
   have:(es'.toList++[({ key:=K,val:=zx,born:=clock }:MapEntry)]).toArray=es'.push { key:=K,val:=zx,born:=clock }:=by
    rw[← List.push_toArray,Array.toArray_toList]
   rw[this]
   simp[Instr.mapEntry,run_underlying ht,run_getMap h1,checkKey_ok hd hkv hkk,findKey_run hd.und hn,run_setMap h1,run_zeroValue' hi hz1]
  ·intro l2 l' j v Y e2 hj hv he hb hl hr
   refine fin v Y e2.born l2 l' _ _ hv hr ?_
   rw[Nat.zero_add] at hj
   have hje:es'[j]? = some e2:=by simpa using he
   rw[arr_modify (g:=fun e=>{ e with key:=K }) he hl]
   simp[Instr.mapEntry,run_underlying ht,run_getMap h1,checkKey_ok hd hkv hkk,findKey_run hd.und hj,Instr.keyThatStays,hje,hb,run_setMap h1]
 |_=>trivial
theorem bornK_ok {b:Nat}{v:V}{X:Value}(hv:VR E v X){Q:Res→Prop}(hf:∀ m,Q (.fail m)){f:List (V×V×Nat)→Res}:∀ (es:List (V×V×Nat))(es':List MapEntry),ERs E es es'→
  (∀ l l' j e,es'.findIdx? (fun e=>(e.born:Int)==(b:Int))=some j→es'[j]? = some e→l'=es'.set j { e with val:=X }→ERs E l l'→Q (f l))→Q (bornK b v f es)
 |[],_,_,_=>hf _
 |_::_,[],h,_=>h.elim
 |(k,u,c)::r,e::es',⟨h1,h2,h3,h4⟩,hq=>by
  simp only[bornK]
  cases hc:Nat.beq c b with
  |true=>
   have:=Nat.eq_of_beq_eq_true hc
   refine hq _ _ 0 e ?_ rfl rfl ⟨h1,hv,h3,h4⟩
   rw[List.findIdx?_cons,h3,this];simp
  |false=>
   refine bornK_ok hv hf (f:=fun l=>f ((k,u,c)::l)) r es' h4 fun l l' j e2 hj he hl hr=>hq _ (e::l') (j+1) e2 ?_ (by simpa using he) (by rw[hl];rfl) ⟨h1,h2,h3,hr⟩
   have:((e.born:Int)==(b:Int))=false:=by
    rw[h3,beq_eq_false_iff_ne];intro hh;have:c=b:=by omega
    subst this;rw[Nat.beq_refl] at hc;cases hc
   rw[List.findIdx?_cons,this,hj];rfl
theorem xEntSt_ok (h:WR w0 E H nx w){t:TypeId}{m s v:V}{M S X:Value}(hm:VR E m M)(hs:VR E s S)(hv:VR E v X):match xEntSt m s v H nx with
  |.valH v' H' nx2=>v'=undefV∧nx2=nx∧∃ w',(Instr.entryStore t M S X).run P w=.ok () w'∧WR w0 E H' nx w'∧Keep E E H H' nx
  |.fail _=>True
  |_=>False:=by
 cases hm<;>simp only[xEntSt]<;>try trivial
 rename_i l p hp
 cases ho:getH H l with
 |map es clock=>
  obtain⟨es',h1,h2⟩:=h.mapObj hp ho
  simp only
  cases hs<;>(try trivial)
  rename_i k b
  cases b with
  |negSucc _=>trivial
  |ofNat b=>
   simp only
   refine bornK_ok (Q:=fun r=>match r with
    |.valH v' H' nx2=>v'=undefV∧nx2=nx∧∃ w',(Instr.entryStore t (.map (some p.blk)) (.int k (.ofNat b)) X).run P w=.ok () w'∧WR w0 E H' nx w'∧Keep E E H H' nx
    |.fail _=>True
    |_=>False) hv (fun m=>trivial) es es'.toList h2 fun l2 l' j e2 hj he hl hr=>?_
   simp only[setHR_eq]
   refine⟨trivial,trivial,_,?_,map_turn h hp ho hr,WR.noTouch hp⟩
   rw[arr_modify (g:=fun e=>{ e with val:=X }) he hl]
   have hj':es'.findIdx? (fun e=>(e.born:Int)==(b:Int))=some j:=by
    have:=hj
    rw[← List.findIdx?_toArray] at this
    simpa using this
   simp[Instr.entryStore,run_getMap h1,asInt,asIntOf,hj',run_setMap h1]
 |_=>trivial
end
theorem run_next_map {P:Program}{w:World}{rb mb since last clock:Nat}{seen:Array Nat}{es:Array MapEntry}{ty:TypeId}(hit:w.heap[rb]? = some (.mapIter (some mb) since seen last))(hmap:w.heap[mb]? = some (.map es clock))
  (hborn:∀ e∈es,e.born<since)(hl:since≤last) :
  ((∀ e∈es,e.born∈seen)∧∃ d,(Instr.next (.pointer (some ⟨rb,0,none⟩)) false ty).run P w=.ok (.tuple #[.bool false]) { w with drawn:=d })∨
  (∃ e d,e∈es∧e.born∉seen∧(Instr.next (.pointer (some ⟨rb,0,none⟩)) false ty).run P w=.ok (.tuple #[.bool true,e.key,e.val]) { w with heap:=w.heap.setIfInBounds rb (.mapIter (some mb) since (seen.push e.born) clock),drawn:=d }):=by
 have hg:(getObj rb).run P w=.ok (.mapIter (some mb) since seen last) w:=by simp only[getObj,Sem.run,hit]
 have hm:(getObj mb).run P w=.ok (.map es clock) w:=by simp only[getObj,Sem.run,hmap]
 have hc:(!seen.isEmpty && !es.isEmpty&&es.all (fun e=>decide (e.born ≥ last)))=false:=by
  cases he:es.isEmpty with
  |true=>simp
  |false=>
   have:es.all (fun e=>decide (e.born ≥ last))=false:=by
    rw[Bool.eq_false_iff]
    intro h
    rw[Array.all_eq_true] at h
    have hpos:0<es.size:=by
     rcases Nat.eq_zero_or_pos es.size with h0|h0
     ·rw[Array.isEmpty_eq_false_iff] at he;exact absurd (Array.eq_empty_of_size_eq_zero h0) he
     ·exact h0
    have h1:=h 0 hpos
    have h2:=hborn es[0] (Array.getElem_mem hpos)
    simp at h1
    omega
   rw[this];simp
 have hnew:(es.filter fun e=>!seen.contains e.born).filter (fun e=>decide (e.born ≥ since))=#[]:=by
  rw[Array.filter_eq_empty_iff]
  intro e he
  have:=hborn e (Array.mem_filter.1 he).1
  simp;omega
 have hold:(es.filter fun e=>!seen.contains e.born).filter (fun e=>decide (e.born<since))=es.filter fun e=>!seen.contains e.born:=by
  rw[Array.filter_eq_self]
  intro e he
  have:=hborn e (Array.mem_filter.1 he).1
  simp;omega
 have hch:∀ n,0<n→∃ i d,(choose (.mapNext n)).run P w=.ok i { w with drawn:=d }∧i<n:=fun n hn=>by
  cases hf:Question.forced (.mapNext n) with
  |true=>exact⟨0,w.drawn,by simp[choose,Sem.run,hf],hn⟩
  |false=>exact⟨w.tape w.drawn (.mapNext n) % n,w.drawn+1,by simp[choose,Sem.run,hf,Question.cut],Nat.mod_lt _ hn⟩
 simp only[Instr.next,Sem.run_bind,hg,Result.andThen_ok,hm,hc,Bool.false_eq_true,if_false,hold,hnew,Array.append_empty]
 generalize hleft:es.filter (fun e=>!seen.contains e.born)=left
 cases he:left.isEmpty with
 |true=>
  have h0:left=#[]:=by simpa using he
  left
  refine⟨fun e hes=>?_,?_⟩
  ·have:=(Array.filter_eq_empty_iff.1 (hleft.trans h0)) e hes
   simpa using this
  ·obtain⟨i,d,h1,h2⟩:=hch 1 (by omega)
   have hi:i=0:=by omega
   subst hi h0
   refine⟨d,?_⟩
   have e1:((if true=true then #[none] else #[])++Array.map some (#[]:Array MapEntry))=(#[none]:Array (Option MapEntry)):=by simp
   rw[e1]
   have e2:(#[none]:Array (Option MapEntry)).size=1:=rfl
   rw[e2,h1]
   rfl
 |false=>
  right
  have hpos:0<left.size:=by
   rcases Nat.eq_zero_or_pos left.size with h0|h0
   ·rw[Array.isEmpty_eq_false_iff] at he;exact absurd (Array.eq_empty_of_size_eq_zero h0) he
   ·exact h0
  obtain⟨i,d,h1,h2⟩:=hch left.size hpos
  have hm2:∀ e,e∈left→e∈es∧e.born∉seen:=fun e he'=>by
   rw[← hleft] at he'
   have:=Array.mem_filter.1 he'
   simpa using this
  have hm3:=hm2 _ (Array.getElem_mem h2)
  refine⟨left[i],d,hm3.1,hm3.2,?_⟩
  have hrb:rb<w.heap.size:=(Array.getElem?_eq_some_iff.1 hit).1
  simp only[Bool.false_eq_true,if_false,Array.empty_append,Array.size_map,h1,Result.andThen_ok]
  have hget:(Array.map some left)[i]? = some (some left[i]):=by simp[h2]
  rw[hget]
  simp only[Sem.run_bind]
  have hset:(setObj rb (.mapIter (some mb) since (seen.push left[i].born) clock)).run P { w with drawn:=d }=.ok () { w with heap:=w.heap.setIfInBounds rb (.mapIter (some mb) since (seen.push left[i].born) clock),drawn:=d }:=by
   simp only[setObj,Sem.run,hit]
  rw[hset]
  rfl
theorem run_next_done {P:Program}{w:World}{rb mb since clock:Nat}{seen:Array Nat}{e:MapEntry}{ty:TypeId}(hit:w.heap[rb]? = some (.mapIter (some mb) since seen clock))(hmap:w.heap[mb]? = some (.map #[e] clock))(hs:e.born∈seen)(hb:e.born<clock) :
  ∃ d,(Instr.next (.pointer (some ⟨rb,0,none⟩)) false ty).run P w=.ok (.tuple #[.bool false]) { w with drawn:=d }:=by
 have hg:(getObj rb).run P w=.ok (.mapIter (some mb) since seen clock) w:=by simp only[getObj,Sem.run,hit]
 have hm:(getObj mb).run P w=.ok (.map #[e] clock) w:=by simp only[getObj,Sem.run,hmap]
 have hc:(!seen.isEmpty && !(#[e]:Array MapEntry).isEmpty&&(#[e]:Array MapEntry).all (fun e=>decide (e.born ≥ clock)))=false:=by
  have:(#[e]:Array MapEntry).all (fun e=>decide (e.born ≥ clock))=false:=by simp;omega
  rw[this];simp
 have hleft:(#[e]:Array MapEntry).filter (fun e=>!seen.contains e.born)=#[]:=by
  rw[Array.filter_eq_empty_iff]
  intro x hx
  have:x=e:=by simpa using hx
  subst this
  simpa using hs
 have hch:∃ d,(choose (.mapNext 1)).run P w=.ok 0 { w with drawn:=d }:=by
  cases hf:Question.forced (.mapNext 1) with
  |true=>exact⟨w.drawn,by simp[choose,Sem.run,hf]⟩
  |false=>exact⟨w.drawn+1,by
    have:w.tape w.drawn (.mapNext 1) % 1=0:=Nat.mod_one _
    simp[choose,Sem.run,hf,Question.cut,this]⟩
 obtain⟨d,h1⟩:=hch
 refine⟨d,?_⟩
 simp only[Instr.next,Sem.run_bind,hg,Result.andThen_ok,hm,hc,Bool.false_eq_true,if_false,hleft]
 have e1:((if (Array.filter (fun e=>decide (e.born<since)) (#[]:Array MapEntry)).isEmpty=true then #[none] else #[])++Array.map some (Array.filter (fun e=>decide (e.born<since)) (#[]:Array MapEntry)++Array.filter (fun e=>decide (e.born ≥ since)) (#[]:Array MapEntry)))=(#[none]:Array (Option MapEntry)):=by simp
 rw[e1]
 have e2:(#[none]:Array (Option MapEntry)).size=1:=rfl
 rw[e2,h1]
 rfl
section
variable {P:Program}{w0:Bs}{E:Env}{H:T AObj}{nx:Nat}{w:World}
theorem xNextM_ok (h:WR w0 E H nx w){ty:TypeId}{x:V}{X:Value}(hx:VR E x X):VG w0 E H nx w ((Instr.next X false ty).run P w) (xNextM x H nx):=by
 cases hx<;>simp only[xNextM]<;>try trivial
 rename_i r off p hp
 cases off with
 |succ _=>trivial
 |zero=>
  simp only
  cases ho:getH H r with
  |mit0 m since=>
   have hobj:=h.objs r p hp
   rw[ho] at hobj
   obtain⟨q,h1,h2,hbase⟩:=hobj
   have hlt:p.blk<w.heap.size:=(h.own r p hp).1
   simp only
   cases hm:getH H m with
   |map es c'=>
    cases es with
    |nil=>trivial
    |cons a rr=>
     cases rr with
     |cons _ _=>trivial
     |nil=>
      obtain⟨k,v,b⟩:=a
      have hob2:=h.objs m q h1
      rw[hm] at hob2
      obtain⟨es',h4,h5⟩:=hob2
      simp only
      cases hcc:(Nat.beq c' since&&Nat.ble (Nat.succ b) since) with
      |false=>trivial
      |true=>
       simp only[Bool.and_eq_true] at hcc
       obtain rfl:=Nat.eq_of_beq_eq_true hcc.1
       have hbs:b<c':=Nat.le_of_ble_eq_true hcc.2
       obtain⟨e,he,hk,hv,hb⟩:∃ e,es'.toList=[e]∧VR E k e.key∧VR E v e.val∧e.born=b:=by
        cases hl:es'.toList with
        |nil=>rw[hl] at h5;exact h5.elim
        |cons e r2=>
         rw[hl] at h5
         obtain⟨g1,g2,g3,g4⟩:=h5
         cases r2 with
         |nil=>exact⟨e,rfl,g1,g2,g3⟩
         |cons _ _=>exact g4.elim
       simp only[cond_true,setHR_eq]
       obtain⟨d,hrun⟩:∃ d,(Instr.next (.pointer (some ⟨p.blk,0,none⟩)) false ty).run P w=.ok (.tuple #[.bool true,e.key,e.val]) { w with heap:=w.heap.setIfInBounds p.blk (.mapIter (some q.blk) c' ((#[]:Array Nat).push e.born) c'),drawn:=d }:=by
        rcases run_next_map (P:=P) (ty:=ty) h2 h4 (fun x hx=>by
         have:x∈es'.toList:=by simpa using hx
         rw[he] at this
         have:x=e:=by simpa using this
         rw[this,hb];exact hbs) (Nat.le_refl _) with⟨g,_⟩|⟨x,d,g1,_,g3⟩
        ·have:=g e (by
          have:e∈es'.toList:=by rw[he];exact .head _
          simpa using this)
         simp at this
        ·have:x∈es'.toList:=by simpa using g1
         rw[he] at this
         obtain rfl:x=e:=by simpa using this
         exact⟨d,g3⟩
       refine⟨.tuple #[.bool true,e.key,e.val],_,E,(by rw[hbase];exact hrun),Env.le.refl E,.tup _ [.bool true,e.key,e.val] (.cons _ _ _ _ (.bool _) (.cons _ _ _ _ hk (.cons _ _ _ _ hv .nil))),?_,Nat.le_refl _,?_⟩
       ·refine h.upd r p hp _ (by rw[ho];intro hh;cases hh) (by rw[ho];rfl) (by rw[ho];rfl) (by rw[ho];rfl) (by rw[ho];rfl) rfl _ (.mapIter (some q.blk) c' ((#[]:Array Nat).push e.born) c') (by simp) ?_ ?_ rfl rfl rfl ⟨q,c',_,h1,rfl,by simp[hb],hbase⟩
        ·intro j hj;show (w.heap.setIfInBounds p.blk _)[j]? = _;simp[Ne.symm hj]
        ·show (w.heap.setIfInBounds p.blk _)[p.blk]? = _;simp[hlt]
       ·exact WR.noTouch hp
   |_=>trivial
  |mit m b c=>
   have hobj:=h.objs r p hp
   rw[ho] at hobj
   obtain⟨q,since,seen,h1,h2,h3,hbase⟩:=hobj
   simp only
   cases hm:getH H m with
   |map es c'=>
    cases es with
    |nil=>trivial
    |cons a rr=>
     cases rr with
     |cons _ _=>trivial
     |nil=>
      obtain⟨k,v,b'⟩:=a
      have hob2:=h.objs m q h1
      rw[hm] at hob2
      obtain⟨es',h4,h5⟩:=hob2
      simp only
      cases hcc:(Nat.beq c c'&&Nat.beq b b'&&Nat.ble (Nat.succ b) c) with
      |false=>trivial
      |true=>
       simp only[Bool.and_eq_true] at hcc
       obtain rfl:=Nat.eq_of_beq_eq_true hcc.1.1
       obtain rfl:=Nat.eq_of_beq_eq_true hcc.1.2
       have hbs:b<c:=Nat.le_of_ble_eq_true hcc.2
       obtain⟨e,he,hb⟩:∃ e,es'=#[e]∧e.born=b:=by
        cases hl:es'.toList with
        |nil=>rw[hl] at h5;exact h5.elim
        |cons e r2=>
         rw[hl] at h5
         obtain⟨g1,g2,g3,g4⟩:=h5
         cases r2 with
         |nil=>exact⟨e,Array.ext' hl,g3⟩
         |cons _ _=>exact g4.elim
       subst he
       obtain⟨d,hrun⟩:=run_next_done (P:=P) (ty:=ty) h2 h4 (by rw[hb];exact Array.mem_of_back? h3) (by omega)
       exact⟨.tuple #[.bool false],_,E,(by rw[hbase];exact hrun),Env.le.refl E,.tup _ [.bool false] (.cons _ _ _ _ (.bool _) .nil),h.draw d,Nat.le_refl _,Keep.refl _ _ _⟩
   |_=>trivial
  |_=>trivial
end
end Go.Exo

namespace Go.Exo
set_option linter.unusedSectionVars false
variable [Sx] [Dc]
section
variable {P:Program}{w0:Bs}{E:Env}{H:T AObj}{nx:Nat}{w:World}
theorem Good.unit {s:Sem Unit}{r:Res}(h:match r with
  |.valH v' H' nx2=>v'=undefV∧nx2=nx∧∃ w',s.run P w=.ok () w'∧WR w0 E H' nx w'∧Keep E E H H' nx
  |.fail _=>True
  |_=>False):Good P w0 E H nx w ((do s;pure .skip:Sem Next).run P w) r:=by
 cases r with
 |valH v' H' nx2=>
  obtain⟨rfl,rfl,w',h1,h2,h3⟩:=h
  refine⟨.skip,undef,w',E,?_,rfl,Env.le.refl E,VR.undef E,h2,Nat.le_refl _,h3⟩
  rw[Sem.run_bind,h1];rfl
 |fail _=>trivial
 |_=>exact h.elim
theorem aggD_run {t:TypeId}{d:TypeDesc}(h:undT P t=some d)(w:World):(isAgg t).run P w=.ok (aggD d) w:=by
 have e:isAggT P t=aggD d:=by unfold isAggT;rw[h]
 cases hd:aggD d with
 |true=>exact isAggT_true P (by rw[e,hd]) w
 |false=>exact isAggT_false P h (by rw[e,hd]) w
theorem evL_rel {tm:T V}{ev:Operand→Value}{l:List Operand}(h:∀ x∈l,VR E ((compO x).ev tm) (ev x)):VRs E (evL tm (l.map compO)) (l.map ev):=by
 induction l with
 |nil=>exact .nil
 |cons a r ih=>exact .cons _ _ _ _ (h a (by simp)) (ih fun x hx=>h x (by simp[hx]))
theorem evO_rel {tm:T V}{ev:Operand→Value}{x:Option Operand}(h:∀ y,x=some y→VR E ((compO y).ev tm) (ev y)):OVR E (evO tm (x.map compO)) (x.map ev):=by
 cases x with
 |none=>exact⟨fun v hv=>by simp[evO] at hv,fun _=>rfl⟩
 |some y=>exact⟨fun v hv=>⟨ev y,rfl,by simp only[evO,Option.map_some,Option.some.injEq] at hv;subst hv;exact h y rfl⟩,fun hv=>by simp[evO] at hv⟩
theorem fnOf_some {f:Nat}{a:AFn}(h:fnOf P f=some a):∃ fn c,P.funcs[f]? = some fn∧fn.body=some c∧(fn.name == "runtime.NumGoroutine")=false∧
  a={ ntmps:=fn.ntmps,body:=c,results:=fn.results.toList,sizes:=fn.results.toList.map fun|.tmp _=>none|.cell _ t=>if isAggT P t then some (sizeT P t) else none }:=by
 unfold fnOf at h
 cases hf:funcT P f with
 |none=>rw[hf] at h;cases h
 |some fn=>
  rw[hf] at h;simp only at h
  cases hb:fn.body with
  |none=>rw[hb] at h;cases h
  |some c=>
   rw[hb] at h;simp only at h
   cases hn:(fn.name == "runtime.NumGoroutine") with
   |true=>rw[hn] at h;cases h
   |false=>
    rw[hn] at h
    cases hr:resOk P fn.results.toList with
    |false=>rw[hr] at h;cases h
    |true=>rw[hr] at h;cases h;exact⟨fn,c,funcT_eq P hf,hb,hn,rfl⟩
theorem fnOf_resOk {f:Nat}{a:AFn}(h:fnOf P f=some a):resOk P a.results=true:=by
 unfold fnOf at h
 cases hf:funcT P f with
 |none=>rw[hf] at h;cases h
 |some fn=>
  rw[hf] at h;simp only at h
  cases hb:fn.body with
  |none=>rw[hb] at h;cases h
  |some c=>
   rw[hb] at h;simp only at h
   cases hn:(fn.name == "runtime.NumGoroutine") with
   |true=>rw[hn] at h;cases h
   |false=>
    rw[hn] at h
    cases hr:resOk P fn.results.toList with
    |false=>rw[hr] at h;cases h
    |true=>rw[hr] at h;cases h;exact hr
theorem run_callFunc_enter {f:Nat}{a:AFn}(h:fnOf P f=some a)(args:Array Value)(w:World):(callFunc f args).run P w=.ok (.enter f args) w:=by
 obtain⟨fn,c,h1,h2,h3,_⟩:=fnOf_some h
 have h4:fn.name ≠ "runtime.NumGoroutine" := by simpa using h3
 simp[callFunc,h1,h2,h4]
theorem xCall_ok {f:V}{F:Value}(hf:VR E f F){args:List V}{xs:List Value}(ha:VRs E args xs) :
  Good P w0 E H nx w ((do let d ← Deferred.ofValue F xs.toArray;invoke d.target d.args:Sem Next).run P w) (xCall f args):=by
 cases hf<;>simp only[xCall]<;>try trivial
 rename_i fn fn' first captured fs cs hfn h1 h2
 cases fn<;>simp only<;>try trivial
 case func g=>
  simp only[FnR] at hfn
  subst hfn
  intro a hfo
  refine⟨fs++(xs++cs),?_,h1.append (ha.append h2)⟩
  have:=run_callFunc_enter hfo (fs.toArray++xs.toArray++cs.toArray) w
  simp only[Deferred.ofValue,Sem.run_bind,Sem.run_pure,Result.andThen_ok,invoke]
  rw[this]
  simp
 case yield l=>
  obtain⟨p,hp,rfl⟩:=hfn
  refine⟨p,fs++xs,hp,?_,h1.append ha⟩
  simp[Deferred.ofValue,invoke]
theorem xDefer_ok {f:V}{F:Value}(hf:VR E f F){args:List V}{xs:List Value}(ha:VRs E args xs) :
  Good P w0 E H nx w ((do pure (.defer (← Deferred.ofValue F xs.toArray)):Sem Next).run P w) (xDefer f args):=by
 cases hf<;>simp only[xDefer]<;>try trivial
 rename_i fn fn' first captured fs cs hfn h1 h2
 exact⟨_,rfl,fn',cs,fs++xs,hfn,h2,h1.append ha,by simp⟩
theorem xPanic_ok {x:V}{X:Value}(hx:VR E x X):VG w0 E H nx w ((Instr.panic X).run P w) (xPanic x):=by
 cases hx<;>simp only[xPanic]<;>try trivial
 rename_i t v x hx
 exact⟨_,rfl,.iface _ _ _ hx⟩
theorem findNextIB (fn:Func)(hn:fn.name = "internal/bytealg.IndexByteString")(ho:fn.origin = "" ∨ fn.origin = "internal/bytealg.IndexByteString"):Extern.findNext fn=none:=by
 rcases ho with ho|ho <;>
 ·unfold Extern.findNext
  simp only[hn,ho]
  rfl
theorem findIB (fn:Func)(hn:fn.name = "internal/bytealg.IndexByteString"):Extern.find fn=some Extern.BytealgIndexByte.indexByte:=by
 unfold Extern.find
 simp only[hn]
 rfl
theorem xExtIB_ok {f:FuncId}{fn:Func}(hf:P.funcs[f]? = some fn)(hb:fn.body=none)(hn:fn.name = "internal/bytealg.IndexByteString")(ho:fn.origin = "" ∨ fn.origin = "internal/bytealg.IndexByteString")
  {x y:V}{X Y:Value}(hx:VR E x X)(hy:VR E y Y):Good P w0 E H nx w ((callFunc f #[X,Y]).run P w) (xExtIB x y):=by
 have hrun:=fun args=>run_callFunc_extern (P:=P) hf (by rw[hn];rfl) (by rw[hb];rfl) (findNextIB fn hn ho) (findIB fn hn) args w
 rw[hrun]
 cases hx<;>simp only[xExtIB]<;>try trivial
 rename_i l n s h1 h2
 cases hy<;>try trivial
 rename_i k b
 cases k<;>try trivial
 cases b with
 |negSucc m=>trivial
 |ofNat b=>
  simp only
  cases hb2:Nat.ble (Nat.succ b) 256 with
  |false=>trivial
  |true=>
   have hlt:b<256:=Nat.le_of_ble_eq_true hb2
   simp only[cond_true]
   have hv:=findB_ok (E:=E) s l n b h1 hlt l 0 (by omega)
   have hsz:=size_sB h1
   refine⟨.value (.int .i64 (firstIdx s (b:Int).toNat.toUInt8)),_,?_,rfl,?_⟩
   ·have:=run_indexByte_string (P:=P) s (b:Int) w
    have e:(Int.ofNat b)=(b:Int):=rfl
    rw[e,this];rfl
   ·have e:(match (List.range' 0 l).find? (fun j=>s[j]! == UInt8.ofNat b) with|some j=>goInt j|none=>goInt (-1))=.int .i64 (firstIdx s (b:Int).toNat.toUInt8):=by
     unfold firstIdx
     rw[hsz,List.range_eq_range']
     have e2:((b:Int).toNat.toUInt8)=UInt8.ofNat b:=rfl
     rw[e2]
     cases (List.range' 0 l).find? (fun j=>s[j]! == UInt8.ofNat b)<;>rfl
    rw[← e];exact hv
end
end Go.Exo
