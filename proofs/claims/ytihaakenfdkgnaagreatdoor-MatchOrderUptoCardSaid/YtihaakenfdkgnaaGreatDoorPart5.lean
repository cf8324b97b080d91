/-
  EXO, part N1b: keys and structs that are compared cell by cell. Own text.
-/
import Derived.Test.YtihaakenfdkgnaaGreatDoorPart4
import Derived.Laws.Append
import Derived.Laws.AppendOwn
set_option linter.all false
noncomputable section
namespace Go.Exo
variable [Sx] [Dc]
section
variable {P:Program}{w0:Bs}{E:Env}{H:T AObj}{nx:Nat}{w:World}
theorem ba_beq {s s':ByteArray}{l n l' n':Nat}(h:s.data.toList=sB l n)(hn:n<256 ^ l)(h':s'.data.toList=sB l' n')(hn':n'<256 ^ l'):(s==s')=(Nat.beq l l'&&Nat.beq n n'):=by
 rw[<- str_eq h hn h' hn',toL,toL];show (s.data==s'.data)=_;rw[Bool.eq_iff_iff,beq_iff_eq,beq_iff_eq];exact⟨fun e=>by rw[e],Array.toList_inj.1⟩
theorem yy {s s':ByteArray}(h:(s==s')=true):(s'==s)=true:=by
 have h1:(s.data==s'.data)=true:=h;show (s'.data==s.data)=true;rw[beq_iff_eq] at h1 ⊢;exact h1.symm
theorem jr {f:Field}{r:List Field}{i:Nat}{l:List TypeDesc}(h:gh P (f::r) i=some l):f.offset=i/\f.name ≠ "_" /\ ∃ d l',undT P f.type=some d/\rA d=true/\gh P r (i+1)=some l'/\l=d::l':=by
 simp only[gh] at h;cases hb:(Nat.beq f.offset i&&f.name != "_") with
 |false=>rw[hb] at h;cases h
 |true=>
  rw[hb] at h;simp only[Bool.and_eq_true,bne_iff_ne,ne_eq] at hb;refine⟨aa hb.1,hb.2,?_⟩;simp only[cond_true] at h;cases hu:undT P f.type with
  |none=>rw[hu] at h;cases h
  |some d=>
   cases hr:gh P r (Nat.succ i) with
   |none=>rw[hu,hr] at h;cases h
   |some l'=>
    rw[hu,hr] at h;simp only at h;cases hd:rA d with
    |false=>rw[hd] at h;cases h
    |true=>rw[hd] at h;simp only[cond_true,Option.some.injEq] at h;exact⟨d,l',rfl,hd,rfl,h.symm⟩
theorem js {t:TypeId}{fs:Array Field}{l:List TypeDesc}(h:iQ P t fs=some l):gh P fs.toList 0=some l/\P.stoodInHeld t=false:=by
 unfold iQ at h;cases hf:gh P fs.toList 0 with
 |none=>rw[hf] at h;cases h
 |some l'=>
  rw[hf] at h;simp only at h;cases hs:P.stoodInHeld t with
  |true=>rw[hs] at h;cases h
  |false=>rw[hs] at h;simp only[cond_false,Option.some.injEq] at h;subst h;exact⟨rfl,rfl⟩
theorem qb {d:TypeDesc}{ds:List TypeDesc}{vs:List V}(h:fitL (d::ds) vs=true):∃ v r,vs=v::r/\pS d v=true/\fitL ds r=true:=by
 cases vs with
 |nil=>cases h
 |cons v r=>
  simp only[fitL] at h;cases hk:pS d v with
  |false=>rw[hk] at h;cases h
  |true=>rw[hk] at h;exact⟨v,r,rfl,hk,h⟩
theorem fitL_nil {vs:List V}(h:fitL [] vs=true):vs=[]:=by
 cases vs with
 |nil=>rfl
 |cons _ _=>cases h
theorem j8 {t:TypeId}{d:TypeDesc}(hu:undT P t=some d)(hb:rA d=true)(w:World):(isAgg t).run P w=.ok false w:=by
 refine j6 P hu ?_ w;unfold dg;rw[hu];cases d<;>first|rfl|cases hb
theorem lq {t:TypeId}{cs:Array Value}{i:Nat}{x:Value}(ha:∀ w,(isAgg t).run P w=.ok false w)(hx:cs[i]? = some x):(part t cs i).run P w=.ok x w:=by
 simp[part,ha,hx]
theorem cell_eq {t:TypeId}{d:TypeDesc}{n:Nat}(hu:undT P t=some d){x y:V}{X Y:Value}(hx:VR E x X)(hy:VR E y Y)(hk:pS d x=true) :
  (∀ r s,bW (x::r) (y::s)=none)\/∃ b,(∀ w,(Op.equalIn (n+1) t X Y).run P w=.ok b w)/\(b=true->∀ m,Instr.sameBits m Y X=true)/\∀ r s,bW (x::r) (y::s)=cond b (bW r s) (some false):=by
 have ht:=av P hu;cases hx<;>cases d<;>(try (cases hk;done))<;>cases hy<;>(try (exact .inl fun _ _=>rfl))
 case bool.bool.bool a c=>
  refine .inr ⟨a==c,fun w=>by simp[Op.equalIn,run_underlying ht],fun e m=>?_,fun r s=>by simp only[bW]⟩;simp at e;subst e;cases m<;>simp[Instr.sameBits]
 case int.int.int k a k0 k' c=>
  by_cases hkk:k=k'
  ·subst hkk
   refine .inr ⟨a==c,fun w=>by simp[Op.equalIn,run_underlying ht],fun e m=>?_,fun r s=>by simp only[bW];rw[(fx k k).2 rfl,gE];rfl⟩;simp at e;subst e;cases m<;>simp[Instr.sameBits]
  ·refine .inl fun r s=>?_
   simp only[bW];cases hb:Nat.beq (kNum k) (kNum k') with
   |true=>exact absurd ((fx k k').1 hb) hkk
   |false=>rfl
 case str.string.str l n s h1 h2 l' n' s' h3 h4=>
  refine .inr ⟨s==s',fun w=>by simp[Op.equalIn,run_underlying ht],fun e m=>?_,fun r s=>by simp only[bW];rw[ba_beq h1 h2 h3 h4]⟩;have:=yy e;cases m<;>simp only[Instr.sameBits]<;>exact this
theorem qc {n:Nat}{xs ys:Array Value}{g:Field->Option Bool×Unit->Sem (ForInStep (Option Bool×Unit))}
  (hg:∀ f s,f.name ≠ "_" -> g f s=(do
   let a <- part f.type xs f.offset
   let b <- part f.type ys f.offset
   let e <- Op.equalIn (n+1) f.type a b
   if (!e)=true then pure (ForInStep.done (some false,())) else pure (ForInStep.yield (none,())))) :
  ∀ (l:List Field)(i:Nat)(ks:List TypeDesc)(a b:List V),gh P l i=some ks->fitL ks a=true->
   (∀ j v,a[j]? = some v->∃ x,xs[i+j]? = some x/\VR E v x)->(∀ j v,b[j]? = some v->∃ x,ys[i+j]? = some x/\VR E v x)->∀ t,bW a b=some t->
   (∀ w,(forIn l (none,()) g).run P w=.ok (cond t none (some false),()) w)/\(t=true->∀ j,j<a.length->∃ x y,xs[i+j]? = some x/\ys[i+j]? = some y/\∀ m,Instr.sameBits m y x=true)
 |[],i,ks,a,b,hf,ha,_,_,t,h=>by
  simp only[gh,Option.some.injEq] at hf;subst hf;obtain rfl:=fitL_nil ha;cases b with
  |cons _ _=>cases h
  |nil=>
  simp only[bW,Option.some.injEq] at h;subst h;exact⟨fun w=>by simp,fun _ j hj=>by simp at hj⟩
 |f::l,i,ks,a,b,hf,ha,hxa,hyb,t,h=>by
  obtain⟨ho,hn,d,ks',hu,hd,hf',rfl⟩:=jr hf;obtain⟨x,a,rfl,hkx,ha⟩:=qb ha;cases b with
  |nil=>cases x<;>cases h
  |cons y b=>
  obtain⟨X,hX,hvx⟩:=hxa 0 x rfl;obtain⟨Y,hY,hvy⟩:=hyb 0 y rfl;rw[Nat.add_zero] at hX hY;rcases cell_eq (n:=n) hu hvx hvy hkx with hc|⟨e,he,hs,hc⟩
  ·rw[hc] at h;cases h
  ·rw[hc] at h
   have hna:=j8 hu hd
   have hstep:∀ w s,(g f s).run P w=.ok (if (!e)=true then ForInStep.done (some false,()) else ForInStep.yield (none,())) w:=by
    intro w s;rw[hg f s hn,ho];simp only[Sem.run_bind,lq hna hX,lq hna hY,he,Result.andThen_ok];cases e<;>rfl
   cases e with
   |false=>
    simp only[cond_false,Option.some.injEq] at h;subst h;refine⟨fun w=>?_,fun e=>by cases e⟩;simp only[List.forIn_cons,Sem.run_bind,hstep,Result.andThen_ok];rfl
   |true=>
    simp only[cond_true] at h;obtain⟨h1,h2⟩:=qc hg l (i+1) ks' a b hf' ha (fun j v hv=>by have:=hxa (j+1) v hv;rwa [show i+1+j=i+(j+1) by omega]) (fun j v hv=>by have:=hyb (j+1) v hv;rwa [show i+1+j=i+(j+1) by omega]) t h;refine⟨fun w=>?_,fun ht j hj=>?_⟩
    ·simp only[List.forIn_cons,Sem.run_bind,hstep,Result.andThen_ok]
     exact h1 w
    ·cases j with
     |zero=>exact⟨X,Y,hX,hY,hs rfl⟩
     |succ j=>have:=h2 ht j (by simpa using hj);rwa [show i+1+j=i+(j+1) by omega] at this
theorem wV {x y:V}{a b:List V}(h:bW (x::a) (y::b)=some true):bW a b=some true:=by
 unfold bW at h;split at h
 ·rename_i e _;cases e
 ·rename_i e1 e2
  cases e1;cases e2;rename_i k m k' m';cases h1:Nat.beq (kNum k) (kNum k') with
  |false=>rw[h1] at h;cases h
  |true=>
   rw[h1] at h;cases h2:eqF m m' with
   |false=>rw[h2] at h;cases h
   |true=>rw[h2] at h;exact h
 ·rename_i e1 e2
  cases e1;cases e2;rename_i l n l' n';cases h1:(Nat.beq l l'&&Nat.beq n n') with
  |false=>rw[h1] at h;cases h
  |true=>rw[h1] at h;exact h
 ·rename_i e1 e2
  cases e1;cases e2;rename_i s t;cases h1:(s==t) with
  |false=>rw[h1] at h;cases h
  |true=>rw[h1] at h;exact h
 ·cases h
theorem VRs.arr {vs:List V}{xs:List Value}(h:VRs E vs xs):∀ j v,vs[j]? = some v->∃ x,xs.toArray[0+j]? = some x/\VR E v x:=by
 intro j v hv;obtain⟨x,h1,h2⟩:=h.get j v hv;exact⟨x,by simpa using h1,h2⟩
theorem nO {t:TypeId}{fs:Array Field}{ks:List TypeDesc}(ht:P.underlying t=some (.struct fs))(hf:iQ P t fs=some ks){a b:List V}{xs ys:List Value}(ha:VRs E a xs)(hb:VRs E b ys)
  (hka:fitL ks a=true){r:Bool}(h:bW a b=some r) :
  (∀ w,(Op.equal t (.agg xs.toArray) (.agg ys.toArray)).run P w=.ok r w)/\(r=true->∀ m,Instr.sameBits (m+1) (.agg ys.toArray) (.agg xs.toArray)=true):=by
 obtain⟨h1,h2⟩:=js hf;have e:∃ n,Op.equal t (.agg xs.toArray) (.agg ys.toArray)=Op.equalIn (n+2) t (.agg xs.toArray) (.agg ys.toArray):=⟨9998,rfl⟩
 obtain⟨n,e⟩:=e
 have key:=qc (P:=P) (E:=E) (n:=n) (xs:=xs.toArray) (ys:=ys.toArray) (g:=fun f _=>if f.name ≠ "_" then (do
   let a <- part f.type xs.toArray f.offset
   let b <- part f.type ys.toArray f.offset
   let e <- Op.equalIn (n+1) f.type a b
   if (!e)=true then pure (ForInStep.done (some false,())) else pure (ForInStep.yield (none,()))) else pure (ForInStep.yield (none,()))) (fun f s hn=>by rw[if_pos hn])
   fs.toList 0 ks a b h1 hka ha.arr hb.arr r h
 constructor
 ·intro w
  rw[e];rw[Op.equalIn];simp only[Sem.run_bind,run_underlying ht,Result.andThen_ok];have hp:(program:Sem Program).run P w=.ok P w:=rfl;simp only[hp,Result.andThen_ok,h2,Bool.false_eq_true,if_false,Sem.run_bind];rw[<- Array.forIn_toList];have:=key.1 w;rw[this];cases r<;>rfl
 ·intro hr m
  have hl:xs.length=ys.length:=by
   have e1:=ha.length;have e2:=hb.length
   have:∀ (a b:List V),bW a b=some true->a.length=b.length:=by
    intro a;induction a with
    |nil=>intro b h;cases b with|nil=>rfl|cons _ _=>cases h
    |cons x a ih=>
     intro b h;cases b with
     |nil=>cases x<;>cases h
     |cons y b=>
      have:bW a b=some true:=wV h;simp[ih b this]
   have:=this a b (hr ▸ h);omega
  simp only[Instr.sameBits,Bool.and_eq_true,beq_iff_eq,List.all_eq_true,List.size_toArray];refine⟨hl.symm,fun z hz=>?_⟩;obtain⟨j,hj,hzj⟩:=List.mem_iff_getElem.1 hz;simp only[List.length_zip] at hj;have e1:=ha.length;obtain⟨x,y,g1,g2,g3⟩:=key.2 hr j (by omega);rw[Nat.zero_add] at g1 g2;simp only[List.getElem_zip] at hzj;rw[<- hzj];have q1:ys[j]? = some y:=by simpa using g2
  have q2:xs[j]? = some x:=by simpa using g1
  have q3:ys[j]=y:=(ae.1 q1).2;have q4:xs[j]=x:=(ae.1 q2).2;simp only[q3,q4];exact g3 m
end
end Go.Exo
end

noncomputable section
namespace Go.Exo
variable [Sx] [Dc]
section
variable {P:Program}{w0:Bs}{E:Env}{H:T AObj}{nx:Nat}{w:World}
structure KD (P:Program)(kt:TypeId)(dk:TypeDesc)(ks:List TypeDesc):Prop where
 und:P.underlying kt=some dk
 key:keyD P kt dk=some ks
theorem KD.struct {kt:TypeId}{fs:Array Field}{ks:List TypeDesc}(h:KD P kt (.struct fs) ks):iQ P kt fs=some ks:=h.key
def sm (dk:TypeDesc)(X:Value):Prop:=(∃ k,dk=.int k/\∃ k' n,X=.int k' n)\/(dk=.string/\∃ s,X=.string s)\/(dk=.bool/\∃ b,X=.bool b)
theorem uB {dk:TypeDesc}{x:V}{X:Value}(hx:VR E x X)(h:pS dk x=true):sm dk X:=by
 cases hx<;>cases dk<;>first|(cases h;done)|exact .inl ⟨_,rfl,_,_,rfl⟩|exact .inr (.inl ⟨rfl,_,rfl⟩)|exact .inr (.inr ⟨rfl,_,rfl⟩)
theorem yz {dk:TypeDesc}{ks:List TypeDesc}{x:V}{X:Value}(hx:VR E x X)(h:keyK dk ks x=true):sm dk X\/∃ fs cs xs,dk=.struct fs/\x=.agg cs/\X=.agg xs.toArray/\VRs E cs xs/\fitL ks cs=true:=by
 unfold keyK at h;split at h
 ·rename_i fs cs
  cases hx with
  |agg _ xs h1=>exact .inr ⟨fs,cs,xs,rfl,rfl,rfl,h1,h⟩
 ·exact .inl (uB hx h)
theorem aX {kt:TypeId}{dk:TypeDesc}{ks:List TypeDesc}(hd:KD P kt dk ks){k:V}{K:Value}(hk:VR E k K)(hkk:keyK dk ks k=true)(b:Bool)(W:World):(Instr.checkKey b 10000 kt K).run P W=.ok () W:=by
 have e:∃ n,Instr.checkKey b 10000 kt K=Instr.checkKey b (n+2) kt K:=⟨9998,rfl⟩
 obtain⟨n,e⟩:=e;rw[e];rcases yz hk hkk with h|⟨fs,cs,xs,rfl,rfl,rfl,hxs,hfit⟩
 ·rcases h with⟨k,rfl,k',m,rfl⟩|⟨rfl,s,rfl⟩|⟨rfl,c,rfl⟩<;>simp[Instr.checkKey,run_underlying hd.und]
 ·obtain⟨h1,_⟩:=js hd.struct
  rw[Instr.checkKey];simp only[Sem.run_bind,run_underlying hd.und,Result.andThen_ok];rw[<- Array.forIn_toList]
  have key:∀ (g:Field->PUnit->Sem (ForInStep PUnit)),(∀ f s,f.name ≠ "_" -> g f s=(do
    let x <- part f.type xs.toArray f.offset
    Instr.checkKey b (n+1) f.type x
    pure (.yield PUnit.unit)))->∀ (l:List Field)(i:Nat)(ks:List TypeDesc)(a:List V),gh P l i=some ks->fitL ks a=true->
     (∀ j v,a[j]? = some v->∃ x,xs.toArray[i+j]? = some x/\VR E v x)->(forIn l PUnit.unit g).run P W=.ok PUnit.unit W:=by
   intro g hg l;induction l with
   |nil=>intro i ks a _ _ _;simp
   |cons f l ih=>
    intro i ks a hf ha hxa;obtain⟨ho,hn,d,ks',hu,hd,hf',rfl⟩:=jr hf;obtain⟨x,a,rfl,hkx,ha⟩:=qb ha;obtain⟨X,hX,hvx⟩:=hxa 0 x rfl;rw[Nat.add_zero] at hX
    have hc:(Instr.checkKey b (n+1) f.type X).run P W=.ok () W:=by
     rcases uB hvx hkx with⟨k,rfl,k',m,rfl⟩|⟨rfl,s,rfl⟩|⟨rfl,c,rfl⟩<;>simp[Instr.checkKey,run_underlying (av P hu)]
    simp only[List.forIn_cons,Sem.run_bind,hg f _ hn,ho,lq (j8 hu hd) hX,hc,Result.andThen_ok,Sem.run_pure];exact ih (i+1) ks' a hf' ha fun j v hv=>by have:=hxa (j+1) v hv;rwa [show i+1+j=i+(j+1) by omega]
  have:=key (fun f _=>if f.name ≠ "_" then (do
    let x <- part f.type xs.toArray f.offset
    Instr.checkKey b (n+1) f.type x
    pure (.yield PUnit.unit)) else pure (.yield PUnit.unit)) (fun f s hn=>by rw[if_pos hn]) fs.toList 0 ks cs h1 hfit hxs.arr
  rw[this];rfl
def SameR (P:Program)(kt:TypeId)(dk:TypeDesc)(K Y:Value)(b:Bool):Prop:=
 (Instr.sameNow dk K Y=some b\/((∃ fs,dk=.struct fs)/\∀ w,(Op.equal kt K Y).run P w=.ok b w))/\(b=true->Instr.sameBits 10000 Y K=true)
theorem pN {K:Value}{dk:TypeDesc}(h:sm dk K):∀ K',Instr.sameNow dk K K'=some true->Instr.sameBits 10000 K' K=true:=by
 intro K' hs;rcases h with⟨k,rfl,k',n,rfl⟩|⟨rfl,s,rfl⟩|⟨rfl,b,rfl⟩
 ·cases K'<;>simp only[Instr.sameNow] at hs<;>(try (cases hs;done))
  split at hs
  ·rename_i e;subst e;simp at hs;subst hs;simp[Instr.sameBits]
  ·cases hs
 ·cases K'<;>simp only[Instr.sameNow] at hs<;>(try (cases hs;done))
  simp only[Option.some.injEq] at hs;exact yy hs
 ·cases K'<;>simp only[Instr.sameNow] at hs<;>(try (cases hs;done))
  simp at hs;subst hs;simp[Instr.sameBits]
theorem j9 {kt:TypeId}{dk:TypeDesc}{ks:List TypeDesc}(hd:KD P kt dk ks){x y:V}{X Y:Value}(hx:VR E x X)(hy:VR E y Y){b:Bool}(h:gi x y=some b)(hkk:keyK dk ks x=true):SameR P kt dk X Y b:=by
 rcases yz hx hkk with hkind|⟨fs,cs,xs,rfl,rfl,rfl,hxs,hfit⟩
 ·have hs:Instr.sameNow dk X Y=some b:=by
   cases hx<;>cases hy<;>simp only[gi] at h<;>(try (cases h;done))
   case bool.bool a c=>
    simp only[Option.some.injEq] at h;subst h;rcases hkind with⟨k,_,k',n,e⟩|⟨_,s,e⟩|⟨rfl,_⟩<;>first|(cases e;done)|rfl
   case int.int k a k' c=>
    rcases hkind with⟨k0,rfl,_⟩|⟨_,s,e⟩|⟨_,b',e⟩<;>try (cases e;done)
    cases hk:Nat.beq (kNum k) (kNum k') with
    |false=>rw[hk] at h;cases h
    |true=>
     rw[hk] at h;obtain rfl:=(fx k k').1 hk;simp only[cond_true,Option.some.injEq] at h;subst h;simp[Instr.sameNow,gE]
   case str.str l n s h1 h2 l' n' s' h3 h4=>
    simp only[Option.some.injEq] at h;subst h;rcases hkind with⟨k,_,k',m,e⟩|⟨rfl,_⟩|⟨_,b',e⟩<;>try (cases e;done)
    show some (s==s')=_;rw[ba_beq h1 h2 h3 h4]
   case agg.agg=>rcases hkind with⟨_,_,_,_,e⟩|⟨_,_,e⟩|⟨_,_,e⟩<;>cases e
  exact⟨.inl hs,fun e=>pN hkind Y (e ▸ hs)⟩
 ·cases hy<;>simp only[gi] at h<;>(try (cases h;done))
  rename_i cs' ys hys;obtain⟨g1,g2⟩:=nO hd.und hd.struct hxs hys hfit h;exact⟨.inr ⟨⟨_,rfl⟩,g1⟩,fun e=>g2 e 9999⟩
inductive FindR (P:Program)(kt:TypeId)(dk:TypeDesc)(K:Value):List MapEntry->Nat->Option (Nat×Value)->Prop where
 |nil (i:Nat):FindR P kt dk K [] i none
 |hit (e:MapEntry)(es:List MapEntry)(i:Nat):SameR P kt dk K e.key true->FindR P kt dk K (e::es) i (some (i,e.val))
 |miss (e:MapEntry)(es:List MapEntry)(i:Nat)(r:Option (Nat×Value)):SameR P kt dk K e.key false->FindR P kt dk K es (i+1) r->FindR P kt dk K (e::es) i r
theorem aY {kt:TypeId}{dk:TypeDesc}(hu:P.underlying kt=some dk){K:Value}{es:List MapEntry}{r:Option (Nat×Value)}(h:FindR P kt dk K es 0 r)(w:World):(Instr.findKey kt K es).run P w=.ok r w:=by
 by_cases hs:∃ fs,dk=.struct fs
 ·obtain⟨fs,rfl⟩:=hs
  have hno:∀ X Y,Instr.sameNow (.struct fs) X Y=none:=fun X Y=>by cases X<;>cases Y<;>rfl
  have key:∀ {es:List MapEntry}{i:Nat} {r},FindR P kt (.struct fs) K es i r->(Instr.findAsking kt K es i).run P w=.ok r w:=by
   intro es i r h;induction h with
   |nil i=>simp[Instr.findAsking]
   |hit e es i h1=>
    rcases h1.1 with h2|⟨_,h2⟩
    ·rw[hno] at h2;cases h2
    ·simp[Instr.findAsking,h2]
   |miss e es i r h1 _ ih=>
    rcases h1.1 with h2|⟨_,h2⟩
    ·rw[hno] at h2;cases h2
    ·simp[Instr.findAsking,h2,ih]
  cases es with
  |nil=>cases h;simp[Instr.findKey,run_underlying hu,Instr.findNow]
  |cons e es=>
   have:Instr.findNow (.struct fs) K (e::es) 0=none:=by simp only[Instr.findNow,hno]
   simp[Instr.findKey,run_underlying hu,this,key h]
 ·have key:∀ {es:List MapEntry}{i:Nat} {r},FindR P kt dk K es i r->Instr.findNow dk K es i=some r:=by
   intro es i r h;induction h with
   |nil i=>rfl
   |hit e es i h1=>
    rcases h1.1 with h2|⟨h3,_⟩
    ·simp only[Instr.findNow,h2]
    ·exact absurd h3 hs
   |miss e es i r h1 _ ih=>
    rcases h1.1 with h2|⟨h3,_⟩
    ·simp only[Instr.findNow,h2];exact ih
    ·exact absurd h3 hs
  simp[Instr.findKey,run_underlying hu,key h]
theorem nP {kt:TypeId}{dk:TypeDesc}{ks:List TypeDesc}(hd:KD P kt dk ks){k:V}{K:Value}(hk:VR E k K)(hkk:keyK dk ks k=true){Q:Res->Prop}(hf:∀ m,Q (.fail m)){no:Res}{yes:V->Res} :
  ∀ (es:List (V×V×Nat))(es':List MapEntry)(i:Nat),ERs E es es'->(FindR P kt dk K es' i none->Q no)->
   (∀ v j X,FindR P kt dk K es' i (some (j,X))->VR E v X->Q (yes v))->Q (findK k no yes es)
 |[],[],i,_,h1,_=>h1 (.nil i)
 |[],_::_,_,h,_,_=>h.elim
 |(a,v,b)::r,[],_,h,_,_=>h.elim
 |(a,v,b)::r,e::es',i,⟨h1,h2,h3,h4⟩,hn,hy=>by
  simp only[findK];cases hq:gi k a with
  |none=>exact hf _
  |some t=>
   have hs:=j9 hd hk h1 hq hkk;cases t with
   |true=>exact hy v i e.val (.hit e es' i hs) h2
   |false=>
    refine nP hd hk hkk hf r es' (i+1) h4 (fun hh=>hn (.miss e es' i _ hs hh)) fun v j X hh=>hy v j X (.miss e es' i _ hs hh)
theorem WR.mapObj (h:WR w0 E H nx w){l:Nat}{p:Pl}(hl:E l=some p){es:List (V×V×Nat)}{clock:Nat}(ho:getH H l=.map es clock):∃ es':Array MapEntry,w.heap[p.blk]? = some (.map es' clock)/\ERs E es es'.toList:=by
 have:=h.objs l p hl;rw[ho] at this;exact this
theorem WR.mapObjR (h:WR w0 E H nx w){l:Nat}{p:Pl}(hl:E l=some p){es:List (V×V×Nat)}{clock:Nat}(ho:getH H l=.mapR es clock):∃ es':Array MapEntry,w.heap[p.blk]? = some (.map es' clock)/\ERs E es es'.toList:=by
 have:=h.objs l p hl;rw[ho] at this;exact this
theorem aO {r:Nat}{es:Array MapEntry}{clock:Nat}(h:w.heap[r]? = some (.map es clock)):(getObj r).run P w=.ok (.map es clock) w:=by
 simp only[getObj,Sem.run,h]
theorem wW (h:WR w0 E H nx w){t kt e:TypeId}{dk:TypeDesc}{ks:List TypeDesc}{i:TypeInfo}{z:V}{ok:Bool}(ht:P.underlying t=some (.map kt e))(hd:KD P kt dk ks)
  (hi:P.info? e=some i)(hz:aG i=some z){x k:V}{X K:Value}(hx:VR E x X)(hkv:VR E k K)(hkk:keyK dk ks k=true):VG w0 E H nx w ((Instr.lookup t X K ok).run P w) (cY z ok x k H):=by
 obtain⟨zx,hzx,hzv,hzr⟩:=bn (E:=E) hz
 have fin:∀ (v:V)(Y:Value)(b:Bool)(R:Result Value),VR E v Y->R=.ok (if ok then .tuple #[Y,.bool b] else Y) w->VG w0 E H nx w R (.val (cond ok (.tup [v,.bool b]) v)):=by
  intro v Y b R hv hR;refine⟨_,hR,?_⟩;cases ok with
  |true=>exact .tup _ [Y,.bool b] (.cons _ _ _ _ hv (.cons _ _ _ _ (.bool b) .nil))
  |false=>exact hv
 cases hx<;>simp only[cY]<;>try trivial
 case nilm=>
  refine fin z zx false _ hzv ?_;simp[Instr.lookup,run_underlying ht,aX hd hkv hkk,aY hd.und (.nil 0),aP hi hzx]
 case map l p hp=>
  cases ho:getH H l with
  |map es clock=>
   obtain⟨es',h1,h2⟩:=h.mapObj hp ho;simp only;refine nP hd hkv hkk (fun m=>trivial) es es'.toList 0 h2 (fun hn=>fin z zx false _ hzv ?_) fun v j Y hy hv=>fin v Y true _ hv ?_
   ·simp[Instr.lookup,run_underlying ht,aO h1,aX hd hkv hkk,aY hd.und hn,aP hi hzx]
   ·simp[Instr.lookup,run_underlying ht,aO h1,aX hd hkv hkk,aY hd.und hy]
  |mapR es clock=>
   obtain⟨es',h1,h2⟩:=h.mapObjR hp ho;simp only;refine nP hd hkv hkk (fun m=>trivial) es es'.toList 0 h2 (fun hn=>fin z zx false _ hzv ?_) fun v j Y hy hv=>fin v Y true _ hv ?_
   ·simp[Instr.lookup,run_underlying ht,aO h1,aX hd hkv hkk,aY hd.und hn,aP hi hzx]
   ·simp[Instr.lookup,run_underlying ht,aO h1,aX hd hkv hkk,aY hd.und hy]
  |_=>trivial
theorem cu {r:Nat}{es:Array MapEntry}{clock:Nat}(h:w.heap[r]? = some (.map es clock))(o:Obj):(setObj r o).run P w=.ok () { w with heap:=w.heap.setIfInBounds r o }:=by
 simp only[setObj,Sem.run,h]
theorem yA {kt:TypeId}{dk:TypeDesc}{ks:List TypeDesc}(hd:KD P kt dk ks){k v:V}{K X:Value}(hk:VR E k K)(hv:VR E v X)(hkk:keyK dk ks k=true){clock:Nat}{Q:Res->Prop}(hf:∀ m,Q (.fail m)){f:List (V×V×Nat)->Nat->Res} :
  ∀ (es:List (V×V×Nat))(es':List MapEntry)(i:Nat),ERs E es es'->
   (∀ l l',(FindR P kt dk K es' i none/\l'=es'++[{ key:=K,val:=X,born:=clock }])->ERs E l l'->Q (f l (Nat.succ clock)))->
   (∀ l l' j Y e,FindR P kt dk K es' i (some (i+j,Y))->es'[j]? = some e->Instr.sameBits 10000 e.key K=true->l'=es'.set j { e with key:=K,val:=X }->ERs E l l'->Q (f l clock))->Q (updK k v clock f es)
 |[],[],i,_,h1,_=>h1 _ _ ⟨.nil i,rfl⟩ ⟨hk,hv,rfl,trivial⟩
 |[],_::_,_,h,_,_=>h.elim
 |(a,u,b)::r,[],_,h,_,_=>h.elim
 |(a,u,b)::r,e::es',i,⟨h1,h2,h3,h4⟩,hn,hy=>by
  simp only[updK];cases hq:gi k a with
  |none=>exact hf _
  |some t=>
   have hs:=j9 hd hk h1 hq hkk;cases t with
   |true=>
    refine hy _ _ 0 e.val e (.hit e es' i hs) rfl (hs.2 rfl) rfl ?_;exact⟨hk,hv,h3,h4⟩
   |false=>
    refine yA hd hk hv hkk hf r es' (i+1) h4 (fun l l' hl hr=>hn _ (e::l') ⟨.miss e es' i _ hs hl.1,by rw[hl.2];rfl⟩ ⟨h1,h2,h3,hr⟩) fun l l' j Y e2 hj he hb hl hr=>
     hy _ (e::l') (j+1) Y e2 (.miss e es' i _ hs (by rwa [show i+(j+1)=i+1+j by omega])) (by simpa using he) hb (by rw[hl];rfl) ⟨h1,h2,h3,hr⟩
theorem uC (h:WR w0 E H nx w){t kt e:TypeId}{dk:TypeDesc}{ks:List TypeDesc}(ht:P.underlying t=some (.map kt e))(hd:KD P kt dk ks){m k v:V}{M K X:Value}
  (hm:VR E m M)(hkv:VR E k K)(hv:VR E v X)(hkk:keyK dk ks k=true):match xMupd m k v H nx with
  |.valH v' H' nx2=>v'=au/\nx2=nx/\∃ w',(Instr.mapUpdate t M K X).run P w=.ok () w'/\WR w0 E H' nx w'/\Keep E E H H' nx
  |.fail _=>True
  |_=>False:=by
 cases hm<;>simp only[xMupd]<;>try trivial
 rename_i l p hp;cases ho:getH H l with
 |map es clock=>
  obtain⟨es',h1,h2⟩:=h.mapObj hp ho;have hlt:p.blk<w.heap.size:=(h.own l p hp).1
  have fin:∀ (l2:List (V×V×Nat))(l':List MapEntry)(c:Nat),ERs E l2 l'->(Instr.mapUpdate t (.map (some p.blk)) K X).run P w=.ok () { w with heap:=w.heap.setIfInBounds p.blk (.map l'.toArray c) }->
    au=au/\nx=nx/\∃ w',(Instr.mapUpdate t (.map (some p.blk)) K X).run P w=.ok () w'/\WR w0 E (put .no H l (.map l2 c)) nx w'/\Keep E E H (put .no H l (.map l2 c)) nx:=by
   intro l2 l' c hr hrun;refine⟨rfl,rfl,_,hrun,?_,WR.noTouch hp⟩;refine h.upd l p hp _ (by rw[ho];intro hh;cases hh) (by rw[ho];rfl) (by rw[ho];rfl) (by rw[ho];rfl) (by rw[ho];rfl) rfl _ (.map l'.toArray c) (by simp) ?_ ?_ rfl rfl rfl ?_
   ·intro j hj;show (w.heap.setIfInBounds p.blk _)[j]? = _;simp[Ne.symm hj]
   ·show (w.heap.setIfInBounds p.blk _)[p.blk]? = _;simp[hlt]
   ·exact⟨l'.toArray,rfl,hr⟩
  simp only
  refine yA (Q:=fun r=>match r with
   |.valH v' H' nx2=>v'=au/\nx2=nx/\∃ w',(Instr.mapUpdate t (.map (some p.blk)) K X).run P w=.ok () w'/\WR w0 E H' nx w'/\Keep E E H H' nx
   |.fail _=>True
   |_=>False) hd hkv hv hkk (fun m=>trivial) es es'.toList 0 h2 ?_ ?_
  ·rintro l2 l' ⟨hn,rfl⟩ hr
   simp only[aJ];refine⟨trivial,trivial,(fin l2 _ _ hr ?_).2.2⟩
   have:(es'.toList++[({ key:=K,val:=X,born:=clock }:MapEntry)]).toArray=es'.push { key:=K,val:=X,born:=clock }:=by
    rw[<- List.push_toArray,Array.toArray_toList]
   rw[this];simp[Instr.mapUpdate,run_underlying ht,aO h1,aX hd hkv hkk,aY hd.und hn,cu h1]
  ·intro l2 l' j Y e2 hj he hb hl hr
   simp only[aJ];refine⟨trivial,trivial,(fin l2 _ _ hr ?_).2.2⟩;rw[Nat.zero_add] at hj;have hje:es'[j]? = some e2:=by simpa using he
   have hj2:j<es'.size:=(ag.1 hje).1;have hje2:es'[j]=e2:=(ag.1 hje).2
   have:l'.toArray=es'.modify j fun e=>{ e with key:=K,val:=X }:=by
    rw[hl];apply Array.ext
    ·simp
    ·intro i h3 h4
     rw[Array.getElem_modify];simp only[List.getElem_toArray,List.getElem_set,Array.getElem_toList];by_cases c:j=i
     ·subst c;simp[hje2]
     ·simp[c]
   rw[this];simp[Instr.mapUpdate,run_underlying ht,aO h1,aX hd hkv hkk,aY hd.und hj,Instr.keyThatStays,hje,hb,cu h1]
 |_=>trivial
theorem yB {kt:TypeId}{dk:TypeDesc}{ks:List TypeDesc}(hd:KD P kt dk ks){k:V}{K:Value}(hk:VR E k K)(hkk:keyK dk ks k=true){Q:Res->Prop}(hf:∀ m,Q (.fail m)){f:List (V×V×Nat)->Res} :
  ∀ (es:List (V×V×Nat))(es':List MapEntry)(i:Nat),ERs E es es'->
   (FindR P kt dk K es' i none->∀ l,ERs E l es'->Q (f l))->
   (∀ j Y,FindR P kt dk K es' i (some (i+j,Y))->j<es'.length->∀ l,ERs E l (es'.eraseIdx j)->Q (f l))->Q (delK k f es)
 |[],[],i,_,h1,_=>h1 (.nil i) [] trivial
 |[],_::_,_,h,_,_=>h.elim
 |(a,u,b)::r,[],_,h,_,_=>h.elim
 |(a,u,b)::r,e::es',i,⟨h1,h2,h3,h4⟩,hn,hy=>by
  simp only[delK];cases hq:gi k a with
  |none=>exact hf _
  |some t=>
   have hs:=j9 hd hk h1 hq hkk;cases t with
   |true=>exact hy 0 e.val (.hit e es' i hs) (Nat.succ_pos _) r h4
   |false=>
    refine yB hd hk hkk hf r es' (i+1) h4 (fun hh l hl=>hn (.miss e es' i _ hs hh) ((a,u,b)::l) ⟨h1,h2,h3,hl⟩) fun j Y hj hlt l hl=>
     hy (j+1) Y (.miss e es' i _ hs (by rwa [show i+(j+1)=i+1+j by omega])) (Nat.succ_lt_succ hlt) ((a,u,b)::l) ⟨h1,h2,h3,hl⟩
theorem xMdel_ok (h:WR w0 E H nx w){t t2 ty kt e:TypeId}{dk:TypeDesc}{ks:List TypeDesc}(ht:P.underlying t=some (.map kt e))(hd:KD P kt dk ks){m k:V}{M K:Value}
  (hm:VR E m M)(hkv:VR E k K)(hkk:keyK dk ks k=true):VG w0 E H nx w ((Builtin.delete_ #[t,t2] ty #[M,K]).run P w) (xMdel m k H nx):=by
 cases hm<;>simp only[xMdel]<;>try trivial
 case nilm=>
  refine⟨undef,w,E,?_,Env.le.refl E,VR.undef E,h,am _,Keep.refl E H nx⟩;simp[Builtin.delete_,run_underlying ht,aX hd hkv hkk];rfl
 case map l p hp=>
 cases ho:getH H l with
 |map es clock=>
  obtain⟨es',h1,h2⟩:=h.mapObj hp ho;have hlt:p.blk<w.heap.size:=(h.own l p hp).1
  have fin:∀ (l2:List (V×V×Nat))(l':List MapEntry),ERs E l2 l'->(Builtin.delete_ #[t,t2] ty #[.map (some p.blk),K]).run P w=.ok undef { w with heap:=w.heap.setIfInBounds p.blk (.map l'.toArray clock) }->
    VG w0 E H nx w ((Builtin.delete_ #[t,t2] ty #[.map (some p.blk),K]).run P w) (.valH au (put .no H l (.map l2 clock)) nx):=by
   intro l2 l' hr hrun;refine⟨undef,_,E,hrun,Env.le.refl E,VR.undef E,?_,am _,WR.noTouch hp⟩;refine h.upd l p hp _ (by rw[ho];intro hh;cases hh) (by rw[ho];rfl) (by rw[ho];rfl) (by rw[ho];rfl) (by rw[ho];rfl) rfl _ (.map l'.toArray clock) (by simp) ?_ ?_ rfl rfl rfl ?_
   ·intro j hj;show (w.heap.setIfInBounds p.blk _)[j]? = _;simp[Ne.symm hj]
   ·show (w.heap.setIfInBounds p.blk _)[p.blk]? = _;simp[hlt]
   ·exact⟨l'.toArray,rfl,hr⟩
  simp only;refine yB (Q:=fun r=>VG w0 E H nx w ((Builtin.delete_ #[t,t2] ty #[.map (some p.blk),K]).run P w) r) hd hkv hkk (fun m=>trivial) es es'.toList 0 h2 ?_ ?_
  ·intro hn l2 hr
   simp only[aJ];refine fin l2 _ hr ?_;rw[Array.toArray_toList];simp[Builtin.delete_,run_underlying ht,aO h1,aX hd hkv hkk,aY hd.und hn,cu h1];rfl
  ·intro j Y hj hjl l2 hr
   simp only[aJ];refine fin l2 _ hr ?_;rw[Nat.zero_add] at hj;have hj2:j<es'.size:=by simpa using hjl
   have:(es'.toList.eraseIdx j).toArray=es'.eraseIdxIfInBounds j:=by
    unfold Array.eraseIdxIfInBounds;rw[dif_pos hj2];apply Array.ext';simp
   rw[this];simp[Builtin.delete_,run_underlying ht,aO h1,aX hd hkv hkk,aY hd.und hj,cu h1];rfl
 |_=>trivial
theorem wX (h:WR w0 E H nx w){t:TypeId}(ht:P.underlying t=some .string){x:V}{X:Value}(hx:VR E x X):VG w0 E H nx w ((Instr.range t X).run P w) (rI x H nx):=by unfold rI;trivial
theorem Aa (h:WR w0 E H nx w){t:TypeId}:VG w0 E H nx w ((Instr.makeMap t none).run P w) (cn (.map [] 0) H nx fun H nx'=>.valH (.map nx) H nx'):=by
 simp only[cn,aJ];have hn:=h.fresh nx (am _);have hle:E.le (E.set nx ⟨w.heap.size,0,0,undef,noOb,[]⟩):=Env.le_set _ hn.1;refine⟨.map (some w.heap.size),_,_,?_,hle,?_,h.new (.map #[] 0) (.map [] 0) 0 w.drawn rfl rfl ⟨#[],rfl,trivial⟩,by omega,?_⟩
 ·simp[Instr.makeMap]
 ·exact VR.map (E:=E.set nx ⟨w.heap.size,0,0,undef,noOb,[]⟩) nx ⟨w.heap.size,0,0,undef,noOb,[]⟩ (Env.set_self _ _ _)
 ·intro k hk hE _
  have:k≠nx:=by omega
  exact⟨by rw[Env.set_other _ _ _ _ this];exact hE,by rw[ar,if_neg this]⟩
theorem Ab (h:WR w0 E H nx w){ty:TypeId}{x:V}{X:Value}(hx:VR E x X):VG w0 E H nx w ((Instr.next X true ty).run P w) (ww x H nx):=by unfold ww;trivial
theorem ERs.length {es:List (V×V×Nat)}{es':List MapEntry}(h:ERs E es es'):es.length=es'.length:=by
 induction es generalizing es' with
 |nil=>cases es' with|nil=>rfl|cons _ _=>exact h.elim
 |cons a r ih=>cases es' with|nil=>exact h.elim|cons e es'=>simp[ih h.2.2.2]
def lenD (sh:Nat)(d:TypeDesc):Prop:=
 match sh with
 |0=>d=.string
 |1=>∃ e,d=.slice e
 |_=>∃ k e,d=.map k e
theorem sn (h:WR w0 E H nx w){t ty:TypeId}{d:TypeDesc}{sh:Nat}(ht:P.underlying t=some d)(hd:lenD sh d)(hsh:sh<=2){x:V}{X:Value}(hx:VR E x X) :
  VG w0 E H nx w ((Builtin.len_ #[t] ty #[X]).run P w) (xLen sh x H):=by
 cases hx<;>simp only[xLen]<;>try trivial
 case str l n s h1 h2=>
  cases hb:Nat.beq sh 0 with
  |false=>trivial
  |true=>
   have e:=aa hb;subst e;simp only[lenD] at hd;subst hd;have:=cZ h1;refine VG.val (x:=.int .i64 (l:Int)) ?_ (.int _ _);simp[Builtin.len_,run_underlying ht,goInt,this]
 case nils=>
  cases hb:Nat.beq sh 1 with
  |false=>trivial
  |true=>
   have e:=aa hb;subst e;obtain⟨e,rfl⟩:=hd;refine VG.val (x:=.int .i64 (0:Int)) ?_ (.int _ _);simp[Builtin.len_,run_underlying ht,goInt]
 case slice l off n cap esz p c hp _ _ _=>
  cases hb:Nat.beq sh 1 with
  |false=>trivial
  |true=>
   have e:=aa hb;subst e;obtain⟨e,rfl⟩:=hd;refine VG.val (x:=.int .i64 (n:Int)) ?_ (.int _ _);simp[Builtin.len_,run_underlying ht,goInt]
 case emp l esz p o c hp _=>
  cases hb:Nat.beq sh 1 with
  |false=>trivial
  |true=>
   have e:=aa hb;subst e;obtain⟨e,rfl⟩:=hd;refine VG.val (x:=.int .i64 (0:Int)) ?_ (.int _ _);simp[Builtin.len_,run_underlying ht,goInt]
 case nilm=>
  cases hb:Nat.beq sh 2 with
  |false=>trivial
  |true=>
   have e:=aa hb;subst e;obtain⟨k,e,rfl⟩:=hd;refine VG.val (x:=.int .i64 (0:Int)) ?_ (.int _ _);simp[Builtin.len_,run_underlying ht,goInt]
 case map l p hp=>
  cases hb:Nat.beq sh 2 with
  |false=>trivial
  |true=>
   have e:=aa hb;subst e;obtain⟨k,e,rfl⟩:=hd;simp only[cond_true];cases ho:getH H l with
   |map es clock=>
    obtain⟨es',h1,h2⟩:=h.mapObj hp ho;refine VG.val (x:=.int .i64 (es.length:Int)) ?_ (.int _ _);have hl:=h2.length;simp only[Array.length_toList] at hl;simp[Builtin.len_,run_underlying ht,goInt,aO h1,hl]
   |mapR es clock=>
    obtain⟨es',h1,h2⟩:=h.mapObjR hp ho;refine VG.val (x:=.int .i64 (es.length:Int)) ?_ (.int _ _);have hl:=h2.length;simp only[Array.length_toList] at hl;simp[Builtin.len_,run_underlying ht,goInt,aO h1,hl]
   |_=>trivial
end
end Go.Exo
end

noncomputable section
namespace Go.Exo
variable [Sx] [Dc]
section
variable {P:Program}{w0:Bs}{E:Env}{H:T AObj}{nx:Nat}{w:World}
theorem OR.congr {E:Env}{H H':T AObj}{l:Nat}{p:Pl}{ob:Option Obj}{o:AObj}(h:OR E H l p ob o)(e:∀ k,getH H' k=getH H k):OR E H' l p ob o:=
 h.trans (Env.le.refl E) fun _ ho=>ho.same fun _=>e _
theorem WR.congr (h:WR w0 E H nx w){H':T AObj}(e:∀ k,getH H' k=getH H k):WR w0 E H' nx w:=by
 refine⟨?_,?_,?_,?_,?_,h.old,h.size,h.os,h.output,h.tape,h.le,fun l p hl b o v hf=>⟨(h.dat l p hl b o v hf).1,fun l' p' hl' hb=>by rw[e];exact (h.dat l p hl b o v hf).2 l' p' hl' hb⟩,h.dec,h.fzo⟩
 ·intro l p hl;rw[e];exact (h.objs l p hl).congr e
 ·intro l hl;rw[e];exact h.fresh l hl
 ·intro l l' p p' h1 h2 h3 h4;rw[e,e];exact h.sep l l' p p' h1 h2 h3 h4
 ·intro l hl;rw[e] at hl;simp only[e];exact h.cls l hl
 ·intro l p hl;rw[e];exact h.own l p hl
theorem WR.mkCls (h:WR w0 E H nx w){l:Nat}{p:Pl}(hl:E l=some p){cs:T V}{clen:Nat}{elem:TypeId}{rel fz:Nat}(hobj:getH H l=.cells cs clen elem 0 rel fz false) :
  WR w0 E (put .no (put .no H l (.cells cs clen elem nx 0 fz false)) nx (.cls l none clen)) (nx+1) w:=by
 have hn:=h.fresh nx (am _);have hlt:l<nx:=Nat.lt_of_not_le fun hh=>by rw[(h.fresh l hh).1] at hl;cases hl
 have hget:∀ k,k≠l->k≠nx->getH (put .no (put .no H l (.cells cs clen elem nx 0 fz false)) nx (.cls l none clen)) k=getH H k:=fun k e e'=>by rw[ar,if_neg e',ar,if_neg e]
 have hself:getH (put .no (put .no H l (.cells cs clen elem nx 0 fz false)) nx (.cls l none clen)) l=.cells cs clen elem nx 0 fz false:=by rw[ar,if_neg (by omega),ar,if_pos rfl]
 have hC:getH (put .no (put .no H l (.cells cs clen elem nx 0 fz false)) nx (.cls l none clen)) nx=.cls l none clen:=by rw[ar,if_pos rfl]
 generalize hH':put .no (put .no H l (.cells cs clen elem nx 0 fz false)) nx (.cls l none clen)=H' at *;have hEn:∀ k q,E k=some q->k≠nx:=fun k q hk e=>by subst e;rw[hn.1] at hk;cases hk
 have hcl:∀ k,aw (getH H k)≠0->aw (getH H k)≠l/\aw (getH H k)≠nx:=fun k hc0=>by
  obtain⟨a,b,m,h1,_⟩:=h.cls k hc0;exact⟨fun e=>(by rw[e,hobj] at h1;cases h1),fun e=>(by rw[e,hn.2] at h1;cases h1)⟩
 have halone:∀ k q,k≠l->E k=some q->q.blk=p.blk->getH H k=.no:=by
  intro k q hne hk hb;rcases h.sepW (by rw[hobj];rfl) hne hk hl hb with hh|hh|hh
  ·exact hh
  ·rw[hobj] at hh;cases hh
  ·rw[hobj] at hh;exact absurd hh.2.1 hh.1
 have hn0:nx≠0:=by omega
 refine⟨?_,?_,?_,?_,?_,h.old,h.size,h.os,h.output,h.tape,h.le,?dat,h.dec,h.fzo⟩
 case dat=>
  intro k q hk b off v hf;obtain⟨h1,h2⟩:=h.dat k q hk b off v hf;refine⟨h1,fun l' p' hl' hb'=>?_⟩;by_cases e:l'=l
  ·subst e;rw[hl] at hl';cases hl'
   exact (dP (h2 l' p hl hb') (by rw[hobj];intro hh;cases hh) (by rw[hobj];rfl) (by rw[hobj];rfl)).elim
  ·rw[hget l' e (hEn l' p' hl')];exact h2 l' p' hl' hb'
 ·intro k q hk
  by_cases e:k=l
  ·subst e;rw[hl] at hk;cases hk
   rw[hself];have ho:=h.objs k p hl;rw[hobj] at ho;obtain⟨c,fr,h1,h2,h3,h4,h5⟩:=ho;exact⟨c,fr,h1,h2,h3,h4,fun i hi _=>h5 i hi (.inl rfl)⟩
  ·rw[hget k e (hEn k q hk)]
   exact (h.objs k q hk).trans (Env.le.refl E) fun pos hp=>hp.same fun hc0=>hget _ (hcl k hc0).1 (hcl k hc0).2
 ·intro k hk
  have:=h.fresh k (by omega);exact⟨this.1,by rw[hget k (by omega) (by omega)];exact this.2⟩
 ·intro k k' q q' hne hk hk' hb
  by_cases e:k=l
  ·subst e;rw[hl] at hk;cases hk
   rw[hget k' (Ne.symm hne) (hEn k' q' hk')];exact .inl (.inr (.inl (halone k' q' (Ne.symm hne) hk' hb.symm)))
  ·rw[hget k e (hEn k q hk)]
   by_cases e':k'=l
   ·subst e';rw[hl] at hk';cases hk'
    exact .inl (.inl (halone k q e hk hb))
   ·rw[hget k' e' (hEn k' q' hk')];exact h.sep k k' q q' hne hk hk' hb
 ·intro k hc0
  by_cases e:k=l
  ·subst e;rw[hself]
   exact⟨_,none,clen,hC,by simp[iU],hn.1⟩
  ·by_cases e':k=nx
   ·subst e';rw[hC] at hc0;exact absurd rfl hc0
   ·rw[hget k e e'] at hc0 ⊢
    obtain⟨a,b,m,h1,h2,h3⟩:=h.cls k hc0;exact⟨a,b,m,by rw[hget _ (hcl k hc0).1 (hcl k hc0).2];exact h1,h2,h3⟩
 ·intro k q hk
  by_cases e:k=l
  ·subst e;rw[hl] at hk;cases hk
   have:=h.own k p hl;rw[hobj] at this;rw[hself];refine⟨this.1,.inr (.inr ?_)⟩;rcases this.2 with hh|hh|hh
   ·cases hh
   ·cases hh
   ·exact hh
  ·rw[hget k e (hEn k q hk)];exact h.own k q hk
theorem minO_lt {lim:Option Nat}{p pos:Nat}(h:pos<minO lim p):pos<p/\(lim=none\/∃ m,lim=some m/\pos<m):=by
 cases lim with
 |none=>exact⟨h,.inl rfl⟩
 |some m=>
  simp only[minO] at h;cases hb:Nat.ble m p with
  |true=>rw[hb] at h;have:=ab hb;exact⟨by simp at h;omega,.inr ⟨m,rfl,h⟩⟩
  |false=>
   rw[hb] at h;have:¬ m<=p:=fun hh=>by rw[an hh] at hb;cases hb
   exact⟨h,.inr ⟨m,rfl,by simp at h;omega⟩⟩
theorem WR.join (h:WR w0 E H nx w){l:Nat}{p:Pl}(hl:E l=some p){cs:T V}{clen:Nat}{elem:TypeId}{c rel fz:Nat}(hc:c≠0)
  (hobj:getH H l=.cells cs clen elem c rel fz false){cur:Nat}{lim:Option Nat}{mk:Nat}(hcls:getH H c=.cls cur lim mk)
  (rel' pos len':Nat)(lim':Option Nat)(mk':Nat)(cs':T V)(fz':Nat)(q:Pl)(w':World)
  (hlim:(lim'=lim/\mk<=pos)\/lim'=some (minO lim pos))(hmk:mk<=mk')(hmk2:rel'+len'<=mk')
  (hqz:∀ b o,q.ob.fz b o=none)(hos:w'.os=w.os)(hout:w'.output=w.output)(htape:w'.tape=w.tape)
  (hkeep:∀ b,b<w.heap.size->b≠q.blk->w'.heap[b]? = w.heap[b]?)(hsz:w.heap.size<=w'.heap.size)(hq:q.blk<w'.heap.size)
  (hcase:w.heap.size<=q.blk\/(q.blk=p.blk/\q.base+rel=p.base+rel'/\∃ cells cells' fr,w.heap[p.blk]? = some (.cells cells elem fr)/\w'.heap[p.blk]? = some (.cells cells' elem fr)/\ cells'.size=cells.size/\∀ i,i+rel<p.base+pos->cells'[i]? = cells[i]?))
  (hor:OR (E.set nx q) (put .no (put .no H c (.cls nx lim' mk')) nx (.cells cs' len' elem c rel' fz' false)) nx q w'.heap[q.blk]? (.cells cs' len' elem c rel' fz' false)) :
  WR w0 (E.set nx q) (put .no (put .no H c (.cls nx lim' mk')) nx (.cells cs' len' elem c rel' fz' false)) (nx+1) w':=by
 have hn:=h.fresh nx (am _);have hle:E.le (E.set nx q):=Env.le_set _ hn.1;have hcn:c≠nx:=fun e=>by rw[e,hn.2] at hcls;cases hcls
 have hclt:c<nx:=Nat.lt_of_not_le fun hh=>by rw[(h.fresh c hh).2] at hcls;cases hcls
 have hEc:E c=none:=by
  obtain⟨_,_,_,_,_,h3⟩:=h.cls l (by rw[hobj];exact hc);rw[hobj] at h3;exact h3
 have hget:∀ k,k≠nx->k≠c->getH (put .no (put .no H c (.cls nx lim' mk')) nx (.cells cs' len' elem c rel' fz' false)) k=getH H k:=
  fun k e e'=>by rw[ar,if_neg e,ar,if_neg e']
 have hself:getH (put .no (put .no H c (.cls nx lim' mk')) nx (.cells cs' len' elem c rel' fz' false)) nx=.cells cs' len' elem c rel' fz' false:=by rw[ar,if_pos rfl]
 have hC:getH (put .no (put .no H c (.cls nx lim' mk')) nx (.cells cs' len' elem c rel' fz' false)) c=.cls nx lim' mk':=by
  rw[ar,if_neg hcn,ar,if_pos rfl]
 generalize hH':put .no (put .no H c (.cls nx lim' mk')) nx (.cells cs' len' elem c rel' fz' false)=H' at *
 have hB:¬ w0.old p.blk:=by
  rcases (h.own l p hl).2 with hh|hh|hh
  ·rw[hobj] at hh;cases hh
  ·rw[hobj] at hh;cases hh
  ·exact hh
 have hBq:¬ w0.old q.blk:=by
  rcases hcase with hh|hh
  ·exact h.not_old hh
  ·rw[hh.1];exact hB
 have hE:∀ k r,(E.set nx q) k=some r->(k=nx/\r=q)\/(k≠nx/\k≠c/\E k=some r):=by
  intro k r hk;by_cases e:k=nx
  ·subst e;rw[Env.set_self] at hk;cases hk;exact .inl ⟨rfl,rfl⟩
  ·rw[Env.set_other _ _ _ _ e] at hk;exact .inr ⟨e,fun e'=>(by subst e';rw[hEc] at hk;cases hk),hk⟩
 have hokc:∀ k i,k≠nx->i<iU (getH H k)->aw (getH H k)=c->okAt H' k c i->i<pos/\okAt H k c i:=by
  intro k i hk hi hkc ho;rcases ho with ho|⟨a,b,m,h1,h2⟩
  ·exact absurd ho hc
  ·rw[hC] at h1;cases h1
   rcases hlim with⟨rfl,hle'⟩|rfl
   ·obtain⟨_,_,_,g1,g2,_⟩:=h.cls k (by rw[hkc];exact hc)
    rw[hkc,hcls] at g1;cases g1;refine⟨by omega,.inr ⟨_,_,_,hcls,?_⟩⟩;rcases h2 with h2|h2|h2
    ·exact .inl h2
    ·exact absurd h2.symm hk
    ·exact .inr (.inr h2)
   ·rcases h2 with h2|h2|⟨m',h2,h3⟩
    ·cases h2
    ·exact absurd h2.symm hk
    ·cases h2
     obtain⟨h4,h5⟩:=minO_lt h3;refine⟨h4,.inr ⟨_,_,_,hcls,?_⟩⟩;rcases h5 with h5|h5
     ·exact .inl h5
     ·exact .inr (.inr h5)
 have hcnn:∀ k,aw (getH H k)≠0->aw (getH H k)≠nx:=fun k hc0 e=>by
  obtain⟨a,b,m,h1,_⟩:=h.cls k hc0;rw[e,hn.2] at h1;cases h1
 have hORk:∀ k r,k≠nx->k≠c->E k=some r->∀ ob,OR E H k r ob (getH H k)->(∀ vs len2 elem2 rel2 fz2 ro2,getH H k≠.cells vs len2 elem2 c rel2 fz2 ro2)->OR (E.set nx q) H' k r ob (getH H k):=by
  intro k r hk1 hk2 hk ob ho hne;by_cases h0:aw (getH H k)=0
  ·exact ho.trans hle fun pos _=>by rw[h0];exact .inl rfl
  ·refine ho.trans hle fun pos hp=>hp.same fun _=>hget _ (hcnn k h0) fun e=>?_
   cases hko:getH H k with
   |cells vs len2 elem2 c2 rel2 fz2 ro2=>rw[hko] at e;simp only[aw] at e;subst e;exact hne _ _ _ _ _ _ hko
   |_=>rw[hko] at h0;exact absurd rfl h0
 refine⟨?_,?_,?_,?_,?_,?_,Nat.le_trans h.size hsz,hos.trans h.os,hout.trans h.output,htape.trans h.tape,h.le.trans (Env.le_set _ (h.fresh nx (am _)).1),?dat,h.dec,fun l p hl b o v hf ho=>by
  rcases hE l p hl with⟨rfl,rfl⟩|⟨_,_,hl⟩
  ·rw[hqz] at hf;cases hf
  ·exact h.fzo l p hl b o v hf ho⟩
 case dat=>
  intro k r hk b off v hf;rcases hE k r hk with⟨rfl,rfl⟩|⟨hne,hnc,hk⟩
  ·rw[hqz] at hf;cases hf
  ·obtain⟨h1,h2⟩:=h.dat k r hk b off v hf
   have hblt:=fA h1
   have hbq:b≠q.blk:=by
    intro e;rcases hcase with hh|⟨hqb,_⟩
    ·omega
    ·exact dP (h2 l p hl (by rw[e,hqb])) (by rw[hobj];intro hh;cases hh) (by rw[hobj];rfl) (by rw[hobj];rfl)
   refine⟨(bG (hkeep b hblt hbq)).trans h1,fun l' p' hl' hb'=>?_⟩;rcases hE l' p' hl' with⟨rfl,rfl⟩|⟨hne',hnc',hl'⟩
   ·exact absurd hb'.symm hbq
   ·rw[hget l' hne' hnc'];exact h2 l' p' hl' hb'
 ·intro k r hk
  rcases hE k r hk with⟨rfl,rfl⟩|⟨hne,hnc,hk⟩
  ·rw[hself];exact hor
  ·rw[hget k hne hnc]
   have ho:=h.objs k r hk;have hblt:=(h.own k r hk).1;cases hko:getH H k with
   |cells vs len2 elem2 c2 rel2 fz2 ro2=>
    by_cases hcc:c2=c
    ·subst hcc
     rw[hko] at ho;obtain⟨c0,fr0,h1,h2,h3,h4,h5⟩:=ho;have hoki:∀ i,i<len2->okAt H' k c2 (rel2+i)->rel2+i<pos/\okAt H k c2 (rel2+i):=fun i hi ho=>hokc k _ hne (by rw[hko];simp only[iU];omega) (by rw[hko];rfl) ho
     by_cases hb:r.blk=q.blk
     ·rcases hcase with hh|⟨hqb,hqr,cells,cells',fr,g1,g2,g3,g4⟩
      ·omega
      ·have hrel:r.base+rel=p.base+rel2:=by
        by_cases e:k=l
        ·subst e;rw[hl] at hk;cases hk;rw[hobj] at hko;cases hko;rfl
        ·rcases h.sepW (by rw[hobj];rfl) e hk hl (by rw[hb,hqb]) with hh|hh|hh
         ·rw[hko] at hh;cases hh
         ·rw[hobj] at hh;cases hh
         ·have:=hh.2.2;rw[hko,hobj] at this;exact this
       rw[hb,hqb,g1] at h1;injection h1 with h1;injection h1 with e1 e2 e3;subst e1 e2 e3
       rw[hb,hqb,g2];refine⟨cells',fr,rfl,by rw[g3];exact h2,h3,by rw[g3];exact h4,fun i hi ho=>?_⟩;obtain⟨hlt',hok'⟩:=hoki i hi ho;obtain⟨x,hx,hv⟩:=h5 i hi hok';exact⟨x,by rw[g4 _ (by omega)];exact hx,hv.mono hle⟩
     ·rw[hkeep _ hblt hb]
      refine⟨c0,fr0,h1,h2,h3,h4,fun i hi ho=>?_⟩;obtain⟨x,hx,hv⟩:=h5 i hi (hoki i hi ho).2;exact⟨x,hx,hv.mono hle⟩
    ·have hb:r.blk≠q.blk:=by
      intro hb;rcases hcase with hh|⟨hqb,_⟩
      ·omega
      ·have e:k≠l:=fun e=>by subst e;rw[hobj] at hko;cases hko;exact hcc rfl
       rcases h.sepW (by rw[hobj];rfl) e hk hl (by rw[hb,hqb]) with hh|hh|hh
       ·rw[hko] at hh;cases hh
       ·rw[hobj] at hh;cases hh
       ·have:=hh.2.1;rw[hko,hobj] at this;exact hcc this
     rw[hkeep _ hblt hb,<- hko];exact hORk k r hne hnc hk _ ho fun vs len2' elem2' rel2' fz2' ro2' e=>by rw[hko] at e;cases e;exact hcc rfl
   |no=>trivial
   |cls _ _ _=>trivial
   |_=>
    have hb:r.blk≠q.blk:=by
     intro hb;rcases hcase with hh|⟨hqb,_⟩
     ·omega
     ·have e:k≠l:=fun e=>by subst e;rw[hobj] at hko;cases hko
      rcases h.sepW (by rw[hobj];rfl) e hk hl (by rw[hb,hqb]) with hh|hh|hh
      ·rw[hko] at hh;cases hh
      ·rw[hobj] at hh;cases hh
      ·have:=hh.1;rw[hko] at this;exact this rfl
    rw[hkeep _ hblt hb,<- hko];exact hORk k r hne hnc hk _ ho fun vs len2' elem2' rel2' fz2' ro2' e=>by rw[hko] at e;cases e
 ·intro k hk
  have:=h.fresh k (by omega);exact⟨by rw[Env.set_other _ _ _ _ (by omega)];exact this.1,by rw[hget k (by omega) (by omega)];exact this.2⟩
 ·intro k k' r r' hne hk hk' hb
  have key:∀ k r,k≠nx->k≠c->E k=some r->r.blk=q.blk->getH H k=.no\/(aw (getH H k)=c/\r.base+rel'=q.base+cP (getH H k)):=by
   intro k r hk1 hk2 hk hb;rcases hcase with hh|⟨hqb,hqr,_⟩
   ·have:=(h.own k r hk).1;omega
   ·by_cases e:k=l
    ·subst e;rw[hl] at hk;cases hk;rw[hobj];exact .inr ⟨rfl,by simp only[cP];omega⟩
    ·rcases h.sepW (by rw[hobj];rfl) e hk hl (by rw[hb,hqb]) with hh|hh|hh
     ·exact .inl hh
     ·rw[hobj] at hh;cases hh
     ·refine .inr ⟨by rw[hh.2.1,hobj];rfl,?_⟩
      have:=hh.2.2;rw[hobj] at this;simp only[cP] at this ⊢;omega
  rcases hE k r hk with⟨rfl,rfl⟩|⟨hn1,hc1,g1⟩<;>rcases hE k' r' hk' with⟨e3,e4⟩|⟨hn2,hc2,g2⟩
  ·exact absurd e3.symm hne
  ·rw[hself,hget k' hn2 hc2]
   rcases key k' r' hn2 hc2 g2 hb.symm with hh|⟨hh,hr⟩
   ·exact .inl (.inr (.inl hh))
   ·exact .inl (.inr (.inr ⟨hc,hh.symm,by show _+cP (getH H k')=_+rel';omega⟩))
  ·subst e3;subst e4
   rw[hself,hget k hn1 hc1];rcases key k r hn1 hc1 g1 hb with hh|⟨hh,hr⟩
   ·exact .inl (.inl hh)
   ·exact .inl (.inr (.inr ⟨by rw[hh];exact hc,hh,by show _+rel'=_+cP (getH H k);omega⟩))
  ·rw[hget k hn1 hc1,hget k' hn2 hc2];exact h.sep k k' r r' hne g1 g2 hb
 ·intro k hc0
  by_cases e:k=nx
  ·subst e;rw[hself]
   exact⟨_,_,_,hC,by simp only[iU];exact hmk2,by show (E.set _ q) c=none;rw[Env.set_other _ _ _ _ hcn];exact hEc⟩
  ·by_cases e':k=c
   ·subst e';rw[hC] at hc0;exact absurd rfl hc0
   ·rw[hget k e e'] at hc0 ⊢
    obtain⟨a,b,m,h1,h2,h3⟩:=h.cls k hc0;by_cases hcc:aw (getH H k)=c
    ·rw[hcc] at h1 ⊢
     rw[hcls] at h1;cases h1;exact⟨_,_,_,hC,by omega,by rw[Env.set_other _ _ _ _ hcn];exact hEc⟩
    ·exact⟨a,b,m,by rw[hget _ (hcnn k hc0) hcc];exact h1,h2,by rw[Env.set_other _ _ _ _ (hcnn k hc0)];exact h3⟩
 ·intro k r hk
  rcases hE k r hk with⟨rfl,rfl⟩|⟨hn1,hc1,hk⟩
  ·exact⟨hq,.inr (.inr hBq)⟩
  ·rw[hget k hn1 hc1]
   have:=h.own k r hk;exact⟨by omega,this.2⟩
 ·intro b hb
  rw[hkeep b (h.lt_old hb) (fun e=>hBq (e ▸ hb))];exact h.old b hb
end
end Go.Exo
end

noncomputable section
namespace Go.Exo
variable [Sx] [Dc]
section
variable {P:Program}{w0:Bs}{E:Env}{H:T AObj}{nx:Nat}{w:World}
def XR (P:Program)(w:World)(X:Value)(n size:Nat)(xs:List Value):Prop:=
 (∀ d,(Builtin.lenOf X).run P { w with drawn:=d }=.ok n { w with drawn:=d })/\∀ d,(Builtin.firstCells size n X).run P { w with drawn:=d }=.ok xs.toArray { w with drawn:=d }
theorem XR.nils (size:Nat):XR P w (.slice none 0 0) 0 size []:=⟨fun _=>by simp[Builtin.lenOf],fun _=>by simp[Builtin.firstCells]⟩
theorem XR.slice {a:Addr}{n c size:Nat}{xs:List Value}(hl:xs.length=n*size)(h:∀ j u,xs[j]? = some u->w.cell? (a.add j)=some u):XR P w (.slice (some a) n c) n size xs:=
 ⟨fun _=>by simp[Builtin.lenOf],fun d=>run_firstCells_some _ size n a n c xs hl h⟩
theorem XR.emp (a:Addr)(c size:Nat):XR P w (.slice (some a) 0 c) 0 size []:=⟨fun _=>by simp[Builtin.lenOf],fun _=>by simp[Builtin.firstCells,loadCells,loadCellsFrom]⟩
section runs
variable {t u ty e:TypeId}{e':TypeId}{i:TypeInfo}{z:Value}(ht:P.underlying t=some (.slice e))(hu:P.underlying u=some (.slice e'))(hi:P.info? e=some i)
include ht hu hi
theorem fB {b o len c n:Nat}{X:Value}{xs:List Value}{w':World}(hx:XR P w X n i.size xs)(hc:len+n<=c)(hst:(storeCells ⟨b,o+len*i.size,none⟩ xs).run P w=.ok () w') :
  (Builtin.append_ #[t,u] ty #[.slice (some ⟨b,o,none⟩) len c,X]).run P w=.ok (.slice (some ⟨b,o,none⟩) (len+n) c) w':=by
 have h1:=hx.1 w.drawn;have h2:=hx.2 w.drawn;simp[Builtin.append_,run_underlying ht,run_underlying hu,sizeOf,typeInfo,hi,h1,h2,hc,Addr.add_lit,hst]
theorem so {X:Value}(hx:XR P w X 0 i.size []):(Builtin.append_ #[t,u] ty #[.slice none 0 0,X]).run P w=.ok (.slice none 0 0) w:=by
 have h1:=hx.1 w.drawn;have h2:=hx.2 w.drawn;simp[Builtin.append_,run_underlying ht,run_underlying hu,sizeOf,typeInfo,hi,h1,h2]
theorem dR (hz:i.zero=some z){base:Option Addr}{len c n:Nat}{X:Value}{olds xs:List Value}(hs:XR P w (.slice base len c) len i.size olds)(hx:XR P w X n i.size xs)(hc:c<len+n)
  (hb:dh (len+n) i.bytes=true) :
  (Builtin.append_ #[t,u] ty #[.slice base len c,X]).run P w=.ok (.slice (some ⟨w.heap.size,0,none⟩) (len+n) (grownCap w (len+n) c e))
   { w with heap:=w.heap.push (.cells (olds++xs++(Builtin.zeroCells z.cells (grownCap w (len+n) c e-(len+n))).toList).toArray e (0,0)),drawn:=w.drawn+1 }:=by
 have h1:=hx.1 w.drawn;have h2:=hx.2 (w.drawn+1);have h3:=hs.2 (w.drawn+1);have hb':=hb;simp only[dh,Bool.and_eq_true,Nat.mul_eq] at hb';have hm:(len+n)*i.bytes<=140737488355328:=ab hb'.1;have hkk:len+n<=1099511627776000:=ab hb'.2;have hn:¬ (len+n<=c):=by omega
 have h63:¬ (9223372036854775807<((len:Int)+(n:Int))):=by omega
 have h48:¬ (281474976710656<Builtin.nextslicecap (len+n) c*i.bytes):=by
  have:=growslice_fits (need:=len+n) (old:=c) (bytes:=i.bytes) hc (by omega);omega
 simp[Builtin.append_,run_underlying ht,run_underlying hu,sizeOf,typeInfo,zeroValue,hi,hz,h1,hn,h63,h48,Question.forced,h2,h3,newRow,grownCap,World.drew,-World.drew_eq];unfold World.alloc;congr 3;apply Array.ext';simp
end runs
theorem yC (h:WR w0 E H nx w){e:TypeId}{esz bytes need c d:Nat}{cs:List V}{xs rest:List Value}(hcs:VRs E cs xs)(hnc:need<=c)(hrest:rest.length=(c-need)*esz)
  {R:Result Value}(hR:dh need bytes=true->R=.ok (.slice (some ⟨w.heap.size,0,none⟩) need c) { w with heap:=w.heap.push (.cells (xs++rest).toArray e (0,0)),drawn:=d }) :
  VG w0 E H nx w R (grow e esz bytes need cs H nx):=by
 unfold grow;cases hb:(dh need bytes&&Nat.beq cs.length (Nat.mul need esz)) with
 |false=>trivial
 |true=>
  simp only[Bool.and_eq_true] at hb;have hlen:cs.length=need*esz:=aa hb.2;rw[hR hb.1];simp only[cond_true,aS]
  have hsz:(xs++rest).toArray.size=c*esz:=by
   have:=hcs.length;simp only[List.size_toArray,List.length_append,hrest,<- this,hlen,<- Nat.add_mul];congr 1;omega
  obtain⟨h1,h2,h3⟩:=jo h e (0,0) 0 d (vs:=cs) (c:=(xs++rest).toArray) (fun i v hv=>by
   obtain⟨x,hx,hr⟩:=hcs.get i v hv
   refine⟨x,?_,hr⟩
   rw[List.getElem?_toArray,List.getElem?_append_left (ae.1 hx).1];exact hx) (by rw[hsz,hlen];exact Nat.mul_le_mul_right _ hnc) rfl
  refine⟨_,_,_,rfl,h1,?_,h2,by omega,h3⟩;exact eQ E nx _ _ need esz none c hnc (by rw[hsz];exact am _) (by simp)
theorem bu (zc:Array Value)(n:Nat):(Builtin.zeroCells zc n).toList.length=n*zc.size:=by simp[Builtin.zeroCells]
theorem uD (h:WR w0 E H nx w){t u ty e e':TypeId}{i:TypeInfo}{z:Value}(ht:P.underlying t=some (.slice e))(hu:P.underlying u=some (.slice e'))(hi:P.info? e=some i)(hz:i.zero=some z)(hzl:z.cells.size=i.size)
  {l off len cap n:Nat}{p:Pl}(hl:E l=some p)(hfit:off+cap*i.size<=p.size)
  {cs:T V}{clen c rel fz:Nat}(hc:c≠0)(hobj:getH H l=.cells cs clen e c rel fz false){cur:Nat}{lim:Option Nat}{mk:Nat}(hcls:getH H c=.cls cur lim mk)
  (hfz:fzOk fz (off+len*i.size)=true){old news:List V}{olds xs:List Value}(hold:VRs E old olds)(hnews:VRs E news xs)(hone:gu news=true)(holen:old.length=len*i.size)
  (hcells:∀ j v,olds[j]? = some v->w.cell? ((⟨p.blk,p.base+off,none⟩:Addr).add j)=some v)
  {X:Value}(hx:XR P w X n i.size xs)(hlen:news.length=n*i.size)(hroom:dh (len+n) i.bytes=true){nx0:Nat}{H0:T AObj}(hnx:nx0<=nx)
  (hkeep:∀ k,k<nx0->E k=none->a8 (getH H0 k)=false->getH H k=getH H0 k/\k≠c) :
  VG w0 E H0 nx0 w ((Builtin.append_ #[t,u] ty #[.slice (some ⟨p.blk,p.base+off,none⟩) len cap,X]).run P w)
   (ue e i.size off (len+n) old news H nx c (rel+(off+len*i.size)) rel mk lim fz):=by
 simp only[ue,aJ];have hn:=h.fresh nx (am _);have e1:∀ (k:T AObj->Res) lim' mk',T.setK .no (.cls nx lim' mk') H c k=k (put .no H c (.cls nx lim' mk')):=fun k _ _=>bO _ _ _ _ _
 have e2:∀ (k:T V->Res),T.ofK .bad (old++news) 0 .e k=k (putL .bad (old++news) 0 .e):=fun k=>bw _ _ _ _ _
 simp only[e1,e2];generalize hlim':cond (Nat.ble mk (rel+(off+len*i.size))) lim (some (minO lim (rel+(off+len*i.size))))=lim'
 have hlim:(lim'=lim/\mk<=rel+(off+len*i.size))\/lim'=some (minO lim (rel+(off+len*i.size))):=by
  rw[<- hlim'];cases hb:Nat.ble mk (rel+(off+len*i.size)) with
  |true=>exact .inl ⟨rfl,ab hb⟩
  |false=>exact .inr rfl
 have hall:(old++news).length=(len+n)*i.size:=by rw[List.length_append,holen,hlen,Nat.add_mul]
 have hallR:VRs E (old++news) (olds++xs):=hold.append hnews;have hlo:olds.length=len*i.size:=by rw[<- hold.length,holen]
 have hlx:xs.length=n*i.size:=by rw[<- hnews.length,hlen]
 have hkeepF:∀ q:Pl,Keep E (E.set nx q) H0 (put .no (put .no H c (.cls nx lim' (max mk (rel+(off+len*i.size)+news.length)))) nx (.cells (putL .bad (old++news) 0 .e) ((len+n)*i.size) e c (rel+off) (fzUp fz off) false)) nx0:=by
  intro q k hk hE hcl;have hne:k≠nx:=by omega
  obtain⟨a1,a2⟩:=hkeep k hk hE hcl;exact⟨by rw[Env.set_other _ _ _ _ hne];exact hE,by rw[ar,if_neg hne,ar,if_neg a2,a1]⟩
 have hgetc:∀ j,j<(len+n)*i.size->getC (putL .bad (old++news) 0 .e) j=((old++news)[j]?).getD .bad:=by
  intro j hj;rw[gI,if_pos (Nat.zero_le _),Nat.sub_zero,ah (by omega)];rfl
 have ho:=h.objs l p hl;rw[hobj] at ho;obtain⟨cc,fr,h1,h2,h3,h4,h5⟩:=ho;by_cases hin:len+n<=cap
 ·
  have hcc:(len+n)*i.size<=cap*i.size:=Nat.mul_le_mul_right _ hin;have hsum:(len+n)*i.size=len*i.size+n*i.size:=Nat.add_mul _ _ _
  have hrun:=bB (P:=P) p.blk (p.base+off+len*i.size) e fr xs 0 cc w h1
   (fun j hj1 hj2=>FzR.ok h4 hfz (by omega) (by omega)) (by omega) (hnews.one hone)
  simp only[Nat.add_zero] at hrun;generalize hc':(cc.toList.take (p.base+off+len*i.size)++xs++cc.toList.drop (p.base+off+len*i.size+xs.length)).toArray=c' at hrun;have hcsz:c'.size=cc.size:=by rw[<- hc'];simp;omega
  have hcg:∀ j,c'[j]? = if p.base+off+len*i.size<=j/\j<p.base+off+len*i.size+xs.length then xs[j-(p.base+off+len*i.size)]? else cc[j]? := by
   intro j;rw[<- hc'];simp only[List.getElem?_toArray];by_cases c1:j<p.base+off+len*i.size
   ·rw[if_neg (by omega),List.append_assoc,List.getElem?_append_left (by simp;omega),List.getElem?_take,if_pos c1,Array.getElem?_toList]
   ·by_cases c2:j<p.base+off+len*i.size+xs.length
    ·rw[if_pos (by omega),List.getElem?_append_left (by simp;omega),List.getElem?_append_right (by simp;omega)]
     congr 1;simp;omega
    ·rw[if_neg (by omega),List.getElem?_append_right (by simp;omega),List.getElem?_drop,Array.getElem?_toList]
     congr 1;simp;omega
  have hself:(w.setRow p.blk c').heap[p.blk]? = some (.cells c' e fr):=setRow_heap w p.blk cc c' e fr h1
  have hq:VR (E.set nx ⟨p.blk,p.base+off,p.size-off,undef,noOb,[]⟩) (.slice nx 0 (len+n) none i.size) (.slice (some ⟨p.blk,p.base+off,none⟩) (len+n) cap):=by
   have:=VR.slice (E:=E.set nx ⟨p.blk,p.base+off,p.size-off,undef,noOb,[]⟩) nx 0 (len+n) none i.size ⟨p.blk,p.base+off,p.size-off,undef,noOb,[]⟩ cap (Env.set_self _ _ _) hin (by show 0+cap*i.size<=p.size-off;omega) (by simp);simpa using this
  have hle:E.le (E.set nx ⟨p.blk,p.base+off,p.size-off,undef,noOb,[]⟩):=Env.le_set _ hn.1;refine⟨_,_,_,fB ht hu hi hx hin hrun,hle,hq,?_,by show nx0<=nx+1;omega,hkeepF _⟩;refine h.join hl hc hobj hcls (rel+off) (rel+(off+len*i.size)) _ _ _ _ _ _ _ hlim (Nat.le_max_left _ _) ?_ (fun _ _=>rfl) rfl rfl rfl ?_ (by rw[setRow_size];exact am _) (by rw[setRow_size];exact (h.own l p hl).1) (.inr ⟨rfl,?_,cc,c',fr,h1,hself,hcsz,?_⟩) ?_
  ·refine Nat.le_trans ?_ (Nat.le_max_right _ _);rw[hlen];show rel+off+(len+n)*i.size<=rel+(off+len*i.size)+n*i.size;omega
  ·intro b hb hne;exact setRow_other w p.blk b c' hne
  ·show p.base+off+rel=p.base+(rel+off);omega
  ·intro j hj;rw[hcg,if_neg (by omega)]
  ·show OR _ _ _ _ ((w.setRow p.blk c').heap[p.blk]?) _
   rw[hself];refine⟨c',fr,rfl,by rw[hcsz];show cc.size=p.base+off+(p.size-off);omega,by show (len+n)*i.size<=p.size-off;omega,?_,?_⟩
   ·rw[hcsz]
    cases fz with
    |zero=>simp only[FzR] at h4;subst h4;simp[fzUp,FzR]
    |succ k=>
     cases k with
     |zero=>simp only[FzR] at h4;subst h4;simp only[fzUp,FzR];omega
     |succ k=>
      simp only[FzR] at h4;show ∀ j,p.base+off+(k-off)<=j->_;intro j hj1 hj2;exact h4 j (by omega) hj2
   ·intro j hj _
    replace hj:j<(len+n)*i.size:=hj;rw[hgetc j hj];obtain⟨x,hx',hr⟩:=hallR.get j _ (ah (by omega));refine⟨x,?_,?_⟩
    ·show c'[p.base+off+j]? = some x
     rw[hcg];by_cases c1:j<len*i.size
     ·rw[if_neg (by omega)]
      rw[List.getElem?_append_left (by omega)] at hx';have:=hcells j x hx';rw[bI,sf h1] at this;rw[<- this];congr 1;omega
     ·rw[if_pos (by omega)]
      rw[List.getElem?_append_right (by omega)] at hx';rw[<- hx',hlo];congr 1;omega
    ·rw[ah (by omega)];exact hr.mono hle
 ·
  have hrun:=dR (w:=w) (ty:=ty) ht hu hi hz (XR.slice (P:=P) (c:=cap) hlo hcells) hx (by omega) hroom;have hge:=grownCap_ge w (len+n) cap e;generalize hcap:grownCap w (len+n) cap e=nc at hrun hge;generalize hrow:(olds++xs++(Builtin.zeroCells z.cells (nc-(len+n))).toList).toArray=row at hrun
  have hsz:row.size=nc*i.size:=by
   rw[<- hrow,List.size_toArray,List.length_append,List.length_append,bu,hzl,hlo,hlx,<- Nat.add_mul,<- Nat.add_mul];congr 1;omega
  have hle:E.le (E.set nx ⟨w.heap.size,0,nc*i.size,undef,noOb,[]⟩):=Env.le_set _ hn.1;refine⟨_,_,_,hrun,hle,eQ E nx _ _ (len+n) i.size none nc hge (am _) (by simp),?_,by show nx0<=nx+1;omega,hkeepF _⟩;refine h.join hl hc hobj hcls (rel+off) (rel+(off+len*i.size)) _ _ _ _ _ _ _ hlim (Nat.le_max_left _ _) ?_ (fun _ _=>rfl) rfl rfl rfl ?_ (by simp) (by simp) (.inl (am _)) ?_
  ·refine Nat.le_trans ?_ (Nat.le_max_right _ _);rw[hlen];show rel+off+(len+n)*i.size<=rel+(off+len*i.size)+n*i.size;rw[Nat.add_mul];omega
  ·intro b hb hne;show (w.heap.push _)[b]? = _;rw[Array.getElem?_push,if_neg (by omega)]
  ·show OR _ _ _ _ ((w.heap.push _)[w.heap.size]?) _
   rw[Array.getElem?_push,if_pos rfl];refine⟨row,(0,0),rfl,by rw[hsz];show _=0+nc*i.size;omega,Nat.mul_le_mul_right _ hge,?_,?_⟩
   ·cases fz with
    |zero=>simp[fzUp,FzR]
    |succ k=>cases k with
     |zero=>simp[fzUp,FzR]
     |succ k=>intro j _ _;simp
   ·intro j hj _
    replace hj:j<(len+n)*i.size:=hj;rw[hgetc j hj];obtain⟨x,hx',hr⟩:=hallR.get j _ (ah (by omega));refine⟨x,?_,?_⟩
    ·show row[0+j]? = some x
     rw[<- hrow,List.getElem?_toArray,Nat.zero_add,List.getElem?_append_left (ae.1 hx').1];exact hx'
    ·rw[ah (by omega)];exact hr.mono hle
end
end Go.Exo
end
