/-
  EXO, part F: what an abstract value, object, heap stands for. Own text.
-/
import Derived.Test.YtihaakenfdkgnaaGreatDoorPart2
import Derived.Calls
import Derived.ChangeKeysEq
import Derived.WideLaws
import Derived.WalkKit
set_option linter.all false
noncomputable section
namespace Go.Exo
inductive Cl where
 |int (n:Int)
 |bool (b:Bool)
 |str (s:List UInt8)
 |sl (nl:Bool)(rows:List (List Cl))
 |raw (v:Value)
 |no
structure Gh where
 ob:Obj
 kp:Nat->Value->Obj->Prop
 fz:Nat->Nat->Option Value
 vl:Nat->Cl
 fn:Nat->List Cl->Cl
structure Pl where
 blk:Nat
 base:Nat
 size:Nat
 val:Value
 ob:Gh
 tail:List Item
def noOb:Gh:=⟨.deferred none,fun _ _ _=>True,fun _ _=>none,fun _=>.no,fun _ _=>.no⟩
abbrev Env:=Nat->Option Pl
def Env.le (E E':Env):Prop:=∀ l p,E l=some p->E' l=some p
theorem Env.le.refl (E:Env):E.le E:=fun _ _ h=>h
theorem Env.le.trans {E E' E'':Env}(h:E.le E')(h':E'.le E''):E.le E'':=fun l p e=>h' l p (h l p e)
def Env.set (E:Env)(l:Nat)(p:Pl):Env:=fun k=>if k=l then some p else E k
theorem Env.set_self (E:Env)(l:Nat)(p:Pl):E.set l p l=some p:=by simp[Env.set]
theorem Env.set_other (E:Env)(l k:Nat)(p:Pl)(h:k≠l):E.set l p k=E k:=by simp[Env.set,h]
theorem Env.le_set {E:Env}{l:Nat}(p:Pl)(h:E l=none):E.le (E.set l p):=by
 intro k q hk;by_cases e:k=l
 ·subst e;rw[h] at hk;cases hk
 ·rw[Env.set_other _ _ _ _ e];exact hk
def FnR (E:Env):Fn->Fn->Prop
 |.func f,g=>g=.func f
 |.yield l,g=>∃ p,E l=some p/\g=.yield p.blk
 |_,_=>False
theorem FnR.mono {E E':Env}(h:E.le E'){f g:Fn}(hf:FnR E f g):FnR E' f g:=by
 cases f<;>first|exact hf|(obtain⟨p,hp,e⟩:=hf;exact⟨p,h _ _ hp,e⟩)
def Cl.hd:List Cl->Cl
 |c::_=>c
 |[]=>.no
def intD (op:BinOp)(k:IntKind)(a b:Int):Cl:=
 match op with
 |.add=>.int (k.wrap (a+b))
 |.sub=>.int (k.wrap (a-b))
 |.mul=>.int (k.wrap (a*b))
 |.quo=>.int (k.wrap (a.tdiv b))
 |.rem=>.int (a.tmod b)
 |.and=>.int (k.wrap (BitVec.ofInt k.bits a &&& BitVec.ofInt k.bits b).toNat)
 |.or=>.int (k.wrap (BitVec.ofInt k.bits a ||| BitVec.ofInt k.bits b).toNat)
 |.xor=>.int (k.wrap (BitVec.ofInt k.bits a ^^^ BitVec.ofInt k.bits b).toNat)
 |.andNot=>.int (k.wrap (BitVec.ofInt k.bits a &&& ~~~ BitVec.ofInt k.bits b).toNat)
 |.eql=>.bool (a==b)
 |.neq=>.bool (!(a==b))
 |.lss=>.bool (decide (a<b))
 |.leq=>.bool (decide (a<=b))
 |.gtr=>.bool (decide (b<a))
 |.geq=>.bool (decide (b<=a))
 |_=>.no
def strD (op:BinOp)(a b:List UInt8):Cl:=
 match op with
 |.add=>.str (a++b)
 |.eql=>.bool (a==b)
 |.neq=>.bool (!(a==b))
 |.lss=>.bool (Op.bytesLess a b)
 |.leq=>.bool (Op.bytesLess a b || a==b)
 |.gtr=>.bool (!(Op.bytesLess a b || a==b))
 |.geq=>.bool (!Op.bytesLess a b)
 |_=>.no
def binD (op:BinOp):Kd->Cl->Cl->Cl
 |.int k,.int a,.int b=>intD op k a b
 |.str,.str a,.str b=>strD op a b
 |.bool,.bool a,.bool b=>(match op with|.eql=>.bool (a==b)|.neq=>.bool (!(a==b))|_=>.no)
 |_,_,_=>.no
def unD (op:UnOp):Kd->Cl->Cl
 |.int k,.int n=>(match op with|.neg=>.int (k.wrap (-n))|_=>.no)
 |.bool,.bool b=>(match op with|.not=>.bool (!b)|_=>.no)
 |_,_=>.no
def convD (k:IntKind):Cl->Cl|.int n=>.int (k.wrap n)|_=>.no
def lenC:Cl->Cl|.str s=>.int s.length|.sl _ r=>.int r.length|_=>.no
def inrD:Cl->Cl->Cl|.int i,.int n=>.bool (decide (0<=i/\i<n))|_,_=>.no
def rngD:Cl->Cl->Cl->Cl|.int lo,.int hi,.int n=>.bool (decide (0<=lo/\lo<=hi/\hi<=n))|_,_,_=>.no
def cmpD:Cl->Cl->Cl|.str a,.str b=>.int (cmpB a b)|_,_=>.no
def atD:Cl->Cl->Cl|.str s,.int i=>.int ((s.getD i.toNat 0).toNat:Int)|_,_=>.no
def subD:Cl->Cl->Cl->Cl|.str s,.int lo,.int hi=>.str ((s.drop lo.toNat).take (hi.toNat-lo.toNat))|_,_,_=>.no
def elD:Cl->Cl->Nat->Cl|.sl _ rows,.int i,j=>(rows.getD i.toNat []).getD j .no|_,_,_=>.no
def cutD:Cl->Cl->Cl->Cl|.sl nl rows,.int lo,.int hi=>.sl nl ((rows.drop lo.toNat).take (hi.toNat-lo.toNat))|_,_,_=>.no
def jk:Cl->Cl|.sl nl _=>.bool nl|_=>.no
def iT:Cl->List Cl->Cl|.sl _ rows,r=>.sl false (rows++[r])|_,_=>.no
def catD:Cl->Cl->Cl|.sl nl a,.sl _ b=>.sl (nl&&b.isEmpty) (a++b)|_,_=>.no
def X.den (E:Env):X->List Cl
 |.var l i _=>[match E l with|some p=>p.ob.vl i|none=>.no]
 |.int _ n=>[.int n]
 |.bool b=>[.bool b]
 |.str l n=>[.str (sB l n)]
 |.nil _=>[.sl true []]
 |.bin op a b=>[binD op a.kd (Cl.hd (a.den E)) (Cl.hd (b.den E))]
 |.un op a=>[unD op a.kd (Cl.hd (a.den E))]
 |.conv k a=>[convD k (Cl.hd (a.den E))]
 |.len a=>[lenC (Cl.hd (a.den E))]
 |.inr a b=>[inrD (Cl.hd (a.den E)) (Cl.hd (b.den E))]
 |.rng a b c=>[rngD (Cl.hd (a.den E)) (Cl.hd (b.den E)) (Cl.hd (c.den E))]
 |.cmp a b=>[cmpD (Cl.hd (a.den E)) (Cl.hd (b.den E))]
 |.atx a b=>[atD (Cl.hd (a.den E)) (Cl.hd (b.den E))]
 |.sub a b c=>[subD (Cl.hd (a.den E)) (Cl.hd (b.den E)) (Cl.hd (c.den E))]
 |.el a b j _=>[elD (Cl.hd (a.den E)) (Cl.hd (b.den E)) j]
 |.cut a b c=>[cutD (Cl.hd (a.den E)) (Cl.hd (b.den E)) (Cl.hd (c.den E))]
 |.isnil a=>[jk (Cl.hd (a.den E))]
 |.snoc a b=>[iT (Cl.hd (a.den E)) (b.den E)]
 |.cat a b=>[catD (Cl.hd (a.den E)) (Cl.hd (b.den E))]
 |.app l f a _=>[match E l with|some p=>p.ob.fn f (a.den E)|none=>.no]
 |.nilA=>[]
 |.cons a r=>Cl.hd (a.den E)::r.den E
def X.ok (E:Env):X->Prop
 |.var l _ _=>∃ p,E l=some p
 |.bin _ a b|.inr a b|.cmp a b|.atx a b|.el a b _ _|.snoc a b|.cat a b|.cons a b=>a.ok E/\b.ok E
 |.un _ a|.conv _ a|.len a|.isnil a=>a.ok E
 |.rng a b c|.sub a b c|.cut a b c=>a.ok E/\b.ok E/\c.ok E
 |.app l _ a _=>(∃ p,E l=some p)/\a.ok E
 |_=>True
theorem X.ok_mono {E E':Env}(h:E.le E'):∀ {t:X},t.ok E->t.ok E':=by
 intro t;induction t with
 |var l i k=>rintro⟨p,hp⟩;exact⟨p,h _ _ hp⟩
 |bin _ a b iha ihb=>rintro⟨h1,h2⟩;exact⟨iha h1,ihb h2⟩
 |inr a b iha ihb=>rintro⟨h1,h2⟩;exact⟨iha h1,ihb h2⟩
 |cmp a b iha ihb=>rintro⟨h1,h2⟩;exact⟨iha h1,ihb h2⟩
 |atx a b iha ihb=>rintro⟨h1,h2⟩;exact⟨iha h1,ihb h2⟩
 |el a b _ _ iha ihb=>rintro⟨h1,h2⟩;exact⟨iha h1,ihb h2⟩
 |snoc a b iha ihb=>rintro⟨h1,h2⟩;exact⟨iha h1,ihb h2⟩
 |cat a b iha ihb=>rintro⟨h1,h2⟩;exact⟨iha h1,ihb h2⟩
 |cons a b iha ihb=>rintro⟨h1,h2⟩;exact⟨iha h1,ihb h2⟩
 |un _ a ih=>exact ih
 |conv _ a ih=>exact ih
 |len a ih=>exact ih
 |isnil a ih=>exact ih
 |rng a b c iha ihb ihc=>rintro⟨h1,h2,h3⟩;exact⟨iha h1,ihb h2,ihc h3⟩
 |sub a b c iha ihb ihc=>rintro⟨h1,h2,h3⟩;exact⟨iha h1,ihb h2,ihc h3⟩
 |cut a b c iha ihb ihc=>rintro⟨h1,h2,h3⟩;exact⟨iha h1,ihb h2,ihc h3⟩
 |app l _ a _ ih=>rintro⟨⟨p,hp⟩,h2⟩;exact⟨⟨p,h _ _ hp⟩,ih h2⟩
 |_=>exact fun _=>trivial
theorem X.den_mono {E E':Env}(h:E.le E'):∀ {t:X},t.ok E->t.den E'=t.den E:=by
 intro t;induction t with
 |var l i k=>rintro⟨p,hp⟩;simp only[X.den,hp,h _ _ hp]
 |bin _ a b iha ihb=>rintro⟨h1,h2⟩;simp only[X.den,iha h1,ihb h2]
 |inr a b iha ihb=>rintro⟨h1,h2⟩;simp only[X.den,iha h1,ihb h2]
 |cmp a b iha ihb=>rintro⟨h1,h2⟩;simp only[X.den,iha h1,ihb h2]
 |atx a b iha ihb=>rintro⟨h1,h2⟩;simp only[X.den,iha h1,ihb h2]
 |el a b _ _ iha ihb=>rintro⟨h1,h2⟩;simp only[X.den,iha h1,ihb h2]
 |snoc a b iha ihb=>rintro⟨h1,h2⟩;simp only[X.den,iha h1,ihb h2]
 |cat a b iha ihb=>rintro⟨h1,h2⟩;simp only[X.den,iha h1,ihb h2]
 |cons a b iha ihb=>rintro⟨h1,h2⟩;simp only[X.den,iha h1,ihb h2]
 |un _ a ih=>intro h1;simp only[X.den,ih h1]
 |conv _ a ih=>intro h1;simp only[X.den,ih h1]
 |len a ih=>intro h1;simp only[X.den,ih h1]
 |isnil a ih=>intro h1;simp only[X.den,ih h1]
 |rng a b c iha ihb ihc=>rintro⟨h1,h2,h3⟩;simp only[X.den,iha h1,ihb h2,ihc h3]
 |sub a b c iha ihb ihc=>rintro⟨h1,h2,h3⟩;simp only[X.den,iha h1,ihb h2,ihc h3]
 |cut a b c iha ihb ihc=>rintro⟨h1,h2,h3⟩;simp only[X.den,iha h1,ihb h2,ihc h3]
 |app l _ a _ ih=>rintro⟨⟨p,hp⟩,h2⟩;simp only[X.den,hp,h _ _ hp,ih h2]
 |_=>exact fun _=>rfl
def Env.fz (E:Env)(b o:Nat)(v:Value):Prop:=∃ l p,E l=some p/\p.ob.fz b o=some v
theorem Env.fz_mono {E E':Env}(h:E.le E'){b o:Nat}{v:Value}:E.fz b o v->E'.fz b o v:=fun⟨l,p,hp,hv⟩=>⟨l,p,h _ _ hp,hv⟩
variable [Sx]
inductive CR (F:Nat->Nat->Value->Prop):Kd->Value->Cl->Prop where
 |int (k:IntKind)(n:Int):k.min<=n->n<=k.max->CR F (.int k) (.int k n) (.int n)
 |bool (b:Bool):CR F .bool (.bool b) (.bool b)
 |str (s:ByteArray):s.size<=maxLen->CR F .str (.string s) (.str s.data.toList)
 |nil (e:TypeId):CR F (.sl e) (.slice none 0 0) (.sl true [])
 |sl (e:TypeId)(blk off len cap:Nat)(rows:List (List Cl))(vs:Nat->Nat->Value):rows.length=len->len<=cap->cap<=maxLen->
   (∀ (i:Nat)(r:List Cl),rows[i]? = some r->r.length=(Sx.row e).length)->
   (∀ (i:Nat)(r:List Cl)(j:Nat)(c:Cl),rows[i]? = some r->r[j]? = some c->F blk (off+i*(Sx.row e).length+j) (vs i j))->
   (∀ (i:Nat)(r:List Cl)(j:Nat)(c:Cl)(k:Kd),rows[i]? = some r->r[j]? = some c->(Sx.row e)[j]? = some k->CR F k (vs i j) c)->
   CR F (.sl e) (.slice (some ⟨blk,off,none⟩) len cap) (.sl false rows)
 |e0 (e:TypeId)(a:Addr):CR F (.sl e) (.slice (some a) 0 0) (.sl false [])
 |raw (v:Value):v.cells=#[v]->v.oneCell'=true->CR F .raw v (.raw v)
theorem CR.mono {F F':Nat->Nat->Value->Prop}(h:∀ b o v,F b o v->F' b o v){k:Kd}{v:Value}{c:Cl}(hc:CR F k v c):CR F' k v c:=by
 induction hc with
 |int k n a b=>exact .int k n a b
 |bool b=>exact .bool b
 |str s a=>exact .str s a
 |nil e=>exact .nil e
 |sl e blk off len cap rows vs h1 h2 h3 h4 h5 _ ih=>exact .sl e blk off len cap rows vs h1 h2 h3 h4 (fun i r j c a b=>h _ _ _ (h5 i r j c a b)) ih
 |e0 e a=>exact .e0 e a
 |raw v a b=>exact .raw v a b
theorem CR.one {F:Nat->Nat->Value->Prop}{k:Kd}{v:Value}{c:Cl}(h:CR F k v c):v.cells=#[v]/\v.oneCell'=true:=by
 cases h<;>first|exact⟨rfl,rfl⟩|exact⟨by assumption,by assumption⟩
mutual
inductive VR (E:Env):V->Value->Prop where
 |bool (b:Bool):VR E (.bool b) (.bool b)
 |int (k:IntKind)(n:Int):VR E (.int k n) (.int k n)
 |str (len n:Nat)(s:ByteArray):s.data.toList=sB len n->n<256 ^ len->VR E (.str len n) (.string s)
 |nilp:VR E .nilp (.pointer none)
 |ptr (l off:Nat)(p:Pl):E l=some p->VR E (.ptr l off) (.pointer (some ⟨p.blk,p.base+off,none⟩))
 |nils:VR E .nils (.slice none 0 0)
 |slice (l off len:Nat)(cap:Option Nat)(esz:Nat)(p:Pl)(c:Nat):E l=some p->len<=c->off+c*esz<=p.size->(∀ k,cap=some k->k=c)->
   VR E (.slice l off len cap esz) (.slice (some ⟨p.blk,p.base+off,none⟩) len c)
 |nilm:VR E .nilm (.map none)
 |map (l:Nat)(p:Pl):E l=some p->VR E (.map l) (.map (some p.blk))
 |func (fn fn':Fn)(first captured:List V)(fs cs:List Value):FnR E fn fn'->VRs E first fs->VRs E captured cs->VR E (.func fn first captured) (.func fn' fs.toArray cs.toArray)
 |nilf:VR E .nilf .nilFunc
 |iface (t:TypeId)(v:V)(x:Value):VR E v x->VR E (.iface t v) (.iface t x)
 |nili:VR E .nili .nilIface
 |agg (cs:List V)(xs:List Value):VRs E cs xs->VR E (.agg cs) (.agg xs.toArray)
 |tup (vs:List V)(xs:List Value):VRs E vs xs->VR E (.tup vs) (.tuple xs.toArray)
 |sym (l:Nat)(p:Pl)(x:Value):E l=some p->x=p.val->x.cells=#[x]->x.oneCell'=true->VR E (.sym l) x
 |top (l:Nat)(p:Pl)(x:Value):E l=some p->x=p.val->x.cells=#[x]->VR E (.top l) x
 |emp (l esz:Nat)(p:Pl)(o c:Nat):E l=some p->o<=p.base+p.size->VR E (.emp l esz) (.slice (some ⟨p.blk,o,none⟩) 0 c)
 |x (t:X)(v:Value):t.ok E->CR E.fz t.kd v (Cl.hd (t.den E))->VR E (.x t) v
 |xa (s i:X)(j:Nat)(e:TypeId)(blk off len cap n:Nat)(rows:List (List Cl)):s.ok E->i.ok E->s.kd=.sl e->CR E.fz (.sl e) (.slice (some ⟨blk,off,none⟩) len cap) (.sl false rows)->
   Cl.hd (s.den E)=.sl false rows->Cl.hd (i.den E)=.int n->n<len->VR E (.xa s i j) (.pointer (some ⟨blk,off+n*(Sx.row e).length+j,none⟩))
 |lst (l:Nat)(p:Pl)(t:X)(e:TypeId)(off len cap:Nat):E l=some p->t.ok E->t.kd=.sl e->CR E.fz (.sl e) (.slice (some ⟨p.blk,off,none⟩) len cap) (Cl.hd (t.den E))->
   off+len*(Sx.row e).length=p.base->off+cap*(Sx.row e).length<=p.base+p.size->VR E (.lst l t) (.slice (some ⟨p.blk,off,none⟩) len cap)
 |junk (v:Value):VR E .junk v
inductive VRs (E:Env):List V->List Value->Prop where
 |nil:VRs E [] []
 |cons (v:V)(x:Value)(vs:List V)(xs:List Value):VR E v x->VRs E vs xs->VRs E (v::vs) (x::xs)
end
mutual
theorem VR.mono {E E':Env}(h:E.le E'):∀ {v:V}{x:Value},VR E v x->VR E' v x
 |_,_,.bool b=>.bool b
 |_,_,.int k n=>.int k n
 |_,_,.str l n s h1 h2=>.str l n s h1 h2
 |_,_,.nilp=>.nilp
 |_,_,.ptr l o p hp=>.ptr l o p (h _ _ hp)
 |_,_,.nils=>.nils
 |_,_,.slice l o n c e p k hp h1 h2 h3=>.slice l o n c e p k (h _ _ hp) h1 h2 h3
 |_,_,.nilm=>.nilm
 |_,_,.map l p hp=>.map l p (h _ _ hp)
 |_,_,.func f g a b c d hf h1 h2=>.func f g a b c d (hf.mono h) (VRs.mono h h1) (VRs.mono h h2)
 |_,_,.nilf=>.nilf
 |_,_,.iface t v x h1=>.iface t v x (VR.mono h h1)
 |_,_,.nili=>.nili
 |_,_,.agg a b h1=>.agg a b (VRs.mono h h1)
 |_,_,.tup a b h1=>.tup a b (VRs.mono h h1)
 |_,_,.sym l p x hp h1 h2 h3=>.sym l p x (h _ _ hp) h1 h2 h3
 |_,_,.top l p x hp h1 h2=>.top l p x (h _ _ hp) h1 h2
 |_,_,.emp l e p o c hp h1=>.emp l e p o c (h _ _ hp) h1
 |_,_,.x t v h1 h2=>.x t v (X.ok_mono h h1) (X.den_mono h h1 ▸ h2.mono fun _ _ _=>Env.fz_mono h)
 |_,_,.xa s i j e b o n c m r h1 h2 h3 h4 h5 h6 h7=>.xa s i j e b o n c m r (X.ok_mono h h1) (X.ok_mono h h2) h3 (h4.mono fun _ _ _=>Env.fz_mono h) (by rw[X.den_mono h h1];exact h5) (by rw[X.den_mono h h2];exact h6) h7
 |_,_,.lst l p t e o n c hp h1 h2 h3 h4 h5=>.lst l p t e o n c (h _ _ hp) (X.ok_mono h h1) h2 (by rw[X.den_mono h h1];exact h3.mono fun _ _ _=>Env.fz_mono h) h4 h5
 |_,_,.junk v=>.junk v
theorem VRs.mono {E E':Env}(h:E.le E'):∀ {vs:List V}{xs:List Value},VRs E vs xs->VRs E' vs xs
 |_,_,.nil=>.nil
 |_,_,.cons v x vs xs h1 h2=>.cons v x vs xs (VR.mono h h1) (VRs.mono h h2)
end
theorem VRs.length {E:Env}{vs:List V}{xs:List Value}(h:VRs E vs xs):vs.length=xs.length:=by
 induction vs generalizing xs with
 |nil=>cases h;rfl
 |cons v r ih=>cases h with|cons _ x _ ys h1 h2=>simp[ih h2]
theorem VRs.append {E:Env}{vs us:List V}{xs ys:List Value}(h:VRs E vs xs)(h':VRs E us ys):VRs E (vs++us) (xs++ys):=by
 induction vs generalizing xs with
 |nil=>cases h;exact h'
 |cons v r ih=>cases h with|cons _ x _ zs h1 h2=>exact .cons _ _ _ _ h1 (ih h2)
theorem VRs.get {E:Env}{vs:List V}{xs:List Value}(h:VRs E vs xs)(i:Nat)(v:V)(hv:vs[i]? = some v):∃ x,xs[i]? = some x/\VR E v x:=by
 induction vs generalizing xs i with
 |nil=>simp at hv
 |cons u r ih=>cases h with
  |cons _ x _ ys h1 h2=>
   cases i with
   |zero=>simp at hv;subst hv;exact⟨x,rfl,h1⟩
   |succ i=>simp at hv;obtain⟨z,hz,hr⟩:=ih h2 i hv;exact⟨z,by simpa using hz,hr⟩
theorem VRs.of_get {E:Env}:∀ {vs:List V}{xs:List Value},vs.length=xs.length->(∀ (i:Nat) v,vs[i]? = some v->∃ x,xs[i]? = some x/\VR E v x)->VRs E vs xs
 |[],[],_,_=>.nil
 |[],_::_,h,_=>by simp at h
 |_::_,[],h,_=>by simp at h
 |v::vs,x::xs,h,hg=>by
  obtain⟨y,hy,hr⟩:=hg 0 v rfl;simp at hy;subst hy;exact .cons _ _ _ _ hr (VRs.of_get (by simpa using h) fun i u hu=>by simpa using hg (i+1) u (by simpa using hu))
theorem VRs.take {E:Env}{vs:List V}{xs:List Value}(h:VRs E vs xs)(n:Nat):VRs E (vs.take n) (xs.take n):=by
 induction n generalizing vs xs with
 |zero=>simp;exact .nil
 |succ n ih=>cases h with
  |nil=>simp;exact .nil
  |cons v x vs xs h1 h2=>simp;exact .cons _ _ _ _ h1 (ih h2)
theorem VRs.drop {E:Env}{vs:List V}{xs:List Value}(h:VRs E vs xs)(n:Nat):VRs E (vs.drop n) (xs.drop n):=by
 induction n generalizing vs xs with
 |zero=>simpa using h
 |succ n ih=>cases h with
  |nil=>simp;exact .nil
  |cons v x vs xs h1 h2=>simpa using ih h2
theorem VR.cells {E:Env}{v:V}{x:Value}(h:VR E v x)(hr:v.real=true):VRs E v.cells x.cells.toList:=by
 cases h<;>first
  |exact .cons _ _ _ _ (by first|exact .bool _|exact .int _ _|exact .nilp|exact .nils|exact .nilm|exact .nilf|exact .nili) .nil
  |(rename_i h1 h2;exact .cons _ _ _ _ (.str _ _ _ h1 h2) .nil)
  |(rename_i h1;exact .cons _ _ _ _ (.ptr _ _ _ h1) .nil)
  |(rename_i h1 h2 h3 h4;exact .cons _ _ _ _ (.slice _ _ _ _ _ _ _ h1 h2 h3 h4) .nil)
  |(rename_i h1;exact .cons _ _ _ _ (.map _ _ h1) .nil)
  |(rename_i h1 h2 h3;exact .cons _ _ _ _ (.func _ _ _ _ _ _ h1 h2 h3) .nil)
  |(rename_i h1;exact .cons _ _ _ _ (.iface _ _ _ h1) .nil)
  |(rename_i h1;exact h1)
  |(rename_i h1;exact .cons _ _ _ _ (.tup _ _ h1) .nil)
  |(rename_i h1 h2 h3 h4;rw[h3];exact .cons _ _ _ _ (.sym _ _ _ h1 h2 h3 h4) .nil)
  |(rename_i h1 h2 h3;rw[h3];exact .cons _ _ _ _ (.top _ _ _ h1 h2 h3) .nil)
  |(rename_i h1 h2;exact .cons _ _ _ _ (.emp _ _ _ _ _ h1 h2) .nil)
  |(rename_i h1 h2;rw[h2.one.1];exact .cons _ _ _ _ (.x _ _ h1 h2) .nil)
  |(rename_i h1 h2 h3 h4 h5 h6 h7;exact .cons _ _ _ _ (.xa _ _ _ _ _ _ _ _ _ _ h1 h2 h3 h4 h5 h6 h7) .nil)
  |(rename_i h1 h2 h3 h4 h5 h6;exact .cons _ _ _ _ (.lst _ _ _ _ _ _ _ h1 h2 h3 h4 h5 h6) .nil)
  |(cases hr)
theorem V.fine_real {v:V}(h:v.fine=true):v.real=true:=by
 cases v<;>first|rfl|(simp[V.fine] at h;done)
theorem VR.one {E:Env}{v:V}{x:Value}(h:VR E v x)(h1:v.one=true):x.oneCell'=true:=by
 cases h<;>first|rfl|assumption|(exact (CR.one (by assumption)).2)|(simp[V.one] at h1;done)
theorem VRs.one {E:Env}{vs:List V}{xs:List Value}(h:VRs E vs xs)(h1:gu vs=true):∀ x∈xs,x.oneCell'=true:=by
 induction vs generalizing xs with
 |nil=>cases h;simp
 |cons v r ih=>cases h with
  |cons _ x _ ys h2 h3=>
   simp only[gu,Bool.cond_eq_ite] at h1;split at h1
   ·rename_i hv
    intro y hy;cases hy with
    |head=>exact h2.one hv
    |tail _ hy=>exact ih h3 h1 y hy
   ·cases h1
theorem VR.undef (E:Env):VR E au undef:=.tup [] [] .nil
def TR (E:Env)(tm:T V)(xs:Array Value):Prop:=∀ i,VR E (getU tm i) (xs.getD i undef)
theorem TR.mono {E E':Env}(h:E.le E'){tm:T V}{xs:Array Value}(ht:TR E tm xs):TR E' tm xs:=fun i=>(ht i).mono h
def okAt (H:T AObj)(l cls pos:Nat):Prop:=
 cls=0\/∃ cur lim mk,getH H cls=.cls cur lim mk/\(lim=none\/cur=l\/∃ m,lim=some m/\pos<m)
def FzR (fr:Nat×Nat)(fz base n:Nat):Prop:=
 match fz with
 |0=>fr=(0,0)
 |1=>fr=(n,n+1)
 |k+2=>∀ i,base+k<=i->i<n->¬ (fr.1<=i/\i<fr.2)
def ERs (E:Env):List (V×V×Nat)->List MapEntry->Prop
 |[],[]=>True
 |(k,v,b)::r,e::es=>VR E k e.key/\VR E v e.val/\e.born=b/\ERs E r es
 |_,_=>False
theorem ERs.mono {E E':Env}(h:E.le E'):∀ {l:List (V×V×Nat)}{es:List MapEntry},ERs E l es->ERs E' l es
 |[],[],_=>trivial
 |(_,_,_)::_,_::_,⟨h1,h2,h3,h4⟩=>⟨h1.mono h,h2.mono h,h3,ERs.mono h h4⟩
 |[],_::_,hh=>hh.elim
 |_::_,[],hh=>hh.elim
def OR (E:Env)(H:T AObj)(l:Nat)(p:Pl)(ob:Option Obj):AObj->Prop
 |.no=>True
 |.cls _ _ _=>True
 |.cells vs len elem cls rel fz _=>∃ c fr,ob=some (.cells c elem fr)/\c.size=p.base+p.size/\len<=p.size/\FzR fr fz p.base c.size/\
   ∀ i,i<len->okAt H l cls (rel+i)->∃ x,c[p.base+i]? = some x/\VR E (getC vs i) x
 |.map es clock=>∃ es':Array MapEntry,ob=some (.map es' clock)/\ERs E es es'.toList
 |.mapR es clock=>∃ es':Array MapEntry,ob=some (.map es' clock)/\ERs E es es'.toList
 |.mit0 m since=>∃ q,E m=some q/\ob=some (.mapIter (some q.blk) since #[] since)/\p.base=0
 |.mit m b clock=>∃ q since seen,E m=some q/\ob=some (.mapIter (some q.blk) since seen clock)/\seen.back? = some b/\p.base=0
 |.siter len n pos=>∃ s,ob=some (.stringIter s pos)/\s.data.toList=sB len n/\n<256 ^ len/\p.base=0
 |.loop st pd fn tm sz ps assign body d=>∃ (tmps:Array Value)(q:Pl),E d=some q/\TR E tm tmps/\tmps.size=sz/\
   ob=some (.loop { state:=st,pending:=pd,fn,tmps,params:=ps.toArray,assign,body,defers:=q.blk })
 |.defd=>ob=some (.deferred (some []))
 |.keep s=>ob=some p.ob.ob/\∃ q,E s=some q/\q.ob.kp p.blk p.val p.ob.ob
 |.own e=>∃ c,ob=some (.cells c e (0,0))/\p.base+p.size<=c.size
def aw:AObj->Nat
 |.cells _ _ _ cls _ _ _=>cls
 |_=>0
def cP:AObj->Nat
 |.cells _ _ _ _ rel _ _=>rel
 |_=>0
def iU:AObj->Nat
 |.cells _ len _ _ rel _ _=>rel+len
 |_=>0
def isRo:AObj->Bool
 |.cells _ _ _ _ _ _ ro=>ro
 |.keep _|.mapR _ _|.mit _ _ _=>true
 |_=>false
def p6:AObj->Pl->Nat->Prop
 |.own _,p,o=>o<p.base
 |ao,_,_=>ao=.no\/isRo ao=true
def isOwn:AObj->Bool
 |.own _=>true
 |_=>false
theorem dP {ao:AObj}{p:Pl}{o:Nat}(h:p6 ao p o)(h1:ao≠.no)(h2:isRo ao=false)(h3:isOwn ao=false):False:=by
 have key:isOwn ao=false->p6 ao p o->ao=.no\/isRo ao=true:=by
  intro h3 h;cases ao<;>first|(cases h3;done)|exact h
 rcases key h3 h with h|h
 ·exact h1 h
 ·rw[h2] at h;cases h
theorem bG {w w':World}{b o:Nat}(h:w'.heap[b]? = w.heap[b]?):w'.cell? ⟨b,o,none⟩=w.cell? ⟨b,o,none⟩:=by unfold World.cell?;rw[h]
theorem fA {w:World}{b o:Nat}{v:Value}(h:w.cell? ⟨b,o,none⟩=some v):b<w.heap.size:=by
 unfold World.cell? at h;cases hh:w.heap[b]? with
 |none=>rw[hh] at h;cases h
 |some x=>exact (ag.1 hh).1
structure Bs where
 w:World
 old:Nat->Prop
 lt:∀ b,old b->b<w.heap.size
 env:Env
variable [Dc]
structure WR (w0:Bs)(E:Env)(H:T AObj)(nx:Nat)(w:World):Prop where
 objs:∀ l p,E l=some p->OR E H l p w.heap[p.blk]? (getH H l)
 fresh:∀ l,nx<=l->E l=none/\getH H l=.no
 sep:∀ l l' p p',l≠l'->E l=some p->E l'=some p'->p.blk=p'.blk->(getH H l=.no\/getH H l'=.no\/ (aw (getH H l)≠0/\aw (getH H l)=aw (getH H l')/\p.base+cP (getH H l')=p'.base+cP (getH H l)))\/(isRo (getH H l)=true/\isRo (getH H l')=true)
 cls:∀ l,aw (getH H l)≠0->∃ cur lim mk,getH H (aw (getH H l))=.cls cur lim mk/\iU (getH H l)<=mk/\E (aw (getH H l))=none
 own:∀ l p,E l=some p->p.blk<w.heap.size/\(getH H l=.no\/isRo (getH H l)=true\/¬ w0.old p.blk)
 old:∀ b,w0.old b->w.heap[b]? = w0.w.heap[b]?
 size:w0.w.heap.size<=w.heap.size
 os:w.os=w0.w.os
 output:w.output=w0.w.output
 tape:w.tape=w0.w.tape
 le:w0.env.le E
 dat:∀ l p,E l=some p->∀ b o v,p.ob.fz b o=some v->w.cell? ⟨b,o,none⟩=some v/\∀ l' p',E l'=some p'->p'.blk=b->p6 (getH H l') p' o
 dec:∀ t b,Dc.dec t=some b->t.ok w0.env/\Cl.hd (t.den w0.env)=.bool b
 fzo:∀ l p,E l=some p->∀ b o v,p.ob.fz b o=some v->w0.old b->w0.env.fz b o v
theorem WR.sepW {w0:Bs}{E:Env}{H:T AObj}{nx:Nat}{w:World}(h:WR w0 E H nx w){l l':Nat}{p p':Pl}(hr:isRo (getH H l')=false)(hne:l≠l')(hl:E l=some p)(hl':E l'=some p')(hb:p.blk=p'.blk):getH H l=.no\/getH H l'=.no\/
  (aw (getH H l)≠0/\aw (getH H l)=aw (getH H l')/\p.base+cP (getH H l')=p'.base+cP (getH H l)):=by
 rcases h.sep l l' p p' hne hl hl' hb with h|h
 ·exact h
 ·rw[hr] at h;cases h.2
theorem WR.sepV {w0:Bs}{E:Env}{H:T AObj}{nx:Nat}{w:World}(h:WR w0 E H nx w){l l':Nat}{p p':Pl}(hr:isRo (getH H l)=false)(hne:l≠l')(hl:E l=some p)(hl':E l'=some p')(hb:p.blk=p'.blk):getH H l=.no\/getH H l'=.no\/
  (aw (getH H l)≠0/\aw (getH H l)=aw (getH H l')/\p.base+cP (getH H l')=p'.base+cP (getH H l)):=by
 rcases h.sep l l' p p' hne hl hl' hb with h|h
 ·exact h
 ·rw[hr] at h;cases h.1
theorem WR.lt_old {w0:Bs}{E:Env}{H:T AObj}{nx:Nat}{w:World}(h:WR w0 E H nx w){b:Nat}(hb:w0.old b):b<w.heap.size:=Nat.lt_of_lt_of_le (w0.lt b hb) h.size
theorem WR.not_old {w0:Bs}{E:Env}{H:T AObj}{nx:Nat}{w:World}(h:WR w0 E H nx w){b:Nat}(hb:w.heap.size<=b):¬ w0.old b:=fun ho=>by have:=h.lt_old ho;omega
end Go.Exo
end

noncomputable section
namespace Go.Exo
variable [Sx] [Dc]
def a8:AObj->Bool
 |.cls _ _ _=>true
 |_=>false
theorem OR.trans {E E':Env}{H H':T AObj}{l:Nat}{p:Pl}{ob:Option Obj}{o:AObj}(h:OR E H l p ob o)(hE:E.le E')
  (hk:∀ pos,okAt H' l (aw o) pos->okAt H l (aw o) pos):OR E' H' l p ob o:=by
 cases o with
 |no=>trivial
 |cls=>trivial
 |cells vs len elem cls rel fz ro=>
  obtain⟨c,fr,h1,h2,h3,h4,h5⟩:=h;refine⟨c,fr,h1,h2,h3,h4,fun i hi ho=>?_⟩;obtain⟨x,hx,hv⟩:=h5 i hi (hk _ ho);exact⟨x,hx,hv.mono hE⟩
 |map es clock=>obtain⟨es',h1,h2⟩:=h;exact⟨es',h1,h2.mono hE⟩
 |mapR es clock=>obtain⟨es',h1,h2⟩:=h;exact⟨es',h1,h2.mono hE⟩
 |mit0=>obtain⟨q,h1,h2⟩:=h;exact⟨q,hE _ _ h1,h2⟩
 |mit=>obtain⟨q,a,b,h1,h2⟩:=h;exact⟨q,a,b,hE _ _ h1,h2⟩
 |siter=>exact h
 |loop=>obtain⟨tm,q,h1,h2,h3,h4⟩:=h;exact⟨tm,q,hE _ _ h1,h2.mono hE,h3,h4⟩
 |defd=>exact h
 |keep=>obtain⟨h1,q,h2,h3⟩:=h;exact⟨h1,q,hE _ _ h2,h3⟩
 |own=>exact h
theorem okAt.same {H H':T AObj}{l c pos:Nat}(h:okAt H' l c pos)(e:c≠0->getH H' c=getH H c):okAt H l c pos:=by
 rcases h with h|⟨a,b,m,h1,h2⟩
 ·exact .inl h
 ·by_cases h0:c=0
  ·exact .inl h0
  ·exact .inr ⟨a,b,m,(e h0) ▸ h1,h2⟩
section
variable {w0:Bs}{w:World}{E:Env}{H:T AObj}{nx:Nat}
theorem WR.draw (h:WR w0 E H nx w)(d:Nat):WR w0 E H nx { w with drawn:=d }:=
 ⟨h.objs,h.fresh,h.sep,h.cls,h.own,h.old,h.size,h.os,h.output,h.tape,h.le,h.dat,h.dec,h.fzo⟩
theorem WR.new (h:WR w0 E H nx w)(o:Obj)(ao:AObj)(size:Nat)(d:Nat)(hc:aw ao=0)(hk:a8 ao=false)
  (hor:OR (E.set nx ⟨w.heap.size,0,size,undef,noOb,[]⟩) (put .no H nx ao) nx ⟨w.heap.size,0,size,undef,noOb,[]⟩ (some o) ao) :
  WR w0 (E.set nx ⟨w.heap.size,0,size,undef,noOb,[]⟩) (put .no H nx ao) (nx+1) { w with heap:=w.heap.push o,drawn:=d }:=by
 have hn:=h.fresh nx (am _);have hle:E.le (E.set nx ⟨w.heap.size,0,size,undef,noOb,[]⟩):=Env.le_set _ hn.1;have hold:∀ l p,E l=some p->l≠nx:=fun l p hl e=>by subst e;rw[hn.1] at hl;cases hl
 have hget:∀ l,l≠nx->getH (put .no H nx ao) l=getH H l:=fun l e=>by rw[ar,if_neg e]
 have hself:getH (put .no H nx ao) nx=ao:=by rw[ar,if_pos rfl]
 have hcn:∀ l,aw (getH H l)≠0->aw (getH H l)≠nx:=fun l hc0 e=>by
  obtain⟨a,b,m,h1,_⟩:=h.cls l hc0;rw[e,hn.2] at h1;cases h1
 have hok:∀ l pos,okAt (put .no H nx ao) l (aw (getH H l)) pos->okAt H l (aw (getH H l)) pos:=
  fun l pos ho=>ho.same fun hc0=>hget _ (hcn l hc0)
 have hE:∀ l p,(E.set nx ⟨w.heap.size,0,size,undef,noOb,[]⟩) l=some p->(l=nx/\p=⟨w.heap.size,0,size,undef,noOb,[]⟩)\/(l≠nx/\E l=some p):=by
  intro l p hl;by_cases e:l=nx
  ·subst e;rw[Env.set_self] at hl;cases hl;exact .inl ⟨rfl,rfl⟩
  ·rw[Env.set_other _ _ _ _ e] at hl;exact .inr ⟨e,hl⟩
 have hpush:∀ b,b<w.heap.size->(w.heap.push o)[b]? = w.heap[b]? := fun b hb=>by
  rw[Array.getElem?_push];rw[if_neg (by omega)]
 refine⟨?_,?_,?_,?_,?_,?_,?_,h.os,h.output,h.tape,h.le.trans hle,?dat,h.dec,fun l p hl b o v hf ho=>by
  rcases hE l p hl with⟨rfl,rfl⟩|⟨_,hl⟩
  ·cases hf
  ·exact h.fzo l p hl b o v hf ho⟩
 case dat=>
  intro l p hl b off v hf;rcases hE l p hl with⟨rfl,rfl⟩|⟨hne,hl⟩
  ·cases hf
  ·obtain⟨h1,h2⟩:=h.dat l p hl b off v hf
   have hb:=fA h1;refine⟨(bG (w:=w) (hpush b hb)).trans h1,fun l' p' hl' hb'=>?_⟩;rcases hE l' p' hl' with⟨rfl,rfl⟩|⟨hne',hl'⟩
   ·simp only at hb';omega
   ·rw[hget l' hne'];exact h2 l' p' hl' hb'
 ·intro l p hl
  rcases hE l p hl with⟨rfl,rfl⟩|⟨hne,hl⟩
  ·rw[hself]
   show OR _ _ _ _ (w.heap.push o)[w.heap.size]? ao;rw[Array.getElem?_push,if_pos rfl];exact hor
  ·show OR _ _ _ _ (w.heap.push o)[p.blk]? _
   rw[hget l hne,hpush _ (h.own l p hl).1];exact (h.objs l p hl).trans hle (hok l)
 ·intro l hl
  have:=h.fresh l (by omega);exact⟨by rw[Env.set_other _ _ _ _ (by omega)];exact this.1,by rw[hget l (by omega)];exact this.2⟩
 ·intro l l' p p' hne hl hl' hb
  rcases hE l p hl with⟨e1,e2⟩|⟨hn1,g1⟩<;>rcases hE l' p' hl' with⟨e3,e4⟩|⟨hn2,g2⟩
  ·exact absurd (e1.trans e3.symm) hne
  ·have:=(h.own l' p' g2).1;rw[e2] at hb;simp only at hb;omega
  ·have:=(h.own l p g1).1;rw[e4] at hb;simp only at hb;omega
  ·rw[hget l hn1,hget l' hn2];exact h.sep l l' p p' hne g1 g2 hb
 ·intro l hc0
  by_cases e:l=nx
  ·subst e;rw[hself] at hc0;exact absurd hc hc0
  ·rw[hget l e] at hc0 ⊢
   obtain⟨a,b,m,h1,h2,h3⟩:=h.cls l hc0;exact⟨a,b,m,by rw[hget _ (hcn l hc0)];exact h1,h2,by rw[Env.set_other _ _ _ _ (hcn l hc0)];exact h3⟩
 ·intro l p hl
  show p.blk<(w.heap.push o).size/\_;rw[Array.size_push];rcases hE l p hl with⟨rfl,rfl⟩|⟨hne,hl⟩
  ·exact⟨Nat.lt_succ_self _,.inr (.inr (h.not_old (am _)))⟩
  ·rw[hget l hne]
   have:=h.own l p hl;exact⟨Nat.lt_succ_of_lt this.1,this.2⟩
 ·intro b hb
  show (w.heap.push o)[b]? = _;rw[hpush b (h.lt_old hb)];exact h.old b hb
 ·show _<=(w.heap.push o).size
  rw[Array.size_push];exact Nat.le_succ_of_le h.size
theorem WR.upd (h:WR w0 E H nx w)(l:Nat)(p:Pl)(hl:E l=some p)(ao:AObj)(hno:getH H l≠.no)(hcl:a8 (getH H l)=false)(hc:aw (getH H l)=0)(hro:isRo (getH H l)=false)(hown:isOwn (getH H l)=false)
  (hc':aw ao=0)(w':World)(ob:Obj)(hsz:w'.heap.size=w.heap.size)(hoth:∀ k,k≠p.blk->w'.heap[k]? = w.heap[k]?)(hob:w'.heap[p.blk]? = some ob)
  (hos:w'.os=w.os)(hout:w'.output=w.output)(htape:w'.tape=w.tape)(hor:OR E (put .no H l ao) l p (some ob) ao) :
  WR w0 E (put .no H l ao) nx w':=by
 have hlt:l<nx:=Nat.lt_of_not_le fun hh=>by rw[(h.fresh l hh).1] at hl;cases hl
 have hget:∀ k,k≠l->getH (put .no H l ao) k=getH H k:=fun k e=>by rw[ar,if_neg e]
 have hself:getH (put .no H l ao) l=ao:=by rw[ar,if_pos rfl]
 have hcn:∀ k,aw (getH H k)≠0->aw (getH H k)≠l:=fun k hc0 e=>by
  obtain⟨a,b,m,h1,_⟩:=h.cls k hc0;rw[e] at h1;rw[h1] at hcl;cases hcl
 have hok:∀ k pos,okAt (put .no H l ao) k (aw (getH H k)) pos->okAt H k (aw (getH H k)) pos:=
  fun k pos ho=>ho.same fun hc0=>hget _ (hcn k hc0)
 have hB:¬ w0.old p.blk:=by
  rcases (h.own l p hl).2 with hh|hh|hh
  ·exact absurd hh hno
  ·rw[hro] at hh;cases hh
  ·exact hh
 refine⟨?_,?_,?_,?_,?_,?_,by rw[hsz];exact h.size,hos.trans h.os,hout.trans h.output,htape.trans h.tape,h.le,?dat,h.dec,h.fzo⟩
 case dat=>
  intro k q hk b off v hf;obtain⟨h1,h2⟩:=h.dat k q hk b off v hf;have hbne:b≠p.blk:=fun e=>dP (h2 l p hl e.symm) hno hro hown
  refine⟨(bG (hoth b hbne)).trans h1,fun l' p' hl' hb'=>?_⟩;have e:l'≠l:=fun e=>by subst e;rw[hl] at hl';cases hl';exact hbne hb'.symm
  rw[hget l' e];exact h2 l' p' hl' hb'
 ·intro k q hk
  by_cases e:k=l
  ·subst e;rw[hl] at hk;cases hk
   rw[hself,hob];exact hor
  ·rw[hget k e]
   by_cases hb:q.blk=p.blk
   ·rcases h.sepW hro e hk hl hb with hh|hh|hh
    ·rw[hh];trivial
    ·exact absurd hh hno
    ·exact absurd (hh.2.1 ▸ hc) hh.1
   ·rw[hoth _ hb];exact (h.objs k q hk).trans (Env.le.refl E) (hok k)
 ·intro k hk
  have:=h.fresh k hk;exact⟨this.1,by rw[hget k (by omega)];exact this.2⟩
 ·intro k k' q q' hne hk hk' hb
  by_cases e:k=l
  ·subst e;rw[hl] at hk;cases hk
   rw[hget k' (Ne.symm hne)];refine .inl ?_;rcases h.sepV hro hne hl hk' hb with hh|hh|hh
   ·exact absurd hh hno
   ·exact .inr (.inl hh)
   ·exact absurd hc hh.1
  ·rw[hget k e]
   by_cases e':k'=l
   ·subst e';rw[hl] at hk';cases hk'
    refine .inl ?_;rcases h.sepW hro hne hk hl hb with hh|hh|hh
    ·exact .inl hh
    ·exact absurd hh hno
    ·exact absurd (hh.2.1 ▸ hc) hh.1
   ·rw[hget k' e'];exact h.sep k k' q q' hne hk hk' hb
 ·intro k hc0
  by_cases e:k=l
  ·subst e;rw[hself] at hc0;exact absurd hc' hc0
  ·rw[hget k e] at hc0 ⊢
   obtain⟨a,b,m,h1,h2,h3⟩:=h.cls k hc0;exact⟨a,b,m,by rw[hget _ (hcn k hc0)];exact h1,h2,h3⟩
 ·intro k q hk
  rw[hsz];by_cases e:k=l
  ·subst e;rw[hl] at hk;cases hk
   exact⟨(h.own k p hl).1,.inr (.inr hB)⟩
  ·rw[hget k e];exact h.own k q hk
 ·intro b hb
  rw[hoth b (fun e=>hB (e ▸ hb))];exact h.old b hb
theorem WR.updC (h:WR w0 E H nx w)(l:Nat)(p:Pl)(hl:E l=some p)(cs cs':T V)(len:Nat)(elem:TypeId)(c rel fz:Nat)(hc:c≠0)
  (hobj:getH H l=.cells cs len elem c rel fz false)(cur:Nat)(lim:Option Nat)(mk:Nat)(hcls:getH H c=.cls cur lim mk)(hall:lim=none\/cur=l)
  (off:Nat)(w':World)(cells cells':Array Value)(fr:Nat×Nat)(hsz:w'.heap.size=w.heap.size)(hoth:∀ k,k≠p.blk->w'.heap[k]? = w.heap[k]?)
  (hold:w.heap[p.blk]? = some (.cells cells elem fr))(hob:w'.heap[p.blk]? = some (.cells cells' elem fr))(hcsz:cells'.size=cells.size)
  (hsame:∀ i,i<p.base+off->cells'[i]? = cells[i]?)
  (hos:w'.os=w.os)(hout:w'.output=w.output)(htape:w'.tape=w.tape)
  (hnew:∀ i,i<len->∃ x,cells'[p.base+i]? = some x/\VR E (getC cs' i) x) :
  WR w0 E (put .no (put .no H c (.cls l (some (minO lim (rel+off))) mk)) l (.cells cs' len elem c rel fz false)) nx w':=by
 have hlt:l<nx:=Nat.lt_of_not_le fun hh=>by rw[(h.fresh l hh).1] at hl;cases hl
 have hcl:c≠l:=fun e=>by rw[e,hobj] at hcls;cases hcls
 have hclt:c<nx:=Nat.lt_of_not_le fun hh=>by rw[(h.fresh c hh).2] at hcls;cases hcls
 have hEc:E c=none:=by
  obtain⟨_,_,_,_,_,h3⟩:=h.cls l (by rw[hobj];exact hc);rw[hobj] at h3;exact h3
 have hget:∀ k,k≠l->k≠c->getH (put .no (put .no H c (.cls l (some (minO lim (rel+off))) mk)) l (.cells cs' len elem c rel fz false)) k=getH H k:=
  fun k e e'=>by rw[ar,if_neg e,ar,if_neg e']
 have hself:getH (put .no (put .no H c (.cls l (some (minO lim (rel+off))) mk)) l (.cells cs' len elem c rel fz false)) l=.cells cs' len elem c rel fz false:=by rw[ar,if_pos rfl]
 have hC:getH (put .no (put .no H c (.cls l (some (minO lim (rel+off))) mk)) l (.cells cs' len elem c rel fz false)) c=.cls l (some (minO lim (rel+off))) mk:=by
  rw[ar,if_neg hcl,ar,if_pos rfl]
 generalize hH':put .no (put .no H c (.cls l (some (minO lim (rel+off))) mk)) l (.cells cs' len elem c rel fz false)=H' at *
 have hB:¬ w0.old p.blk:=by
  rcases (h.own l p hl).2 with hh|hh|hh
  ·rw[hobj] at hh;cases hh
  ·rw[hobj] at hh;cases hh
  ·exact hh
 have hmin:∀ pos,pos<minO lim (rel+off)->pos<rel+off/\(lim=none\/∃ m,lim=some m/\pos<m):=by
  intro pos hp;cases lim with
  |none=>exact⟨hp,.inl rfl⟩
  |some m=>
   simp only[minO] at hp;cases hb:Nat.ble m (rel+off) with
   |true=>rw[hb] at hp;have:=ab hb;exact⟨by simp at hp;omega,.inr ⟨m,rfl,hp⟩⟩
   |false=>
    rw[hb] at hp;have:¬ m<=rel+off:=fun hh=>by rw[an hh] at hb;cases hb
    exact⟨hp,.inr ⟨m,rfl,by simp at hp;omega⟩⟩
 have hokc:∀ k pos,k≠l->okAt H' k c pos->pos<rel+off/\okAt H k c pos:=by
  intro k pos hk ho;rcases ho with ho|⟨a,b,m,h1,h2⟩
  ·exact absurd ho hc
  ·rw[hC] at h1;cases h1
   rcases h2 with h2|h2|⟨m',h2,h3⟩
   ·cases h2
   ·exact absurd h2.symm hk
   ·cases h2
    obtain⟨h4,h5⟩:=hmin pos h3;refine⟨h4,.inr ⟨cur,lim,mk,hcls,?_⟩⟩;rcases h5 with h5|h5
    ·exact .inl h5
    ·exact .inr (.inr h5)
 have hokn:∀ k pos,aw (getH H k)≠c->aw (getH H k)≠l->okAt H' k (aw (getH H k)) pos->okAt H k (aw (getH H k)) pos:=
  fun k pos h1 h2 ho=>ho.same fun _=>hget _ h2 h1
 have hcnl:∀ k,aw (getH H k)≠0->aw (getH H k)≠l:=fun k hc0 e=>by
  obtain⟨a,b,m,h1,_⟩:=h.cls k hc0;rw[e,hobj] at h1;cases h1
 have hl0:l≠0\/l=0:=by omega
 refine⟨?_,?_,?_,?_,?_,?_,by rw[hsz];exact h.size,hos.trans h.os,hout.trans h.output,htape.trans h.tape,h.le,?dat,h.dec,h.fzo⟩
 case dat=>
  intro k q hk b off v hf;obtain⟨h1,h2⟩:=h.dat k q hk b off v hf;have hbne:b≠p.blk:=fun e=>dP (h2 l p hl e.symm) (by rw[hobj];intro hh;cases hh) (by rw[hobj];rfl) (by rw[hobj];rfl)
  refine⟨(bG (hoth b hbne)).trans h1,fun l' p' hl' hb'=>?_⟩;have e:l'≠l:=fun e=>by subst e;rw[hl] at hl';cases hl';exact hbne hb'.symm
  by_cases e':l'=c
  ·subst e';rw[hEc] at hl';cases hl'
  ·rw[hget l' e e'];exact h2 l' p' hl' hb'
 ·intro k q hk
  by_cases e:k=l
  ·subst e;rw[hl] at hk;cases hk
   rw[hself,hob];have ho:=h.objs k p hl;rw[hobj,hold] at ho;obtain⟨c0,fr0,h1,h2,h3,h4,_⟩:=ho;cases h1;exact⟨cells',fr,rfl,by rw[hcsz];exact h2,h3,by rw[hcsz];exact h4,fun i hi _=>hnew i hi⟩
  ·have hkc:k≠c:=fun e'=>by subst e';rw[hEc] at hk;cases hk
   rw[hget k e hkc];have ho:=h.objs k q hk;by_cases hb:q.blk=p.blk
   ·rcases h.sepW (by rw[hobj];rfl) e hk hl hb with hh|hh|hh
    ·rw[hh];trivial
    ·rw[hobj] at hh;cases hh
    ·rw[hb,hob]
     rw[hb,hold] at ho;cases hko:getH H k with
     |cells vs len2 elem2 c2 rel2 fz2 ro2=>
      rw[hko] at ho hh;simp only[aw,cP,hobj] at hh;obtain⟨_,rfl,hrel⟩:=hh;obtain⟨c0,fr0,h1,h2,h3,h4,h5⟩:=ho;cases h1;refine⟨cells',fr,rfl,by rw[hcsz];exact h2,h3,by rw[hcsz];exact h4,fun i hi hoki=>?_⟩;obtain⟨hlt',hok'⟩:=hokc k _ e hoki;obtain⟨x,hx,hv⟩:=h5 i hi hok';exact⟨x,by rw[hsame _ (by omega)];exact hx,hv⟩
     |_=>rw[hko] at hh;exact absurd rfl hh.1
   ·rw[hoth _ hb]
    by_cases hcc:aw (getH H k)=c
    ·refine ho.trans (Env.le.refl E) fun pos hp=>?_
     rw[hcc] at hp ⊢;exact (hokc k pos e hp).2
    ·by_cases h0:aw (getH H k)=0
     ·refine ho.trans (Env.le.refl E) fun pos _=>?_
      rw[h0];exact .inl rfl
     ·exact ho.trans (Env.le.refl E) fun pos hp=>hokn k pos hcc (hcnl k h0) hp
 ·intro k hk
  have:=h.fresh k hk;exact⟨this.1,by rw[hget k (by omega) (by omega)];exact this.2⟩
 ·intro k k' q q' hne hk hk' hb
  have hkc:k≠c:=fun e'=>by subst e';rw[hEc] at hk;cases hk
  have hkc':k'≠c:=fun e'=>by subst e';rw[hEc] at hk';cases hk'
  have hs:=h.sep k k' q q' hne hk hk' hb
  have key:∀ z,z≠c->(getH H' z=.no<->getH H z=.no)/\aw (getH H' z)=aw (getH H z)/\cP (getH H' z)=cP (getH H z)/\isRo (getH H' z)=isRo (getH H z):=by
   intro z hz;by_cases e:z=l
   ·subst e;rw[hself,hobj];exact⟨by constructor<;>(intro hh;cases hh),rfl,rfl,rfl⟩
   ·rw[hget z e hz];exact⟨Iff.rfl,rfl,rfl,rfl⟩
  obtain⟨a1,a2,a3,a4⟩:=key k hkc;obtain⟨b1,b2,b3,b4⟩:=key k' hkc';rw[a1,b1,a2,b2,a3,b3,a4,b4];exact hs
 ·intro k hc0
  by_cases e:k=l
  ·subst e;rw[hself]
   obtain⟨a,b,m,h1,h2,h3⟩:=h.cls k (by rw[hobj];exact hc);rw[hobj] at h1 h2 h3;simp only[aw,iU] at h1 h2 h3 ⊢;rw[hcls] at h1;cases h1;exact⟨_,_,_,hC,h2,hEc⟩
  ·by_cases e':k=c
   ·subst e';rw[hC] at hc0;exact absurd rfl hc0
   ·rw[hget k e e'] at hc0 ⊢
    obtain⟨a,b,m,h1,h2,h3⟩:=h.cls k hc0;by_cases hcc:aw (getH H k)=c
    ·rw[hcc] at h1 ⊢
     rw[hcls] at h1;cases h1;exact⟨_,_,_,hC,h2,hEc⟩
    ·exact⟨a,b,m,by rw[hget _ (hcnl k hc0) hcc];exact h1,h2,h3⟩
 ·intro k q hk
  rw[hsz];have hkc:k≠c:=fun e'=>by subst e';rw[hEc] at hk;cases hk
  by_cases e:k=l
  ·subst e;rw[hl] at hk;cases hk
   exact⟨(h.own k p hl).1,.inr (.inr hB)⟩
  ·rw[hget k e hkc];exact h.own k q hk
 ·intro b hb
  rw[hoth b (fun e=>hB (e ▸ hb))];exact h.old b hb
end
end Go.Exo
end

noncomputable section
namespace Go.Exo
variable [Sx] [Dc]
section tables
variable (P:Program)
theorem ofK_get {α:Type}(d:α)(l:List α)(i:Nat):(T.ofK d l 0 .e id:T α).get d i=(l[i]?).getD d:=by
 rw[bw];show (putL d l 0 .e).get d i=_;rw[bY];simp[gD]
theorem yw {α:Type}:∀ (l:List α)(i:Nat),nthO l i=l[i]?
 |[],i=>by simp[nthO]
 |a::r,0=>rfl
 |a::r,i+1=>by simp only[nthO,List.getElem?_cons_succ];exact yw r i
theorem ur {α:Type}:∀ (n i:Nat)(l:List α),(sufs n l)[i]? = if i<n then some (l.drop (32*i)) else none
 |0,i,l=>by simp[sufs]
 |n+1,0,l=>by simp[sufs]
 |n+1,i+1,l=>by
  simp only[sufs,List.getElem?_cons_succ];rw[ur n i];by_cases h:i<n
  ·rw[if_pos h,if_pos (by omega),List.drop_drop];congr 2;omega
  ·rw[if_neg h,if_neg (by omega)]
theorem ut {α:Type}{l:List α}{f:Nat}{x:α}(h:nthO ((T.ofK [] (sufs (Nat.succ (Nat.div l.length 32)) l) 0 .e id:T (List α)).get [] (Nat.div f 32)) (Nat.mod f 32)=some x):l[f]? = some x:=by
 rw[yw,ofK_get,ur] at h;split at h
 ·simp only[Option.getD_some,List.getElem?_drop] at h
  have:32*Nat.div f 32+Nat.mod f 32=f:=Nat.div_add_mod f 32;rwa [this] at h
 ·simp at h
theorem aM {t:TypeId}{i:TypeInfo}(h:aT P t=some i):P.info? t=some i:=by
 have h1:=ut (show nthO _ _=some i from h);rw[Array.getElem?_toList] at h1
 have:t<P.types.size:=by
  rcases Nat.lt_or_ge t P.types.size with hh|hh
  ·exact hh
  ·rw[Array.getElem?_eq_none hh] at h1;cases h1
 show (if t<P.types.size then P.types[t]? else _)=_;rw[if_pos this,h1]
theorem gF {f:FuncId}{fn:Func}(h:mf P f=some fn):P.funcs[f]? = some fn:=by
 have h1:=ut (show nthO _ _=some fn from h);rwa [Array.getElem?_toList] at h1
theorem av {t:TypeId}{d:TypeDesc}(h:undT P t=some d):P.underlying t=some d:=by
 unfold undT at h;cases hi:aT P t with
 |none=>rw[hi] at h;cases h
 |some i=>
  rw[hi] at h;simp only at h;have h1:=aM P hi;unfold Program.underlying;rw[h1];cases hd:i.desc with
  |named nm u=>
   rw[hd] at h;simp only at h;cases hj:aT P u with
   |none=>rw[hj] at h;cases h
   |some j=>
    rw[hj] at h;simp only at h;have h2:=aM P hj;obtain⟨d',_,_,_,_,_,_,_,_,_⟩:=i;simp only at hd;subst hd;simp only[h2,Option.map];exact h
  |_=>rw[hd] at h;simp only at h;obtain⟨d',_,_,_,_,_,_,_,_,_⟩:=i;simp only at hd;subst hd;simp only;exact h
theorem uu {t:TypeId}(h:dg P t=true)(w:World):(isAgg t).run P w=.ok true w:=by
 unfold dg at h;cases hu:undT P t with
 |none=>rw[hu] at h;cases h
 |some d=>
  rw[hu] at h;have h1:=av P hu;simp only[isAgg,Sem.run_bind,run_underlying h1,Result.andThen_ok];cases d<;>first|rfl|cases h
theorem j6 {t:TypeId}{d:TypeDesc}(hu:undT P t=some d)(h:dg P t=false)(w:World):(isAgg t).run P w=.ok false w:=by
 unfold dg at h;rw[hu] at h;have h1:=av P hu;simp only[isAgg,Sem.run_bind,run_underlying h1,Result.andThen_ok];cases d<;>first|rfl|cases h
end tables
theorem lp {n:Nat}{E:Env}(ih:∀ (x:Value),(ofVal n x).fine=true->VR E (ofVal n x) x):∀ l:List Value,V.fineL (l.map (ofVal n))=true->VRs E (l.map (ofVal n)) l
 |[],_=>.nil
 |x::r,h=>by
  simp only[List.map_cons,V.fineL,Bool.and_eq_true] at h;exact .cons _ _ _ _ (ih x h.1) (lp ih r h.2)
theorem VR.ofVal (E:Env):∀ (n:Nat)(x:Value),(ofVal n x).fine=true->VR E (Exo.ofVal n x) x:=by
 have base:∀ (n:Nat)(x:Value),(∀ t v,x≠.iface t v)->(∀ cs,x≠.agg cs)->(∀ vs,x≠.tuple vs)->(Exo.ofVal n x).fine=true->VR E (Exo.ofVal n x) x:=by
  intro n x h1 h2 h3 h;cases x with
  |bool b=>cases n<;>exact .bool b
  |int k m=>cases n<;>exact .int k m
  |string s=>cases n<;>exact .str _ _ _ (nM _).symm (nL _)
  |pointer a=>cases a<;>cases n<;>first|exact .nilp|cases h
  |slice a l c=>
   cases a with
   |some a=>cases n<;>cases h
   |none=>
    by_cases hl:l=0/\c=0
    ·obtain⟨rfl,rfl⟩:=hl;cases n<;>exact .nils
    ·cases l<;>cases c<;>cases n<;>first|(exact absurd ⟨rfl,rfl⟩ hl)|cases h
  |map r=>cases r<;>cases n<;>first|exact .nilm|cases h
  |nilFunc=>cases n<;>exact .nilf
  |nilIface=>cases n<;>exact .nili
  |iface t v=>exact absurd rfl (h1 t v)
  |agg cs=>exact absurd rfl (h2 cs)
  |tuple vs=>exact absurd rfl (h3 vs)
  |func fn a b=>
   cases fn with
   |func f=>
    obtain⟨a⟩:=a;obtain⟨b⟩:=b;cases a with
    |nil=>cases b with
     |nil=>cases n<;>exact .func (.func f) (.func f) [] [] [] [] rfl .nil .nil
     |cons _ _=>cases n<;>cases h
    |cons _ _=>cases n<;>cases h
   |_=>cases n<;>cases h
  |_=>cases n<;>cases h
 intro n;induction n with
 |zero=>
  intro x h;cases x with
  |iface t v=>cases h
  |agg cs=>cases h
  |tuple vs=>cases h
  |_=>exact base 0 _ (by intros;intro h;cases h) (by intros;intro h;cases h) (by intros;intro h;cases h) h
 |succ n ih=>
  intro x h;cases x with
  |iface t v=>exact .iface t _ v (ih v h)
  |agg cs=>obtain⟨cs⟩:=cs;exact .agg _ cs (lp ih cs h)
  |tuple vs=>obtain⟨vs⟩:=vs;exact .tup _ vs (lp ih vs h)
  |_=>exact base (n+1) _ (by intros;intro h;cases h) (by intros;intro h;cases h) (by intros;intro h;cases h) h
end Go.Exo
end

noncomputable section
namespace Go.Exo
variable [Sx] [Dc]
def NextV:Next->Option Value
 |.value v=>some v
 |.skip=>some undef
 |_=>none
def DR (E:Env):ADef->Deferred->Prop
 |.call fn cap args,D=>∃ fn' cs xs,FnR E fn fn'/\VRs E cap cs/\VRs E args xs/\D={ target:=.fn fn' cs.toArray,args:=xs.toArray }
 |.collected l,D=>∃ p,E l=some p/\D={ target:=.collected p.blk,args:=#[] }
def Keep (E E':Env)(H H':T AObj)(nx:Nat):Prop:=∀ l,l<nx->E l=none->a8 (getH H l)=false->E' l=none/\getH H' l=getH H l
theorem Keep.refl (E:Env)(H:T AObj)(nx:Nat):Keep E E H H nx:=fun _ _ h _=>⟨h,rfl⟩
section
variable (P:Program)(w0:Bs)(E:Env)(H:T AObj)(nx:Nat)(w:World)
def Good (R:Result Next):Res->Prop
 |.val v=>∃ n x,R=.ok n w/\NextV n=some x/\VR E v x
 |.valH v H' nx'=>∃ n x w' E',R=.ok n w'/\NextV n=some x/\E.le E'/\VR E' v x/\WR w0 E' H' nx' w'/\nx<=nx'/\Keep E E' H H' nx
 |.enter f args=>∀ a,fnOf P f=some a->∃ xs:List Value,R=.ok (.enter f xs.toArray) w/\VRs E args xs
 |.round l args=>∃ (p:Pl)(xs:List Value),E l=some p/\R=(Instr.yield p.blk xs.toArray).run P w/\VRs E args xs
 |.defer d=>∃ D,R=.ok (.defer D) w/\DR E d D
 |.pan v=>∃ x,R=.halt (.panic x) w/\VR E v x
 |.recover=>R=.ok .recover w
 |.fail _=>True
def VG (R:Result Value):Res->Prop
 |.val v=>∃ x,R=.ok x w/\VR E v x
 |.valH v H' nx'=>∃ x w' E',R=.ok x w'/\E.le E'/\VR E' v x/\WR w0 E' H' nx' w'/\nx<=nx'/\Keep E E' H H' nx
 |.pan v=>∃ x,R=.halt (.panic x) w/\VR E v x
 |.fail _=>True
 |_=>False
variable {P w0 E H nx w}
theorem VG.good {s:Sem Value}{r:Res}(h:VG w0 E H nx w (s.run P w) r):Good P w0 E H nx w ((do pure (.value (<- s)):Sem Next).run P w) r:=by
 rw[Sem.run_bind];cases r with
 |val v=>obtain⟨x,h1,h2⟩:=h;rw[h1];exact⟨.value x,x,rfl,rfl,h2⟩
 |valH v H' nx'=>obtain⟨x,w',E',h1,h2⟩:=h;rw[h1];exact⟨.value x,x,w',E',rfl,rfl,h2⟩
 |pan v=>obtain⟨x,h1,h2⟩:=h;rw[h1];exact⟨x,rfl,h2⟩
 |fail _=>trivial
 |_=>exact h.elim
theorem VG.val {s:Sem Value}{v:V}{x:Value}(h1:s.run P w=.ok x w)(h2:VR E v x):VG w0 E H nx w (s.run P w) (.val v):=⟨x,h1,h2⟩
end
section
variable {P:Program}{w0:Bs}{E:Env}{H:T AObj}{nx:Nat}{w:World}
theorem aN {R:Result Value}{b:Bool}{r:Res}(h:b=true->VG w0 E H nx w R r)(n:Nat):VG w0 E H nx w R (cond b r (.fail n)):=by
 cases b with
 |true=>exact h rfl
 |false=>trivial
theorem gG (k:IntKind)(f:BitVec k.bits->BitVec k.bits->BitVec k.bits)(a b:Int) :
  VR E (pQ k f a b) (.int k (k.wrap (f (BitVec.ofInt k.bits a) (BitVec.ofInt k.bits b)).toNat)):=.int _ _
theorem binI_ok (op:BinOp)(t:TypeId)(k:IntKind)(a b:Int)(hs:op≠.shl/\op≠.shr):VG w0 E H nx w ((binOp op t (.int k a) (.int k b)).run P w) (binI op k a b):=by
 cases op<;>simp only[binI]
 case add=>rw[dO,r7];exact VG.val (by simp[binOp,Op.intArith]) (.int _ _)
 case sub=>rw[dO,mQ];exact VG.val (by simp[binOp,Op.intArith]) (.int _ _)
 case mul=>rw[dO];exact VG.val (by simp[binOp,Op.intArith]) (.int _ _)
 case quo=>
  rw[dO,isZ_eq];by_cases hb:b=0
  ·subst hb;trivial
  ·simp only[hb,decide_false,cond_false]
   refine VG.val ?_ (.int _ _);simp[binOp,Op.intDiv,hb]
 case rem=>
  rw[isZ_eq];by_cases hb:b=0
  ·subst hb;trivial
  ·simp only[hb,decide_false,cond_false]
   refine VG.val ?_ (.int _ _);simp[binOp,Op.intDiv,hb]
 case and=>exact VG.val (by simp[binOp,Op.intBits]) (gG k (· &&& ·) a b)
 case or=>exact VG.val (by simp[binOp,Op.intBits]) (gG k (· ||| ·) a b)
 case xor=>exact VG.val (by simp[binOp,Op.intBits]) (gG k (· ^^^ ·) a b)
 case andNot=>exact VG.val (by simp[binOp,Op.intBits]) (gG k (fun x y=>x &&& ~~~ y) a b)
 case eql=>rw[gE];exact VG.val (by simp[binOp,Op.intCmp]) (.bool _)
 case neq=>rw[gE];exact VG.val (by simp[binOp,Op.intCmp,bne]) (.bool _)
 case lss=>rw[fw];exact VG.val (by simp[binOp,Op.intCmp]) (.bool _)
 case leq=>rw[fw];exact VG.val (x:=.bool (!decide (b<a))) (by simp[binOp,Op.intCmp,<- Int.not_lt,decide_not]) (.bool _)
 case gtr=>rw[fw];exact VG.val (by simp[binOp,Op.intCmp]) (.bool _)
 case geq=>rw[fw];exact VG.val (x:=.bool (!decide (a<b))) (by simp[binOp,Op.intCmp,<- Int.not_lt,decide_not]) (.bool _)
 case shl=>exact absurd rfl hs.1
 case shr=>exact absurd rfl hs.2
theorem str_eq {s s':ByteArray}{l n l' n':Nat}(h:s.data.toList=sB l n)(hn:n<256 ^ l)(h':s'.data.toList=sB l' n')(hn':n'<256 ^ l') :
  (s.toList==s'.toList)=(Nat.beq l l'&&Nat.beq n n'):=by
 have e1:s.toList=sB l n:=by rw[<- h];exact (by simp[ByteArray.toList_eq]:s.toList=s.data.toList)
 have e2:s'.toList=sB l' n':=by rw[<- h'];exact (by simp[ByteArray.toList_eq]:s'.toList=s'.data.toList)
 rw[e1,e2,Bool.eq_iff_iff,Bool.and_eq_true,Nat.beq_eq,Nat.beq_eq,beq_iff_eq];constructor
 ·intro e
  have hl:l=l':=by have:=congrArg List.length e;rwa [bt,bt] at this
  subst hl;exact⟨rfl,sB_inj hn hn' e⟩
 ·rintro⟨rfl,rfl⟩;rfl
theorem shlF_ok (t:TypeId)(k k':IntKind)(a b:Int):VG w0 E H nx w ((binOp .shl t (.int k a) (.int k' b)).run P w) (shlF k a b):=by
 cases b with
 |ofNat n=>
  refine VG.val ?_ (.int _ _);simp only[binOp,Op.shift];rw[if_neg (by simp only[Int.ofNat_eq_natCast];omega)];simp
 |negSucc n=>trivial
theorem shrF_ok (t:TypeId)(k k':IntKind)(a b:Int):VG w0 E H nx w ((binOp .shr t (.int k a) (.int k' b)).run P w) (shrF k a b):=by
 cases b with
 |ofNat n=>
  refine VG.val ?_ (.int _ _);simp only[binOp,Op.shift];rw[if_neg (by simp only[Int.ofNat_eq_natCast];omega)];simp
 |negSucc n=>trivial
theorem binII_ok (op:BinOp)(t:TypeId)(k k':IntKind)(a b:Int):VG w0 E H nx w ((binOp op t (.int k a) (.int k' b)).run P w) (binII op k a k' b):=by
 by_cases h1:op=.shl
 ·subst h1;exact shlF_ok t k k' a b
 ·by_cases h2:op=.shr
  ·subst h2;exact shrF_ok t k k' a b
  ·have e:binII op k a k' b=cond (Nat.beq (kNum k) (kNum k')) (binI op k a b) (.fail 4):=by cases op<;>first|rfl|exact absurd rfl h1|exact absurd rfl h2
   rw[e];refine aN (fun hk=>?_) 4;obtain rfl:=(fx k k').1 hk;exact binI_ok op t k a b ⟨h1,h2⟩
theorem toL (s:ByteArray):s.toList=s.data.toList:=by simp[ByteArray.toList_eq]
theorem cZ {s:ByteArray}{l n:Nat}(h:s.data.toList=sB l n):s.size=l:=by
 have:=congrArg List.length h;rw[bt] at this;simpa using this
theorem binS_ok (op:BinOp)(t:TypeId){s s':ByteArray}{l n l' n':Nat}(h:s.data.toList=sB l n)(hn:n<256 ^ l)(h':s'.data.toList=sB l' n')(hn':n'<256 ^ l') :
  VG w0 E H nx w ((binOp op t (.string s) (.string s')).run P w) (binS op l n l' n'):=by
 have e:=str_eq h hn h' hn';have e1:=cZ h;have e2:=cZ h';have f1:s.toList=sB l n:=by rw[toL,h]
 have f2:s'.toList=sB l' n':=by rw[toL,h']
 cases op<;>simp only[binS]<;>try trivial
 case add=>
  refine aN (fun hb=>?_) 5;have hb:=ab hb;refine VG.val (x:=.string (s++s')) ?_ (.str _ _ _ ?_ (catS_lt _ _ _ _ hn hn'))
  ·simp only[binOp,Op.stringOp]
   rw[if_neg (by rw[e1,e2];simp only[IntKind.max,IntKind.signed,IntKind.bits,if_true];have:l+l'<=9223372036854775807:=hb;omega)];simp
  ·show (s++s').data.toList=sB (l+l') _
   rw[yv,<- pZ _ _ _ _ hn,<- h,<- h'];simp
 case eql=>exact VG.val (by simp[binOp,Op.stringOp,e]) (.bool _)
 case neq=>exact VG.val (by simp[binOp,Op.stringOp,e]) (.bool _)
 case lss=>exact VG.val (by simp[binOp,Op.stringOp,f1,f2]) (.bool _)
 case leq=>rw[<- e];exact VG.val (by simp[binOp,Op.stringOp,f1,f2]) (.bool _)
 case gtr=>rw[<- e];exact VG.val (by simp[binOp,Op.stringOp,f1,f2]) (.bool _)
 case geq=>exact VG.val (by simp[binOp,Op.stringOp,f1,f2]) (.bool _)
theorem binV_ok (op:BinOp)(t:TypeId)(ox oy:Operand){x y:V}{X Y:Value}(hx:VR E x X)(hy:VR E y Y) :
  VG w0 E H nx w ((do eqGuard op t ox oy X Y;binOp op t X Y:Sem Value).run P w) (binV op x y):=by
 have hg:∀ X Y:Value,(∀ cs,X≠.agg cs)->X≠.nilIface->(eqGuard op t ox oy X Y).run P w=.ok () w:=by
  intro X Y h1 h2;cases op<;>simp only[eqGuard]<;>first|rfl|(cases X<;>first|rfl|exact absurd rfl (h1 _)|exact absurd rfl h2)
 cases hx<;>simp only[binV]<;>try trivial
 case int k a=>
  rw[Sem.run_bind,hg _ _ (by intro _ h;cases h) (by intro h;cases h),Result.andThen_ok];cases hy<;>first|exact binII_ok op t k _ a _|trivial
 case str l n s h1 h2=>
  rw[Sem.run_bind,hg _ _ (by intro _ h;cases h) (by intro h;cases h),Result.andThen_ok];cases hy<;>first|(rename_i h3 h4;exact binS_ok op t h1 h2 h3 h4)|trivial
theorem unV_ok (op:UnOp){x:V}{X:Value}(hx:VR E x X):VG w0 E H nx w ((Op.unary op X).run P w) (unV op x):=by
 cases hx<;>cases op<;>simp only[unV]<;>try trivial
 ·exact VG.val rfl (.bool _)
 ·rw[dO,mQ];exact VG.val (by simp[Op.unary,Op.intArith]) (.int _ _)
 ·exact VG.val (by simp[Op.unary,Op.intBits]) (gG _ (· ^^^ ·) _ _)
theorem zW {a b:TypeId}{k:IntKind}{k0:IntKind}(ha:P.underlying a=some (.int k0))(hb:P.underlying b=some (.int k)){x:V}{X:Value}(hx:VR E x X) :
  VG w0 E H nx w ((convert a b X).run P w) (np k x):=by
 cases hx<;>simp only[np]<;>try trivial
 rw[dO];exact VG.val (by simp[convert,run_underlying ha,run_underlying hb,Conv.intToInt]) (.int _ _)
end
end Go.Exo
end
