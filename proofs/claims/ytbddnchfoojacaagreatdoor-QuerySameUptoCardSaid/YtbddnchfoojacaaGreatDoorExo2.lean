/-
  EXO, part F: what an abstract value, object, heap stands for. Own text.
-/
import Derived.Test.YtbddnchfoojacaaGreatDoorExo1
import Derived.Calls
import Derived.ChangeKeysEq
import Derived.WideLaws
import Derived.WalkKit
import Derived.Lib.Strings
import Derived.Great.FillDense
import Derived.Laws.MakeOwn
set_option linter.all false
namespace Go.Exo
inductive Cl where
 |int (n:Int)
 |bool (b:Bool)
 |str (s:List UInt8)
 |sl (nl:Bool)(rows:List (List Cl))
 |raw (v:Value)
 |no
structure Gh where
 ob:Obj
 kp:Nat→Value→Obj→Prop
 fz:Nat→Nat→Option Value
 vl:Nat→Cl
 fn:Nat→List Cl→Cl
structure Pl where
 blk:Nat
 base:Nat
 size:Nat
 val:Value
 ob:Gh
 tail:List Item
def noOb:Gh:=⟨.deferred none,fun _ _ _=>True,fun _ _=>none,fun _=>.no,fun _ _=>.no⟩
abbrev Env:=Nat→Option Pl
def Env.le (E E':Env):Prop:=∀ l p,E l=some p→E' l=some p
theorem Env.le.refl (E:Env):E.le E:=fun _ _ h=>h
theorem Env.le.trans {E E' E'':Env}(h:E.le E')(h':E'.le E''):E.le E'':=fun l p e=>h' l p (h l p e)
def Env.set (E:Env)(l:Nat)(p:Pl):Env:=fun k=>if k=l then some p else E k
theorem Env.set_self (E:Env)(l:Nat)(p:Pl):E.set l p l=some p:=by simp[Env.set]
theorem Env.set_other (E:Env)(l k:Nat)(p:Pl)(h:k≠l):E.set l p k=E k:=by simp[Env.set,h]
theorem Env.le_set {E:Env}{l:Nat}(p:Pl)(h:E l=none):E.le (E.set l p):=by
 intro k q hk
 by_cases e:k=l
 ·subst e;rw[h] at hk;cases hk
 ·rw[Env.set_other _ _ _ _ e];exact hk
def FnR (E:Env):Fn→Fn→Prop
 |.func f,g=>g=.func f
 |.yield l,g=>∃ p,E l=some p∧g=.yield p.blk
 |_,_=>False
theorem FnR.mono {E E':Env}(h:E.le E'){f g:Fn}(hf:FnR E f g):FnR E' f g:=by
 cases f<;>first|exact hf|(obtain⟨p,hp,e⟩:=hf;exact⟨p,h _ _ hp,e⟩)
def Cl.hd:List Cl→Cl
 |c::_=>c
 |[]=>.no
def intD (op:BinOp)(k:IntKind)(a b:Int):Cl:=
 match op with
 |.add=>.int (k.wrap (a+b))
 |.sub=>.int (k.wrap (a-b))
 |.mul=>.int (k.wrap (a*b))
 |.quo=>.int (k.wrap (a.tdiv b))
 |.rem=>.int (a.tmod b)
 |.and=>.int (k.wrap (BitVec.ofInt k.bits a &&& BitVec.ofInt k.bits b).toNat)
 |.or=>.int (k.wrap (BitVec.ofInt k.bits a ||| BitVec.ofInt k.bits b).toNat)
 |.xor=>.int (k.wrap (BitVec.ofInt k.bits a ^^^ BitVec.ofInt k.bits b).toNat)
 |.andNot=>.int (k.wrap (BitVec.ofInt k.bits a &&& ~~~ BitVec.ofInt k.bits b).toNat)
 |.eql=>.bool (a==b)
 |.neq=>.bool (!(a==b))
 |.lss=>.bool (decide (a<b))
 |.leq=>.bool (decide (a≤b))
 |.gtr=>.bool (decide (b<a))
 |.geq=>.bool (decide (b≤a))
 |_=>.no
def strD (op:BinOp)(a b:List UInt8):Cl:=
 match op with
 |.add=>.str (a++b)
 |.eql=>.bool (a==b)
 |.neq=>.bool (!(a==b))
 |.lss=>.bool (Op.bytesLess a b)
 |.leq=>.bool (Op.bytesLess a b || a==b)
 |.gtr=>.bool (!(Op.bytesLess a b || a==b))
 |.geq=>.bool (!Op.bytesLess a b)
 |_=>.no
def binD (op:BinOp):Kd→Cl→Cl→Cl
 |.int k,.int a,.int b=>intD op k a b
 |.str,.str a,.str b=>strD op a b
 |.bool,.bool a,.bool b=>(match op with|.eql=>.bool (a==b)|.neq=>.bool (!(a==b))|_=>.no)
 |_,_,_=>.no
def unD (op:UnOp):Kd→Cl→Cl
 |.int k,.int n=>(match op with|.neg=>.int (k.wrap (-n))|_=>.no)
 |.bool,.bool b=>(match op with|.not=>.bool (!b)|_=>.no)
 |_,_=>.no
def convD (k:IntKind):Cl→Cl|.int n=>.int (k.wrap n)|_=>.no
def lenC:Cl→Cl|.str s=>.int s.length|.sl _ r=>.int r.length|_=>.no
def inrD:Cl→Cl→Cl|.int i,.int n=>.bool (decide (0≤i∧i<n))|_,_=>.no
def rngD:Cl→Cl→Cl→Cl|.int lo,.int hi,.int n=>.bool (decide (0≤lo∧lo≤hi∧hi≤n))|_,_,_=>.no
def cmpD:Cl→Cl→Cl|.str a,.str b=>.int (cmpB a b)|_,_=>.no
def atD:Cl→Cl→Cl|.str s,.int i=>.int ((s.getD i.toNat 0).toNat:Int)|_,_=>.no
def subD:Cl→Cl→Cl→Cl|.str s,.int lo,.int hi=>.str ((s.drop lo.toNat).take (hi.toNat-lo.toNat))|_,_,_=>.no
def elD:Cl→Cl→Nat→Cl|.sl _ rows,.int i,j=>(rows.getD i.toNat []).getD j .no|_,_,_=>.no
def cutD:Cl→Cl→Cl→Cl|.sl nl rows,.int lo,.int hi=>.sl nl ((rows.drop lo.toNat).take (hi.toNat-lo.toNat))|_,_,_=>.no
def isnilD:Cl→Cl|.sl nl _=>.bool nl|_=>.no
def snocD:Cl→List Cl→Cl|.sl _ rows,r=>.sl false (rows++[r])|_,_=>.no
def catD:Cl→Cl→Cl|.sl nl a,.sl _ b=>.sl (nl&&b.isEmpty) (a++b)|_,_=>.no
def X.den (E:Env):X→List Cl
 |.var l i _=>[match E l with|some p=>p.ob.vl i|none=>.no]
 |.int _ n=>[.int n]
 |.bool b=>[.bool b]
 |.str l n=>[.str (sB l n)]
 |.nil _=>[.sl true []]
 |.bin op a b=>[binD op a.kd (Cl.hd (a.den E)) (Cl.hd (b.den E))]
 |.un op a=>[unD op a.kd (Cl.hd (a.den E))]
 |.conv k a=>[convD k (Cl.hd (a.den E))]
 |.len a=>[lenC (Cl.hd (a.den E))]
 |.inr a b=>[inrD (Cl.hd (a.den E)) (Cl.hd (b.den E))]
 |.rng a b c=>[rngD (Cl.hd (a.den E)) (Cl.hd (b.den E)) (Cl.hd (c.den E))]
 |.cmp a b=>[cmpD (Cl.hd (a.den E)) (Cl.hd (b.den E))]
 |.atx a b=>[atD (Cl.hd (a.den E)) (Cl.hd (b.den E))]
 |.sub a b c=>[subD (Cl.hd (a.den E)) (Cl.hd (b.den E)) (Cl.hd (c.den E))]
 |.el a b j _=>[elD (Cl.hd (a.den E)) (Cl.hd (b.den E)) j]
 |.cut a b c=>[cutD (Cl.hd (a.den E)) (Cl.hd (b.den E)) (Cl.hd (c.den E))]
 |.isnil a=>[isnilD (Cl.hd (a.den E))]
 |.snoc a b=>[snocD (Cl.hd (a.den E)) (b.den E)]
 |.cat a b=>[catD (Cl.hd (a.den E)) (Cl.hd (b.den E))]
 |.app l f a _=>[match E l with|some p=>p.ob.fn f (a.den E)|none=>.no]
 |.nilA=>[]
 |.cons a r=>Cl.hd (a.den E)::r.den E
def X.ok (E:Env):X→Prop
 |.var l _ _=>∃ p,E l=some p
 |.bin _ a b|.inr a b|.cmp a b|.atx a b|.el a b _ _|.snoc a b|.cat a b|.cons a b=>a.ok E∧b.ok E
 |.un _ a|.conv _ a|.len a|.isnil a=>a.ok E
 |.rng a b c|.sub a b c|.cut a b c=>a.ok E∧b.ok E∧c.ok E
 |.app l _ a _=>(∃ p,E l=some p)∧a.ok E
 |_=>True
theorem X.ok_mono {E E':Env}(h:E.le E'):∀ {t:X},t.ok E→t.ok E':=by
 intro t
 induction t with
 |var l i k=>rintro⟨p,hp⟩;exact⟨p,h _ _ hp⟩
 |bin _ a b iha ihb=>rintro⟨h1,h2⟩;exact⟨iha h1,ihb h2⟩
 |inr a b iha ihb=>rintro⟨h1,h2⟩;exact⟨iha h1,ihb h2⟩
 |cmp a b iha ihb=>rintro⟨h1,h2⟩;exact⟨iha h1,ihb h2⟩
 |atx a b iha ihb=>rintro⟨h1,h2⟩;exact⟨iha h1,ihb h2⟩
 |el a b _ _ iha ihb=>rintro⟨h1,h2⟩;exact⟨iha h1,ihb h2⟩
 |snoc a b iha ihb=>rintro⟨h1,h2⟩;exact⟨iha h1,ihb h2⟩
 |cat a b iha ihb=>rintro⟨h1,h2⟩;exact⟨iha h1,ihb h2⟩
 |cons a b iha ihb=>rintro⟨h1,h2⟩;exact⟨iha h1,ihb h2⟩
 |un _ a ih=>exact ih
 |conv _ a ih=>exact ih
 |len a ih=>exact ih
 |isnil a ih=>exact ih
 |rng a b c iha ihb ihc=>rintro⟨h1,h2,h3⟩;exact⟨iha h1,ihb h2,ihc h3⟩
 |sub a b c iha ihb ihc=>rintro⟨h1,h2,h3⟩;exact⟨iha h1,ihb h2,ihc h3⟩
 |cut a b c iha ihb ihc=>rintro⟨h1,h2,h3⟩;exact⟨iha h1,ihb h2,ihc h3⟩
 |app l _ a _ ih=>rintro⟨⟨p,hp⟩,h2⟩;exact⟨⟨p,h _ _ hp⟩,ih h2⟩
 |_=>exact fun _=>trivial
theorem X.den_mono {E E':Env}(h:E.le E'):∀ {t:X},t.ok E→t.den E'=t.den E:=by
 intro t
 induction t with
 |var l i k=>rintro⟨p,hp⟩;simp only[X.den,hp,h _ _ hp]
 |bin _ a b iha ihb=>rintro⟨h1,h2⟩;simp only[X.den,iha h1,ihb h2]
 |inr a b iha ihb=>rintro⟨h1,h2⟩;simp only[X.den,iha h1,ihb h2]
 |cmp a b iha ihb=>rintro⟨h1,h2⟩;simp only[X.den,iha h1,ihb h2]
 |atx a b iha ihb=>rintro⟨h1,h2⟩;simp only[X.den,iha h1,ihb h2]
 |el a b _ _ iha ihb=>rintro⟨h1,h2⟩;simp only[X.den,iha h1,ihb h2]
 |snoc a b iha ihb=>rintro⟨h1,h2⟩;simp only[X.den,iha h1,ihb h2]
 |cat a b iha ihb=>rintro⟨h1,h2⟩;simp only[X.den,iha h1,ihb h2]
 |cons a b iha ihb=>rintro⟨h1,h2⟩;simp only[X.den,iha h1,ihb h2]
 |un _ a ih=>intro h1;simp only[X.den,ih h1]
 |conv _ a ih=>intro h1;simp only[X.den,ih h1]
 |len a ih=>intro h1;simp only[X.den,ih h1]
 |isnil a ih=>intro h1;simp only[X.den,ih h1]
 |rng a b c iha ihb ihc=>rintro⟨h1,h2,h3⟩;simp only[X.den,iha h1,ihb h2,ihc h3]
 |sub a b c iha ihb ihc=>rintro⟨h1,h2,h3⟩;simp only[X.den,iha h1,ihb h2,ihc h3]
 |cut a b c iha ihb ihc=>rintro⟨h1,h2,h3⟩;simp only[X.den,iha h1,ihb h2,ihc h3]
 |app l _ a _ ih=>rintro⟨⟨p,hp⟩,h2⟩;simp only[X.den,hp,h _ _ hp,ih h2]
 |_=>exact fun _=>rfl
def Env.fz (E:Env)(b o:Nat)(v:Value):Prop:=∃ l p,E l=some p∧p.ob.fz b o=some v
theorem Env.fz_mono {E E':Env}(h:E.le E'){b o:Nat}{v:Value}:E.fz b o v→E'.fz b o v:=fun⟨l,p,hp,hv⟩=>⟨l,p,h _ _ hp,hv⟩
set_option linter.unusedSectionVars false
variable [Sx]
inductive CR (F:Nat→Nat→Value→Prop):Kd→Value→Cl→Prop where
 |int (k:IntKind)(n:Int):k.min≤n→n≤k.max→CR F (.int k) (.int k n) (.int n)
 |bool (b:Bool):CR F .bool (.bool b) (.bool b)
 |str (s:ByteArray):s.size≤maxLen→CR F .str (.string s) (.str s.data.toList)
 |nil (e:TypeId):CR F (.sl e) (.slice none 0 0) (.sl true [])
 |sl (e:TypeId)(blk off len cap:Nat)(rows:List (List Cl))(vs:Nat→Nat→Value):rows.length=len→len≤cap→cap≤maxLen→
   (∀ (i:Nat)(r:List Cl),rows[i]? = some r→r.length=(Sx.row e).length)→
   (∀ (i:Nat)(r:List Cl)(j:Nat)(c:Cl),rows[i]? = some r→r[j]? = some c→F blk (off+i*(Sx.row e).length+j) (vs i j))→
   (∀ (i:Nat)(r:List Cl)(j:Nat)(c:Cl)(k:Kd),rows[i]? = some r→r[j]? = some c→(Sx.row e)[j]? = some k→CR F k (vs i j) c)→
   CR F (.sl e) (.slice (some ⟨blk,off,none⟩) len cap) (.sl false rows)
 |e0 (e:TypeId)(a:Addr):CR F (.sl e) (.slice (some a) 0 0) (.sl false [])
 |raw (v:Value):v.cells=#[v]→v.oneCell'=true→CR F .raw v (.raw v)
theorem CR.mono {F F':Nat→Nat→Value→Prop}(h:∀ b o v,F b o v→F' b o v){k:Kd}{v:Value}{c:Cl}(hc:CR F k v c):CR F' k v c:=by
 induction hc with
 |int k n a b=>exact .int k n a b
 |bool b=>exact .bool b
 |str s a=>exact .str s a
 |nil e=>exact .nil e
 |sl e blk off len cap rows vs h1 h2 h3 h4 h5 _ ih=>exact .sl e blk off len cap rows vs h1 h2 h3 h4 (fun i r j c a b=>h _ _ _ (h5 i r j c a b)) ih
 |e0 e a=>exact .e0 e a
 |raw v a b=>exact .raw v a b
theorem CR.one {F:Nat→Nat→Value→Prop}{k:Kd}{v:Value}{c:Cl}(h:CR F k v c):v.cells=#[v]∧v.oneCell'=true:=by
 cases h<;>first|exact⟨rfl,rfl⟩|exact⟨by assumption,by assumption⟩
mutual
inductive VR (E:Env):V→Value→Prop where
 |bool (b:Bool):VR E (.bool b) (.bool b)
 |int (k:IntKind)(n:Int):VR E (.int k n) (.int k n)
 |str (len n:Nat)(s:ByteArray):s.data.toList=sB len n→n<256 ^ len→VR E (.str len n) (.string s)
 |nilp:VR E .nilp (.pointer none)
 |ptr (l off:Nat)(p:Pl):E l=some p→VR E (.ptr l off) (.pointer (some ⟨p.blk,p.base+off,none⟩))
 |nils:VR E .nils (.slice none 0 0)
 |slice (l off len:Nat)(cap:Option Nat)(esz:Nat)(p:Pl)(c:Nat):E l=some p→len≤c→off+c*esz≤p.size→(∀ k,cap=some k→k=c)→
   VR E (.slice l off len cap esz) (.slice (some ⟨p.blk,p.base+off,none⟩) len c)
 |nilm:VR E .nilm (.map none)
 |map (l:Nat)(p:Pl):E l=some p→VR E (.map l) (.map (some p.blk))
 |func (fn fn':Fn)(first captured:List V)(fs cs:List Value):FnR E fn fn'→VRs E first fs→VRs E captured cs→VR E (.func fn first captured) (.func fn' fs.toArray cs.toArray)
 |nilf:VR E .nilf .nilFunc
 |iface (t:TypeId)(v:V)(x:Value):VR E v x→VR E (.iface t v) (.iface t x)
 |nili:VR E .nili .nilIface
 |agg (cs:List V)(xs:List Value):VRs E cs xs→VR E (.agg cs) (.agg xs.toArray)
 |tup (vs:List V)(xs:List Value):VRs E vs xs→VR E (.tup vs) (.tuple xs.toArray)
 |sym (l:Nat)(p:Pl)(x:Value):E l=some p→x=p.val→x.cells=#[x]→x.oneCell'=true→VR E (.sym l) x
 |top (l:Nat)(p:Pl)(x:Value):E l=some p→x=p.val→x.cells=#[x]→VR E (.top l) x
 |emp (l esz:Nat)(p:Pl)(o c:Nat):E l=some p→o≤p.base+p.size→VR E (.emp l esz) (.slice (some ⟨p.blk,o,none⟩) 0 c)
 |x (t:X)(v:Value):t.ok E→CR E.fz t.kd v (Cl.hd (t.den E))→VR E (.x t) v
 |xa (s i:X)(j:Nat)(e:TypeId)(blk off len cap n:Nat)(rows:List (List Cl)):s.ok E→i.ok E→s.kd=.sl e→CR E.fz (.sl e) (.slice (some ⟨blk,off,none⟩) len cap) (.sl false rows)→
   Cl.hd (s.den E)=.sl false rows→Cl.hd (i.den E)=.int n→n<len→VR E (.xa s i j) (.pointer (some ⟨blk,off+n*(Sx.row e).length+j,none⟩))
 |lst (l:Nat)(p:Pl)(t:X)(e:TypeId)(off len cap:Nat):E l=some p→t.ok E→t.kd=.sl e→CR E.fz (.sl e) (.slice (some ⟨p.blk,off,none⟩) len cap) (Cl.hd (t.den E))→
   off+len*(Sx.row e).length=p.base→off+cap*(Sx.row e).length≤p.base+p.size→VR E (.lst l t) (.slice (some ⟨p.blk,off,none⟩) len cap)
 |junk (v:Value):VR E .junk v
inductive VRs (E:Env):List V→List Value→Prop where
 |nil:VRs E [] []
 |cons (v:V)(x:Value)(vs:List V)(xs:List Value):VR E v x→VRs E vs xs→VRs E (v::vs) (x::xs)
end
mutual
theorem VR.mono {E E':Env}(h:E.le E'):∀ {v:V}{x:Value},VR E v x→VR E' v x
 |_,_,.bool b=>.bool b
 |_,_,.int k n=>.int k n
 |_,_,.str l n s h1 h2=>.str l n s h1 h2
 |_,_,.nilp=>.nilp
 |_,_,.ptr l o p hp=>.ptr l o p (h _ _ hp)
 |_,_,.nils=>.nils
 |_,_,.slice l o n c e p k hp h1 h2 h3=>.slice l o n c e p k (h _ _ hp) h1 h2 h3
 |_,_,.nilm=>.nilm
 |_,_,.map l p hp=>.map l p (h _ _ hp)
 |_,_,.func f g a b c d hf h1 h2=>.func f g a b c d (hf.mono h) (VRs.mono h h1) (VRs.mono h h2)
 |_,_,.nilf=>.nilf
 |_,_,.iface t v x h1=>.iface t v x (VR.mono h h1)
 |_,_,.nili=>.nili
 |_,_,.agg a b h1=>.agg a b (VRs.mono h h1)
 |_,_,.tup a b h1=>.tup a b (VRs.mono h h1)
 |_,_,.sym l p x hp h1 h2 h3=>.sym l p x (h _ _ hp) h1 h2 h3
 |_,_,.top l p x hp h1 h2=>.top l p x (h _ _ hp) h1 h2
 |_,_,.emp l e p o c hp h1=>.emp l e p o c (h _ _ hp) h1
 |_,_,.x t v h1 h2=>.x t v (X.ok_mono h h1) (X.den_mono h h1 ▸ h2.mono fun _ _ _=>Env.fz_mono h)
 |_,_,.xa s i j e b o n c m r h1 h2 h3 h4 h5 h6 h7=>.xa s i j e b o n c m r (X.ok_mono h h1) (X.ok_mono h h2) h3 (h4.mono fun _ _ _=>Env.fz_mono h) (by rw[X.den_mono h h1];exact h5) (by rw[X.den_mono h h2];exact h6) h7
 |_,_,.lst l p t e o n c hp h1 h2 h3 h4 h5=>.lst l p t e o n c (h _ _ hp) (X.ok_mono h h1) h2 (by rw[X.den_mono h h1];exact h3.mono fun _ _ _=>Env.fz_mono h) h4 h5
 |_,_,.junk v=>.junk v
theorem VRs.mono {E E':Env}(h:E.le E'):∀ {vs:List V}{xs:List Value},VRs E vs xs→VRs E' vs xs
 |_,_,.nil=>.nil
 |_,_,.cons v x vs xs h1 h2=>.cons v x vs xs (VR.mono h h1) (VRs.mono h h2)
end
theorem VRs.length {E:Env}{vs:List V}{xs:List Value}(h:VRs E vs xs):vs.length=xs.length:=by
 induction vs generalizing xs with
 |nil=>cases h;rfl
 |cons v r ih=>cases h with|cons _ x _ ys h1 h2=>simp[ih h2]
theorem VRs.append {E:Env}{vs us:List V}{xs ys:List Value}(h:VRs E vs xs)(h':VRs E us ys):VRs E (vs++us) (xs++ys):=by
 induction vs generalizing xs with
 |nil=>cases h;exact h'
 |cons v r ih=>cases h with|cons _ x _ zs h1 h2=>exact .cons _ _ _ _ h1 (ih h2)
theorem VRs.get {E:Env}{vs:List V}{xs:List Value}(h:VRs E vs xs)(i:Nat)(v:V)(hv:vs[i]? = some v):∃ x,xs[i]? = some x∧VR E v x:=by
 induction vs generalizing xs i with
 |nil=>simp at hv
 |cons u r ih=>cases h with
  |cons _ x _ ys h1 h2=>
   cases i with
   |zero=>simp at hv;subst hv;exact⟨x,rfl,h1⟩
   |succ i=>simp at hv;obtain⟨z,hz,hr⟩:=ih h2 i hv;exact⟨z,by simpa using hz,hr⟩
theorem VRs.of_get {E:Env}:∀ {vs:List V}{xs:List Value},vs.length=xs.length→(∀ (i:Nat) v,vs[i]? = some v→∃ x,xs[i]? = some x∧VR E v x)→VRs E vs xs
 |[],[],_,_=>.nil
 |[],_::_,h,_=>by simp at h
 |_::_,[],h,_=>by simp at h
 |v::vs,x::xs,h,hg=>by
  obtain⟨y,hy,hr⟩:=hg 0 v rfl
  simp at hy;subst hy
  exact .cons _ _ _ _ hr (VRs.of_get (by simpa using h) fun i u hu=>by simpa using hg (i+1) u (by simpa using hu))
theorem VRs.take {E:Env}{vs:List V}{xs:List Value}(h:VRs E vs xs)(n:Nat):VRs E (vs.take n) (xs.take n):=by
 induction n generalizing vs xs with
 |zero=>simp;exact .nil
 |succ n ih=>cases h with
  |nil=>simp;exact .nil
  |cons v x vs xs h1 h2=>simp;exact .cons _ _ _ _ h1 (ih h2)
theorem VRs.drop {E:Env}{vs:List V}{xs:List Value}(h:VRs E vs xs)(n:Nat):VRs E (vs.drop n) (xs.drop n):=by
 induction n generalizing vs xs with
 |zero=>simpa using h
 |succ n ih=>cases h with
  |nil=>simp;exact .nil
  |cons v x vs xs h1 h2=>simpa using ih h2
theorem VR.cells {E:Env}{v:V}{x:Value}(h:VR E v x)(hr:v.real=true):VRs E v.cells x.cells.toList:=by
 cases h<;>first
  |exact .cons _ _ _ _ (by first|exact .bool _|exact .int _ _|exact .nilp|exact .nils|exact .nilm|exact .nilf|exact .nili) .nil
  |(rename_i h1 h2;exact .cons _ _ _ _ (.str _ _ _ h1 h2) .nil)
  |(rename_i h1;exact .cons _ _ _ _ (.ptr _ _ _ h1) .nil)
  |(rename_i h1 h2 h3 h4;exact .cons _ _ _ _ (.slice _ _ _ _ _ _ _ h1 h2 h3 h4) .nil)
  |(rename_i h1;exact .cons _ _ _ _ (.map _ _ h1) .nil)
  |(rename_i h1 h2 h3;exact .cons _ _ _ _ (.func _ _ _ _ _ _ h1 h2 h3) .nil)
  |(rename_i h1;exact .cons _ _ _ _ (.iface _ _ _ h1) .nil)
  |(rename_i h1;exact h1)
  |(rename_i h1;exact .cons _ _ _ _ (.tup _ _ h1) .nil)
  |(rename_i h1 h2 h3 h4;rw[h3];exact .cons _ _ _ _ (.sym _ _ _ h1 h2 h3 h4) .nil)
  |(rename_i h1 h2 h3;rw[h3];exact .cons _ _ _ _ (.top _ _ _ h1 h2 h3) .nil)
  |(rename_i h1 h2;exact .cons _ _ _ _ (.emp _ _ _ _ _ h1 h2) .nil)
  |(rename_i h1 h2;rw[h2.one.1];exact .cons _ _ _ _ (.x _ _ h1 h2) .nil)
  |(rename_i h1 h2 h3 h4 h5 h6 h7;exact .cons _ _ _ _ (.xa _ _ _ _ _ _ _ _ _ _ h1 h2 h3 h4 h5 h6 h7) .nil)
  |(rename_i h1 h2 h3 h4 h5 h6;exact .cons _ _ _ _ (.lst _ _ _ _ _ _ _ h1 h2 h3 h4 h5 h6) .nil)
  |(cases hr)
theorem V.fine_real {v:V}(h:v.fine=true):v.real=true:=by
 cases v<;>first|rfl|(simp[V.fine] at h;done)
theorem VR.one {E:Env}{v:V}{x:Value}(h:VR E v x)(h1:v.one=true):x.oneCell'=true:=by
 cases h<;>first|rfl|assumption|(exact (CR.one (by assumption)).2)|(simp[V.one] at h1;done)
theorem VRs.one {E:Env}{vs:List V}{xs:List Value}(h:VRs E vs xs)(h1:allOne vs=true):∀ x∈xs,x.oneCell'=true:=by
 induction vs generalizing xs with
 |nil=>cases h;simp
 |cons v r ih=>cases h with
  |cons _ x _ ys h2 h3=>
   simp only[allOne,Bool.cond_eq_ite] at h1
   split at h1
   ·rename_i hv
    intro y hy
    cases hy with
    |head=>exact h2.one hv
    |tail _ hy=>exact ih h3 h1 y hy
   ·cases h1
theorem VR.undef (E:Env):VR E undefV undef:=.tup [] [] .nil
def TR (E:Env)(tm:T V)(xs:Array Value):Prop:=∀ i,VR E (getU tm i) (xs.getD i undef)
theorem TR.mono {E E':Env}(h:E.le E'){tm:T V}{xs:Array Value}(ht:TR E tm xs):TR E' tm xs:=fun i=>(ht i).mono h
def okAt (H:T AObj)(l cls pos:Nat):Prop:=
 cls=0∨∃ cur lim mk,getH H cls=.cls cur lim mk∧(lim=none∨cur=l∨∃ m,lim=some m∧pos<m)
def FzR (fr:Nat×Nat)(fz base n:Nat):Prop:=
 match fz with
 |0=>fr=(0,0)
 |1=>fr=(n,n+1)
 |k+2=>∀ i,base+k≤i→i<n→¬ (fr.1≤i∧i<fr.2)
def ERs (E:Env):List (V×V×Nat)→List MapEntry→Prop
 |[],[]=>True
 |(k,v,b)::r,e::es=>VR E k e.key∧VR E v e.val∧e.born=b∧ERs E r es
 |_,_=>False
theorem ERs.mono {E E':Env}(h:E.le E'):∀ {l:List (V×V×Nat)}{es:List MapEntry},ERs E l es→ERs E' l es
 |[],[],_=>trivial
 |(_,_,_)::_,_::_,⟨h1,h2,h3,h4⟩=>⟨h1.mono h,h2.mono h,h3,ERs.mono h h4⟩
 |[],_::_,hh=>hh.elim
 |_::_,[],hh=>hh.elim
def OR (E:Env)(H:T AObj)(l:Nat)(p:Pl)(ob:Option Obj):AObj→Prop
 |.no=>True
 |.cls _ _ _=>True
 |.cells vs len elem cls rel fz _=>∃ c fr,ob=some (.cells c elem fr)∧c.size=p.base+p.size∧len≤p.size∧FzR fr fz p.base c.size∧
   ∀ i,i<len→okAt H l cls (rel+i)→∃ x,c[p.base+i]? = some x∧VR E (getC vs i) x
 |.map es clock=>∃ es':Array MapEntry,ob=some (.map es' clock)∧ERs E es es'.toList
 |.mapR es clock=>∃ es':Array MapEntry,ob=some (.map es' clock)∧ERs E es es'.toList
 |.mit0 m since=>∃ q,E m=some q∧ob=some (.mapIter (some q.blk) since #[] since)∧p.base=0
 |.mit m b clock=>∃ q since seen,E m=some q∧ob=some (.mapIter (some q.blk) since seen clock)∧seen.back? = some b∧p.base=0
 |.siter len n pos=>∃ s,ob=some (.stringIter s pos)∧s.data.toList=sB len n∧n<256 ^ len∧p.base=0
 |.loop st pd fn tm sz ps assign body d=>∃ (tmps:Array Value)(q:Pl),E d=some q∧TR E tm tmps∧tmps.size=sz∧
   ob=some (.loop { state:=st,pending:=pd,fn,tmps,params:=ps.toArray,assign,body,defers:=q.blk })
 |.defd=>ob=some (.deferred (some []))
 |.keep s=>ob=some p.ob.ob∧∃ q,E s=some q∧q.ob.kp p.blk p.val p.ob.ob
 |.own e=>∃ c,ob=some (.cells c e (0,0))∧p.base+p.size≤c.size
def clsOf:AObj→Nat
 |.cells _ _ _ cls _ _ _=>cls
 |_=>0
def relOf:AObj→Nat
 |.cells _ _ _ _ rel _ _=>rel
 |_=>0
def endOf:AObj→Nat
 |.cells _ len _ _ rel _ _=>rel+len
 |_=>0
def isRo:AObj→Bool
 |.cells _ _ _ _ _ _ ro=>ro
 |.keep _|.mapR _ _|.mit _ _ _=>true
 |_=>false
def mayFz:AObj→Pl→Nat→Prop
 |.own _,p,o=>o<p.base
 |ao,_,_=>ao=.no∨isRo ao=true
def isOwn:AObj→Bool
 |.own _=>true
 |_=>false
theorem mayFz_no {ao:AObj}{p:Pl}{o:Nat}(h:mayFz ao p o)(h1:ao≠.no)(h2:isRo ao=false)(h3:isOwn ao=false):False:=by
 have key:isOwn ao=false→mayFz ao p o→ao=.no∨isRo ao=true:=by
  intro h3 h
  cases ao<;>first|(cases h3;done)|exact h
 rcases key h3 h with h|h
 ·exact h1 h
 ·rw[h2] at h;cases h
theorem cell_heap {w w':World}{b o:Nat}(h:w'.heap[b]? = w.heap[b]?):w'.cell? ⟨b,o,none⟩=w.cell? ⟨b,o,none⟩:=by unfold World.cell?;rw[h]
theorem cell_lt {w:World}{b o:Nat}{v:Value}(h:w.cell? ⟨b,o,none⟩=some v):b<w.heap.size:=by
 unfold World.cell? at h
 cases hh:w.heap[b]? with
 |none=>rw[hh] at h;cases h
 |some x=>exact (Array.getElem?_eq_some_iff.1 hh).1
structure Bs where
 w:World
 old:Nat→Prop
 lt:∀ b,old b→b<w.heap.size
 env:Env
variable [Dc]
structure WR (w0:Bs)(E:Env)(H:T AObj)(nx:Nat)(w:World):Prop where
 objs:∀ l p,E l=some p→OR E H l p w.heap[p.blk]? (getH H l)
 fresh:∀ l,nx≤l→E l=none∧getH H l=.no
 sep:∀ l l' p p',l≠l'→E l=some p→E l'=some p'→p.blk=p'.blk→(getH H l=.no∨getH H l'=.no∨
  (clsOf (getH H l)≠0∧clsOf (getH H l)=clsOf (getH H l')∧p.base+relOf (getH H l')=p'.base+relOf (getH H l)))∨(isRo (getH H l)=true∧isRo (getH H l')=true)
 cls:∀ l,clsOf (getH H l)≠0→∃ cur lim mk,getH H (clsOf (getH H l))=.cls cur lim mk∧endOf (getH H l)≤mk∧E (clsOf (getH H l))=none
 own:∀ l p,E l=some p→p.blk<w.heap.size∧(getH H l=.no∨isRo (getH H l)=true∨¬ w0.old p.blk)
 old:∀ b,w0.old b→w.heap[b]? = w0.w.heap[b]?
 size:w0.w.heap.size≤w.heap.size
 os:w.os=w0.w.os
 output:w.output=w0.w.output
 tape:w.tape=w0.w.tape
 le:w0.env.le E
 dat:∀ l p,E l=some p→∀ b o v,p.ob.fz b o=some v→w.cell? ⟨b,o,none⟩=some v∧∀ l' p',E l'=some p'→p'.blk=b→mayFz (getH H l') p' o
 dec:∀ t b,Dc.dec t=some b→t.ok w0.env∧Cl.hd (t.den w0.env)=.bool b
 fzo:∀ l p,E l=some p→∀ b o v,p.ob.fz b o=some v→w0.old b→w0.env.fz b o v
theorem WR.sepW {w0:Bs}{E:Env}{H:T AObj}{nx:Nat}{w:World}(h:WR w0 E H nx w){l l':Nat}{p p':Pl}(hr:isRo (getH H l')=false)(hne:l≠l')(hl:E l=some p)(hl':E l'=some p')(hb:p.blk=p'.blk):getH H l=.no∨getH H l'=.no∨
  (clsOf (getH H l)≠0∧clsOf (getH H l)=clsOf (getH H l')∧p.base+relOf (getH H l')=p'.base+relOf (getH H l)):=by
 rcases h.sep l l' p p' hne hl hl' hb with h|h
 ·exact h
 ·rw[hr] at h;cases h.2
theorem WR.sepV {w0:Bs}{E:Env}{H:T AObj}{nx:Nat}{w:World}(h:WR w0 E H nx w){l l':Nat}{p p':Pl}(hr:isRo (getH H l)=false)(hne:l≠l')(hl:E l=some p)(hl':E l'=some p')(hb:p.blk=p'.blk):getH H l=.no∨getH H l'=.no∨
  (clsOf (getH H l)≠0∧clsOf (getH H l)=clsOf (getH H l')∧p.base+relOf (getH H l')=p'.base+relOf (getH H l)):=by
 rcases h.sep l l' p p' hne hl hl' hb with h|h
 ·exact h
 ·rw[hr] at h;cases h.1
theorem WR.lt_old {w0:Bs}{E:Env}{H:T AObj}{nx:Nat}{w:World}(h:WR w0 E H nx w){b:Nat}(hb:w0.old b):b<w.heap.size:=Nat.lt_of_lt_of_le (w0.lt b hb) h.size
theorem WR.not_old {w0:Bs}{E:Env}{H:T AObj}{nx:Nat}{w:World}(h:WR w0 E H nx w){b:Nat}(hb:w.heap.size≤b):¬ w0.old b:=fun ho=>by have:=h.lt_old ho;omega
end Go.Exo

namespace Go.Exo
set_option linter.unusedSectionVars false
variable [Sx] [Dc]
def isCls:AObj→Bool
 |.cls _ _ _=>true
 |_=>false
theorem OR.trans {E E':Env}{H H':T AObj}{l:Nat}{p:Pl}{ob:Option Obj}{o:AObj}(h:OR E H l p ob o)(hE:E.le E')
  (hk:∀ pos,okAt H' l (clsOf o) pos→okAt H l (clsOf o) pos):OR E' H' l p ob o:=by
 cases o with
 |no=>trivial
 |cls=>trivial
 |cells vs len elem cls rel fz ro=>
  obtain⟨c,fr,h1,h2,h3,h4,h5⟩:=h
  refine⟨c,fr,h1,h2,h3,h4,fun i hi ho=>?_⟩
  obtain⟨x,hx,hv⟩:=h5 i hi (hk _ ho)
  exact⟨x,hx,hv.mono hE⟩
 |map es clock=>obtain⟨es',h1,h2⟩:=h;exact⟨es',h1,h2.mono hE⟩
 |mapR es clock=>obtain⟨es',h1,h2⟩:=h;exact⟨es',h1,h2.mono hE⟩
 |mit0=>obtain⟨q,h1,h2⟩:=h;exact⟨q,hE _ _ h1,h2⟩
 |mit=>obtain⟨q,a,b,h1,h2⟩:=h;exact⟨q,a,b,hE _ _ h1,h2⟩
 |siter=>exact h
 |loop=>obtain⟨tm,q,h1,h2,h3,h4⟩:=h;exact⟨tm,q,hE _ _ h1,h2.mono hE,h3,h4⟩
 |defd=>exact h
 |keep=>obtain⟨h1,q,h2,h3⟩:=h;exact⟨h1,q,hE _ _ h2,h3⟩
 |own=>exact h
theorem okAt.same {H H':T AObj}{l c pos:Nat}(h:okAt H' l c pos)(e:c≠0→getH H' c=getH H c):okAt H l c pos:=by
 rcases h with h|⟨a,b,m,h1,h2⟩
 ·exact .inl h
 ·by_cases h0:c=0
  ·exact .inl h0
  ·exact .inr ⟨a,b,m,(e h0) ▸ h1,h2⟩
section
variable {w0:Bs}{w:World}{E:Env}{H:T AObj}{nx:Nat}
theorem WR.draw (h:WR w0 E H nx w)(d:Nat):WR w0 E H nx { w with drawn:=d }:=
 ⟨h.objs,h.fresh,h.sep,h.cls,h.own,h.old,h.size,h.os,h.output,h.tape,h.le,h.dat,h.dec,h.fzo⟩
theorem WR.new (h:WR w0 E H nx w)(o:Obj)(ao:AObj)(size:Nat)(d:Nat)(hc:clsOf ao=0)(hk:isCls ao=false)
  (hor:OR (E.set nx ⟨w.heap.size,0,size,undef,noOb,[]⟩) (put .no H nx ao) nx ⟨w.heap.size,0,size,undef,noOb,[]⟩ (some o) ao) :
  WR w0 (E.set nx ⟨w.heap.size,0,size,undef,noOb,[]⟩) (put .no H nx ao) (nx+1) { w with heap:=w.heap.push o,drawn:=d }:=by
 have hn:=h.fresh nx (Nat.le_refl _)
 have hle:E.le (E.set nx ⟨w.heap.size,0,size,undef,noOb,[]⟩):=Env.le_set _ hn.1
 have hold:∀ l p,E l=some p→l≠nx:=fun l p hl e=>by subst e;rw[hn.1] at hl;cases hl
 have hget:∀ l,l≠nx→getH (put .no H nx ao) l=getH H l:=fun l e=>by rw[getH_put,if_neg e]
 have hself:getH (put .no H nx ao) nx=ao:=by rw[getH_put,if_pos rfl]
 have hcn:∀ l,clsOf (getH H l)≠0→clsOf (getH H l)≠nx:=fun l hc0 e=>by
  obtain⟨a,b,m,h1,_⟩:=h.cls l hc0
  rw[e,hn.2] at h1;cases h1
 have hok:∀ l pos,okAt (put .no H nx ao) l (clsOf (getH H l)) pos→okAt H l (clsOf (getH H l)) pos:=
  fun l pos ho=>ho.same fun hc0=>hget _ (hcn l hc0)
 have hE:∀ l p,(E.set nx ⟨w.heap.size,0,size,undef,noOb,[]⟩) l=some p→(l=nx∧p=⟨w.heap.size,0,size,undef,noOb,[]⟩)∨(l≠nx∧E l=some p):=by
  intro l p hl
  by_cases e:l=nx
  ·subst e;rw[Env.set_self] at hl;cases hl;exact .inl ⟨rfl,rfl⟩
  ·rw[Env.set_other _ _ _ _ e] at hl;exact .inr ⟨e,hl⟩
 have hpush:∀ b,b<w.heap.size→(w.heap.push o)[b]? = w.heap[b]? := fun b hb=>by
  rw[Array.getElem?_push];rw[if_neg (by omega)]
 refine⟨?_,?_,?_,?_,?_,?_,?_,h.os,h.output,h.tape,h.le.trans hle,?dat,h.dec,fun l p hl b o v hf ho=>by
  rcases hE l p hl with⟨rfl,rfl⟩|⟨_,hl⟩
  ·cases hf
  ·exact h.fzo l p hl b o v hf ho⟩
 case dat=>
  intro l p hl b off v hf
  rcases hE l p hl with⟨rfl,rfl⟩|⟨hne,hl⟩
  ·cases hf
  ·obtain⟨h1,h2⟩:=h.dat l p hl b off v hf
   have hb:=cell_lt h1
   refine⟨(cell_heap (w:=w) (hpush b hb)).trans h1,fun l' p' hl' hb'=>?_⟩
   rcases hE l' p' hl' with⟨rfl,rfl⟩|⟨hne',hl'⟩
   ·simp only at hb';omega
   ·rw[hget l' hne'];exact h2 l' p' hl' hb'
 ·intro l p hl
  rcases hE l p hl with⟨rfl,rfl⟩|⟨hne,hl⟩
  ·rw[hself]
   show OR _ _ _ _ (w.heap.push o)[w.heap.size]? ao
   rw[Array.getElem?_push,if_pos rfl];exact hor
  ·show OR _ _ _ _ (w.heap.push o)[p.blk]? _
   rw[hget l hne,hpush _ (h.own l p hl).1]
   exact (h.objs l p hl).trans hle (hok l)
 ·intro l hl
  have:=h.fresh l (by omega)
  exact⟨by rw[Env.set_other _ _ _ _ (by omega)];exact this.1,by rw[hget l (by omega)];exact this.2⟩
 ·intro l l' p p' hne hl hl' hb
  rcases hE l p hl with⟨e1,e2⟩|⟨hn1,g1⟩<;>rcases hE l' p' hl' with⟨e3,e4⟩|⟨hn2,g2⟩
  ·exact absurd (e1.trans e3.symm) hne
  ·have:=(h.own l' p' g2).1;rw[e2] at hb;simp only at hb;omega
  ·have:=(h.own l p g1).1;rw[e4] at hb;simp only at hb;omega
  ·rw[hget l hn1,hget l' hn2];exact h.sep l l' p p' hne g1 g2 hb
 ·intro l hc0
  by_cases e:l=nx
  ·subst e;rw[hself] at hc0;exact absurd hc hc0
  ·rw[hget l e] at hc0 ⊢
   obtain⟨a,b,m,h1,h2,h3⟩:=h.cls l hc0
   exact⟨a,b,m,by rw[hget _ (hcn l hc0)];exact h1,h2,by rw[Env.set_other _ _ _ _ (hcn l hc0)];exact h3⟩
 ·intro l p hl
  show p.blk<(w.heap.push o).size∧_
  rw[Array.size_push]
  rcases hE l p hl with⟨rfl,rfl⟩|⟨hne,hl⟩
  ·exact⟨Nat.lt_succ_self _,.inr (.inr (h.not_old (Nat.le_refl _)))⟩
  ·rw[hget l hne]
   have:=h.own l p hl
   exact⟨Nat.lt_succ_of_lt this.1,this.2⟩
 ·intro b hb
  show (w.heap.push o)[b]? = _
  rw[hpush b (h.lt_old hb)];exact h.old b hb
 ·show _≤(w.heap.push o).size
  rw[Array.size_push];exact Nat.le_succ_of_le h.size
theorem WR.upd (h:WR w0 E H nx w)(l:Nat)(p:Pl)(hl:E l=some p)(ao:AObj)(hno:getH H l≠.no)(hcl:isCls (getH H l)=false)(hc:clsOf (getH H l)=0)(hro:isRo (getH H l)=false)(hown:isOwn (getH H l)=false)
  (hc':clsOf ao=0)(w':World)(ob:Obj)(hsz:w'.heap.size=w.heap.size)(hoth:∀ k,k≠p.blk→w'.heap[k]? = w.heap[k]?)(hob:w'.heap[p.blk]? = some ob)
  (hos:w'.os=w.os)(hout:w'.output=w.output)(htape:w'.tape=w.tape)(hor:OR E (put .no H l ao) l p (some ob) ao) :
  WR w0 E (put .no H l ao) nx w':=by
 have hlt:l<nx:=Nat.lt_of_not_le fun hh=>by rw[(h.fresh l hh).1] at hl;cases hl
 have hget:∀ k,k≠l→getH (put .no H l ao) k=getH H k:=fun k e=>by rw[getH_put,if_neg e]
 have hself:getH (put .no H l ao) l=ao:=by rw[getH_put,if_pos rfl]
 have hcn:∀ k,clsOf (getH H k)≠0→clsOf (getH H k)≠l:=fun k hc0 e=>by
  obtain⟨a,b,m,h1,_⟩:=h.cls k hc0
  rw[e] at h1;rw[h1] at hcl;cases hcl
 have hok:∀ k pos,okAt (put .no H l ao) k (clsOf (getH H k)) pos→okAt H k (clsOf (getH H k)) pos:=
  fun k pos ho=>ho.same fun hc0=>hget _ (hcn k hc0)
 have hB:¬ w0.old p.blk:=by
  rcases (h.own l p hl).2 with hh|hh|hh
  ·exact absurd hh hno
  ·rw[hro] at hh;cases hh
  ·exact hh
 refine⟨?_,?_,?_,?_,?_,?_,by rw[hsz];exact h.size,hos.trans h.os,hout.trans h.output,htape.trans h.tape,h.le,?dat,h.dec,h.fzo⟩
 case dat=>
  intro k q hk b off v hf
  obtain⟨h1,h2⟩:=h.dat k q hk b off v hf
  have hbne:b≠p.blk:=fun e=>mayFz_no (h2 l p hl e.symm) hno hro hown
  refine⟨(cell_heap (hoth b hbne)).trans h1,fun l' p' hl' hb'=>?_⟩
  have e:l'≠l:=fun e=>by subst e;rw[hl] at hl';cases hl';exact hbne hb'.symm
  rw[hget l' e];exact h2 l' p' hl' hb'
 ·intro k q hk
  by_cases e:k=l
  ·subst e;rw[hl] at hk;cases hk
   rw[hself,hob];exact hor
  ·rw[hget k e]
   by_cases hb:q.blk=p.blk
   ·rcases h.sepW hro e hk hl hb with hh|hh|hh
    ·rw[hh];trivial
    ·exact absurd hh hno
    ·exact absurd (hh.2.1 ▸ hc) hh.1
   ·rw[hoth _ hb];exact (h.objs k q hk).trans (Env.le.refl E) (hok k)
 ·intro k hk
  have:=h.fresh k hk
  exact⟨this.1,by rw[hget k (by omega)];exact this.2⟩
 ·intro k k' q q' hne hk hk' hb
  by_cases e:k=l
  ·subst e;rw[hl] at hk;cases hk
   rw[hget k' (Ne.symm hne)]
   refine .inl ?_
   rcases h.sepV hro hne hl hk' hb with hh|hh|hh
   ·exact absurd hh hno
   ·exact .inr (.inl hh)
   ·exact absurd hc hh.1
  ·rw[hget k e]
   by_cases e':k'=l
   ·subst e';rw[hl] at hk';cases hk'
    refine .inl ?_
    rcases h.sepW hro hne hk hl hb with hh|hh|hh
    ·exact .inl hh
    ·exact absurd hh hno
    ·exact absurd (hh.2.1 ▸ hc) hh.1
   ·rw[hget k' e'];exact h.sep k k' q q' hne hk hk' hb
 ·intro k hc0
  by_cases e:k=l
  ·subst e;rw[hself] at hc0;exact absurd hc' hc0
  ·rw[hget k e] at hc0 ⊢
   obtain⟨a,b,m,h1,h2,h3⟩:=h.cls k hc0
   exact⟨a,b,m,by rw[hget _ (hcn k hc0)];exact h1,h2,h3⟩
 ·intro k q hk
  rw[hsz]
  by_cases e:k=l
  ·subst e;rw[hl] at hk;cases hk
   exact⟨(h.own k p hl).1,.inr (.inr hB)⟩
  ·rw[hget k e];exact h.own k q hk
 ·intro b hb
  rw[hoth b (fun e=>hB (e ▸ hb))];exact h.old b hb
theorem WR.updC (h:WR w0 E H nx w)(l:Nat)(p:Pl)(hl:E l=some p)(cs cs':T V)(len:Nat)(elem:TypeId)(c rel fz:Nat)(hc:c≠0)
  (hobj:getH H l=.cells cs len elem c rel fz false)(cur:Nat)(lim:Option Nat)(mk:Nat)(hcls:getH H c=.cls cur lim mk)(hall:lim=none∨cur=l)
  (off:Nat)(w':World)(cells cells':Array Value)(fr:Nat×Nat)(hsz:w'.heap.size=w.heap.size)(hoth:∀ k,k≠p.blk→w'.heap[k]? = w.heap[k]?)
  (hold:w.heap[p.blk]? = some (.cells cells elem fr))(hob:w'.heap[p.blk]? = some (.cells cells' elem fr))(hcsz:cells'.size=cells.size)
  (hsame:∀ i,i<p.base+off→cells'[i]? = cells[i]?)
  (hos:w'.os=w.os)(hout:w'.output=w.output)(htape:w'.tape=w.tape)
  (hnew:∀ i,i<len→∃ x,cells'[p.base+i]? = some x∧VR E (getC cs' i) x) :
  WR w0 E (put .no (put .no H c (.cls l (some (minO lim (rel+off))) mk)) l (.cells cs' len elem c rel fz false)) nx w':=by
 have hlt:l<nx:=Nat.lt_of_not_le fun hh=>by rw[(h.fresh l hh).1] at hl;cases hl
 have hcl:c≠l:=fun e=>by rw[e,hobj] at hcls;cases hcls
 have hclt:c<nx:=Nat.lt_of_not_le fun hh=>by rw[(h.fresh c hh).2] at hcls;cases hcls
 have hEc:E c=none:=by
  obtain⟨_,_,_,_,_,h3⟩:=h.cls l (by rw[hobj];exact hc)
  rw[hobj] at h3;exact h3
 have hget:∀ k,k≠l→k≠c→getH (put .no (put .no H c (.cls l (some (minO lim (rel+off))) mk)) l (.cells cs' len elem c rel fz false)) k=getH H k:=
  fun k e e'=>by rw[getH_put,if_neg e,getH_put,if_neg e']
 have hself:getH (put .no (put .no H c (.cls l (some (minO lim (rel+off))) mk)) l (.cells cs' len elem c rel fz false)) l=.cells cs' len elem c rel fz false:=by rw[getH_put,if_pos rfl]
 have hC:getH (put .no (put .no H c (.cls l (some (minO lim (rel+off))) mk)) l (.cells cs' len elem c rel fz false)) c=.cls l (some (minO lim (rel+off))) mk:=by
  rw[getH_put,if_neg hcl,getH_put,if_pos rfl]
 generalize hH':put .no (put .no H c (.cls l (some (minO lim (rel+off))) mk)) l (.cells cs' len elem c rel fz false)=H' at *
 have hB:¬ w0.old p.blk:=by
  rcases (h.own l p hl).2 with hh|hh|hh
  ·rw[hobj] at hh;cases hh
  ·rw[hobj] at hh;cases hh
  ·exact hh
 have hmin:∀ pos,pos<minO lim (rel+off)→pos<rel+off∧(lim=none∨∃ m,lim=some m∧pos<m):=by
  intro pos hp
  cases lim with
  |none=>exact⟨hp,.inl rfl⟩
  |some m=>
   simp only[minO] at hp
   cases hb:Nat.ble m (rel+off) with
   |true=>rw[hb] at hp;have:=Nat.le_of_ble_eq_true hb;exact⟨by simp at hp;omega,.inr ⟨m,rfl,hp⟩⟩
   |false=>
    rw[hb] at hp
    have:¬ m≤rel+off:=fun hh=>by rw[Nat.ble_eq_true_of_le hh] at hb;cases hb
    exact⟨hp,.inr ⟨m,rfl,by simp at hp;omega⟩⟩
 have hokc:∀ k pos,k≠l→okAt H' k c pos→pos<rel+off∧okAt H k c pos:=by
  intro k pos hk ho
  rcases ho with ho|⟨a,b,m,h1,h2⟩
  ·exact absurd ho hc
  ·rw[hC] at h1;cases h1
   rcases h2 with h2|h2|⟨m',h2,h3⟩
   ·cases h2
   ·exact absurd h2.symm hk
   ·cases h2
    obtain⟨h4,h5⟩:=hmin pos h3
    refine⟨h4,.inr ⟨cur,lim,mk,hcls,?_⟩⟩
    rcases h5 with h5|h5
    ·exact .inl h5
    ·exact .inr (.inr h5)
 have hokn:∀ k pos,clsOf (getH H k)≠c→clsOf (getH H k)≠l→okAt H' k (clsOf (getH H k)) pos→okAt H k (clsOf (getH H k)) pos:=
  fun k pos h1 h2 ho=>ho.same fun _=>hget _ h2 h1
 have hcnl:∀ k,clsOf (getH H k)≠0→clsOf (getH H k)≠l:=fun k hc0 e=>by
  obtain⟨a,b,m,h1,_⟩:=h.cls k hc0
  rw[e,hobj] at h1;cases h1
 have hl0:l≠0∨l=0:=by omega
 refine⟨?_,?_,?_,?_,?_,?_,by rw[hsz];exact h.size,hos.trans h.os,hout.trans h.output,htape.trans h.tape,h.le,?dat,h.dec,h.fzo⟩
 case dat=>
  intro k q hk b off v hf
  obtain⟨h1,h2⟩:=h.dat k q hk b off v hf
  have hbne:b≠p.blk:=fun e=>mayFz_no (h2 l p hl e.symm) (by rw[hobj];intro hh;cases hh) (by rw[hobj];rfl) (by rw[hobj];rfl)
  refine⟨(cell_heap (hoth b hbne)).trans h1,fun l' p' hl' hb'=>?_⟩
  have e:l'≠l:=fun e=>by subst e;rw[hl] at hl';cases hl';exact hbne hb'.symm
  by_cases e':l'=c
  ·subst e';rw[hEc] at hl';cases hl'
  ·rw[hget l' e e'];exact h2 l' p' hl' hb'
 ·intro k q hk
  by_cases e:k=l
  ·subst e;rw[hl] at hk;cases hk
   rw[hself,hob]
   have ho:=h.objs k p hl
   rw[hobj,hold] at ho
   obtain⟨c0,fr0,h1,h2,h3,h4,_⟩:=ho
   cases h1
   exact⟨cells',fr,rfl,by rw[hcsz];exact h2,h3,by rw[hcsz];exact h4,fun i hi _=>hnew i hi⟩
  ·have hkc:k≠c:=fun e'=>by subst e';rw[hEc] at hk;cases hk
   rw[hget k e hkc]
   have ho:=h.objs k q hk
   by_cases hb:q.blk=p.blk
   ·rcases h.sepW (by rw[hobj];rfl) e hk hl hb with hh|hh|hh
    ·rw[hh];trivial
    ·rw[hobj] at hh;cases hh
    ·rw[hb,hob]
     rw[hb,hold] at ho
     cases hko:getH H k with
     |cells vs len2 elem2 c2 rel2 fz2 ro2=>
      rw[hko] at ho hh
      simp only[clsOf,relOf,hobj] at hh
      obtain⟨_,rfl,hrel⟩:=hh
      obtain⟨c0,fr0,h1,h2,h3,h4,h5⟩:=ho
      cases h1
      refine⟨cells',fr,rfl,by rw[hcsz];exact h2,h3,by rw[hcsz];exact h4,fun i hi hoki=>?_⟩
      obtain⟨hlt',hok'⟩:=hokc k _ e hoki
      obtain⟨x,hx,hv⟩:=h5 i hi hok'
      exact⟨x,by rw[hsame _ (by omega)];exact hx,hv⟩
     |_=>rw[hko] at hh;exact absurd rfl hh.1
   ·rw[hoth _ hb]
    by_cases hcc:clsOf (getH H k)=c
    ·refine ho.trans (Env.le.refl E) fun pos hp=>?_
     rw[hcc] at hp ⊢
     exact (hokc k pos e hp).2
    ·by_cases h0:clsOf (getH H k)=0
     ·refine ho.trans (Env.le.refl E) fun pos _=>?_
      rw[h0];exact .inl rfl
     ·exact ho.trans (Env.le.refl E) fun pos hp=>hokn k pos hcc (hcnl k h0) hp
 ·intro k hk
  have:=h.fresh k hk
  exact⟨this.1,by rw[hget k (by omega) (by omega)];exact this.2⟩
 ·intro k k' q q' hne hk hk' hb
  have hkc:k≠c:=fun e'=>by subst e';rw[hEc] at hk;cases hk
  have hkc':k'≠c:=fun e'=>by subst e';rw[hEc] at hk';cases hk'
  have hs:=h.sep k k' q q' hne hk hk' hb
  have key:∀ z,z≠c→(getH H' z=.no↔getH H z=.no)∧clsOf (getH H' z)=clsOf (getH H z)∧relOf (getH H' z)=relOf (getH H z)∧isRo (getH H' z)=isRo (getH H z):=by
   intro z hz
   by_cases e:z=l
   ·subst e;rw[hself,hobj];exact⟨by constructor<;>(intro hh;cases hh),rfl,rfl,rfl⟩
   ·rw[hget z e hz];exact⟨Iff.rfl,rfl,rfl,rfl⟩
  obtain⟨a1,a2,a3,a4⟩:=key k hkc
  obtain⟨b1,b2,b3,b4⟩:=key k' hkc'
  rw[a1,b1,a2,b2,a3,b3,a4,b4];exact hs
 ·intro k hc0
  by_cases e:k=l
  ·subst e;rw[hself]
   obtain⟨a,b,m,h1,h2,h3⟩:=h.cls k (by rw[hobj];exact hc)
   rw[hobj] at h1 h2 h3
   simp only[clsOf,endOf] at h1 h2 h3 ⊢
   rw[hcls] at h1;cases h1
   exact⟨_,_,_,hC,h2,hEc⟩
  ·by_cases e':k=c
   ·subst e';rw[hC] at hc0;exact absurd rfl hc0
   ·rw[hget k e e'] at hc0 ⊢
    obtain⟨a,b,m,h1,h2,h3⟩:=h.cls k hc0
    by_cases hcc:clsOf (getH H k)=c
    ·rw[hcc] at h1 ⊢
     rw[hcls] at h1;cases h1
     exact⟨_,_,_,hC,h2,hEc⟩
    ·exact⟨a,b,m,by rw[hget _ (hcnl k hc0) hcc];exact h1,h2,h3⟩
 ·intro k q hk
  rw[hsz]
  have hkc:k≠c:=fun e'=>by subst e';rw[hEc] at hk;cases hk
  by_cases e:k=l
  ·subst e;rw[hl] at hk;cases hk
   exact⟨(h.own k p hl).1,.inr (.inr hB)⟩
  ·rw[hget k e hkc];exact h.own k q hk
 ·intro b hb
  rw[hoth b (fun e=>hB (e ▸ hb))];exact h.old b hb
end
end Go.Exo

namespace Go.Exo
set_option linter.unusedSectionVars false
variable [Sx] [Dc]
section tables
variable (P:Program)
theorem ofK_get {α:Type}(d:α)(l:List α)(i:Nat):(T.ofK d l 0 .e id:T α).get d i=(l[i]?).getD d:=by
 rw[ofK_eq];show (putL d l 0 .e).get d i=_
 rw[get_putL];simp[get_e]
theorem nthO_eq {α:Type}:∀ (l:List α)(i:Nat),nthO l i=l[i]?
 |[],i=>by simp[nthO]
 |a::r,0=>rfl
 |a::r,i+1=>by simp only[nthO,List.getElem?_cons_succ];exact nthO_eq r i
theorem sufs_get {α:Type}:∀ (n i:Nat)(l:List α),(sufs n l)[i]? = if i<n then some (l.drop (32*i)) else none
 |0,i,l=>by simp[sufs]
 |n+1,0,l=>by simp[sufs]
 |n+1,i+1,l=>by
  simp only[sufs,List.getElem?_cons_succ]
  rw[sufs_get n i]
  by_cases h:i<n
  ·rw[if_pos h,if_pos (by omega),List.drop_drop];congr 2;omega
  ·rw[if_neg h,if_neg (by omega)]
theorem chunk_eq {α:Type}{l:List α}{f:Nat}{x:α}(h:nthO ((T.ofK [] (sufs (Nat.succ (Nat.div l.length 32)) l) 0 .e id:T (List α)).get [] (Nat.div f 32)) (Nat.mod f 32)=some x):l[f]? = some x:=by
 rw[nthO_eq,ofK_get,sufs_get] at h
 split at h
 ·simp only[Option.getD_some,List.getElem?_drop] at h
  have:32*Nat.div f 32+Nat.mod f 32=f:=Nat.div_add_mod f 32
  rwa [this] at h
 ·simp at h
theorem infoT_eq {t:TypeId}{i:TypeInfo}(h:infoT P t=some i):P.info? t=some i:=by
 have h1:=chunk_eq (show nthO _ _=some i from h)
 rw[Array.getElem?_toList] at h1
 have:t<P.types.size:=by
  rcases Nat.lt_or_ge t P.types.size with hh|hh
  ·exact hh
  ·rw[Array.getElem?_eq_none hh] at h1;cases h1
 show (if t<P.types.size then P.types[t]? else _)=_
 rw[if_pos this,h1]
theorem funcT_eq {f:FuncId}{fn:Func}(h:funcT P f=some fn):P.funcs[f]? = some fn:=by
 have h1:=chunk_eq (show nthO _ _=some fn from h)
 rwa [Array.getElem?_toList] at h1
theorem undT_eq {t:TypeId}{d:TypeDesc}(h:undT P t=some d):P.underlying t=some d:=by
 unfold undT at h
 cases hi:infoT P t with
 |none=>rw[hi] at h;cases h
 |some i=>
  rw[hi] at h;simp only at h
  have h1:=infoT_eq P hi
  unfold Program.underlying
  rw[h1]
  cases hd:i.desc with
  |named nm u=>
   rw[hd] at h;simp only at h
   cases hj:infoT P u with
   |none=>rw[hj] at h;cases h
   |some j=>
    rw[hj] at h;simp only at h
    have h2:=infoT_eq P hj
    obtain⟨d',_,_,_,_,_,_,_,_,_⟩:=i
    simp only at hd;subst hd
    simp only[h2,Option.map];exact h
  |_=>rw[hd] at h;simp only at h;obtain⟨d',_,_,_,_,_,_,_,_,_⟩:=i;simp only at hd;subst hd;simp only;exact h
theorem isAggT_true {t:TypeId}(h:isAggT P t=true)(w:World):(isAgg t).run P w=.ok true w:=by
 unfold isAggT at h
 cases hu:undT P t with
 |none=>rw[hu] at h;cases h
 |some d=>
  rw[hu] at h
  have h1:=undT_eq P hu
  simp only[isAgg,Sem.run_bind,run_underlying h1,Result.andThen_ok]
  cases d<;>first|rfl|cases h
theorem isAggT_false {t:TypeId}{d:TypeDesc}(hu:undT P t=some d)(h:isAggT P t=false)(w:World):(isAgg t).run P w=.ok false w:=by
 unfold isAggT at h
 rw[hu] at h
 have h1:=undT_eq P hu
 simp only[isAgg,Sem.run_bind,run_underlying h1,Result.andThen_ok]
 cases d<;>first|rfl|cases h
end tables
theorem fineL_map {n:Nat}{E:Env}(ih:∀ (x:Value),(ofVal n x).fine=true→VR E (ofVal n x) x):∀ l:List Value,V.fineL (l.map (ofVal n))=true→VRs E (l.map (ofVal n)) l
 |[],_=>.nil
 |x::r,h=>by
  simp only[List.map_cons,V.fineL,Bool.and_eq_true] at h
  exact .cons _ _ _ _ (ih x h.1) (fineL_map ih r h.2)
theorem VR.ofVal (E:Env):∀ (n:Nat)(x:Value),(ofVal n x).fine=true→VR E (Exo.ofVal n x) x:=by
 have base:∀ (n:Nat)(x:Value),(∀ t v,x≠.iface t v)→(∀ cs,x≠.agg cs)→(∀ vs,x≠.tuple vs)→(Exo.ofVal n x).fine=true→VR E (Exo.ofVal n x) x:=by
  intro n x h1 h2 h3 h
  cases x with
  |bool b=>cases n<;>exact .bool b
  |int k m=>cases n<;>exact .int k m
  |string s=>cases n<;>exact .str _ _ _ (sB_packL _).symm (packL_lt _)
  |pointer a=>cases a<;>cases n<;>first|exact .nilp|cases h
  |slice a l c=>
   cases a with
   |some a=>cases n<;>cases h
   |none=>
    by_cases hl:l=0∧c=0
    ·obtain⟨rfl,rfl⟩:=hl;cases n<;>exact .nils
    ·cases l<;>cases c<;>cases n<;>first|(exact absurd ⟨rfl,rfl⟩ hl)|cases h
  |map r=>cases r<;>cases n<;>first|exact .nilm|cases h
  |nilFunc=>cases n<;>exact .nilf
  |nilIface=>cases n<;>exact .nili
  |iface t v=>exact absurd rfl (h1 t v)
  |agg cs=>exact absurd rfl (h2 cs)
  |tuple vs=>exact absurd rfl (h3 vs)
  |func fn a b=>
   cases fn with
   |func f=>
    obtain⟨a⟩:=a;obtain⟨b⟩:=b
    cases a with
    |nil=>cases b with
     |nil=>cases n<;>exact .func (.func f) (.func f) [] [] [] [] rfl .nil .nil
     |cons _ _=>cases n<;>cases h
    |cons _ _=>cases n<;>cases h
   |_=>cases n<;>cases h
  |_=>cases n<;>cases h
 intro n
 induction n with
 |zero=>
  intro x h
  cases x with
  |iface t v=>cases h
  |agg cs=>cases h
  |tuple vs=>cases h
  |_=>exact base 0 _ (by intros;intro h;cases h) (by intros;intro h;cases h) (by intros;intro h;cases h) h
 |succ n ih=>
  intro x h
  cases x with
  |iface t v=>exact .iface t _ v (ih v h)
  |agg cs=>obtain⟨cs⟩:=cs;exact .agg _ cs (fineL_map ih cs h)
  |tuple vs=>obtain⟨vs⟩:=vs;exact .tup _ vs (fineL_map ih vs h)
  |_=>exact base (n+1) _ (by intros;intro h;cases h) (by intros;intro h;cases h) (by intros;intro h;cases h) h
end Go.Exo

namespace Go.Exo
set_option linter.unusedSectionVars false
variable [Sx] [Dc]
def NextV:Next→Option Value
 |.value v=>some v
 |.skip=>some undef
 |_=>none
def DR (E:Env):ADef→Deferred→Prop
 |.call fn cap args,D=>∃ fn' cs xs,FnR E fn fn'∧VRs E cap cs∧VRs E args xs∧D={ target:=.fn fn' cs.toArray,args:=xs.toArray }
 |.collected l,D=>∃ p,E l=some p∧D={ target:=.collected p.blk,args:=#[] }
def Keep (E E':Env)(H H':T AObj)(nx:Nat):Prop:=∀ l,l<nx→E l=none→isCls (getH H l)=false→E' l=none∧getH H' l=getH H l
theorem Keep.refl (E:Env)(H:T AObj)(nx:Nat):Keep E E H H nx:=fun _ _ h _=>⟨h,rfl⟩
section
variable (P:Program)(w0:Bs)(E:Env)(H:T AObj)(nx:Nat)(w:World)
def Good (R:Result Next):Res→Prop
 |.val v=>∃ n x,R=.ok n w∧NextV n=some x∧VR E v x
 |.valH v H' nx'=>∃ n x w' E',R=.ok n w'∧NextV n=some x∧E.le E'∧VR E' v x∧WR w0 E' H' nx' w'∧nx≤nx'∧Keep E E' H H' nx
 |.enter f args=>∀ a,fnOf P f=some a→∃ xs:List Value,R=.ok (.enter f xs.toArray) w∧VRs E args xs
 |.round l args=>∃ (p:Pl)(xs:List Value),E l=some p∧R=(Instr.yield p.blk xs.toArray).run P w∧VRs E args xs
 |.defer d=>∃ D,R=.ok (.defer D) w∧DR E d D
 |.pan v=>∃ x,R=.halt (.panic x) w∧VR E v x
 |.recover=>R=.ok .recover w
 |.fail _=>True
def VG (R:Result Value):Res→Prop
 |.val v=>∃ x,R=.ok x w∧VR E v x
 |.valH v H' nx'=>∃ x w' E',R=.ok x w'∧E.le E'∧VR E' v x∧WR w0 E' H' nx' w'∧nx≤nx'∧Keep E E' H H' nx
 |.pan v=>∃ x,R=.halt (.panic x) w∧VR E v x
 |.fail _=>True
 |_=>False
variable {P w0 E H nx w}
theorem VG.good {s:Sem Value}{r:Res}(h:VG w0 E H nx w (s.run P w) r):Good P w0 E H nx w ((do pure (.value (← s)):Sem Next).run P w) r:=by
 rw[Sem.run_bind]
 cases r with
 |val v=>obtain⟨x,h1,h2⟩:=h;rw[h1];exact⟨.value x,x,rfl,rfl,h2⟩
 |valH v H' nx'=>obtain⟨x,w',E',h1,h2⟩:=h;rw[h1];exact⟨.value x,x,w',E',rfl,rfl,h2⟩
 |pan v=>obtain⟨x,h1,h2⟩:=h;rw[h1];exact⟨x,rfl,h2⟩
 |fail _=>trivial
 |_=>exact h.elim
theorem VG.val {s:Sem Value}{v:V}{x:Value}(h1:s.run P w=.ok x w)(h2:VR E v x):VG w0 E H nx w (s.run P w) (.val v):=⟨x,h1,h2⟩
end
section
variable {P:Program}{w0:Bs}{E:Env}{H:T AObj}{nx:Nat}{w:World}
theorem cnd_VG {R:Result Value}{b:Bool}{r:Res}(h:b=true→VG w0 E H nx w R r)(n:Nat):VG w0 E H nx w R (cond b r (.fail n)):=by
 cases b with
 |true=>exact h rfl
 |false=>trivial
theorem bitsF_ok (k:IntKind)(f:BitVec k.bits→BitVec k.bits→BitVec k.bits)(a b:Int) :
  VR E (bitsF k f a b) (.int k (k.wrap (f (BitVec.ofInt k.bits a) (BitVec.ofInt k.bits b)).toNat)):=.int _ _
theorem binI_ok (op:BinOp)(t:TypeId)(k:IntKind)(a b:Int)(hs:op≠.shl∧op≠.shr):VG w0 E H nx w ((binOp op t (.int k a) (.int k b)).run P w) (binI op k a b):=by
 cases op<;>simp only[binI]
 case add=>rw[wrapF_eq,addF_eq];exact VG.val (by simp[binOp,Op.intArith]) (.int _ _)
 case sub=>rw[wrapF_eq,subF_eq];exact VG.val (by simp[binOp,Op.intArith]) (.int _ _)
 case mul=>rw[wrapF_eq];exact VG.val (by simp[binOp,Op.intArith]) (.int _ _)
 case quo=>
  rw[wrapF_eq,isZ_eq]
  by_cases hb:b=0
  ·subst hb;trivial
  ·simp only[hb,decide_false,cond_false]
   refine VG.val ?_ (.int _ _)
   simp[binOp,Op.intDiv,hb]
 case rem=>
  rw[isZ_eq]
  by_cases hb:b=0
  ·subst hb;trivial
  ·simp only[hb,decide_false,cond_false]
   refine VG.val ?_ (.int _ _)
   simp[binOp,Op.intDiv,hb]
 case and=>exact VG.val (by simp[binOp,Op.intBits]) (bitsF_ok k (· &&& ·) a b)
 case or=>exact VG.val (by simp[binOp,Op.intBits]) (bitsF_ok k (· ||| ·) a b)
 case xor=>exact VG.val (by simp[binOp,Op.intBits]) (bitsF_ok k (· ^^^ ·) a b)
 case andNot=>exact VG.val (by simp[binOp,Op.intBits]) (bitsF_ok k (fun x y=>x &&& ~~~ y) a b)
 case eql=>rw[eqF_eq];exact VG.val (by simp[binOp,Op.intCmp]) (.bool _)
 case neq=>rw[eqF_eq];exact VG.val (by simp[binOp,Op.intCmp,bne]) (.bool _)
 case lss=>rw[ltF_eq];exact VG.val (by simp[binOp,Op.intCmp]) (.bool _)
 case leq=>rw[ltF_eq];exact VG.val (x:=.bool (!decide (b<a))) (by simp[binOp,Op.intCmp,← Int.not_lt,decide_not]) (.bool _)
 case gtr=>rw[ltF_eq];exact VG.val (by simp[binOp,Op.intCmp]) (.bool _)
 case geq=>rw[ltF_eq];exact VG.val (x:=.bool (!decide (a<b))) (by simp[binOp,Op.intCmp,← Int.not_lt,decide_not]) (.bool _)
 case shl=>exact absurd rfl hs.1
 case shr=>exact absurd rfl hs.2
theorem str_eq {s s':ByteArray}{l n l' n':Nat}(h:s.data.toList=sB l n)(hn:n<256 ^ l)(h':s'.data.toList=sB l' n')(hn':n'<256 ^ l') :
  (s.toList==s'.toList)=(Nat.beq l l'&&Nat.beq n n'):=by
 have e1:s.toList=sB l n:=by rw[← h];exact (by simp[ByteArray.toList_eq]:s.toList=s.data.toList)
 have e2:s'.toList=sB l' n':=by rw[← h'];exact (by simp[ByteArray.toList_eq]:s'.toList=s'.data.toList)
 rw[e1,e2,Bool.eq_iff_iff,Bool.and_eq_true,Nat.beq_eq,Nat.beq_eq,beq_iff_eq]
 constructor
 ·intro e
  have hl:l=l':=by have:=congrArg List.length e;rwa [sB_length,sB_length] at this
  subst hl
  exact⟨rfl,sB_inj hn hn' e⟩
 ·rintro⟨rfl,rfl⟩;rfl
theorem shlF_ok (t:TypeId)(k k':IntKind)(a b:Int):VG w0 E H nx w ((binOp .shl t (.int k a) (.int k' b)).run P w) (shlF k a b):=by
 cases b with
 |ofNat n=>
  refine VG.val ?_ (.int _ _)
  simp only[binOp,Op.shift]
  rw[if_neg (by simp only[Int.ofNat_eq_natCast];omega)];simp
 |negSucc n=>trivial
theorem shrF_ok (t:TypeId)(k k':IntKind)(a b:Int):VG w0 E H nx w ((binOp .shr t (.int k a) (.int k' b)).run P w) (shrF k a b):=by
 cases b with
 |ofNat n=>
  refine VG.val ?_ (.int _ _)
  simp only[binOp,Op.shift]
  rw[if_neg (by simp only[Int.ofNat_eq_natCast];omega)];simp
 |negSucc n=>trivial
theorem binII_ok (op:BinOp)(t:TypeId)(k k':IntKind)(a b:Int):VG w0 E H nx w ((binOp op t (.int k a) (.int k' b)).run P w) (binII op k a k' b):=by
 by_cases h1:op=.shl
 ·subst h1;exact shlF_ok t k k' a b
 ·by_cases h2:op=.shr
  ·subst h2;exact shrF_ok t k k' a b
  ·have e:binII op k a k' b=cond (Nat.beq (kNum k) (kNum k')) (binI op k a b) (.fail 4):=by cases op<;>first|rfl|exact absurd rfl h1|exact absurd rfl h2
   rw[e]
   refine cnd_VG (fun hk=>?_) 4
   obtain rfl:=(kNum_eq k k').1 hk
   exact binI_ok op t k a b ⟨h1,h2⟩
theorem toL (s:ByteArray):s.toList=s.data.toList:=by simp[ByteArray.toList_eq]
theorem size_sB {s:ByteArray}{l n:Nat}(h:s.data.toList=sB l n):s.size=l:=by
 have:=congrArg List.length h
 rw[sB_length] at this
 simpa using this
theorem binS_ok (op:BinOp)(t:TypeId){s s':ByteArray}{l n l' n':Nat}(h:s.data.toList=sB l n)(hn:n<256 ^ l)(h':s'.data.toList=sB l' n')(hn':n'<256 ^ l') :
  VG w0 E H nx w ((binOp op t (.string s) (.string s')).run P w) (binS op l n l' n'):=by
 have e:=str_eq h hn h' hn'
 have e1:=size_sB h
 have e2:=size_sB h'
 have f1:s.toList=sB l n:=by rw[toL,h]
 have f2:s'.toList=sB l' n':=by rw[toL,h']
 cases op<;>simp only[binS]<;>try trivial
 case add=>
  refine cnd_VG (fun hb=>?_) 5
  have hb:=Nat.le_of_ble_eq_true hb
  refine VG.val (x:=.string (s++s')) ?_ (.str _ _ _ ?_ (catS_lt _ _ _ _ hn hn'))
  ·simp only[binOp,Op.stringOp]
   rw[if_neg (by rw[e1,e2];simp only[IntKind.max,IntKind.signed,IntKind.bits,if_true];have:l+l'≤9223372036854775807:=hb;omega)]
   simp
  ·show (s++s').data.toList=sB (l+l') _
   rw[catS_eq,← sB_append _ _ _ _ hn,← h,← h'];simp
 case eql=>exact VG.val (by simp[binOp,Op.stringOp,e]) (.bool _)
 case neq=>exact VG.val (by simp[binOp,Op.stringOp,e]) (.bool _)
 case lss=>exact VG.val (by simp[binOp,Op.stringOp,f1,f2]) (.bool _)
 case leq=>rw[← e];exact VG.val (by simp[binOp,Op.stringOp,f1,f2]) (.bool _)
 case gtr=>rw[← e];exact VG.val (by simp[binOp,Op.stringOp,f1,f2]) (.bool _)
 case geq=>exact VG.val (by simp[binOp,Op.stringOp,f1,f2]) (.bool _)
theorem binV_ok (op:BinOp)(t:TypeId)(ox oy:Operand){x y:V}{X Y:Value}(hx:VR E x X)(hy:VR E y Y) :
  VG w0 E H nx w ((do eqGuard op t ox oy X Y;binOp op t X Y:Sem Value).run P w) (binV op x y):=by
 have hg:∀ X Y:Value,(∀ cs,X≠.agg cs)→X≠.nilIface→(eqGuard op t ox oy X Y).run P w=.ok () w:=by
  intro X Y h1 h2
  cases op<;>simp only[eqGuard]<;>first|rfl|(cases X<;>first|rfl|exact absurd rfl (h1 _)|exact absurd rfl h2)
 cases hx<;>simp only[binV]<;>try trivial
 case int k a=>
  rw[Sem.run_bind,hg _ _ (by intro _ h;cases h) (by intro h;cases h),Result.andThen_ok]
  cases hy<;>first|exact binII_ok op t k _ a _|trivial
 case str l n s h1 h2=>
  rw[Sem.run_bind,hg _ _ (by intro _ h;cases h) (by intro h;cases h),Result.andThen_ok]
  cases hy<;>first|(rename_i h3 h4;exact binS_ok op t h1 h2 h3 h4)|trivial
theorem unV_ok (op:UnOp){x:V}{X:Value}(hx:VR E x X):VG w0 E H nx w ((Op.unary op X).run P w) (unV op x):=by
 cases hx<;>cases op<;>simp only[unV]<;>try trivial
 ·exact VG.val rfl (.bool _)
 ·rw[wrapF_eq,subF_eq];exact VG.val (by simp[Op.unary,Op.intArith]) (.int _ _)
 ·exact VG.val (by simp[Op.unary,Op.intBits]) (bitsF_ok _ (· ^^^ ·) _ _)
theorem xConvI_ok {a b:TypeId}{k:IntKind}{k0:IntKind}(ha:P.underlying a=some (.int k0))(hb:P.underlying b=some (.int k)){x:V}{X:Value}(hx:VR E x X) :
  VG w0 E H nx w ((convert a b X).run P w) (xConvI k x):=by
 cases hx<;>simp only[xConvI]<;>try trivial
 rw[wrapF_eq]
 exact VG.val (by simp[convert,run_underlying ha,run_underlying hb,Conv.intToInt]) (.int _ _)
end
end Go.Exo

namespace Go.Exo
set_option linter.unusedSectionVars false
variable [Sx] [Dc]
section
variable {P:Program}{w0:Bs}{E:Env}{H:T AObj}{nx:Nat}{w:World}
theorem xPick_ok {c a b:V}{C A B:Value}(hc:VR E c C)(ha:VR E a A)(hb:VR E b B) :
  VG w0 E H nx w ((do pure (if ← asBool C then A else B):Sem Value).run P w) (xPick c a b):=by
 cases hc<;>simp only[xPick]<;>try trivial
 rename_i t
 cases t
 ·exact VG.val (by simp[asBool]) hb
 ·exact VG.val (by simp[asBool]) ha
theorem natOf_some {E:Env}{v:V}{X:Value}(hv:VR E v X){d:Nat}{k:Nat→Res}{R:Result Value}(h:∀ (n:Nat) kk,X=.int kk (n:Int)→VG w0 E H nx w R (k n)):VG w0 E H nx w R (natOf d (some v) k):=by
 cases hv<;>simp only[natOf]<;>try trivial
 rename_i kk m
 cases m with
 |ofNat m=>exact h m kk rfl
 |negSucc m=>trivial
theorem natOf_ok {x:Option V}{X:Option Value}(hx:∀ v,x=some v→∃ Y,X=some Y∧VR E v Y)(hn:x=none→X=none){d:Nat}{k:Nat→Res}{R:Result Value}
  (h:∀ n:Nat,(X=none∧n=d∨∃ kk,X=some (.int kk (n:Int)))→VG w0 E H nx w R (k n)):VG w0 E H nx w R (natOf d x k):=by
 cases x with
 |none=>exact h d (.inl ⟨hn rfl,rfl⟩)
 |some v=>
  obtain⟨Y,rfl,hv⟩:=hx v rfl
  exact natOf_some hv fun n kk e=>h n (.inr ⟨kk,by rw[e]⟩)
theorem bound_ok {n y:Nat}(hle:n≤y)(k:IntKind)(code:BoundsCode):(Instr.sliceBound (.int k (n:Int)) y code).run P w=.ok n w:=by
 simp only[Instr.sliceBound,asIntOf,Sem.run_bind,Sem.run_pure,Result.andThen_ok]
 rw[if_pos ⟨by omega,by omega⟩];simp
theorem bounds2_ok (isSl:Bool){len cap a h:Nat}{lo hi:Option Value}(hh:hi=none∧h=len∨∃ kk,hi=some (.int kk (h:Int)))(ha:lo=none∧a=0∨∃ kk,lo=some (.int kk (a:Int)))
  (h1:a≤h)(h2:h≤cap):(Instr.sliceBounds isSl len cap lo hi none).run P w=.ok (a,h,cap) w:=by
 rcases hh with⟨rfl,rfl⟩|⟨kk,rfl⟩<;>rcases ha with⟨rfl,rfl⟩|⟨kk',rfl⟩ <;>
  simp[Instr.sliceBounds,bound_ok h1,bound_ok h2]
theorem bounds3_ok (isSl:Bool){len cap a h m:Nat}{lo:Option Value}{kh km:IntKind}(ha:lo=none∧a=0∨∃ kk,lo=some (.int kk (a:Int)))
  (h1:a≤h)(h2:h≤m)(h3:m≤cap):(Instr.sliceBounds isSl len cap lo (some (.int kh (h:Int))) (some (.int km (m:Int)))).run P w=.ok (a,h,m) w:=by
 rcases ha with⟨rfl,rfl⟩|⟨kk',rfl⟩ <;>
  simp[Instr.sliceBounds,bound_ok h1,bound_ok h2,bound_ok h3]
def OVR (E:Env)(x:Option V)(X:Option Value):Prop:=(∀ v,x=some v→∃ Y,X=some Y∧VR E v Y)∧(x=none→X=none)
theorem xSlStr_ok {t:TypeId}(ht:P.underlying t=some .string){x:V}{X:Value}{lo hi:Option V}{LO HI:Option Value}(hx:VR E x X)(hlo:OVR E lo LO)(hhi:OVR E hi HI) :
  VG w0 E H nx w ((Instr.sliceAt t X LO HI none).run P w) (xSlStr x lo hi):=by
 cases hx<;>simp only[xSlStr]<;>try trivial
 rename_i l n s h1 h2
 refine natOf_ok hhi.1 hhi.2 fun h hh=>natOf_ok hlo.1 hlo.2 fun a ha=>cnd_VG (fun hb=>?_) 32
 simp only[Bool.and_eq_true] at hb
 have hah:=Nat.le_of_ble_eq_true hb.1
 have hhl:=Nat.le_of_ble_eq_true hb.2
 have hs:=size_sB h1
 refine VG.val (x:=.string (s.extract a h)) ?_ (.str _ _ _ ?_ (cutS_lt _ _ _))
 ·have hb:=bounds2_ok (P:=P) (w:=w) false (len:=s.size) (cap:=s.size) (by rw[hs];exact hh) ha hah (by rw[hs];exact hhl)
  simp[Instr.sliceAt,Instr.slice,run_underlying ht,hb]
 ·show (s.extract a h).data.toList=_
  rw[Lib.extract_data,h1]
  exact sB_cut l n a h hah hhl
theorem add_add (p:Pl)(off n:Nat):(⟨p.blk,p.base+off,none⟩:Addr).add n=⟨p.blk,p.base+(off+n),none⟩:=by
 unfold Addr.add
 split
 ·rename_i h;subst h;simp
 ·simp[Nat.add_assoc]
theorem run_sizeOf {t:TypeId}{i:TypeInfo}(h:P.info? t=some i):(sizeOf t).run P w=.ok i.size w:=by
 simp[sizeOf,Go.run_typeInfo w h]
theorem slK_ok {l off esz a h c cap:Nat}{p:Pl}(hp:E l=some p)(hah:a≤h)(hhc:h≤c)(hcap:c≤cap)(hfit:off+cap*esz≤p.size){R:Result Value}
  (hR:R=.ok (.slice (some (if c=a then ⟨p.blk,p.base+off,none⟩ else (⟨p.blk,p.base+off,none⟩:Addr).add (a*esz))) (h-a) (c-a)) w) :
  VG w0 E H nx w R (slK l off esz a h c):=by
 refine⟨_,hR,?_⟩
 by_cases e:c=a
 ·subst e
  have e1:Nat.beq c c=true:=Nat.beq_refl c
  rw[if_pos rfl,e1]
  refine .slice _ _ _ _ _ p _ hp (by show h-c≤c-c;omega) (by show off+(c-c)*esz≤_;rw[Nat.sub_self,Nat.zero_mul];omega) (fun k hk=>by cases hk;rfl)
 ·have e1:Nat.beq a c=false:=by
   cases hb:Nat.beq a c with
   |false=>rfl
   |true=>exact absurd (Nat.eq_of_beq_eq_true hb).symm e
  rw[if_neg e,e1,add_add]
  refine .slice _ _ _ _ _ p _ hp (by show h-a≤c-a;omega) ?_ (fun k hk=>by cases hk;rfl)
  show off+a*esz+(c-a)*esz≤_
  have:a*esz+(c-a)*esz=c*esz:=by rw[← Nat.add_mul];congr 1;omega
  have h2:c*esz≤cap*esz:=Nat.mul_le_mul_right _ hcap
  omega
theorem xSlSl_ok {t e:TypeId}{i:TypeInfo}(ht:P.underlying t=some (.slice e))(hi:P.info? e=some i){x:V}{X:Value}{lo hi' mx:Option V}{LO HI MX:Option Value}(hx:VR E x X)
  (hlo:OVR E lo LO)(hhi:OVR E hi' HI)(hmx:OVR E mx MX) :
  VG w0 E H nx w ((Instr.sliceAt t X LO HI MX).run P w) (xSlSl i.size x lo hi' mx):=by
 have hsz:=fun w=>run_sizeOf (P:=P) (w:=w) hi
 cases hx<;>simp only[xSlSl]<;>try trivial
 case nils=>
  cases mx with
  |some m=>trivial
  |none=>
   obtain rfl:=hmx.2 rfl
   refine natOf_ok hhi.1 hhi.2 fun h hh=>natOf_ok hlo.1 hlo.2 fun a ha=>cnd_VG (fun hb=>?_) 34
   simp only[Bool.and_eq_true] at hb
   obtain⟨h1,h2⟩:=hb
   obtain rfl:=Nat.eq_of_beq_eq_true h1
   obtain rfl:=Nat.eq_of_beq_eq_true h2
   refine VG.val ?_ .nils
   have hb:=bounds2_ok (P:=P) (w:=w) true (len:=0) (cap:=0) hh ha (Nat.le_refl _) (Nat.le_refl _)
   simp[Instr.sliceAt,Instr.slice,run_underlying ht,hb,hsz]
 case slice l off len cap esz p c hp h1 h2 h3=>
  refine cnd_VG (fun hes=>?_) 35
  obtain rfl:=Nat.eq_of_beq_eq_true hes
  cases mx with
  |none=>
   obtain rfl:=hmx.2 rfl
   refine natOf_ok hhi.1 hhi.2 fun h hh=>natOf_ok hlo.1 hlo.2 fun a ha=>?_
   cases cap with
   |some k=>
    obtain rfl:=h3 k rfl
    refine cnd_VG (fun hb=>?_) 36
    simp only[Bool.and_eq_true] at hb
    have hah:=Nat.le_of_ble_eq_true hb.1
    have hhc:=Nat.le_of_ble_eq_true hb.2
    refine slK_ok hp hah hhc (Nat.le_refl _) h2 ?_
    have hb:=bounds2_ok (P:=P) (w:=w) true (len:=len) (cap:=k) hh ha hah hhc
    simp[Instr.sliceAt,Instr.slice,run_underlying ht,hb,hsz]
    split<;>rfl
   |none=>
    show VG w0 E H nx w _ (cond _ _ _)
    cases hb:(Nat.ble a h&&Nat.ble h len&&(Nat.ble (Nat.succ a) len || Nat.beq a 0)) with
    |false=>
     simp only[cond_false]
     refine cnd_VG (fun hb=>?_) 37
     simp only[Bool.and_eq_true] at hb
     obtain rfl:=Nat.eq_of_beq_eq_true hb.1
     obtain rfl:=Nat.eq_of_beq_eq_true hb.2
     have hb2:=bounds2_ok (P:=P) (w:=w) true (len:=a) (cap:=c) hh ha (Nat.le_refl _) h1
     have hm:a*i.size+(c-a)*i.size=c*i.size:=by rw[← Nat.add_mul];congr 1;omega
     by_cases e:c=a
     ·refine VG.val (x:=.slice (some ⟨p.blk,p.base+off,none⟩) 0 (c-a)) ?_ (.emp _ _ p _ _ hp (by omega))
      simp only[Instr.sliceAt,Instr.slice,run_underlying ht,Sem.run_bind,Result.andThen_ok,hb2,hsz,Sem.run_pure]
      rw[if_pos e];simp
     ·refine VG.val (x:=.slice (some ⟨p.blk,p.base+(off+a*i.size),none⟩) 0 (c-a)) ?_ (.emp _ _ p _ _ hp (by omega))
      simp only[Instr.sliceAt,Instr.slice,run_underlying ht,Sem.run_bind,Result.andThen_ok,hb2,hsz,Sem.run_pure]
      rw[if_neg e];simp[add_add]
    |true=>
    simp only[cond_true]
    simp only[Bool.and_eq_true,Bool.or_eq_true] at hb
    have hah:=Nat.le_of_ble_eq_true hb.1.1
    have hhl:=Nat.le_of_ble_eq_true hb.1.2
    have hb2:=bounds2_ok (P:=P) (w:=w) true (len:=len) (cap:=c) hh ha hah (by omega)
    refine VG.val (x:=.slice (some ⟨p.blk,p.base+(off+a*i.size),none⟩) (h-a) (c-a)) ?_ ?_
    ·simp only[Instr.sliceAt,Instr.slice,run_underlying ht,Sem.run_bind,Result.andThen_ok,hb2,hsz,Sem.run_pure]
     congr 2
     rcases hb.2 with hlt|h0
     ·have:=Nat.le_of_ble_eq_true hlt
      rw[if_neg (by omega)];simp[add_add]
     ·obtain rfl:=Nat.eq_of_beq_eq_true h0
      split<;>simp[add_add]
    ·refine .slice _ _ _ _ _ p _ hp (by show h-a≤c-a;omega) ?_ (fun k hk=>by cases hk)
     have:a*i.size+(c-a)*i.size=c*i.size:=by rw[← Nat.add_mul];congr 1;omega
     show off+a*i.size+(c-a)*i.size≤_
     omega
  |some m=>
   obtain⟨M,rfl,hM⟩:=hmx.1 m rfl
   cases hi' with
   |none=>trivial
   |some hv=>
    obtain⟨HV,rfl,hHV⟩:=hhi.1 hv rfl
    refine natOf_some hM fun m km em=>natOf_some hHV fun h kh eh=>natOf_ok hlo.1 hlo.2 fun a ha=>cnd_VG (fun hb=>?_) 35
    subst em;subst eh
    simp only[Bool.and_eq_true] at hb
    have hah:=Nat.le_of_ble_eq_true hb.1.1
    have hhm:=Nat.le_of_ble_eq_true hb.1.2
    have hmc:m≤c:=by
     have hb2:=hb.2
     cases cap with
     |some k=>obtain rfl:=h3 k rfl;exact Nat.le_of_ble_eq_true hb2
     |none=>exact Nat.le_trans (Nat.le_of_ble_eq_true hb2) h1
    refine slK_ok hp hah hhm hmc h2 ?_
    have hb:=bounds3_ok (P:=P) (w:=w) true (len:=len) (cap:=c) (kh:=kh) (km:=km) ha hah hhm hmc
    simp[Instr.sliceAt,Instr.slice,run_underlying ht,hb,hsz]
    split<;>rfl
theorem xFaddr_ok {t:TypeId}{fs:Array Field}{f:Nat}{fd:Field}{i:TypeInfo}(ht:P.underlying t=some (.struct fs))(hf:fs[f]? = some fd)(hi:P.info? fd.type=some i)(hz:i.size≠0)
  {x:V}{X:Value}(hx:VR E x X):VG w0 E H nx w ((Instr.fieldAt t X f).run P w) (xFaddr fd.offset x):=by
 have hsz:=fun w=>run_sizeOf (P:=P) (w:=w) hi
 cases hx<;>simp only[xFaddr]<;>try trivial
 rename_i l off p hp
 refine VG.val (x:=.pointer (some ⟨p.blk,p.base+(off+fd.offset),none⟩)) ?_ (.ptr _ _ _ hp)
 simp[Instr.fieldAt,Instr.sureAddr,fieldPlace,run_underlying ht,hf,hsz,hz,add_add]
theorem nthV_get:∀ (l:List V)(i:Nat),i<l.length→l[i]? = some (nthV l i)
 |[],_,h=>by simp at h
 |v::r,0,_=>rfl
 |v::r,i+1,h=>by simp only[List.getElem?_cons_succ,nthV];exact nthV_get r i (by simpa using h)
theorem VRs.nth {vs:List V}{xs:List Value}(h:VRs E vs xs)(i:Nat)(hi:i<vs.length):∃ x,xs[i]? = some x∧VR E (nthV vs i) x:=h.get i _ (nthV_get vs i hi)
theorem xFieldA_ok {t:TypeId}{fs:Array Field}{f:Nat}{fd:Field}{i:TypeInfo}(ht:P.underlying t=some (.struct fs))(hf:fs[f]? = some fd)(hi:P.info? fd.type=some i)
  (ha:∀ w,(isAgg fd.type).run P w=.ok true w){x:V}{X:Value}(hx:VR E x X):VG w0 E H nx w ((Instr.field t X f).run P w) (xField (some i.size) fd.offset x):=by
 have hsz:=fun w=>run_sizeOf (P:=P) (w:=w) hi
 cases hx<;>simp only[xField]<;>try trivial
 rename_i cs xs h
 refine cnd_VG (fun hb=>?_) 42
 refine VG.val (x:=.agg ((xs.drop fd.offset).take i.size).toArray) ?_ (.agg _ _ ((h.drop _).take _))
 simp[Instr.field,asAgg,part,run_underlying ht,hf,hsz,ha,List.extract_toArray,List.take_drop,Nat.add_comm]
theorem xField1_ok {t:TypeId}{fs:Array Field}{f:Nat}{fd:Field}(ht:P.underlying t=some (.struct fs))(hf:fs[f]? = some fd)
  (ha:∀ w,(isAgg fd.type).run P w=.ok false w){x:V}{X:Value}(hx:VR E x X):VG w0 E H nx w ((Instr.field t X f).run P w) (xField none fd.offset x):=by
 cases hx<;>simp only[xField]<;>try trivial
 rename_i cs xs h
 refine cnd_VG (fun hb=>?_) 43
 have hb:=Nat.le_of_ble_eq_true hb
 obtain⟨y,hy,hv⟩:=h.nth fd.offset hb
 refine VG.val (x:=y) ?_ hv
 simp[Instr.field,asAgg,part,run_underlying ht,hf,ha,hy]
theorem xIdxSl_ok {t e:TypeId}{i:TypeInfo}(ht:P.underlying t=some (.slice e))(hi:P.info? e=some i){x y:V}{X Y:Value}(hx:VR E x X)(hy:VR E y Y) :
  VG w0 E H nx w ((Instr.indexAt t X Y).run P w) (xIdxSl i.size x y):=by
 have hsz:=fun w=>run_sizeOf (P:=P) (w:=w) hi
 cases hx<;>simp only[xIdxSl]<;>try trivial
 rename_i l off len cap esz p c hp h1 h2 h3
 cases hy<;>try trivial
 rename_i k m
 cases m<;>try trivial
 rename_i m
 refine cnd_VG (fun hb=>?_) 45
 have hb:=Nat.le_of_ble_eq_true hb
 refine VG.val (x:=.pointer (some ⟨p.blk,p.base+(off+m*i.size),none⟩)) ?_ (.ptr _ _ _ hp)
 have hlt:m<len:=hb
 simp[Instr.indexAt,asIntOf,run_underlying ht,hsz,hlt,add_add]
theorem xIdxArr_ok {t e:TypeId}{i:TypeInfo}{n:Nat}(ht:P.underlying t=some (.array n e))(hi:P.info? e=some i){x y:V}{X Y:Value}(hx:VR E x X)(hy:VR E y Y) :
  VG w0 E H nx w ((Instr.indexAt t X Y).run P w) (xIdxArr n i.size x y):=by
 have hsz:=fun w=>run_sizeOf (P:=P) (w:=w) hi
 cases hx<;>simp only[xIdxArr]<;>try trivial
 rename_i l off p hp
 cases hy<;>try trivial
 rename_i k m
 cases m<;>try trivial
 rename_i m
 refine cnd_VG (fun hb=>?_) 48
 have hb:=Nat.le_of_ble_eq_true hb
 refine VG.val (x:=.pointer (some ⟨p.blk,p.base+(off+m*i.size),none⟩)) ?_ (.ptr _ _ _ hp)
 have hlt:m<n:=hb
 simp[Instr.indexAt,asIntOf,Instr.sureAddr,run_underlying ht,hsz,hlt,add_add]
theorem byteV {n i:Nat}:VR E (.int .u8 (.ofNat (byteAt n i))) (.int .u8 ((UInt8.ofNat (n / 256 ^ i % 256)).toNat:Nat)):=by
 have:(UInt8.ofNat (n / 256 ^ i % 256)).toNat=byteAt n i:=by rw[byteAt_eq];simp
 rw[this];exact .int _ _
theorem xIdxStr_ok {t:TypeId}(ht:P.underlying t=some .string){x y:V}{X Y:Value}(hx:VR E x X)(hy:VR E y Y) :
  VG w0 E H nx w ((Instr.index t X Y).run P w) (xIdxStr x y):=by
 cases hx<;>simp only[xIdxStr]<;>try trivial
 rename_i l n s h1 h2
 cases hy<;>try trivial
 rename_i k m
 cases m<;>try trivial
 rename_i m
 refine cnd_VG (fun hb=>?_) 51
 have hb:m<l:=Nat.le_of_ble_eq_true hb
 have hg:s[m]? = some (UInt8.ofNat (n / 256 ^ m % 256)):=by
  have e1:s.data.toList[m]? = some (UInt8.ofNat (n / 256 ^ m % 256)):=by rw[h1];exact sB_get l n m hb
  have hs:=size_sB h1
  rw[getElem?_pos s m (by rw[hs];exact hb)]
  rw[← e1,Array.getElem?_toList,Array.getElem?_eq_getElem (by show m<s.data.size;have:s.data.size=l:=hs;omega)]
  rfl
 refine VG.val ?_ byteV
 simp[Instr.index,asIntOf,run_underlying ht,hg]
theorem xTassert_ok {t xt:TypeId}{d:TypeDesc}{i:TypeInfo}{z:Value}{ok:Bool}(ht:P.underlying t=some d)(hni:∀ ms,d≠.interface ms)(hi:P.info? t=some i)(hz:i.zero=some z){zero:V}(hzero:VR E zero z)
  {x:V}{X:Value}(hx:VR E x X):VG w0 E H nx w ((Instr.typeAssert X xt t ok).run P w) (xTassert t ok zero x):=by
 have hzr:∀ w,(zeroValue t).run P w=.ok z w:=fun w=>by simp[zeroValue,Go.run_typeInfo w hi,hz]
 have h0:VR E (.bool false) (.bool false):=.bool _
 have h1:VR E (.bool true) (.bool true):=.bool _
 cases hx<;>simp only[xTassert]<;>try trivial
 case iface u v y hv=>
  cases hb:Nat.beq u t with
  |true=>
   obtain rfl:=Nat.eq_of_beq_eq_true hb
   simp only[cond_true]
   cases ok with
   |true=>
    refine VG.val (x:=.tuple #[y,.bool true]) ?_ (.tup _ [y,.bool true] (.cons _ _ _ _ hv (.cons _ _ _ _ h1 .nil)))
    cases d<;>first|(exact absurd rfl (hni _))|simp[Instr.typeAssert,run_underlying ht]
   |false=>
    refine VG.val (x:=y) ?_ hv
    cases d<;>first|(exact absurd rfl (hni _))|simp[Instr.typeAssert,run_underlying ht]
  |false=>
   have hne:u≠t:=fun e=>by subst e;rw[Nat.beq_refl] at hb;cases hb
   simp only[cond_false]
   refine cnd_VG (fun hok=>?_) 64
   subst hok
   refine VG.val (x:=.tuple #[z,.bool false]) ?_ (.tup _ [z,.bool false] (.cons _ _ _ _ hzero (.cons _ _ _ _ h0 .nil)))
   cases d<;>first|(exact absurd rfl (hni _))|simp[Instr.typeAssert,run_underlying ht,hne,hzr]
 case nili=>
  refine cnd_VG (fun hok=>?_) 65
  subst hok
  refine VG.val (x:=.tuple #[z,.bool false]) ?_ (.tup _ [z,.bool false] (.cons _ _ _ _ hzero (.cons _ _ _ _ h0 .nil)))
  cases d<;>first|(exact absurd rfl (hni _))|simp[Instr.typeAssert,run_underlying ht,hzr]
theorem xExtract_ok {x:V}{X:Value}{i:Nat}(hx:VR E x X):VG w0 E H nx w ((Instr.extract X i).run P w) (xExtract x i):=by
 cases hx<;>simp only[xExtract]<;>try trivial
 rename_i vs xs h
 refine cnd_VG (fun hb=>?_) 67
 obtain⟨y,hy,hv⟩:=h.nth i (Nat.le_of_ble_eq_true hb)
 refine VG.val (x:=y) ?_ hv
 simp[Instr.extract,hy]
theorem xMax_ok {x y:V}{X Y:Value}{ts:Array TypeId}{t:TypeId}(hx:VR E x X)(hy:VR E y Y):VG w0 E H nx w ((Builtin.max_ ts t #[X,Y]).run P w) (xMax x y):=by
 cases hx<;>simp only[xMax]<;>try trivial
 rename_i k a
 cases hy<;>try trivial
 rename_i k' b
 refine cnd_VG (fun hk=>?_) 83
 obtain rfl:=(kNum_eq k k').1 hk
 refine VG.val (x:=.int k (if b > a then b else a)) (by simp[Builtin.max_,Builtin.max2]) ?_
 rw[ltF_eq]
 by_cases h:a<b
 ·rw[if_pos h];simp only[h,decide_true,cond_true];exact .int _ _
 ·rw[if_neg h];simp only[h,decide_false,cond_false];exact .int _ _
end
end Go.Exo

namespace Go.Exo
set_option linter.unusedSectionVars false
variable [Sx] [Dc]
section
variable {P:Program}{w0:Bs}{E:Env}{H:T AObj}{nx:Nat}{w:World}
theorem placeL_length:∀ (vs:List V)(off:Nat)(cs:List V),(placeL vs off cs).length=cs.length
 |_,_,[]=>by cases ‹Nat› <;> rfl
 |[],0,c::r=>rfl
 |v::vs,0,c::r=>by simp[placeL,placeL_length vs 0 r]
 |vs,n+1,c::r=>by simp[placeL,placeL_length vs n r]
theorem placeL_get:∀ (vs:List V)(off:Nat)(cs:List V)(k:Nat),(placeL vs off cs)[k]? = if off≤k∧k<off+vs.length∧k<cs.length then vs[k-off]? else cs[k]?
 |vs,off,[],k=>by
  have:placeL vs off []=[]:=by cases off<;>rfl
  rw[this];simp
 |[],0,c::r,k=>by
  rw[if_neg (by simp)];rfl
 |v::vs,0,c::r,0=>by simp[placeL]
 |v::vs,0,c::r,k+1=>by
  simp only[placeL,List.getElem?_cons_succ,placeL_get vs 0 r k,List.length_cons]
  by_cases h:0≤k∧k<0+vs.length∧k<r.length
  ·rw[if_pos h,if_pos (by omega)];simp
  ·rw[if_neg h,if_neg (by omega)]
 |vs,n+1,c::r,0=>by simp[placeL]
 |vs,n+1,c::r,k+1=>by
  simp only[placeL,List.getElem?_cons_succ,placeL_get vs n r k,List.length_cons]
  by_cases h:n≤k∧k<n+vs.length∧k<r.length
  ·rw[if_pos h,if_pos (by omega)];congr 1;omega
  ·rw[if_neg h,if_neg (by omega)]
theorem place_rel {cs vs:List V}{xs:Array Value}{ys:List Value}(h:VRs E cs xs.toList)(hv:VRs E vs ys)(off:Nat) :
  VRs E (placeL vs off cs) ((ys.zipIdx 0).foldl (fun cs (x:Value×Nat)=>cs.setIfInBounds (off+x.2) x.1) xs).toList:=by
 obtain⟨h1,h2⟩:=Great.foldl_set off ys 0 xs
 have hl:=h.length
 have hlv:=hv.length
 refine VRs.of_get ?_ fun k v hk=>?_
 ·rw[placeL_length,hl];simp[h1]
 ·rw[placeL_get] at hk
  rw[Array.getElem?_toList,h2 k]
  simp only[Array.length_toList] at hl
  by_cases c:off≤k∧k<off+vs.length∧k<cs.length
  ·rw[if_pos c] at hk
   rw[if_pos (by omega)]
   obtain⟨x,hx,hr⟩:=hv.get _ _ hk
   exact⟨x,by simpa using hx,hr⟩
  ·rw[if_neg c] at hk
   rw[if_neg (by omega)]
   obtain⟨x,hx,hr⟩:=h.get _ _ hk
   exact⟨x,by simpa using hx,hr⟩
theorem fill_ok {R:Result Value}{tm:T V}{ev:Operand→Value}(place:Nat→Option (Nat×Nat))(k:List V→Res) :
  ∀ (ps:List (Nat×Operand))(l:List (Nat×Nat×AO))(cs:List V)(xs:Array Value),compParts place ps=some l→VRs E cs xs.toList→
   (∀ i x,(i,x)∈ps→VR E ((compO x).ev tm) (ev x))→
   (∀ cs' xs',Instr.fill place xs (ps.map fun (i,x)=>(i,ev x))=some xs'→VRs E cs' xs'.toList→cs'.length=cs.length→VG w0 E H nx w R (k cs'))→VG w0 E H nx w R (fillL tm l cs k)
 |[],l,cs,xs,hl,hcs,_,hk=>by
  cases hl
  exact hk cs xs rfl hcs rfl
 |(i,x)::r,l,cs,xs,hl,hcs,hev,hk=>by
  simp only[compParts] at hl
  cases hp:place i with
  |none=>rw[hp] at hl;simp at hl
  |some os=>
   obtain⟨off,size⟩:=os
   rw[hp] at hl
   cases hr:compParts place r with
   |none=>rw[hr] at hl;simp at hl
   |some l'=>
    rw[hr] at hl;simp only[Option.some.injEq] at hl;subst hl
    have hx:=hev i x (List.mem_cons_self ..)
    simp only[fillL]
    refine cnd_VG (fun hb=>?_) 21
    simp only[Bool.and_eq_true] at hb
    have hs:=Nat.eq_of_beq_eq_true hb.1.1
    have hle:=Nat.le_of_ble_eq_true hb.1.2
    have hc:=hx.cells hb.2
    have hcl:=hc.length
    have hxl:=hcs.length
    simp only[Array.length_toList] at hcl hxl
    refine fill_ok place k r l' _ _ hr (place_rel hcs hc off) (fun j y hj=>hev j y (List.mem_cons_of_mem _ hj)) fun cs' xs' hf hv hlen=>hk cs' xs' ?_ hv (by rw[hlen,placeL_length])
    rw[List.map_cons,Instr.fill]
    simp only[hp]
    rw[if_neg (by
     simp only[ne_eq,Bool.or_eq_true,decide_eq_true_eq,not_or,Decidable.not_not]
     have hle':off+size≤cs.length:=hle
     constructor<;>omega)]
    rw[← hf]
    congr 1
    rw[← Array.foldl_toList,Array.toList_zipIdx]
theorem run_fields (fs:List Field)(hf:fieldsOk P fs=true)(w:World):(fs.mapM fun f=>(do pure (f.offset,← sizeOf f.type):Sem (Nat×Nat))).run P w=.ok (fs.map fun f=>(f.offset,sizeT P f.type)) w:=by
 induction fs with
 |nil=>rfl
 |cons f r ih=>
  simp only[fieldsOk,List.all_cons,Bool.and_eq_true] at hf
  cases hi:infoT P f.type with
  |none=>rw[hi] at hf;simp at hf
  |some i=>
   have h1:=run_sizeOf (w:=w) (infoT_eq P hi)
   simp only[List.mapM_cons,Sem.run_bind,h1,Result.andThen_ok,Sem.run_pure,ih hf.2,List.map_cons,sizeT,hi]
theorem zeroOf_eq {i:TypeInfo}{z:V}(h:zeroOf i=some z):∃ x,i.zero=some x∧VR E z x∧z.real=true:=by
 unfold zeroOf at h
 cases hz:i.zero with
 |none=>rw[hz] at h;cases h
 |some x=>
  rw[hz] at h;simp only at h
  cases hf:(ofVal 8 x).fine with
  |false=>rw[hf] at h;cases h
  |true=>rw[hf] at h;simp at h;subst h;exact⟨x,rfl,VR.ofVal E 8 x hf,V.fine_real hf⟩
theorem tyOf_eq {t:TypeId}{d:TypeDesc}{i:TypeInfo}(h:tyOf P t=some (d,i)):undT P t=some d∧P.underlying t=some d∧P.info? t=some i∧infoT P t=some i:=by
 unfold tyOf at h
 cases hu:undT P t with
 |none=>rw[hu] at h;cases h
 |some d'=>
  rw[hu] at h;simp only at h
  cases hi:infoT P t with
  |none=>rw[hi] at h;cases h
  |some i'=>rw[hi] at h;simp at h;obtain⟨rfl,rfl⟩:=h;exact⟨rfl,undT_eq P hu,infoT_eq P hi,rfl⟩
theorem run_zeroValue' {t:TypeId}{i:TypeInfo}{x:Value}(hi:P.info? t=some i)(hz:i.zero=some x)(w:World):(zeroValue t).run P w=.ok x w:=by
 simp[zeroValue,Go.run_typeInfo w hi,hz]
theorem xBuild_ok {t:TypeId}{ps:Array (Nat×Operand)}{tm:T V}{ev:Operand→Value}{d:TypeDesc}{i:TypeInfo}{z:V}(ht:tyOf P t=some (d,i))(hz:zeroOf i=some z)
  {place:Nat→Option (Nat×Nat)}{l:List (Nat×Nat×AO)}(hl:compParts place ps.toList=some l)(hev:∀ i x,(i,x)∈ps.toList→VR E ((compO x).ev tm) (ev x))
  (hd:(∃ fs,d=.struct fs∧fieldsOk P fs.toList=true∧place=fun i=>(fs[i]?).map fun f=>(f.offset,sizeT P f.type))∨
   ∃ n e ie,d=.array n e∧infoT P e=some ie∧place=fun i=>some (i*ie.size,ie.size)) :
  VG w0 E H nx w ((Instr.build t (ps.map fun (i,x)=>(i,ev x))).run P w) (fillL tm l z.cells fun cs=>.val (.agg cs)):=by
 obtain⟨_,hu,hi,_⟩:=tyOf_eq ht
 obtain⟨x,hx,hv,hzr⟩:=zeroOf_eq (E:=E) hz
 refine fill_ok place _ ps.toList l _ x.cells hl (hv.cells hzr) hev fun cs' xs' hf hr _=>?_
 refine VG.val (x:=.agg xs') ?_ (by have:=VR.agg _ _ hr;simpa using this)
 rcases hd with⟨fs,rfl,hfs,rfl⟩|⟨n,e,ie,rfl,hie,rfl⟩
 ·obtain⟨fs⟩:=fs
  have hm:(Array.mapM (fun (f:Field)=>(do pure (f.offset,← sizeOf f.type):Sem (Nat×Nat))) (List.toArray fs)).run P w=.ok (fs.map fun f=>(f.offset,sizeT P f.type)).toArray w:=by
   simp only[List.mapM_toArray,Sem.run_map,run_fields _ hfs,Result.andThen_ok]
  have hp:(fun (i:Nat)=>((fs.map fun (f:Field)=>(f.offset,sizeT P f.type)).toArray)[i]?)=fun (i:Nat)=>((List.toArray fs)[i]?).map fun (f:Field)=>(f.offset,sizeT P f.type):=by
   funext i;simp
  simp only[Instr.build,Sem.run_bind,run_zeroValue' hi hx,Result.andThen_ok,run_underlying hu,hm,hp]
  have e1:(ps.map fun (i,x)=>(i,ev x)).toList=ps.toList.map fun (i,x)=>(i,ev x):=by simp
  rw[e1,hf];rfl
 ·simp only[Instr.build,Sem.run_bind,run_zeroValue' hi hx,Result.andThen_ok,run_underlying hu,run_sizeOf (infoT_eq P hie)]
  have e1:(ps.map fun (i,x)=>(i,ev x)).toList=ps.toList.map fun (i,x)=>(i,ev x):=by simp
  rw[e1,hf];rfl
end
end Go.Exo

namespace Go.Exo
set_option linter.unusedSectionVars false
variable [Sx] [Dc]
section
variable {P:Program}{w0:Bs}{E:Env}{H:T AObj}{nx:Nat}{w:World}
theorem equal_ok {t:TypeId}{d:TypeDesc}{cst:Bool}(ht:P.underlying t=some d){x y:V}{X Y:Value}(hx:VR E x X)(hy:VR E y Y){b:Bool}(h:eqV cst d x y=some b) :
  (Op.equal t X Y).run P w=.ok b w:=by
 have e:∃ n,Op.equal t X Y=Op.equalIn (n+1) t X Y:=⟨9999,rfl⟩
 obtain⟨n,e⟩:=e
 rw[e]
 cases d<;>cases hx<;>(try (cases h;done))<;>cases hy<;>(try (cases h;done)) <;>
  first
  |(simp only[eqV,Option.some.injEq] at h;subst h;simp[Op.equalIn,run_underlying ht];done)
  |(cases cst<;>simp only[eqV,cond_true,cond_false,Option.some.injEq] at h<;>first|(cases h;done)|(subst h;simp[Op.equalIn,run_underlying ht]))
theorem guard_ok {op:BinOp}{t:TypeId}{d:TypeDesc}{cst:Bool}{ox oy:Operand}(hc:cst=(isC ox || isC oy)){x y:V}{X Y:Value}(hx:VR E x X)(hy:VR E y Y){b:Bool}
  (h:eqV cst d x y=some b):(eqGuard op t ox oy X Y).run P w=.ok () w:=by
 have hg:∀ X Y:Value,(∀ cs,X≠.agg cs)→X≠.nilIface→(eqGuard op t ox oy X Y).run P w=.ok () w:=by
  intro X Y h1 h2
  cases op<;>simp only[eqGuard]<;>first|rfl|(cases X<;>first|rfl|exact absurd rfl (h1 _)|exact absurd rfl h2)
 cases hx
 case nili=>
  cases hy
  case nili=>
   cases cst with
   |false=>cases d<;>cases h
   |true=>cases ox<;>cases oy<;>simp[isC] at hc<;>(cases op<;>simp[eqGuard])
  case sym=>cases d<;>cases h
  case top=>cases d<;>cases h
  case x=>cases d<;>cases h
  case xa=>cases d<;>cases h
  case lst=>cases d<;>cases h
  case junk=>cases d<;>cases h
  all_goals (cases op<;>simp only[eqGuard]<;>rfl)
 case agg=>cases d<;>cases h
 case sym=>cases d<;>cases h
 case top=>cases d<;>cases h
 case x=>cases d<;>cases h
 case xa=>cases d<;>cases h
 case lst=>cases d<;>cases h
 case junk=>cases d<;>cases h
 all_goals exact hg _ _ (by intro _ h;cases h) (by intro h;cases h)
theorem eqvR_ok {op:BinOp}{neg cst:Bool}(hop:op=cond neg .neq .eql){t:TypeId}{d:TypeDesc}{ox oy:Operand}(hc:cst=(isC ox || isC oy))(ht:P.underlying t=some d)
  {x y:V}{X Y:Value}(hx:VR E x X)(hy:VR E y Y):VG w0 E H nx w ((do eqGuard op t ox oy X Y;binOp op t X Y:Sem Value).run P w) (eqvR neg cst d x y):=by
 cases h:eqV cst d x y with
 |none=>simp only[eqvR,h];trivial
 |some b=>
  simp only[eqvR,h]
  have h1:=guard_ok (op:=op) (t:=t) (P:=P) (w:=w) hc hx hy h
  have h2:=equal_ok (P:=P) (w:=w) ht hx hy h
  have key:(binOp op t X Y).run P w=.ok (.bool (cond neg (!b) b)) w:=by
   subst hop
   cases neg with
   |false=>
    have:binOp .eql t X Y=(do pure (.bool (← Op.equal t X Y)):Sem Value):=by
     cases d<;>cases hx<;>(try (cases h;done))<;>cases hy<;>(try (cases h;done))<;>rfl
    show (binOp .eql t X Y).run P w=_
    rw[this];simp[h2]
   |true=>
    have:binOp .neq t X Y=(do pure (.bool (!(← Op.equal t X Y))):Sem Value):=by
     cases d<;>cases hx<;>(try (cases h;done))<;>cases hy<;>(try (cases h;done))<;>rfl
    show (binOp .neq t X Y).run P w=_
    rw[this];simp[h2]
  refine VG.val ?_ (.bool _)
  rw[Sem.run_bind,h1,Result.andThen_ok,key]
theorem xNil_ok {x:V}{X:Value}(hx:VR E x X)(o:Oper)(ox:Operand)(ev:Operand→Value)(ho:o.op=.nilCheck ox)(hev:ev ox=X):Good P w0 E H nx w ((execOp ev o).run P w) (xNil x):=by
 unfold execOp
 simp only[ho,hev]
 cases hx<;>simp only[xNil]<;>try trivial
 case ptr l off p hp=>exact⟨_,_,rfl,rfl,.ptr _ _ _ hp⟩
 case map l p hp=>exact⟨_,_,rfl,rfl,.map _ _ hp⟩
 case func fn fn' a b c d hf h1 h2=>
  cases fn<;>try trivial
  ·obtain rfl:fn'=_:=hf
   exact⟨_,_,rfl,rfl,.func _ _ _ _ _ _ rfl h1 h2⟩
  ·obtain⟨p,hp,rfl⟩:=hf
   exact⟨_,_,rfl,rfl,.func _ _ _ _ _ _ ⟨p,hp,rfl⟩ h1 h2⟩
theorem findB_ok (s:ByteArray)(l n b:Nat)(h:s.data.toList=sB l n)(hb:b<256):∀ (k i:Nat),i+k=l→
  VR E (findB n b k i) (match (List.range' i k).find? (fun j=>s[j]! == UInt8.ofNat b) with|some j=>goInt j|none=>goInt (-1))
 |0,i,_=>.int _ _
 |k+1,i,hi=>by
  have hs:=size_sB h
  have hg:s[i]! = UInt8.ofNat (n / 256 ^ i % 256):=by
   have e1:s.data.toList[i]? = some (UInt8.ofNat (n / 256 ^ i % 256)):=by rw[h];exact sB_get l n i (by omega)
   rw[Array.getElem?_toList] at e1
   have hlt:i<s.size:=by omega
   have:s[i]! = s[i]:=getElem!_pos s i hlt
   rw[this]
   have h3:s.data[i]? = some s[i]:=Array.getElem?_eq_getElem hlt
   rw[h3] at e1
   exact Option.some.inj e1
  have hbe:(s[i]! == UInt8.ofNat b)=Nat.beq (byteAt n i) b:=by
   rw[hg,byteAt_eq,Bool.eq_iff_iff,Nat.beq_eq,beq_iff_eq]
   constructor
   ·intro e
    have:=congrArg UInt8.toNat e
    simp at this;omega
   ·intro e;rw[e]
  rw[List.range'_succ,List.find?_cons]
  simp only[findB]
  rw[hbe]
  cases hq:Nat.beq (byteAt n i) b with
  |true=>exact .int _ _
  |false=>exact findB_ok s l n b h hb k (i+1) (by omega)
end
end Go.Exo

namespace Go.Exo
set_option linter.unusedSectionVars false
variable [Sx] [Dc]
section
variable {P:Program}{w0:Bs}{E:Env}{H:T AObj}{nx:Nat}{w:World}
theorem run_storeCells_any (g o:Nat)(t:TypeId)(fr:Nat×Nat):∀ (vs:List Value)(i:Nat)(cur:Array Value)(w:World),w.heap[g]? = some (.cells cur t fr)→
  (∀ j,o+i≤j→j<o+i+vs.length→¬ (fr.1≤j∧j<fr.2))→o+i+vs.length≤cur.size→(∀ v∈vs,v.oneCell'=true)→
  (storeCells ⟨g,o,none⟩ vs i).run P w=.ok () (w.setRow g (cur.toList.take (o+i)++vs++cur.toList.drop (o+i+vs.length)).toArray)
 |[],i,cur,w,hg,_,_,_=>by
  simp only[storeCells,List.append_nil,List.length_nil,Nat.add_zero,List.take_append_drop,Array.toArray_toList]
  rw[setRow_self w g cur t fr hg]
  rfl
 |v::rest,i,cur,w,hg,hfz,hl,h1=>by
  have hi:o+i<cur.size:=by simp at hl;omega
  have hadd:(⟨g,o,none⟩:Addr).add i=⟨g,o+i,none⟩:=by unfold Addr.add;split<;>simp_all
  have hcell:w.cell? ⟨g,o+i,none⟩=some cur[o+i]:=by simp[World.cell?,hg,hi]
  have hfro:w.frozen? ⟨g,o+i,none⟩=false:=by
   obtain⟨lo,hi'⟩:=fr
   have:=hfz (o+i) (Nat.le_refl _) (by simp)
   simp only at this
   simp only[World.frozen?,hg,Bool.and_eq_false_iff,decide_eq_false_iff_not]
   omega
  have hst:(store ((⟨g,o,none⟩:Addr).add i) v).run P w=.ok () (w.setRow g (cur.setIfInBounds (o+i) v)):=by
   rw[hadd,run_store P w _ v _ (h1 v (by simp)),hcell]
   simp[hfro,setCell_eq_setRow w g (o+i) cur t fr v hg]
  have ih:=run_storeCells_any g o t fr rest (i+1) (cur.setIfInBounds (o+i) v) (w.setRow g (cur.setIfInBounds (o+i) v)) (setRow_heap w g cur _ t _ hg)
   (fun j h2 h3=>hfz j (by omega) (by simp;omega)) (by simp at hl ⊢;omega) (fun x hx=>h1 x (by simp[hx]))
  simp only[storeCells,Sem.run_bind,hst,Result.andThen_ok,ih,setRow_setRow]
  congr 3
  have e:=list_seg_step cur.toList (o+i) v rest (by simp at hl ⊢;omega)
  simpa[Array.toList_setIfInBounds,Nat.add_assoc] using e
theorem FzR.ok {fr:Nat×Nat}{fz base n off j:Nat}(h:FzR fr fz base n)(hfz:fzOk fz off=true)(h1:base+off≤j)(h2:j<n):¬ (fr.1≤j∧j<fr.2):=by
 cases fz with
 |zero=>simp only[FzR] at h;subst h;simp
 |succ k=>
  cases k with
  |zero=>simp only[FzR] at h;subst h;simp only;omega
  |succ k=>
   simp only[FzR] at h
   have hfz:k≤off:=Nat.le_of_ble_eq_true hfz
   exact h j (by omega) h2
theorem rdOk_okAt {l cls pos:Nat}(h:rdOk H l cls pos=true)(i:Nat)(hi:i<pos):okAt H l cls i:=by
 cases cls with
 |zero=>exact .inl rfl
 |succ c=>
  simp only[rdOk,clsOk] at h
  split at h
  ·rename_i cur lim mk hc
   refine .inr ⟨cur,lim,mk,hc,?_⟩
   cases lim with
   |none=>exact .inl rfl
   |some m=>
    simp only at h
    cases hb:Nat.beq cur l with
    |true=>exact .inr (.inl (Nat.eq_of_beq_eq_true hb))
    |false=>rw[hb] at h;exact .inr (.inr ⟨m,rfl,by have:=Nat.le_of_ble_eq_true h;omega⟩)
  ·cases h
theorem WR.cells (h:WR w0 E H nx w){l:Nat}{p:Pl}(hl:E l=some p){cs:T V}{len:Nat}{elem:TypeId}{cls rel fz:Nat}{ro:Bool}(hobj:getH H l=.cells cs len elem cls rel fz ro){e:Nat}(he:e≤len)
  (hrd:rdOk H l cls (rel+e)=true):∃ c fr,w.heap[p.blk]? = some (.cells c elem fr)∧c.size=p.base+p.size∧len≤p.size∧FzR fr fz p.base c.size∧∀ i,i<e→∃ x,c[p.base+i]? = some x∧VR E (getC cs i) x:=by
 have ho:=h.objs l p hl
 rw[hobj] at ho
 obtain⟨c,fr,h1,h2,h3,h4,h5⟩:=ho
 exact⟨c,fr,h1,h2,h3,h4,fun i hi=>h5 i (by omega) (rdOk_okAt hrd _ (by omega))⟩
theorem cell_at {c:Array Value}{elem:TypeId}{fr:Nat×Nat}{p:Pl}(hc:w.heap[p.blk]? = some (.cells c elem fr))(off:Nat):w.cell? ⟨p.blk,p.base+off,none⟩=c[p.base+off]? := by
 simp[World.cell?,hc]
theorem rd1_ok (h:WR w0 E H nx w){l off:Nat}{p:Pl}(hl:E l=some p):match rd1 l off H with
  |.val v=>∃ x,w.cell? ⟨p.blk,p.base+off,none⟩=some x∧VR E v x
  |.fail _=>True
  |_=>False:=by
 unfold rd1
 cases hobj:getH H l with
 |cells cs len elem cls rel fz ro=>
  simp only
  cases hb:(Nat.ble (Nat.succ off) len&&rdOk H l cls (Nat.add rel (Nat.succ off))) with
  |false=>trivial
  |true=>
   simp only[Bool.and_eq_true] at hb
   obtain⟨c,fr,h1,_,_,_,h5⟩:=h.cells hl hobj (Nat.le_of_ble_eq_true hb.1) hb.2
   obtain⟨x,hx,hv⟩:=h5 off (by omega)
   exact⟨x,by rw[cell_at h1];exact hx,hv⟩
 |_=>trivial
theorem rdN_ok (h:WR w0 E H nx w){l off n:Nat}{p:Pl}(hl:E l=some p){k:List V→Res}{Q:Res→Prop}(hf:∀ m,Q (.fail m))
  (hk:∀ vs xs,vs.length=n→VRs E vs xs→(∀ j v,xs[j]? = some v→w.cell? ((⟨p.blk,p.base+off,none⟩:Addr).add j)=some v)→Q (k vs)):Q (rdN l off n H k):=by
 unfold rdN
 cases hobj:getH H l with
 |cells cs len elem cls rel fz ro=>
  simp only
  cases hb:(Nat.ble (Nat.add off n) len&&rdOk H l cls (Nat.add rel (Nat.add off n))) with
  |false=>exact hf _
  |true=>
   simp only[Bool.and_eq_true] at hb
   have hle:off+n≤len:=Nat.le_of_ble_eq_true hb.1
   obtain⟨c,fr,h1,h2,h3,_,h5⟩:=h.cells hl hobj hle hb.2
   refine hk _ ((c.toList.drop (p.base+off)).take n) (range_length _ _ _ _) ?_ ?_
   ·refine VRs.of_get ?_ fun i v hv=>?_
    ·rw[range_length];simp;omega
    ·have hi:i<n:=by
      have:=(List.getElem?_eq_some_iff.1 hv).1
      rwa [range_length] at this
     rw[range_get _ _ _ _ _ hi] at hv
     cases hv
     obtain⟨x,hx,hr⟩:=h5 (off+i) (by omega)
     refine⟨x,?_,hr⟩
     rw[List.getElem?_take,if_pos hi,List.getElem?_drop,Array.getElem?_toList,← hx]
     congr 1;omega
   ·intro j v hv
    rw[List.getElem?_take] at hv
    split at hv
    ·rw[List.getElem?_drop,Array.getElem?_toList] at hv
     rw[add_add,cell_at h1,← hv];congr 1;omega
    ·cases hv
 |_=>exact hf _
theorem WR.noTouch {l:Nat}{p:Pl}{ao:AObj}(hl:E l=some p):Keep E E H (put .no H l ao) nx:=by
 intro k _ hk _
 refine⟨hk,?_⟩
 rw[getH_put,if_neg (fun e=>by subst e;rw[hl] at hk;cases hk)]
theorem putL_get (vs:List V)(off:Nat)(cs:T V)(i:Nat):getC (putL .bad vs off cs) i=if off≤i then (vs[i-off]?).getD (getC cs i) else getC cs i:=get_putL _ _ _ _ _
theorem wr_ok (h:WR w0 E H nx w){l off:Nat}{p:Pl}(hl:E l=some p){vs:List V}{xs:List Value}(hv:VRs E vs xs){v:V}{nx':Nat}(hnx:nx'=nx):match wr l off vs H nx' v with
  |.valH v' H' nx2=>v'=v∧nx2=nx∧∃ w',(storeCells ⟨p.blk,p.base+off,none⟩ xs).run P w=.ok () w'∧WR w0 E H' nx w'∧Keep E E H H' nx
  |.fail _=>True
  |_=>False:=by
 subst hnx
 unfold wr
 cases hobj:getH H l with
 |cells cs len elem cls rel fz ro=>
  simp only
  cases ro with
  |true=>trivial
  |false=>
   simp only[cond_false,wrCells]
   cases hb:(Nat.ble (Nat.add off vs.length) len&&fzOk fz off&&allOne vs) with
   |false=>trivial
   |true=>
    simp only[Bool.and_eq_true] at hb
    obtain⟨⟨hle,hfz⟩,hone⟩:=hb
    have hle:off+vs.length≤len:=Nat.le_of_ble_eq_true hle
    have ho:=h.objs l p hl
    rw[hobj] at ho
    obtain⟨c,fr,h1,h2,h3,h4,h5⟩:=ho
    have hlen:=hv.length
    have hrun:=run_storeCells_any (P:=P) p.blk (p.base+off) elem fr xs 0 c w h1
     (fun j hj1 hj2=>FzR.ok h4 hfz (by omega) (by omega))
     (by omega) (hv.one hone)
    simp only[Nat.add_zero] at hrun
    generalize hc':(c.toList.take (p.base+off)++xs++c.toList.drop (p.base+off+xs.length)).toArray=c' at hrun
    have hcsz:c'.size=c.size:=by rw[← hc'];simp;omega
    have hcg:∀ i,c'[i]? = if p.base+off≤i∧i<p.base+off+xs.length then xs[i-(p.base+off)]? else c[i]? := by
     intro i
     rw[← hc']
     simp only[List.getElem?_toArray]
     by_cases c1:i<p.base+off
     ·rw[if_neg (by omega),List.append_assoc,List.getElem?_append_left (by simp;omega),List.getElem?_take,if_pos c1,Array.getElem?_toList]
     ·by_cases c2:i<p.base+off+xs.length
      ·rw[if_pos (by omega),List.getElem?_append_left (by simp;omega),List.getElem?_append_right (by simp;omega)]
       congr 1;simp;omega
      ·rw[if_neg (by omega),List.getElem?_append_right (by simp;omega),List.getElem?_drop,Array.getElem?_toList]
       congr 1;simp;omega
    have hnewcell:∀ i,i<len→okAt H l cls (rel+i)→∃ x,c'[p.base+i]? = some x∧VR E (getC (putL .bad vs off cs) i) x:=by
     intro i hi hok
     rw[putL_get,hcg]
     by_cases c1:off≤i
     ·by_cases c2:i<off+xs.length
      ·rw[if_pos (by omega),if_pos c1]
       have hiv:i-off<vs.length:=by omega
       rw[List.getElem?_eq_getElem hiv]
       obtain⟨x,hx,hr⟩:=hv.get (i-off) _ (List.getElem?_eq_getElem hiv)
       refine⟨x,?_,hr⟩
       rw[← hx];congr 1;omega
      ·rw[if_neg (by omega),if_pos c1,List.getElem?_eq_none (by omega)]
       exact h5 i hi hok
     ·rw[if_neg (by omega),if_neg c1]
      exact h5 i hi hok
    have hoth:∀ k,k≠p.blk→(w.setRow p.blk c').heap[k]? = w.heap[k]? := fun k hk=>setRow_other w p.blk k c' hk
    have hself:(w.setRow p.blk c').heap[p.blk]? = some (.cells c' elem fr):=setRow_heap w p.blk c c' elem fr h1
    cases cls with
    |zero=>
     simp only[wrCls,setL_eq,setHR_eq]
     refine⟨rfl,rfl,w.setRow p.blk c',hrun,?_,WR.noTouch hl⟩
     refine h.upd l p hl _ (by rw[hobj];intro hh;cases hh) (by rw[hobj];rfl) (by rw[hobj];rfl) (by rw[hobj];rfl) (by rw[hobj];rfl) rfl _ _ (setRow_size _ _ _) hoth hself rfl rfl rfl ?_
     exact⟨c',fr,rfl,by rw[hcsz];exact h2,h3,by rw[hcsz];exact h4,fun i hi _=>hnewcell i hi (.inl rfl)⟩
    |succ c0=>
     simp only[wrCls]
     cases hcls:getH H (c0+1) with
     |cls cur lim mk=>
      simp only
      have main:(lim=none∨cur=l)→v=v∧nx'=nx'∧∃ w',(storeCells ⟨p.blk,p.base+off,none⟩ xs).run P w=.ok () w'∧
        WR w0 E (put .no (put .no H (c0+1) (.cls l (some (minO lim (rel+off))) mk)) l (.cells (putL .bad vs off cs) len elem (c0+1) rel fz false)) nx' w'∧
        Keep E E H (put .no (put .no H (c0+1) (.cls l (some (minO lim (rel+off))) mk)) l (.cells (putL .bad vs off cs) len elem (c0+1) rel fz false)) nx':=by
       intro hall
       refine⟨rfl,rfl,w.setRow p.blk c',hrun,?_,?_⟩
       ·exact h.updC l p hl cs _ len elem (c0+1) rel fz (by omega) hobj cur lim mk hcls hall off _ c c' fr (setRow_size _ _ _) hoth h1 hself hcsz
         (fun i hi=>by rw[hcg,if_neg (by omega)]) rfl rfl rfl
         (fun i hi=>hnewcell i hi (.inr ⟨cur,lim,mk,hcls,hall.elim .inl fun e=>.inr (.inl e)⟩))
       ·intro k _ hk hkc
        refine⟨hk,?_⟩
        rw[getH_put,if_neg (fun e=>by subst e;rw[hl] at hk;cases hk),getH_put,if_neg (fun e=>by subst e;rw[hcls] at hkc;cases hkc)]
      cases lim with
      |none=>
       simp only[setHR_eq,setL_eq]
       exact main (.inl rfl)
      |some m=>
       simp only
       cases hcb:Nat.beq cur l with
       |false=>trivial
       |true=>
        simp only[cond_true,setHR_eq,setL_eq]
        have:=main (.inr (Nat.eq_of_beq_eq_true hcb))
        have e:∀ (k:T AObj→Res),T.setK .no (.cls l (some (minO (some m) (Nat.add rel off))) mk) H (c0+1) k=k (put .no H (c0+1) (.cls l (some (minO (some m) (rel+off))) mk)):=fun k=>setK_eq _ _ _ _ _
        simp only[e]
        exact⟨trivial,trivial,this.2.2⟩
     |_=>trivial
 |_=>trivial
end
end Go.Exo

namespace Go.Exo
set_option linter.unusedSectionVars false
variable [Sx] [Dc]
section
variable {P:Program}{w0:Bs}{E:Env}{H:T AObj}{nx:Nat}{w:World}
theorem new_ok (h:WR w0 E H nx w){vs:List V}{c:Array Value}(elem:TypeId)(fr:Nat×Nat)(fz d:Nat)(hv:∀ (i:Nat) v,vs[i]? = some v→∃ x,c[i]? = some x∧VR E v x)(hle:vs.length≤c.size)
  (hfz:FzR fr fz 0 c.size) :
  E.le (E.set nx ⟨w.heap.size,0,c.size,undef,noOb,[]⟩)∧WR w0 (E.set nx ⟨w.heap.size,0,c.size,undef,noOb,[]⟩) (put .no H nx (.cells (putL .bad vs 0 .e) vs.length elem 0 0 fz false)) (nx+1) { w with heap:=w.heap.push (.cells c elem fr),drawn:=d }∧
  Keep E (E.set nx ⟨w.heap.size,0,c.size,undef,noOb,[]⟩) H (put .no H nx (.cells (putL .bad vs 0 .e) vs.length elem 0 0 fz false)) nx:=by
 have hn:=h.fresh nx (Nat.le_refl _)
 have hle':E.le (E.set nx ⟨w.heap.size,0,c.size,undef,noOb,[]⟩):=Env.le_set _ hn.1
 refine⟨hle',h.new _ _ _ d rfl rfl ?_,?_⟩
 ·refine⟨c,fr,rfl,by simp,hle,hfz,fun i hi _=>?_⟩
  rw[putL_get,if_pos (Nat.zero_le _),Nat.sub_zero,List.getElem?_eq_getElem hi]
  obtain⟨x,hx,hr⟩:=hv i _ (List.getElem?_eq_getElem hi)
  exact⟨x,by simpa using hx,hr.mono hle'⟩
 ·intro l hl hE _
  have:l≠nx:=by omega
  exact⟨by rw[Env.set_other _ _ _ _ this];exact hE,by rw[getH_put,if_neg this]⟩
theorem newCells_eq (elem:TypeId)(vs:List V)(fz:Nat)(H:T AObj)(nx:Nat)(v:V):newCells elem vs fz H nx v=.valH v (put .no H nx (.cells (putL .bad vs 0 .e) vs.length elem 0 0 fz false)) (nx+1):=by
 simp only[newCells,newObj,ofK_eq,setHR_eq]
theorem boxObj_eq (elem:TypeId)(vs:List V):boxObj elem vs=.cells (putL .bad vs 0 .e) vs.length elem 0 0 0 false:=by
 simp only[boxObj,ofK_eq]
theorem ptr_new (E:Env)(nx n s:Nat):VR (E.set nx ⟨n,0,s,undef,noOb,[]⟩) (.ptr nx 0) (.pointer (some ⟨n,0,none⟩)):=by
 have:=VR.ptr (E:=E.set nx ⟨n,0,s,undef,noOb,[]⟩) nx 0 ⟨n,0,s,undef,noOb,[]⟩ (Env.set_self _ _ _)
 simpa using this
theorem xAlloc_ok (h:WR w0 E H nx w){t:TypeId}{i:TypeInfo}{z:V}(hi:P.info? t=some i)(hz:zeroOf i=some z){old:Value} :
  VG w0 E H nx w ((Instr.alloc t true old).run P w) (xAlloc (boxObj t z.cells) H nx):=by
 obtain⟨x,hx,hv,hzr⟩:=zeroOf_eq (E:=E) hz
 simp only[xAlloc,newObj,setHR_eq,boxObj_eq]
 have hc:=hv.cells hzr
 obtain⟨h1,h2,h3⟩:=new_ok h t (0,0) 0 w.drawn (vs:=z.cells) (c:=x.cells) (fun i v hv=>by simpa using hc.get i v hv) (by rw[hc.length];simp) rfl
 refine⟨.pointer (some ⟨w.heap.size,0,none⟩),_,_,?_,h1,ptr_new E nx _ _,h2,by omega,h3⟩
 simp[Instr.alloc,newVar,newRow,run_zeroValue' hi hx]
theorem xBox_ok (h:WR w0 E H nx w){t:TypeId}{v:V}{X:Value}(hv:VR E v X):VG w0 E H nx w ((Instr.box t X).run P w) (xBox t v H nx):=by
 simp only[xBox,newCells_eq]
 refine cnd_VG (fun hr=>?_) 301
 have hc:=hv.cells hr
 obtain⟨h1,h2,h3⟩:=new_ok h t (0,0) 0 w.drawn (vs:=v.cells) (c:=X.cells) (fun i v hv=>by simpa using hc.get i v hv) (by rw[hc.length];simp) rfl
 refine⟨.pointer (some ⟨w.heap.size,0,none⟩),_,_,?_,h1,ptr_new E nx _ _,h2,by omega,h3⟩
 simp[Instr.box,newVar,newRow]
theorem slice_new (E:Env)(nx n s len esz:Nat)(cap:Option Nat)(c:Nat)(h1:len≤c)(h2:c*esz≤s)(h3:∀ k,cap=some k→k=c) :
  VR (E.set nx ⟨n,0,s,undef,noOb,[]⟩) (.slice nx 0 len cap esz) (.slice (some ⟨n,0,none⟩) len c):=by
 have:=VR.slice (E:=E.set nx ⟨n,0,s,undef,noOb,[]⟩) nx 0 len cap esz ⟨n,0,s,undef,noOb,[]⟩ c (Env.set_self _ _ _) h1 (by simpa using h2) h3
 simpa using this
theorem repeatL_length (l:List V):∀ n,(repeatL l n).length=n*l.length
 |0=>by simp[repeatL]
 |n+1=>by simp[repeatL,repeatL_length l n,Nat.add_mul,Nat.add_comm]
theorem repeatL_get (l:List V):∀ n i,i<n*l.length→(repeatL l n)[i]? = l[i % l.length]?
 |0,_,h=>absurd h (by simp)
 |n+1,i,h=>by
  simp only[repeatL]
  by_cases c:i<l.length
  ·rw[List.getElem?_append_left c,Nat.mod_eq_of_lt c]
  ·rw[List.getElem?_append_right (by omega),repeatL_get l n (i-l.length) (by rw[Nat.add_mul] at h;omega)]
   congr 1
   rw[← Nat.mod_eq_sub_mod (by omega)]
theorem zero_rel {z:V}{x:Value}(hv:VR E z x)(hzr:z.real=true)(n:Nat):VRs E (repeatL z.cells n) ((Array.range (n*x.cells.size)).map (x.cells[· % x.cells.size]!)).toList:=by
 have hc:=hv.cells hzr
 have hl:=hc.length
 simp only[Array.length_toList] at hl
 refine VRs.of_get ?_ fun i v hi=>?_
 ·rw[repeatL_length,hl];simp
 ·have hlt:i<n*z.cells.length:=by
   have:=(List.getElem?_eq_some_iff.1 hi).1
   rwa [repeatL_length] at this
  rw[repeatL_get _ _ _ hlt] at hi
  obtain⟨y,hy,hr⟩:=hc.get _ _ hi
  refine⟨y,?_,hr⟩
  rw[hl] at hlt hy
  rw[Array.getElem?_toList,Array.getElem?_map,Array.getElem?_range,if_pos hlt]
  rw[Array.getElem?_toList] at hy
  simp only[Option.map_some]
  rw[getElem!_def,hy]
theorem xBslice_ok (h:WR w0 E H nx w){t e:TypeId}{ps:Array (Nat×Operand)}{tm:T V}{ev:Operand→Value}{i:TypeInfo}{z:V}{len:Nat}(ht:P.underlying t=some (.slice e))(hi:P.info? e=some i)
  (hz:zeroOf i=some z)(hsmall:len*i.size≤16777216)(hzl:z.cells.length=i.size){l:List (Nat×Nat×AO)}(hl:compParts (fun j=>some (j*i.size,i.size)) ps.toList=some l)
  (hev:∀ i x,(i,x)∈ps.toList→VR E ((compO x).ev tm) (ev x)) :
  VG w0 E H nx w ((Instr.buildSlice t len (ps.map fun (i,x)=>(i,ev x))).run P w) (fillL tm l (repeatL z.cells len) fun cs=>newCells e cs 0 H nx (.slice nx 0 len (some len) i.size)):=by
 obtain⟨x,hx,hv,hzr⟩:=zeroOf_eq (E:=E) hz
 have hxs:x.cells.size=i.size:=by have:=(hv.cells hzr).length;simp only[Array.length_toList] at this;omega
 refine fill_ok _ _ ps.toList l _ _ hl (zero_rel hv hzr len) hev fun cs' xs' hf hr hlen=>?_
 rw[newCells_eq]
 have hrl:=hr.length
 simp only[Array.length_toList] at hrl
 obtain⟨h1,h2,h3⟩:=new_ok h e (0,0) 0 w.drawn (vs:=cs') (c:=xs') (fun i v hv=>by simpa using hr.get i v hv) (by omega) rfl
 have hsz:xs'.size=len*i.size:=by rw[← hrl,hlen,repeatL_length,hzl]
 refine⟨.slice (some ⟨w.heap.size,0,none⟩) len len,_,_,?_,h1,slice_new E nx _ _ len i.size (some len) len (Nat.le_refl _) (by omega) (fun k hk=>by cases hk;rfl),h2,by omega,h3⟩
 have e1:(ps.map fun (i,x)=>(i,ev x)).toList=ps.toList.map fun (i,x)=>(i,ev x):=by simp
 rw[hxs] at hf
 by_cases h0:len*i.size=0
 ·have hf':Instr.fill (fun j=>some (j*i.size,i.size)) ((Array.range (len*i.size)).map ((#[]:Array Value)[· % (#[]:Array Value).size]!)) (ps.toList.map fun (i,x)=>(i,ev x))=some xs':=by
   rw[← hf];congr 1
   rw[h0];simp
  simp only[Instr.buildSlice,Sem.run_bind,run_underlying ht,Result.andThen_ok,run_sizeOf hi,Sem.run_ite,run_unsupported]
  rw[if_neg (by have:(2:Nat) ^ 24=16777216:=rfl;omega)]
  simp only[Sem.run_pure,Result.andThen_ok]
  rw[if_pos h0]
  simp only[Result.andThen_ok,e1,hf',newRow,Sem.run_bind,run_newObj,Sem.run_pure]
 ·simp only[Instr.buildSlice,Sem.run_bind,run_underlying ht,Result.andThen_ok,run_sizeOf hi,Sem.run_ite,run_unsupported]
  rw[if_neg (by have:(2:Nat) ^ 24=16777216:=rfl;omega)]
  simp only[Sem.run_pure,Result.andThen_ok]
  rw[if_neg h0]
  simp only[Result.andThen_ok,run_zeroValue' hi hx,e1,hxs,hf,newRow,Sem.run_bind,run_newObj,Sem.run_pure]
theorem run_mkSl {t e:TypeId}{i:TypeInfo}{x:Value}{n:Nat}(ht:P.underlying t=some (.slice e))(hi:P.info? e=some i)(hx:i.zero=some x)(hxs:x.cells.size=i.size)(hb:n*i.bytes≤16777216)(hn:n≤16777216) :
  (Instr.makeSlice t (.int .i64 n) (.int .i64 n)).run P w=.ok (.slice (some ⟨w.heap.size,0,none⟩) n n) { w with heap:=w.heap.push (.cells ((Array.range (n*x.cells.size)).map (x.cells[· % x.cells.size]!)) e (0,0)) }:=by
 have h:=Go.run_make w t e i x ht hi hx .i64 .i64 n n (by omega) (Int.le_refl _) (by
  have:((i.bytes:Int)*(n:Int))=((n*i.bytes:Nat):Int):=by rw[Nat.mul_comm];simp
  omega) (by omega)
 simp only[Int.toNat_natCast] at h
 rw[h]
 unfold World.alloc madeCells
 rw[hxs]
theorem xMkSl_ok (h:WR w0 E H nx w){t e:TypeId}{i:TypeInfo}{z:V}(ht:P.underlying t=some (.slice e))(hi:P.info? e=some i)(hz:zeroOf i=some z)(hzl:z.cells.length=i.size){l c:V}{L C:Value}(hl:VR E l L)(hc:VR E c C) :
  VG w0 E H nx w ((Instr.makeSlice t L C).run P w) (xMkSl e i.size i.bytes z.cells l c H nx):=by
 cases hl<;>simp only[xMkSl]<;>try trivial
 rename_i k n
 cases k<;>try trivial
 cases n with
 |negSucc _=>trivial
 |ofNat n=>
  cases hc<;>simp only<;>try trivial
  rename_i k m
  cases k<;>try trivial
  cases m with
  |negSucc _=>trivial
  |ofNat m=>
   simp only
   cases hb:(Nat.beq n m&&Nat.ble (Nat.mul n i.bytes) 16777216&&Nat.ble n 16777216) with
   |false=>trivial
   |true=>
    simp only[Bool.and_eq_true] at hb
    obtain rfl:=Nat.eq_of_beq_eq_true hb.1.1
    have h1:n*i.bytes≤16777216:=Nat.le_of_ble_eq_true hb.1.2
    have h2:n≤16777216:=Nat.le_of_ble_eq_true hb.2
    obtain⟨x,hx,hv,hzr⟩:=zeroOf_eq (E:=E) hz
    have hxs:x.cells.size=i.size:=by have:=(hv.cells hzr).length;simp only[Array.length_toList] at this;omega
    simp only[cond_true,newCells_eq]
    have hr:=zero_rel hv hzr n
    have hrl:=hr.length
    simp only[Array.length_toList] at hrl
    obtain⟨g1,g2,g3⟩:=new_ok h e (0,0) 0 w.drawn (vs:=repeatL z.cells n) (c:=(Array.range (n*x.cells.size)).map (x.cells[· % x.cells.size]!)) (fun i v hv=>by have:=hr.get i v hv;rwa [Array.getElem?_toList] at this) (by omega) rfl
    refine⟨.slice (some ⟨w.heap.size,0,none⟩) n n,_,_,run_mkSl ht hi hx hxs h1 h2,g1,slice_new E nx _ _ n i.size (some n) n (Nat.le_refl _) (by simp[hxs]) (fun k hk=>by cases hk;rfl),g2,by omega,g3⟩
theorem xLoad1_ok (h:WR w0 E H nx w){t:TypeId}(ha:∀ w,(isAgg t).run P w=.ok false w){a:V}{A:Value}(hv:VR E a A):VG w0 E H nx w ((Instr.loadAt t A).run P w) (xLoad1 a H):=by
 cases hv<;>simp only[xLoad1]<;>try trivial
 rename_i l off p hp
 have:=rd1_ok h (off:=off) hp
 cases hr:rd1 l off H with
 |val v=>
  rw[hr] at this
  obtain⟨x,hx,hvx⟩:=this
  refine VG.val ?_ hvx
  simp[Instr.loadAt,Instr.sureAddr,loadVar,ha,hx]
 |fail _=>trivial
 |_=>rw[hr] at this;exact this.elim
theorem xLoadN_ok (h:WR w0 E H nx w){t:TypeId}{i:TypeInfo}(ha:∀ w,(isAgg t).run P w=.ok true w)(hi:P.info? t=some i){a:V}{A:Value}(hv:VR E a A) :
  VG w0 E H nx w ((Instr.loadAt t A).run P w) (xLoadN i.size a H):=by
 cases hv<;>simp only[xLoadN]<;>try trivial
 rename_i l off p hp
 refine rdN_ok h (n:=i.size) hp (fun m=>trivial) fun vs xs hlen hr hc=>?_
 refine VG.val (x:=.agg xs.toArray) ?_ (.agg _ _ hr)
 have hl:xs.length=i.size:=by rw[← hr.length,hlen]
 have hld:=run_loadCells_list (P:=P) w ⟨p.blk,p.base+off,none⟩ xs hc
 rw[hl] at hld
 simp[Instr.loadAt,Instr.sureAddr,loadVar,ha,run_sizeOf hi,hld]
theorem xStore_ok (h:WR w0 E H nx w){t:TypeId}{i:TypeInfo}(hi:P.info? t=some i){a v:V}{A X:Value}(ha:VR E a A)(hv:VR E v X):match xStore i.size a v H nx with
  |.valH v' H' nx2=>v'=undefV∧nx2=nx∧∃ w',(Instr.storeAt t A X).run P w=.ok () w'∧WR w0 E H' nx w'∧Keep E E H H' nx
  |.fail _=>True
  |_=>False:=by
 cases ha<;>simp only[xStore]<;>try trivial
 rename_i l off p hp
 cases hb:(Nat.beq v.cells.length i.size&&v.real) with
 |false=>trivial
 |true=>
  simp only[Bool.and_eq_true] at hb
  have hr:=hb.2
  have hb:=Nat.eq_of_beq_eq_true hb.1
  have hc:=hv.cells hr
  have:=wr_ok (P:=P) h (off:=off) hp hc (v:=undefV) (nx':=nx) rfl
  simp only[cond_true]
  cases hr:wr l off v.cells H nx undefV with
  |valH v' H' nx2=>
   rw[hr] at this
   obtain⟨h1,h2,w',h3,h4,h5⟩:=this
   refine⟨h1,h2,w',?_,h4,h5⟩
   have hsz:X.cells.size=i.size:=by have:=hc.length;simp only[Array.length_toList] at this;omega
   simp[Instr.storeAt,Instr.sureAddr,storeVar,run_sizeOf hi,hsz,h3]
  |fail _=>trivial
  |_=>rw[hr] at this;exact this.elim
theorem bytesV_rel:∀ (l n:Nat),VRs E (bytesV l n) ((sB l n).map fun b=>Value.int .u8 (b.toNat:Int))
 |0,_=>.nil
 |k+1,n=>by
  simp only[bytesV,sB,List.map_cons]
  refine .cons _ _ _ _ ?_ (bytesV_rel k (n / 256))
  have:((UInt8.ofNat (n % 256)).toNat:Int)=Int.ofNat (Nat.mod n 256):=by
   have h:(UInt8.ofNat (n % 256)).toNat=n % 256:=by simp
   rw[h];rfl
  rw[this];exact .int _ _
theorem bytesV_length:∀ l n,(bytesV l n).length=l
 |0,_=>rfl
 |k+1,n=>by simp[bytesV,bytesV_length k]
end
end Go.Exo
