/-
  SX, part A: what is said of a function on data; a run on terms shows it. Own text.
-/
import Derived.Test.YtbddnchfoojacaaGreatDoorExo8
import Derived.DataReads
set_option linter.all false
namespace Go.Exo
set_option linter.unusedSectionVars false
def X.pls:X→List Nat
 |.var l _ _=>[l]
 |.bin _ a b|.inr a b|.cmp a b|.atx a b|.el a b _ _|.snoc a b|.cat a b|.cons a b=>a.pls++b.pls
 |.un _ a|.conv _ a|.len a|.isnil a=>a.pls
 |.rng a b c|.sub a b c|.cut a b c=>a.pls++(b.pls++c.pls)
 |.app l _ a _=>l::a.pls
 |_=>[]
theorem X.ok_pls {E:Env}:∀ {t:X},t.ok E↔∀ l∈t.pls,∃ p,E l=some p:=by
 intro t
 induction t with
 |var l i k=>simp[X.ok,X.pls]
 |bin _ a b iha ihb=>simp only[X.ok,X.pls,iha,ihb,List.mem_append];exact⟨fun⟨h1,h2⟩ l hl=>hl.elim (h1 l) (h2 l),fun h=>⟨fun l hl=>h l (.inl hl),fun l hl=>h l (.inr hl)⟩⟩
 |inr a b iha ihb=>simp only[X.ok,X.pls,iha,ihb,List.mem_append];exact⟨fun⟨h1,h2⟩ l hl=>hl.elim (h1 l) (h2 l),fun h=>⟨fun l hl=>h l (.inl hl),fun l hl=>h l (.inr hl)⟩⟩
 |cmp a b iha ihb=>simp only[X.ok,X.pls,iha,ihb,List.mem_append];exact⟨fun⟨h1,h2⟩ l hl=>hl.elim (h1 l) (h2 l),fun h=>⟨fun l hl=>h l (.inl hl),fun l hl=>h l (.inr hl)⟩⟩
 |atx a b iha ihb=>simp only[X.ok,X.pls,iha,ihb,List.mem_append];exact⟨fun⟨h1,h2⟩ l hl=>hl.elim (h1 l) (h2 l),fun h=>⟨fun l hl=>h l (.inl hl),fun l hl=>h l (.inr hl)⟩⟩
 |el a b _ _ iha ihb=>simp only[X.ok,X.pls,iha,ihb,List.mem_append];exact⟨fun⟨h1,h2⟩ l hl=>hl.elim (h1 l) (h2 l),fun h=>⟨fun l hl=>h l (.inl hl),fun l hl=>h l (.inr hl)⟩⟩
 |snoc a b iha ihb=>simp only[X.ok,X.pls,iha,ihb,List.mem_append];exact⟨fun⟨h1,h2⟩ l hl=>hl.elim (h1 l) (h2 l),fun h=>⟨fun l hl=>h l (.inl hl),fun l hl=>h l (.inr hl)⟩⟩
 |cat a b iha ihb=>simp only[X.ok,X.pls,iha,ihb,List.mem_append];exact⟨fun⟨h1,h2⟩ l hl=>hl.elim (h1 l) (h2 l),fun h=>⟨fun l hl=>h l (.inl hl),fun l hl=>h l (.inr hl)⟩⟩
 |cons a b iha ihb=>simp only[X.ok,X.pls,iha,ihb,List.mem_append];exact⟨fun⟨h1,h2⟩ l hl=>hl.elim (h1 l) (h2 l),fun h=>⟨fun l hl=>h l (.inl hl),fun l hl=>h l (.inr hl)⟩⟩
 |un _ a ih=>exact ih
 |conv _ a ih=>exact ih
 |len a ih=>exact ih
 |isnil a ih=>exact ih
 |rng a b c iha ihb ihc=>
  simp only[X.ok,X.pls,iha,ihb,ihc,List.mem_append]
  exact⟨fun⟨h1,h2,h3⟩ l hl=>hl.elim (h1 l) fun hl=>hl.elim (h2 l) (h3 l),fun h=>⟨fun l hl=>h l (.inl hl),fun l hl=>h l (.inr (.inl hl)),fun l hl=>h l (.inr (.inr hl))⟩⟩
 |sub a b c iha ihb ihc=>
  simp only[X.ok,X.pls,iha,ihb,ihc,List.mem_append]
  exact⟨fun⟨h1,h2,h3⟩ l hl=>hl.elim (h1 l) fun hl=>hl.elim (h2 l) (h3 l),fun h=>⟨fun l hl=>h l (.inl hl),fun l hl=>h l (.inr (.inl hl)),fun l hl=>h l (.inr (.inr hl))⟩⟩
 |cut a b c iha ihb ihc=>
  simp only[X.ok,X.pls,iha,ihb,ihc,List.mem_append]
  exact⟨fun⟨h1,h2,h3⟩ l hl=>hl.elim (h1 l) fun hl=>hl.elim (h2 l) (h3 l),fun h=>⟨fun l hl=>h l (.inl hl),fun l hl=>h l (.inr (.inl hl)),fun l hl=>h l (.inr (.inr hl))⟩⟩
 |app l _ a _ ih=>
  simp only[X.ok,X.pls,ih,List.mem_cons]
  exact⟨fun⟨h1,h2⟩ k hk=>hk.elim (fun e=>e ▸ h1) (h2 k),fun h=>⟨h l (.inl rfl),fun k hk=>h k (.inr hk)⟩⟩
 |_=>simp[X.ok,X.pls]
def X.ofL:List X→X
 |[]=>.nilA
 |t::r=>.cons t (X.ofL r)
abbrev X.c (E:Env)(t:X):Cl:=Cl.hd (t.den E)
theorem X.den_ofL {E:Env}:∀ (l:List X),(X.ofL l).den E=l.map (X.c E)
 |[]=>rfl
 |t::r=>by simp only[X.ofL,X.den,X.den_ofL r,List.map_cons]
theorem X.ok_ofL {E:Env}:∀ {l:List X},(X.ofL l).ok E↔∀ t∈l,t.ok E
 |[]=>by simp[X.ofL,X.ok]
 |t::r=>by simp[X.ofL,X.ok,X.ok_ofL (l:=r)]
variable [Sx]
inductive Wt:Kd→Cl→Prop where
 |int (k:IntKind)(n:Int):k.min≤n→n≤k.max→Wt (.int k) (.int n)
 |bool (b:Bool):Wt .bool (.bool b)
 |str (s:List UInt8):s.length≤maxLen→Wt .str (.str s)
 |nil (e:TypeId):Wt (.sl e) (.sl true [])
 |sl (e:TypeId)(rows:List (List Cl)):rows.length≤maxLen→(∀ (i:Nat)(r:List Cl),rows[i]? = some r→r.length=(Sx.row e).length)→
   (∀ (i:Nat)(r:List Cl)(j:Nat)(c:Cl)(k:Kd),rows[i]? = some r→r[j]? = some c→(Sx.row e)[j]? = some k→Wt k c)→Wt (.sl e) (.sl false rows)
 |raw (v:Value):Wt .raw (.raw v)
theorem CR.wt {F:Nat→Nat→Value→Prop}{k:Kd}{v:Value}{c:Cl}(h:CR F k v c):Wt k c:=by
 induction h with
 |int k n a b=>exact .int k n a b
 |bool b=>exact .bool b
 |str s a=>exact .str _ a
 |nil e=>exact .nil e
 |sl e blk off len cap rows vs h1 h2 h3 h4 h5 _ ih=>exact .sl e rows (by omega) h4 ih
 |e0 e a=>exact .sl e [] (Nat.zero_le _) (fun i r h=>by simp at h) fun i r j c k h=>by simp at h
 |raw v a b=>exact .raw v
inductive Ash where
 |one (k:Kd)
 |agg (ks:List Kd)
def Ash.ks:Ash→List Kd
 |.one k=>[k]
 |.agg ks=>ks
inductive CRs (F:Nat→Nat→Value→Prop):List Kd→List Value→List Cl→Prop where
 |nil:CRs F [] [] []
 |cons {k:Kd}{v:Value}{c:Cl}{ks:List Kd}{vs:List Value}{cs:List Cl}:CR F k v c→CRs F ks vs cs→CRs F (k::ks) (v::vs) (c::cs)
inductive ArgR (F:Nat→Nat→Value→Prop):List Ash→List Value→List Cl→Prop where
 |nil:ArgR F [] [] []
 |one {k:Kd}{v:Value}{c:Cl}{r:List Ash}{vs:List Value}{cs:List Cl}:CR F k v c→ArgR F r vs cs→ArgR F (.one k::r) (v::vs) (c::cs)
 |agg {ks:List Kd}{xs:List Value}{ds:List Cl}{r:List Ash}{vs:List Value}{cs:List Cl}:CRs F ks xs ds→ArgR F r vs cs→ArgR F (.agg ks::r) (.agg xs.toArray::vs) (ds++cs)
inductive Wts:List Kd→List Cl→Prop where
 |nil:Wts [] []
 |cons {k:Kd}{c:Cl}{ks:List Kd}{cs:List Cl}:Wt k c→Wts ks cs→Wts (k::ks) (c::cs)
theorem Wts.append {ks ks':List Kd}{cs cs':List Cl}(h:Wts ks cs)(h':Wts ks' cs'):Wts (ks++ks') (cs++cs'):=by
 induction h with
 |nil=>exact h'
 |cons h1 _ ih=>exact .cons h1 ih
theorem Wts.length {ks:List Kd}{cs:List Cl}(h:Wts ks cs):ks.length=cs.length:=by
 induction h with
 |nil=>rfl
 |cons _ _ ih=>simp[ih]
theorem CRs.wt {F:Nat→Nat→Value→Prop}{ks:List Kd}{vs:List Value}{cs:List Cl}(h:CRs F ks vs cs):Wts ks cs:=by
 induction h with
 |nil=>exact .nil
 |cons h1 _ ih=>exact .cons h1.wt ih
def kinds (shs:List Ash):List Kd:=shs.flatMap Ash.ks
theorem ArgR.wt {F:Nat→Nat→Value→Prop}{shs:List Ash}{vs:List Value}{cs:List Cl}(h:ArgR F shs vs cs):Wts (kinds shs) cs:=by
 induction h with
 |nil=>exact .nil
 |one h1 _ ih=>exact .cons h1.wt ih
 |agg h1 _ ih=>exact h1.wt.append ih
theorem CRs.mono {F F':Nat→Nat→Value→Prop}(h:∀ b o v,F b o v→F' b o v){ks:List Kd}{vs:List Value}{cs:List Cl}(hc:CRs F ks vs cs):CRs F' ks vs cs:=by
 induction hc with
 |nil=>exact .nil
 |cons h1 _ ih=>exact .cons (h1.mono h) ih
theorem ArgR.mono {F F':Nat→Nat→Value→Prop}(h:∀ b o v,F b o v→F' b o v){shs:List Ash}{vs:List Value}{cs:List Cl}(hc:ArgR F shs vs cs):ArgR F' shs vs cs:=by
 induction hc with
 |nil=>exact .nil
 |one h1 _ ih=>exact .one (h1.mono h) ih
 |agg h1 _ ih=>exact .agg (h1.mono h) ih
inductive Rsh where
 |one (s:Ash)
 |tup (l:List Ash)
def Rsh.l:Rsh→List Ash
 |.one s=>[s]
 |.tup l=>l
def ResR (F:Nat→Nat→Value→Prop):Rsh→Value→List Cl→Prop
 |.one s,x,cs=>ArgR F [s] [x] cs
 |.tup l,x,cs=>∃ xs:List Value,x=.tuple xs.toArray∧ArgR F l xs cs
abbrev rel (φ:Nat→Nat→Option Value):Nat→Nat→Value→Prop:=fun b o v=>φ b o=some v
def Spec (P:Program)(G:World→Prop)(f:Nat)(shs:List Ash)(rsh:Rsh)(Pre:List Cl→Prop)(F:List Cl→List Cl):Prop:=
 ∀ w φ args cls,G w→(∀ b o v,φ b o=some v→w.cell? ⟨b,o,none⟩=some v)→ArgR (rel φ) shs args cls→Pre cls→
  Calls P f args.toArray w fun e w'=>∃ x φ',e=.returned x∧(∀ b o v,φ b o=some v→φ' b o=some v)∧(∀ b o v,φ' b o=some v→w'.cell? ⟨b,o,none⟩=some v)∧
   (∀ b o v,φ' b o=some v→b<w.heap.size→φ b o=some v)∧Ext w w'∧ResR (rel φ') rsh x (F cls)
def varsX (L:Nat):List Kd→Nat→List X
 |[],_=>[]
 |k::r,i=>.var L i k::varsX L r (i+1)
def argV (L:Nat):List Ash→Nat→List V
 |[],_=>[]
 |.one k::r,i=>.x (.var L i k)::argV L r (i+1)
 |.agg ks::r,i=>.agg ((varsX L ks i).map V.x)::argV L r (i+ks.length)
variable {E:Env}
theorem varsX_ok {L:Nat}{p:Pl}(hp:E L=some p):∀ {ks:List Kd}{xs:List Value}{cs:List Cl}(i:Nat),CRs E.fz ks xs cs→(∀ (j:Nat) c,cs[j]? = some c→p.ob.vl (i+j)=c)→VRs E ((varsX L ks i).map V.x) xs
 |[],_,_,_,h,_=>by cases h;exact .nil
 |k::ks,_,_,i,h,hv=>by
  cases h with
  |cons h1 h2=>
   refine .cons _ _ _ _ (.x _ _ ⟨p,hp⟩ ?_) (varsX_ok hp (i+1) h2 fun j c hc=>by rw[← hv (j+1) c (by simpa using hc)];congr 1;omega)
   show CR E.fz k _ (Cl.hd [match E L with|some p=>p.ob.vl i|none=>.no])
   rw[hp]
   have:=hv 0 _ rfl
   simp only[Nat.add_zero] at this
   simp only[Cl.hd,this];exact h1
theorem argV_ok {L:Nat}{p:Pl}(hp:E L=some p):∀ {shs:List Ash}{xs:List Value}{cs:List Cl}(i:Nat),ArgR E.fz shs xs cs→(∀ (j:Nat) c,cs[j]? = some c→p.ob.vl (i+j)=c)→VRs E (argV L shs i) xs
 |[],_,_,_,h,_=>by cases h;exact .nil
 |.one k::r,_,_,i,h,hv=>by
  cases h with
  |one h1 h2=>
   refine .cons _ _ _ _ (.x _ _ ⟨p,hp⟩ ?_) (argV_ok hp (i+1) h2 fun j c hc=>by rw[← hv (j+1) c (by simpa using hc)];congr 1;omega)
   show CR E.fz k _ (Cl.hd [match E L with|some p=>p.ob.vl i|none=>.no])
   rw[hp]
   have:=hv 0 _ rfl
   simp only[Nat.add_zero] at this
   simp only[Cl.hd,this];exact h1
 |.agg ks::r,_,_,i,h,hv=>by
  cases h with
  |@agg _ xs ds _ vs cs h1 h2=>
   have hlen:ks.length=ds.length:=h1.wt.length
   refine .cons _ _ _ _ (.agg _ _ (varsX_ok hp i h1 fun j c hc=>hv j c (by rw[List.getElem?_append_left (List.getElem?_eq_some_iff.1 hc).1];exact hc))) (argV_ok hp (i+ks.length) h2 fun j c hc=>?_)
   rw[Nat.add_assoc]
   refine hv (ks.length+j) c ?_
   rw[hlen,List.getElem?_append_right (by omega),Nat.add_sub_cancel_left];exact hc
def cellsX:List Kd→List V→Option (List X)
 |[],[]=>some []
 |k::ks,v::vs=>(match toXk k v,cellsX ks vs with|some t,some l=>some (t::l)|_,_=>none)
 |_,_=>none
def ashX (s:Ash)(v:V):Option (List X):=
 match s with
 |.one k=>(match toXk k v with|some t=>some [t]|none=>none)
 |.agg ks=>(match v with|.agg cs=>cellsX ks cs|_=>none)
def ashsX:List Ash→List V→Option (List X)
 |[],[]=>some []
 |s::r,v::vs=>(match ashX s v,ashsX r vs with|some a,some b=>some (a++b)|_,_=>none)
 |_,_=>none
def rshX (r:Rsh)(v:V):Option (List X):=
 match r with
 |.one s=>ashX s v
 |.tup l=>(match v with|.tup vs=>ashsX l vs|_=>none)
end Go.Exo

namespace Go.Exo
set_option linter.unusedSectionVars false
section
variable (P:Program)
def kdsF (k:TypeId→Option (List Kd)):List Field→Nat→Option (List Kd)
 |[],_=>some []
 |f::r,o=>(match k f.type with
  |some l=>cond (Nat.beq f.offset o&&Nat.beq (P.cellsOf f.type) l.length) (match kdsF k r (o+l.length) with|some m=>some (l++m)|none=>none) none
  |none=>none)
def kdsT:Nat→TypeId→Option (List Kd)
 |0,_=>none
 |n+1,t=>(match P.underlying t with
  |some .bool=>some [.bool]
  |some (.int k)=>some [.int k]
  |some .string=>some [.str]
  |some (.slice e)=>some [.sl e]
  |some (.struct fs)=>(match kdsF P (kdsT n) fs.toList 0 with|some l=>cond (Nat.beq (P.cellsOf t) l.length) (some l) none|none=>none)
  |_=>none)
end
variable [Sx]
structure DatTs (P:Program)(T:TypeId→Prop):Prop where
 sl:∀ t e,T t→P.underlying t=some (.slice e)→T e∧(∃ n,kdsT P n e=some (Sx.row e))∧P.cellsOf e=(Sx.row e).length∧0<(Sx.row e).length
 st:∀ t fs,T t→P.underlying t=some (.struct fs)→∀ f∈fs.toList,T f.type
theorem CRs.append {F:Nat→Nat→Value→Prop}{ks ks':List Kd}{vs vs':List Value}{cs cs':List Cl}(h:CRs F ks vs cs)(h':CRs F ks' vs' cs'):CRs F (ks++ks') (vs++vs') (cs++cs'):=by
 induction h with
 |nil=>exact h'
 |cons h1 _ ih=>exact .cons h1 ih
theorem CRs.get {F:Nat→Nat→Value→Prop}{ks:List Kd}{vs:List Value}{cs:List Cl}(h:CRs F ks vs cs):vs.length=ks.length∧cs.length=ks.length∧∀ (j:Nat) v c k,vs[j]? = some v→cs[j]? = some c→ks[j]? = some k→CR F k v c:=by
 induction h with
 |nil=>exact⟨rfl,rfl,fun j v c k h=>by simp at h⟩
 |cons h1 _ ih=>
  obtain⟨i1,i2,i3⟩:=ih
  refine⟨by simp[i1],by simp[i2],fun j v c k a b d=>?_⟩
  cases j with
  |zero=>simp at a b d;subst a b d;exact h1
  |succ j=>exact i3 j v c k (by simpa using a) (by simpa using b) (by simpa using d)
theorem mapM_some {α β:Type}{f:α→Option β}:∀ {l:List α}{ys:List β},l.mapM f=some ys→∀ x∈l,∃ y,f x=some y
 |[],_,_,x,hx=>by cases hx
 |a::r,ys,h,x,hx=>by
  rw[List.mapM_cons] at h
  cases ha:f a with
  |none=>rw[ha] at h;cases h
  |some b=>
   rw[ha] at h
   cases hr:r.mapM f with
   |none=>rw[hr] at h;cases h
   |some bs=>
    cases hx with
    |head=>exact⟨b,ha⟩
    |tail _ hx=>exact mapM_some hr x hx
theorem mapM_get {α β:Type}{f:α→Option β}:∀ {l:List α}{ys:List β},l.mapM f=some ys→ys.length=l.length∧∀ (i:Nat) y,ys[i]? = some y→∃ x,l[i]? = some x∧f x=some y
 |[],ys,h=>by rw[List.mapM_nil] at h;cases h;exact⟨rfl,fun i y h=>by simp at h⟩
 |a::r,ys,h=>by
  rw[List.mapM_cons] at h
  cases ha:f a with
  |none=>rw[ha] at h;cases h
  |some b=>
   rw[ha] at h
   cases hr:r.mapM f with
   |none=>rw[hr] at h;cases h
   |some bs=>
    rw[hr] at h
    cases h
    obtain⟨h1,h2⟩:=mapM_get hr
    refine⟨by simp[h1],fun i y hy=>?_⟩
    cases i with
    |zero=>simp at hy;subst hy;exact⟨a,rfl,ha⟩
    |succ i=>obtain⟨x,g1,g2⟩:=h2 i y (by simpa using hy);exact⟨x,by simpa using g1,g2⟩
theorem cells_get {w:World}{a:Addr}{n:Nat}{c:List Value}(h:w.cells? 0 a n=some c):c.length=n∧∀ (j:Nat) v,c[j]? = some v→w.cell? (a.add j)=some v:=by
 unfold World.cells? at h
 rw[if_pos (Nat.zero_le _)] at h
 obtain⟨h1,h2⟩:=mapM_get h
 rw[List.length_range] at h1
 refine⟨h1,fun j v hv=>?_⟩
 obtain⟨x,g1,g2⟩:=h2 j v hv
 have hj:j<n:=by have:=(List.getElem?_eq_some_iff.1 hv).1;omega
 rw[List.getElem?_range hj] at g1
 cases g1;exact g2
theorem addr_add (b o n:Nat):(⟨b,o,none⟩:Addr).add n=⟨b,o+n,none⟩:=by
 unfold Addr.add;split<;>simp_all
abbrev cellsW (w:World):Nat→Nat→Value→Prop:=fun b o v=>w.cell? ⟨b,o,none⟩=some v
section
variable {H:Type}{enc:TypeId×Value→H}{P:Program}{w:World}
theorem open_fields {r:TypeId→List Value→Option (DataW H×List MemPlace)}{k:TypeId→Option (List Kd)}{cs:List Value}:∀ (fs:List Field)(o:Nat)(ks:List Kd),kdsF P k fs o=some ks→o+ks.length≤cs.length→
  (∀ f∈fs,∃ y,r f.type ((cs.drop f.offset).take (P.cellsOf f.type))=some y)→(∀ f∈fs,∀ c y l,r f.type c=some y→k f.type=some l→∃ cls,CRs (cellsW w) l c cls)→∃ cls,CRs (cellsW w) ks ((cs.drop o).take ks.length) cls
 |[],o,ks,h,_,_,_=>by simp only[kdsF,Option.some.injEq] at h;subst h;exact⟨[],by simpa using CRs.nil⟩
 |f::fs,o,ks,h,hl,hr,hk=>by
  simp only[kdsF] at h
  cases h1:k f.type with
  |none=>rw[h1] at h;cases h
  |some l=>
   rw[h1] at h;simp only at h
   cases hb:(Nat.beq f.offset o&&Nat.beq (P.cellsOf f.type) l.length) with
   |false=>rw[hb] at h;cases h
   |true=>
    rw[hb] at h;simp only[cond_true] at h
    simp only[Bool.and_eq_true] at hb
    have e1:=Nat.eq_of_beq_eq_true hb.1
    have e2:=Nat.eq_of_beq_eq_true hb.2
    cases h2:kdsF P k fs (o+l.length) with
    |none=>rw[h2] at h;cases h
    |some m=>
     rw[h2] at h;cases h
     rw[List.length_append] at hl ⊢
     obtain⟨c2,g2⟩:=open_fields fs (o+l.length) m h2 (by omega) (fun g hg=>hr g (List.mem_cons_of_mem _ hg)) (fun g hg=>hk g (List.mem_cons_of_mem _ hg))
     obtain⟨y,hy⟩:=hr f (List.mem_cons_self ..)
     rw[e1,e2] at hy
     obtain⟨c1,g1⟩:=hk f (List.mem_cons_self ..) _ y l hy h1
     refine⟨c1++c2,?_⟩
     have e:(cs.drop o).take (l.length+m.length)=(cs.drop o).take l.length++(cs.drop (o+l.length)).take m.length:=by
      rw[List.take_add,List.drop_drop]
     rw[e];exact g1.append g2
theorem open_trod {T:TypeId→Prop}(hT:DatTs P T):∀ (fuel n:Nat)(t:TypeId)(cs:List Value)(y:DataW H×List MemPlace)(ks:List Kd),T t→DataW.trod enc P w 0 (fun _=>true) true fuel t cs=some y→kdsT P n t=some ks→∃ cls,CRs (cellsW w) ks cs cls
 |0,_,_,_,_,_,_,h,_=>by simp[DataW.trod] at h
 |_+1,0,_,_,_,_,_,_,h=>by simp[kdsT] at h
 |fuel+1,n+1,t,cs,y,ks,ht,h,hk=>by
  simp only[kdsT] at hk
  cases hu:P.underlying t with
  |none=>rw[hu] at hk;cases hk
  |some d=>
   rw[hu] at hk
   cases d<;>simp only at hk<;>first|(cases hk;done)|skip
   case bool=>
    cases hk
    obtain⟨b,rfl,_⟩:=DataW.trod_bool hu h
    exact⟨_,.cons (.bool b) .nil⟩
   case int k=>
    cases hk
    obtain⟨m,rfl,_,hw⟩:=DataW.trod_int hu h
    simp only[Lit.wf,Bool.and_eq_true,decide_eq_true_eq] at hw
    exact⟨_,.cons (.int k m hw.1 hw.2) .nil⟩
   case string=>
    cases hk
    obtain⟨s,rfl,_,hs⟩:=DataW.trod_string hu h
    exact⟨_,.cons (.str s hs) .nil⟩
   case slice e=>
    cases hk
    obtain⟨hTe,⟨m,hm⟩,hsz,hpos⟩:=hT.sl t e ht hu
    have hsl:cs=[.slice none 0 0]∨∃ a len cap,cs=[.slice (some a) len cap]∧len≤cap∧cap≤maxLen∧((((List.range len).mapM fun i=>(w.cells? 0 (a.add (i*P.cellsOf e)) (P.cellsOf e)).bind (DataW.trod enc P w 0 (fun _=>true) true fuel e))).bind fun elems=>
      (((List.range (cap-len)).mapM fun j=>(w.cells? 0 (a.add ((len+j)*P.cellsOf e)) (P.cellsOf e)).bind (DataW.trod enc P w 0 (fun _=>true) true fuel e))).map fun rest=>
      ((.slice (elems.map (·.1)) (rest.map (·.1)),MemPlace.row a ((elems.length+rest.length)*P.cellsOf e)++(elems++rest).flatMap (·.2)):DataW H×List MemPlace))=some y:=by
     unfold DataW.trod at h
     rw[hu] at h
     split at h
     case h_8=>
      rename_i e' a len cap heq
      cases heq
      simp only at h
      split at h
      case isFalse=>cases h
      rename_i hc
      refine .inr ⟨a,len,cap,rfl,hc.2.1,hc.2.2,?_⟩
      simpa using h
     all_goals simp_all
    rcases hsl with rfl|⟨a,len,cap,rfl,hlc,hcm,h⟩
    ·exact⟨_,.cons (.nil e) .nil⟩
    ·skip
     cases he:(List.range len).mapM fun i=>(w.cells? 0 (a.add (i*P.cellsOf e)) (P.cellsOf e)).bind (DataW.trod enc P w 0 (fun _=>true) true fuel e) with
     |none=>rw[he] at h;cases h
     |some elems=>
      rw[he] at h
      simp only[Option.bind_some] at h
      have hrest:∃ rest,((List.range (cap-len)).mapM fun j=>(w.cells? 0 (a.add ((len+j)*P.cellsOf e)) (P.cellsOf e)).bind (DataW.trod enc P w 0 (fun _=>true) true fuel e))=some rest:=by
       cases hx:((List.range (cap-len)).mapM fun j=>(w.cells? 0 (a.add ((len+j)*P.cellsOf e)) (P.cellsOf e)).bind (DataW.trod enc P w 0 (fun _=>true) true fuel e)) with
       |none=>rw[hx] at h;cases h
       |some r=>exact⟨r,rfl⟩
      obtain⟨rest,hrest⟩:=hrest
      have hat:∀ i,i<len→∃ c cls,w.cells? 0 (a.add (i*P.cellsOf e)) (P.cellsOf e)=some c∧CRs (cellsW w) (Sx.row e) c cls:=fun i hi=>by
       obtain⟨y,hy⟩:=mapM_some he i (List.mem_range.2 hi)
       cases hcc:w.cells? 0 (a.add (i*P.cellsOf e)) (P.cellsOf e) with
       |none=>rw[hcc] at hy;cases hy
       |some c=>
        rw[hcc] at hy
        obtain⟨cls,hcl⟩:=open_trod hT fuel m e c y (Sx.row e) hTe hy hm
        exact⟨c,cls,rfl,hcl⟩
      by_cases hcap:cap=0
      ·subst hcap
       have:len=0:=by omega
       subst this
       exact⟨_,.cons (.e0 e a) .nil⟩
      ·have hspot:a.spot=none:=by
        have hany:∃ c,w.cells? 0 (a.add 0) (P.cellsOf e)=some c:=by
         by_cases hl:0<len
         ·obtain⟨c,_,h1,_⟩:=hat 0 hl;exact⟨c,by simpa using h1⟩
         ·obtain⟨y,hy⟩:=mapM_some hrest 0 (List.mem_range.2 (by omega))
          have hl0:len=0:=by omega
          subst hl0
          cases hcc:w.cells? 0 (a.add ((0+0)*P.cellsOf e)) (P.cellsOf e) with
          |none=>rw[hcc] at hy;cases hy
          |some c=>exact⟨c,by simpa using hcc⟩
        obtain⟨c,hc⟩:=hany
        obtain⟨g1,g2⟩:=cells_get hc
        have h0:0<c.length:=by omega
        have:=World.cell?_spot (g2 0 _ (List.getElem?_eq_getElem h0))
        simpa[Addr.add] using this
       obtain⟨blk,off,spot⟩:=a
       simp only at hspot
       subst hspot
       classical
       let R:Nat→List Cl:=fun i=>if h:∃ c cls,w.cells? 0 ((⟨blk,off,none⟩:Addr).add (i*P.cellsOf e)) (P.cellsOf e)=some c∧CRs (cellsW w) (Sx.row e) c cls then Classical.choose (Classical.choose_spec h) else []
       have hR:∀ i,i<len→∃ c,w.cells? 0 ((⟨blk,off,none⟩:Addr).add (i*P.cellsOf e)) (P.cellsOf e)=some c∧CRs (cellsW w) (Sx.row e) c (R i):=fun i hi=>by
        have hh:=hat i hi
        refine⟨Classical.choose hh,?_⟩
        have e1:R i=Classical.choose (Classical.choose_spec hh):=dif_pos hh
        rw[e1]
        exact Classical.choose_spec (Classical.choose_spec hh)
       have hrow:∀ (i:Nat) r,((List.range len).map R)[i]? = some r→i<len∧r=R i:=fun i r hr=>by
        rw[List.getElem?_map] at hr
        cases hi:(List.range len)[i]? with
        |none=>rw[hi] at hr;cases hr
        |some j=>
         rw[hi] at hr
         have hlt:i<len:=by have:=(List.getElem?_eq_some_iff.1 hi).1;simpa using this
         rw[List.getElem?_range hlt] at hi
         cases hi;cases hr
         exact⟨hlt,rfl⟩
       refine⟨[.sl false ((List.range len).map R)],.cons (.sl e blk off len cap _ (fun i j=>(w.cell? ⟨blk,off+i*(Sx.row e).length+j,none⟩).getD undef) (by simp) hlc hcm ?_ ?_ ?_) .nil⟩
       ·intro i r hr
        obtain⟨h1,rfl⟩:=hrow i r hr
        obtain⟨c,_,h3⟩:=hR i h1
        exact h3.get.2.1
       ·intro i r j c hr hj
        obtain⟨h1,rfl⟩:=hrow i r hr
        obtain⟨cc,h2,h3⟩:=hR i h1
        obtain⟨g1,g2,g3⟩:=h3.get
        have hjl:j<cc.length:=by have:=(List.getElem?_eq_some_iff.1 hj).1;omega
        have:=(cells_get h2).2 j _ (List.getElem?_eq_getElem hjl)
        simp only[addr_add,hsz] at this
        show w.cell? _=some _
        rw[this];rfl
       ·intro i r j c k hr hj hkk
        obtain⟨h1,rfl⟩:=hrow i r hr
        obtain⟨cc,h2,h3⟩:=hR i h1
        obtain⟨g1,g2,g3⟩:=h3.get
        have hjl:j<cc.length:=by have:=(List.getElem?_eq_some_iff.1 hj).1;omega
        have:=(cells_get h2).2 j _ (List.getElem?_eq_getElem hjl)
        simp only[addr_add,hsz] at this
        rw[this]
        exact g3 j _ c k (List.getElem?_eq_getElem hjl) hj hkk
   case struct fs=>
    cases hf:kdsF P (kdsT P n) fs.toList 0 with
    |none=>rw[hf] at hk;cases hk
    |some l=>
     rw[hf] at hk;simp only at hk
     cases hb:Nat.beq (P.cellsOf t) l.length with
     |false=>rw[hb] at hk;cases hk
     |true=>
      rw[hb] at hk;cases hk
      have e1:=Nat.eq_of_beq_eq_true hb
      have h':(if cs.length=P.cellsOf t then (fs.toList.mapM fun f=>DataW.trod enc P w 0 (fun _=>true) true fuel f.type ((cs.drop f.offset).take (P.cellsOf f.type))).map fun xs=>((.agg (xs.map (·.1)),xs.flatMap (·.2)):DataW H×List MemPlace) else none)=some y:=by
       unfold DataW.trod at h
       rw[hu] at h
       split at h<;>simp_all
      split at h'
      case isFalse=>cases h'
      rename_i hlen
      cases hm:(fs.toList.mapM fun f=>DataW.trod enc P w 0 (fun _=>true) true fuel f.type ((cs.drop f.offset).take (P.cellsOf f.type))) with
      |none=>rw[hm] at h';cases h'
      |some xs=>
       obtain⟨cls,hc⟩:=open_fields (r:=DataW.trod enc P w 0 (fun _=>true) true fuel) (cs:=cs) (w:=w) fs.toList 0 ks hf (by omega) (fun f hf'=>mapM_some hm f hf')
        (fun f hf' c y l h1 h2=>open_trod hT fuel n f.type c y l (hT.st t fs ht hu f hf') h1 h2)
       refine⟨cls,?_⟩
       rw[List.drop_zero,List.take_of_length_le (by omega)] at hc
       exact hc
end
end Go.Exo

namespace Go.Exo
set_option linter.unusedSectionVars false
variable [Sx] [Dc]
section
variable {E:Env}
theorem toXk_ok {k:Kd}{v:V}{x:Value}(h:VR E v x){t:X}(ht:toXk k v=some t):t.ok E∧CR E.fz k x (t.c E):=by
 have key:(match toX v with|some t=>cond (t.kd.beq k) (some t) none|none=>none)=some t→t.ok E∧CR E.fz k x (t.c E):=by
  intro ht
  cases hx:toX v with
  |none=>rw[hx] at ht;cases ht
  |some u=>
   rw[hx] at ht;simp only at ht
   cases hb:u.kd.beq k with
   |false=>rw[hb] at ht;cases ht
   |true=>
    rw[hb] at ht;simp only[cond_true,Option.some.injEq] at ht;subst ht
    obtain⟨h1,h2⟩:=toX_ok h hx
    rw[Kd.beq_eq hb] at h2
    exact⟨h1,h2⟩
 cases v<;>first|exact key ht|skip
 cases h
 simp only[toXk] at ht
 cases hk:kdS k with
 |none=>rw[hk] at ht;cases ht
 |some e=>rw[hk] at ht;cases ht;rw[kdS_eq hk];exact⟨trivial,.nil e⟩
theorem cellsX_ok:∀ {ks:List Kd}{vs:List V}{xs:List Value}{ts:List X},VRs E vs xs→cellsX ks vs=some ts→(∀ t∈ts,t.ok E)∧CRs E.fz ks xs (ts.map (X.c E))
 |[],[],_,_,h,ht=>by cases h;cases ht;exact⟨by simp,.nil⟩
 |[],_::_,_,_,_,ht=>by cases ht
 |_::_,[],_,_,_,ht=>by cases ht
 |k::ks,v::vs,_,_,h,ht=>by
  cases h with
  |cons _ x _ xs h1 h2=>
   simp only[cellsX] at ht
   cases ha:toXk k v with
   |none=>rw[ha] at ht;cases ht
   |some t=>
    cases hb:cellsX ks vs with
    |none=>rw[ha,hb] at ht;cases ht
    |some l=>
     rw[ha,hb] at ht;cases ht
     obtain⟨a1,a2⟩:=toXk_ok h1 ha
     obtain⟨b1,b2⟩:=cellsX_ok h2 hb
     exact⟨by simpa using ⟨a1,b1⟩,.cons a2 b2⟩
theorem ashX_ok {s:Ash}{v:V}{x:Value}{ts:List X}(h:VR E v x)(ht:ashX s v=some ts):(∀ t∈ts,t.ok E)∧∀ {r:List Ash}{vs:List Value}{cs:List Cl},ArgR E.fz r vs cs→ArgR E.fz (s::r) (x::vs) (ts.map (X.c E)++cs):=by
 cases s with
 |one k=>
  simp only[ashX] at ht
  cases ha:toXk k v with
  |none=>rw[ha] at ht;cases ht
  |some t=>
   rw[ha] at ht;cases ht
   obtain⟨a1,a2⟩:=toXk_ok h ha
   exact⟨by simpa using a1,fun hr=>.one a2 hr⟩
 |agg ks=>
  cases h<;>simp only[ashX] at ht<;>first|(cases ht;done)|skip
  rename_i cs xs h1
  obtain⟨a1,a2⟩:=cellsX_ok h1 ht
  exact⟨a1,fun hr=>.agg a2 hr⟩
theorem ashsX_ok:∀ {shs:List Ash}{vs:List V}{xs:List Value}{ts:List X},VRs E vs xs→ashsX shs vs=some ts→(∀ t∈ts,t.ok E)∧ArgR E.fz shs xs (ts.map (X.c E))
 |[],[],_,_,h,ht=>by cases h;cases ht;exact⟨by simp,.nil⟩
 |[],_::_,_,_,_,ht=>by cases ht
 |_::_,[],_,_,_,ht=>by cases ht
 |s::r,v::vs,_,_,h,ht=>by
  cases h with
  |cons _ x _ xs h1 h2=>
   simp only[ashsX] at ht
   cases ha:ashX s v with
   |none=>rw[ha] at ht;cases ht
   |some t=>
    cases hb:ashsX r vs with
    |none=>rw[ha,hb] at ht;cases ht
    |some l=>
     rw[ha,hb] at ht;cases ht
     obtain⟨a1,a2⟩:=ashX_ok h1 ha
     obtain⟨b1,b2⟩:=ashsX_ok h2 hb
     refine⟨fun u hu=>(List.mem_append.1 hu).elim (a1 u) (b1 u),?_⟩
     rw[List.map_append];exact a2 b2
theorem rshX_ok {r:Rsh}{v:V}{x:Value}{ts:List X}(h:VR E v x)(ht:rshX r v=some ts):(∀ t∈ts,t.ok E)∧ResR E.fz r x (ts.map (X.c E)):=by
 cases r with
 |one s=>
  obtain⟨a1,a2⟩:=ashX_ok h ht
  refine⟨a1,?_⟩
  have:=a2 .nil
  rw[List.append_nil] at this
  exact this
 |tup l=>
  cases h<;>simp only[rshX] at ht<;>first|(cases ht;done)|skip
  rename_i vs xs h1
  obtain⟨a1,a2⟩:=ashsX_ok h1 ht
  exact⟨a1,xs,rfl,a2⟩
def lookX (t:X):List (X×Bool)→Option Bool
 |[]=>none
 |(u,b)::r=>cond (t.beq u) (some b) (lookX t r)
theorem lookX_mem {t:X}{b:Bool}:∀ {D:List (X×Bool)},lookX t D=some b→(t,b)∈D
 |[],h=>by cases h
 |(u,c)::r,h=>by
  simp only[lookX] at h
  cases hb:t.beq u with
  |true=>rw[hb] at h;cases h;rw[X.beq_eq hb];exact List.mem_cons_self ..
  |false=>rw[hb] at h;exact List.mem_cons_of_mem _ (lookX_mem h)
inductive Cs where
 |le (c:Int)
 |ge (c:Int)
 |eq (c:Int)
 |ne (c:Int)
def satB:Cs→Int→Bool
 |.le c,m=>decide (m≤c)
 |.ge c,m=>decide (c≤m)
 |.eq c,m=>decide (m=c)
 |.ne c,m=>!decide (m=c)
def csOf (op:BinOp)(n:Int)(b:Bool):Option Cs:=
 match op with
 |.lss=>some (cond b (.le (subF n 1)) (.ge n))
 |.leq=>some (cond b (.le n) (.ge (addF n 1)))
 |.gtr=>some (cond b (.ge (addF n 1)) (.le n))
 |.geq=>some (cond b (.ge n) (.le (subF n 1)))
 |.eql=>some (cond b (.eq n) (.ne n))
 |.neq=>some (cond b (.ne n) (.eq n))
 |_=>none
def leF (a b:Int):Bool:=!ltF b a
def subC:Cs→Cs→Bool
 |.le a,.le b=>leF a b
 |.ge a,.ge b=>leF b a
 |.eq a,.le b=>leF a b
 |.eq a,.ge b=>leF b a
 |.eq a,.eq b=>eqF a b
 |.eq a,.ne b=>!eqF a b
 |.le a,.ne b=>ltF a b
 |.ge a,.ne b=>ltF b a
 |.ne a,.ne b=>eqF a b
 |_,_=>false
def compC:Cs→Cs
 |.le c=>.ge (addF c 1)
 |.ge c=>.le (subF c 1)
 |.eq c=>.ne c
 |.ne c=>.eq c
theorem ltF_iff (a b:Int):ltF a b=decide (a<b):=ltF_eq a b
theorem eqF_iff (a b:Int):eqF a b=decide (a=b):=by rw[eqF_eq,Bool.eq_iff_iff];simp
theorem leF_iff (a b:Int):leF a b=decide (a≤b):=by
 rw[leF,ltF_iff,Bool.eq_iff_iff];simp
theorem subC_ok {a b:Cs}(h:subC a b=true){m:Int}(hm:satB a m=true):satB b m=true:=by
 cases a<;>cases b<;>simp only[subC,leF_iff,ltF_iff,eqF_iff,decide_eq_true_eq,Bool.not_eq_true',decide_eq_false_iff_not] at h <;>
  first|(cases h;done)|(simp only[satB,decide_eq_true_eq,Bool.not_eq_true',decide_eq_false_iff_not] at hm ⊢;omega)
theorem compC_ok {a:Cs}{m:Int}(hm:satB (compC a) m=true):satB a m=false:=by
 cases a<;>simp only[compC,satB,addF_eq,subF_eq,decide_eq_true_eq,Bool.not_eq_true',decide_eq_false_iff_not,Bool.not_eq_false'] at hm ⊢ <;> omega
theorem csOf_ok {op:BinOp}{n:Int}{b:Bool}{C:Cs}(h:csOf op n b=some C)(k:IntKind)(m:Int):intD op k m n=.bool (satB C m==b):=by
 cases op<;>simp only[csOf] at h<;>first|(cases h;done)|skip
 all_goals
  cases b<;>simp only[cond_true,cond_false,Option.some.injEq] at h<;>subst h<;>simp only[intD,satB,addF_eq,subF_eq,Cl.bool.injEq]<;>rw[Bool.eq_iff_iff]<;>simp<;>omega
def imp1:X→X→Bool→Option Bool
 |.bin op a (.int _ n),.bin op' a' (.int _ n'),b=>cond (a.beq a') (match csOf op n true,csOf op' n' b with
  |some p,some f=>cond (subC f p) (some true) (cond (subC f (compC p)) (some false) none)
  |_,_=>none) none
 |.bin .eql a (.str l n),.bin .eql a' (.str l' n'),true=>cond (a.beq a') (some (decide (sB l' n'=sB l n))) none
 |_,_,_=>none
def impl (t:X):List (X×Bool)→Option Bool
 |[]=>none
 |(u,b)::r=>(match imp1 t u b with|some c=>some c|none=>impl t r)
def decA (D:List (X×Bool))(t:X):Option Bool:=match lookX t D with|some b=>some b|none=>impl t D
def decN (D:List (X×Bool)):X→Option Bool
 |.un .not u=>cond (kdBool u.kd) (match decA D u with|some b=>some (!b)|none=>none) none
 |_=>none
def decOf (D:List (X×Bool))(t:X):Option Bool:=match decA D t with|some b=>some b|none=>decN D t
@[reducible] def dcOf (D:List (X×Bool)):Dc:=⟨decOf D⟩
def X.at1 (L:Nat)(t:X):Bool:=t.pls.all (Nat.beq L)
def decsAt (L:Nat)(D:List (X×Bool)):Bool:=D.all fun x=>x.1.at1 L
def holds (E:Env)(D:List (X×Bool)):Prop:=∀ x∈D,x.1.c E=.bool x.2
theorem decOf_nil (t:X):decOf [] t=none:=by
 simp only[decOf,decA,lookX,impl]
 cases t<;>simp only[decN]<;>first|rfl|skip
 rename_i op a
 cases op<;>simp only[decN,decA,lookX,impl]<;>first|rfl|(cases kdBool a.kd<;>rfl)
theorem imp1_ok {E:Env}{t u:X}{b c:Bool}(h:imp1 t u b=some c)(hu:u.c E=.bool b):t.c E=.bool c∧t.pls=u.pls:=by
 unfold imp1 at h
 split at h
 ·rename_i _ op a k n op' a' k' n'
  cases hb:a.beq a' with
  |false=>rw[hb] at h;cases h
  |true=>
   rw[hb] at h
   have e:=X.beq_eq hb
   subst e
   simp only[cond_true] at h
   cases h1:csOf op n true with
   |none=>rw[h1] at h;cases h
   |some p=>
    cases h2:csOf op' n' b with
    |none=>rw[h1,h2] at h;cases h
    |some f=>
     rw[h1,h2] at h
     simp only at h
     refine⟨?_,rfl⟩
     have hu':binD op' a.kd (a.c E) (.int n')=.bool b:=hu
     have key:∃ kk m,a.kd=.int kk∧a.c E=.int m:=by
      cases hk:a.kd<;>cases hc:a.c E<;>rw[hk,hc] at hu'<;>first|(exact⟨_,_,rfl,rfl⟩)|(simp[binD] at hu')
     obtain⟨kk,m,e1,e2⟩:=key
     rw[e1,e2] at hu'
     have hf:=csOf_ok h2 kk m
     have hs:satB f m=true:=by
      have:intD op' kk m n'=.bool b:=hu'
      rw[hf] at this
      simp only[Cl.bool.injEq] at this
      cases hb2:b<;>rw[hb2] at this<;>simpa using this
     show binD op a.kd (a.c E) (.int n)=_
     rw[e1,e2]
     show intD op kk m n=_
     rw[csOf_ok h1 kk m]
     cases hq:subC f p with
     |true=>rw[hq] at h;cases h;rw[subC_ok hq hs];rfl
     |false=>
      rw[hq] at h
      simp only[cond_false] at h
      cases hq2:subC f (compC p) with
      |true=>rw[hq2] at h;cases h;rw[compC_ok (subC_ok hq2 hs)];rfl
      |false=>rw[hq2] at h;cases h
 ·rename_i a l n a' l' n'
  cases hb:a.beq a' with
  |false=>rw[hb] at h;cases h
  |true=>
   rw[hb] at h
   have e:=X.beq_eq hb
   subst e
   simp only[cond_true,Option.some.injEq] at h
   subst h
   refine⟨?_,rfl⟩
   have hu':binD .eql a.kd (a.c E) (.str (sB l' n'))=.bool true:=hu
   have key:∃ s,a.kd=.str∧a.c E=.str s:=by
    cases hk:a.kd<;>cases hc:a.c E<;>rw[hk,hc] at hu'<;>first|(exact⟨_,rfl,rfl⟩)|(simp[binD] at hu')
   obtain⟨s,e1,e2⟩:=key
   rw[e1,e2] at hu'
   have hs:s=sB l' n':=by simpa[binD,strD] using hu'
   show binD .eql a.kd (a.c E) (.str (sB l n))=_
   rw[e1,e2,hs]
   show strD .eql _ _=_
   simp only[strD,Cl.bool.injEq]
   rw[Bool.eq_iff_iff];simp
 ·cases h
theorem impl_ok {t:X}{c:Bool}:∀ {D:List (X×Bool)},impl t D=some c→∃ u b,(u,b)∈D∧imp1 t u b=some c
 |[],h=>by cases h
 |(u,b)::r,h=>by
  simp only[impl] at h
  cases h1:imp1 t u b with
  |some c'=>rw[h1] at h;cases h;exact⟨u,b,List.mem_cons_self ..,h1⟩
  |none=>
   rw[h1] at h
   obtain⟨u',b',h2,h3⟩:=impl_ok h
   exact⟨u',b',List.mem_cons_of_mem _ h2,h3⟩
theorem imp1_pls {t u:X}{b c:Bool}(h:imp1 t u b=some c):t.pls=u.pls:=by
 unfold imp1 at h
 split at h
 ·rename_i _ op a k n op' a' k' n'
  cases hb:a.beq a' with
  |false=>rw[hb] at h;cases h
  |true=>have e:=X.beq_eq hb;subst e;rfl
 ·rename_i a l n a' l' n'
  cases hb:a.beq a' with
  |false=>rw[hb] at h;cases h
  |true=>have e:=X.beq_eq hb;subst e;rfl
 ·cases h
theorem decA_ok {E:Env}{D:List (X×Bool)}{t:X}{b:Bool}(h:decA D t=some b)(hh:holds E D):t.c E=.bool b:=by
 unfold decA at h
 cases hl:lookX t D with
 |some c=>rw[hl] at h;cases h;exact hh _ (lookX_mem hl)
 |none=>
  rw[hl] at h
  obtain⟨u,c,h1,h2⟩:=impl_ok h
  exact (imp1_ok h2 (hh _ h1)).1
theorem decA_at {L:Nat}{D:List (X×Bool)}{t:X}{b:Bool}(h:decA D t=some b)(hd:decsAt L D=true):t.at1 L=true:=by
 unfold decA at h
 cases hl:lookX t D with
 |some c=>rw[hl] at h;cases h;exact List.all_eq_true.1 hd _ (lookX_mem hl)
 |none=>
  rw[hl] at h
  obtain⟨u,c,h1,h2⟩:=impl_ok h
  have:=List.all_eq_true.1 hd _ h1
  unfold X.at1 at this ⊢
  rw[imp1_pls h2];exact this
theorem unNot_c {E:Env}{u:X}{b:Bool}(hk:u.kd=.bool)(h:u.c E=.bool b):(X.un .not u).c E=.bool (!b):=by
 show unD .not u.kd (u.c E)=_
 rw[hk,h];rfl
theorem decOf_ok {E:Env}{D:List (X×Bool)}{t:X}{b:Bool}(h:decOf D t=some b)(hh:holds E D):t.c E=.bool b:=by
 unfold decOf at h
 cases ha:decA D t with
 |some c=>rw[ha] at h;cases h;exact decA_ok ha hh
 |none=>
  rw[ha] at h
  simp only at h
  unfold decN at h
  split at h
  ·rename_i u
   cases hk:kdBool u.kd with
   |false=>rw[hk] at h;cases h
   |true=>
    rw[hk] at h
    simp only[cond_true] at h
    cases hu:decA D u with
    |none=>rw[hu] at h;cases h
    |some c=>
     rw[hu] at h;cases h
     exact unNot_c (kdBool_eq hk) (decA_ok hu hh)
  ·cases h
theorem decOf_at {L:Nat}{D:List (X×Bool)}{t:X}{b:Bool}(h:decOf D t=some b)(hd:decsAt L D=true):t.at1 L=true:=by
 unfold decOf at h
 cases ha:decA D t with
 |some c=>rw[ha] at h;cases h;exact decA_at ha hd
 |none=>
  rw[ha] at h
  simp only at h
  unfold decN at h
  split at h
  ·rename_i u
   cases hk:kdBool u.kd with
   |false=>rw[hk] at h;cases h
   |true=>
    rw[hk] at h
    simp only[cond_true] at h
    cases hu:decA D u with
    |none=>rw[hu] at h;cases h
    |some c=>exact decA_at (t:=u) hu hd
  ·cases h
def stEnv (P:Program)(g:Gh):Env:=fun l=>if l<P.globals.size then some ⟨l,0,0,undef,noOb,[]⟩ else if l=P.globals.size then some ⟨0,0,0,undef,g,[]⟩ else none
def stBs (P:Program)(w:World)(g:Gh):Bs:=⟨w,fun b=>b<w.heap.size,fun _ h=>h,stEnv P g⟩
theorem stEnv_at {P:Program}{g:Gh}:stEnv P g P.globals.size=some ⟨0,0,0,undef,g,[]⟩:=by unfold stEnv;rw[if_neg (by omega),if_pos rfl]
theorem stEnv_fz {P:Program}{g:Gh}{b o:Nat}{v:Value}:(stEnv P g).fz b o v↔g.fz b o=some v:=by
 constructor
 ·rintro⟨l,p,hp,hv⟩
  unfold stEnv at hp
  split at hp
  ·cases hp;cases hv
  ·split at hp
   ·cases hp;exact hv
   ·cases hp
 ·intro h;exact⟨_,_,stEnv_at,h⟩
theorem WR.startX {P:Program}{w:World}{g:Gh}{nx:Nat}(hsz:P.globals.size≤w.heap.size)(h0:0<w.heap.size)(hnx:P.globals.size<nx)(hfz:∀ b o v,g.fz b o=some v→w.cell? ⟨b,o,none⟩=some v)
  (hdc:∀ t b,Dc.dec t=some b→t.ok (stEnv P g)∧t.c (stEnv P g)=.bool b):WR (stBs P w g) (stEnv P g) .e nx w:=by
 refine⟨fun l p _=>trivial,fun l hl=>⟨?_,rfl⟩,fun l l' p p' _ _ _ _=>.inl (.inl rfl),fun l h=>absurd rfl h,fun l p hp=>⟨?_,.inl rfl⟩,fun _ _=>rfl,Nat.le_refl _,rfl,rfl,rfl,Env.le.refl _,fun l p hp b o v hf=>⟨hfz b o v (stEnv_fz.1 ⟨l,p,hp,hf⟩),fun _ _ _ _=>.inl rfl⟩,hdc,fun l p hl b o v hf _=>⟨l,p,hl,hf⟩⟩
 ·unfold stEnv;rw[if_neg (by omega),if_neg (by omega)]
 ·unfold stEnv at hp
  split at hp
  ·cases hp;show l<_;omega
  ·split at hp
   ·cases hp;exact h0
   ·cases hp
open Classical in
noncomputable def fzF (F:Nat→Nat→Value→Prop):Nat→Nat→Option Value:=fun b o=>if h:∃ v,F b o v then some (Classical.choose h) else none
theorem fzF_spec {F:Nat→Nat→Value→Prop}{b o:Nat}{v:Value}(h:fzF F b o=some v):F b o v:=by
 unfold fzF at h
 split at h
 ·rename_i hh;cases h;exact Classical.choose_spec hh
 ·cases h
theorem fzF_mk {F:Nat→Nat→Value→Prop}(hu:∀ b o v v',F b o v→F b o v'→v=v'){b o:Nat}{v:Value}(h:F b o v):fzF F b o=some v:=by
 unfold fzF
 rw[dif_pos ⟨v,h⟩]
 congr 1
 exact hu b o _ _ (Classical.choose_spec (⟨v,h⟩:∃ v,F b o v)) h
end
section
variable [Tb]{P:Program}{k:Nat}{G:World→Prop}
def ghOf (φ:Nat→Nat→Option Value)(cls:List Cl)(fn:Nat→List Cl→Cl):Gh:=⟨.deferred none,fun _ _ _=>True,φ,fun i=>cls.getD i .no,fn⟩
end
end Go.Exo

namespace Go.Exo
set_option linter.unusedSectionVars false
structure DatE (E:Env)(L:Nat)(vl:Nat→Cl)(fn:Nat→List Cl→Cl):Prop where
 ex:∃ p,E L=some p∧p.ob.vl=vl∧p.ob.fn=fn
theorem DatE.var {E:Env}{L:Nat}{vl:Nat→Cl}{fn:Nat→List Cl→Cl}(h:DatE E L vl fn)(i:Nat)(k:Kd):(X.var L i k).den E=[vl i]:=by
 obtain⟨p,h1,h2,_⟩:=h.ex
 simp only[X.den,h1,h2]
theorem DatE.app {E:Env}{L:Nat}{vl:Nat→Cl}{fn:Nat→List Cl→Cl}(h:DatE E L vl fn)(f:Nat)(a:X)(k:Kd):(X.app L f a k).den E=[fn f (a.den E)]:=by
 obtain⟨p,h1,_,h3⟩:=h.ex
 simp only[X.den,h1,h3]
variable [Sx] [Tb]{P:Program}{k:Nat}{G:World→Prop}
def ashV (L:Nat)(ts:X):Ash→Nat→V
 |.one k,i=>.x (.app L i ts k)
 |.agg ks,i=>.agg (go ks i)
where go:List Kd→Nat→List V
 |[],_=>[]
 |k::r,i=>.x (.app L i ts k)::go r (i+1)
def ashsV (L:Nat)(ts:X):List Ash→Nat→List V
 |[],_=>[]
 |s::r,i=>ashV L ts s i::ashsV L ts r (i+s.ks.length)
def rshV (L:Nat)(ts:X)(r:Rsh)(i:Nat):V:=
 match r with
 |.one s=>ashV L ts s i
 |.tup l=>.tup (ashsV L ts l i)
def hkSpec (L f:Nat)(shs:List Ash)(rsh:Rsh)(fi:Nat):Hook:=fun g args H nx=>
 cond (Nat.beq g f) (match ashsX shs args with|some ts=>some (rshV L (X.ofL ts) rsh fi,H,Nat.succ nx)|none=>none) none
def hkSpecP [Dc](L f:Nat)(shs:List Ash)(rsh:Rsh)(fi pi:Nat):Hook:=fun g args H nx=>
 cond (Nat.beq g f) (match ashsX shs args with|some ts=>(match Dc.dec (.app L pi (X.ofL ts) .bool) with|some true=>some (rshV L (X.ofL ts) rsh fi,H,Nat.succ nx)|_=>none)|none=>none) none
section
variable [Dc]{w0:Bs}{E:Env}{H:T AObj}{nx:Nat}{w:World}
theorem WR.chunk (h:WR w0 E H nx w)(hw:0<w.heap.size){φ:Nat→Nat→Option Value}(hv:∀ b o v,φ b o=some v→w.cell? ⟨b,o,none⟩=some v)
  (hn:∀ b o v,φ b o=some v→E.fz b o v∨((∀ l p,E l=some p→p.blk≠b)∧¬ w0.old b)) :
  WR w0 (E.set nx ⟨0,0,0,undef,{ noOb with fz:=φ },[]⟩) H (nx+1) w:=by
 have hno:=h.fresh nx (Nat.le_refl _)
 have hle:E.le (E.set nx ⟨0,0,0,undef,{ noOb with fz:=φ },[]⟩):=Env.le_set _ hno.1
 have hE:∀ l p,(E.set nx ⟨0,0,0,undef,{ noOb with fz:=φ },[]⟩) l=some p→(l=nx∧p=⟨0,0,0,undef,{ noOb with fz:=φ },[]⟩)∨(l≠nx∧E l=some p):=by
  intro l p hl
  by_cases e:l=nx
  ·subst e;rw[Env.set_self] at hl;cases hl;exact .inl ⟨rfl,rfl⟩
  ·rw[Env.set_other _ _ _ _ e] at hl;exact .inr ⟨e,hl⟩
 refine⟨fun l p hl=>?_,fun l hl=>?_,fun l l' p p' hne hl hl' hb=>?_,fun l hl=>?_,fun l p hl=>?_,h.old,h.size,h.os,h.output,h.tape,h.le.trans hle,fun l p hl b o v hf=>?_,h.dec,fun l p hl b o v hf ho=>?_⟩
 ·rcases hE l p hl with⟨rfl,rfl⟩|⟨_,hl⟩
  ·rw[hno.2];trivial
  ·exact (h.objs l p hl).trans hle fun _ ho=>ho
 ·have:=h.fresh l (by omega)
  exact⟨by rw[Env.set_other _ _ _ _ (by omega)];exact this.1,this.2⟩
 ·rcases hE l p hl with⟨rfl,rfl⟩|⟨_,hl⟩
  ·exact .inl (.inl hno.2)
  ·rcases hE l' p' hl' with⟨rfl,rfl⟩|⟨_,hl'⟩
   ·exact .inl (.inr (.inl hno.2))
   ·exact h.sep l l' p p' hne hl hl' hb
 ·obtain⟨a,b,m,h1,h2,h3⟩:=h.cls l hl
  exact⟨a,b,m,h1,h2,by rw[Env.set_other _ _ _ _ (fun e=>by rw[e,hno.2] at h1;cases h1)];exact h3⟩
 ·rcases hE l p hl with⟨rfl,rfl⟩|⟨_,hl⟩
  ·exact⟨hw,.inl hno.2⟩
  ·exact h.own l p hl
 ·rcases hE l p hl with⟨rfl,rfl⟩|⟨_,hl⟩
  ·refine⟨hv b o v hf,fun l' p' hl' hb'=>?_⟩
   rcases hE l' p' hl' with⟨rfl,rfl⟩|⟨_,hl'⟩
   ·rw[hno.2];exact .inl rfl
   ·rcases hn b o v hf with⟨l2,p2,h2,h3⟩|⟨h2,_⟩
    ·exact (h.dat l2 p2 h2 b o v h3).2 l' p' hl' hb'
    ·exact absurd hb' (h2 l' p' hl')
  ·obtain⟨h1,h2⟩:=h.dat l p hl b o v hf
   refine⟨h1,fun l' p' hl' hb'=>?_⟩
   rcases hE l' p' hl' with⟨rfl,rfl⟩|⟨_,hl'⟩
   ·rw[hno.2];exact .inl rfl
   ·exact h2 l' p' hl' hb'
 ·rcases hE l p hl with⟨rfl,rfl⟩|⟨_,hl⟩
  ·rcases hn b o v hf with⟨l2,p2,h2,h3⟩|⟨_,h2⟩
   ·exact h.fzo l2 p2 h2 b o v h3 ho
   ·exact absurd ho h2
  ·exact h.fzo l p hl b o v hf ho
theorem ashV_go {L:Nat}{ts:X}{p:Pl}(hp:E L=some p)(hts:ts.ok E):∀ {ks:List Kd}{xs:List Value}{cs:List Cl}(i:Nat),CRs E.fz ks xs cs→(∀ (j:Nat) c,cs[j]? = some c→p.ob.fn (i+j) (ts.den E)=c)→VRs E (ashV.go L ts ks i) xs
 |[],_,_,_,h,_=>by cases h;exact .nil
 |k::ks,_,_,i,h,hv=>by
  cases h with
  |cons h1 h2=>
   refine .cons _ _ _ _ (.x _ _ ⟨⟨p,hp⟩,hts⟩ ?_) (ashV_go hp hts (i+1) h2 fun j c hc=>by rw[← hv (j+1) c (by simpa using hc)];congr 1;omega)
   show CR E.fz k _ (Cl.hd [match E L with|some p=>p.ob.fn i (ts.den E)|none=>.no])
   rw[hp]
   have:=hv 0 _ rfl
   simp only[Nat.add_zero] at this
   simp only[Cl.hd,this];exact h1
theorem ashsV_ok {L:Nat}{ts:X}{p:Pl}(hp:E L=some p)(hts:ts.ok E):∀ {shs:List Ash}{xs:List Value}{cs:List Cl}(i:Nat),ArgR E.fz shs xs cs→(∀ (j:Nat) c,cs[j]? = some c→p.ob.fn (i+j) (ts.den E)=c)→VRs E (ashsV L ts shs i) xs
 |[],_,_,_,h,_=>by cases h;exact .nil
 |.one k::r,_,_,i,h,hv=>by
  cases h with
  |one h1 h2=>
   refine .cons _ _ _ _ (.x _ _ ⟨⟨p,hp⟩,hts⟩ ?_) (ashsV_ok hp hts (i+1) h2 fun j c hc=>by rw[← hv (j+1) c (by simpa using hc)];congr 1;omega)
   show CR E.fz k _ (Cl.hd [match E L with|some p=>p.ob.fn i (ts.den E)|none=>.no])
   rw[hp]
   have:=hv 0 _ rfl
   simp only[Nat.add_zero] at this
   simp only[Cl.hd,this];exact h1
 |.agg ks::r,_,_,i,h,hv=>by
  cases h with
  |@agg _ xs ds _ vs cs h1 h2=>
   have hlen:ks.length=ds.length:=h1.wt.length
   refine .cons _ _ _ _ (.agg _ _ (ashV_go hp hts i h1 fun j c hc=>hv j c (by rw[List.getElem?_append_left (List.getElem?_eq_some_iff.1 hc).1];exact hc))) (ashsV_ok hp hts (i+ks.length) h2 fun j c hc=>?_)
   rw[Nat.add_assoc]
   refine hv (ks.length+j) c ?_
   rw[hlen,List.getElem?_append_right (by omega),Nat.add_sub_cancel_left];exact hc
theorem rshV_ok {L:Nat}{ts:X}{p:Pl}(hp:E L=some p)(hts:ts.ok E){rsh:Rsh}{x:Value}{cs:List Cl}(i:Nat)(h:ResR E.fz rsh x cs)(hv:∀ (j:Nat) c,cs[j]? = some c→p.ob.fn (i+j) (ts.den E)=c):VR E (rshV L ts rsh i) x:=by
 cases rsh with
 |one s=>
  have:=ashsV_ok hp hts (shs:=[s]) i h hv
  cases this with
  |cons _ _ _ _ h1 _=>exact h1
 |tup l=>
  obtain⟨xs,rfl,h1⟩:=h
  exact .tup _ _ (ashsV_ok hp hts i h1 hv)
theorem spec_hook {L f fi:Nat}{fn:Nat→List Cl→Cl}{shs:List Ash}{rsh:Rsh}{Pre:List Cl→Prop}{F:List Cl→List Cl}(hS:Spec P G f shs rsh Pre F)(hfn:∀ cls (j:Nat) c,(F cls)[j]? = some c→fn (fi+j) cls=c)(hG:Gd0 k G)(hk0:0<k)
  (hgb:GB k G w0)(htb:Tb.tab=some (L,fn))(h:WR w0 E H nx w){args:List V}{xs:List Value}(hxs:VRs E args xs){ts:List X}(hts:ashsX shs args=some ts)(hpre:Pre (ts.map (X.c E))) :
  Calls P f xs.toArray w (HookPost w0 E H nx (rshV L (X.ofL ts) rsh fi) H (nx+1)):=by
 obtain⟨t1,t2⟩:=ashsX_ok hxs hts
 have hcell:∀ b o v,E.fz b o v→w.cell? ⟨b,o,none⟩=some v:=fun b o v ⟨l,p,hp,hv⟩=>(h.dat l p hp b o v hv).1
 have hu:∀ b o v v',E.fz b o v→E.fz b o v'→v=v':=fun b o v v' a b'=>by
  have e1:=hcell _ _ _ a
  rw[hcell _ _ _ b'] at e1
  cases e1;rfl
 have hsz:=hG.size w (hgb.at hG h)
 refine (hS w (fzF E.fz) xs (ts.map (X.c E)) (hgb.at hG h) (fun b o v hv=>hcell b o v (fzF_spec hv)) (t2.mono fun b o v hv=>fzF_mk hu hv) hpre).mono fun e w' ⟨x,φ',he,h1,h2,h3,h4,h5⟩=>?_
 obtain⟨p,hp,hpf⟩:=(hgb.2.2.mono h.le) L fn htb
 have hno:=h.fresh nx (Nat.le_refl _)
 have hle:E.le (E.set nx ⟨0,0,0,undef,{ noOb with fz:=φ' },[]⟩):=Env.le_set _ hno.1
 have hwr:=(h.grow h4).chunk (by have:=h4.size;omega) h2 (fun b o v hv=>by
  by_cases hb:b<w.heap.size
  ·exact .inl (fzF_spec (h3 b o v hv hb))
  ·exact .inr ⟨fun l p hp e=>by have:=(h.own l p hp).1;omega,fun ho=>by have:=h.lt_old ho;omega⟩)
 have hokL:(X.ofL ts).ok E:=X.ok_ofL.2 t1
 refine .ret ⟨x,_,he,hle,?_,hwr,Nat.le_succ _,fun l hl hEl hc=>⟨by rw[Env.set_other _ _ _ _ (by omega)];exact hEl,rfl⟩⟩
 have hfz:∀ b o v,φ' b o=some v→(E.set nx ⟨0,0,0,undef,{ noOb with fz:=φ' },[]⟩).fz b o v:=fun b o v hv=>⟨nx,_,Env.set_self _ _ _,hv⟩
 have h5':ResR (E.set nx ⟨0,0,0,undef,{ noOb with fz:=φ' },[]⟩).fz rsh x (F (ts.map (X.c E))):=by
  cases rsh with
  |one s=>exact ArgR.mono hfz h5
  |tup l=>obtain⟨xs,g1,g2⟩:=h5;exact⟨xs,g1,g2.mono hfz⟩
 refine rshV_ok (hle _ _ hp) (X.ok_mono hle hokL) fi h5' fun j c hc=>?_
 rw[hpf,X.den_mono hle hokL,X.den_ofL]
 exact hfn _ j c hc
end
theorem Hooks.spec {L f fi:Nat}{fn:Nat→List Cl→Cl}{shs:List Ash}{rsh:Rsh}{F:List Cl→List Cl}(hS:Spec P G f shs rsh (fun _=>True) F)(hfn:∀ cls (j:Nat) c,(F cls)[j]? = some c→fn (fi+j) cls=c)(hG:Gd0 k G)(hk0:0<k)
  (htb:Tb.tab=some (L,fn))(D:List (X×Bool)) : @Hooks _ (dcOf D) _ P k G (hkSpec L f shs rsh fi):=by
 letI:=dcOf D
 intro w0 hw0 E H nx w g args xs v H' nx' hwr hgl hxs hh
 unfold hkSpec at hh
 cases hb:Nat.beq g f with
 |false=>rw[hb] at hh;cases hh
 |true=>
  rw[hb] at hh
  have e:=Nat.eq_of_beq_eq_true hb
  subst e
  simp only[cond_true] at hh
  cases hts:ashsX shs args with
  |none=>rw[hts] at hh;cases hh
  |some ts=>
   rw[hts] at hh
   simp only[Option.some.injEq,Prod.mk.injEq] at hh
   obtain⟨rfl,rfl,rfl⟩:=hh
   exact spec_hook hS hfn hG hk0 hw0 htb hwr hxs hts trivial
theorem Hooks.specP {L f fi pi:Nat}{fn:Nat→List Cl→Cl}{shs:List Ash}{rsh:Rsh}{Pre:List Cl→Prop}{F:List Cl→List Cl}(hS:Spec P G f shs rsh Pre F)(hfn:∀ cls (j:Nat) c,(F cls)[j]? = some c→fn (fi+j) cls=c)(hpi:∀ cls,fn pi cls=.bool true→Pre cls)(hG:Gd0 k G)(hk0:0<k)
  (htb:Tb.tab=some (L,fn))(D:List (X×Bool)) : @Hooks _ (dcOf D) _ P k G (@hkSpecP (dcOf D) L f shs rsh fi pi):=by
 letI:=dcOf D
 intro w0 hw0 E H nx w g args xs v H' nx' hwr hgl hxs hh
 unfold hkSpecP at hh
 cases hb:Nat.beq g f with
 |false=>rw[hb] at hh;cases hh
 |true=>
  rw[hb] at hh
  have e:=Nat.eq_of_beq_eq_true hb
  subst e
  simp only[cond_true] at hh
  cases hts:ashsX shs args with
  |none=>rw[hts] at hh;cases hh
  |some ts=>
   rw[hts] at hh
   simp only at hh
   cases hd:Dc.dec (.app L pi (X.ofL ts) .bool) with
   |none=>rw[hd] at hh;cases hh
   |some b=>
    cases b with
    |false=>rw[hd] at hh;cases hh
    |true=>
     rw[hd] at hh
     simp only[Option.some.injEq,Prod.mk.injEq] at hh
     obtain⟨rfl,rfl,rfl⟩:=hh
     refine spec_hook hS hfn hG hk0 hw0 htb hwr hxs hts (hpi _ ?_)
     obtain⟨_,h2⟩:=hwr.decE _ _ hd
     obtain⟨p,hp,hpf⟩:=(hw0.2.2.mono hwr.le) L fn htb
     simp only[X.den,hp,Cl.hd,X.den_ofL] at h2
     rw[← hpf];exact h2
end Go.Exo

namespace Go.Exo
set_option linter.unusedSectionVars false
variable [Sx] [Dc] [Tb]
section
variable {P:Program}{w0:Bs}{E:Env}{H:T AObj}{nx:Nat}{w:World}
def rowsX (e:TypeId)(esz:Nat):Nat→List V→X→Option X
 |0,_,t=>some t
 |n+1,vs,t=>(match rowX (Sx.row e) (vs.take esz) with|some a=>rowsX e esz n (vs.drop esz) (.snoc t a)|none=>none)
theorem rowsX_ok {e:TypeId}:∀ {n:Nat}{vs:List V}{xs:List Value}{t u:X}{rows0:List (List Cl)},VRs E vs xs→vs.length=n*(Sx.row e).length→t.ok E→t.kd=.sl e→(∃ nl,Cl.hd (t.den E)=.sl nl rows0)→rowsX e (Sx.row e).length n vs t=some u→
  u.ok E∧u.kd=.sl e∧∃ rows,rows.length=n∧(∃ nl,Cl.hd (u.den E)=.sl nl (rows0++rows)∧(0<n→nl=false))∧(∀ (i:Nat) r,rows[i]? = some r→r.length=(Sx.row e).length)∧
   ∀ (i:Nat)(r:List Cl)(j:Nat)(c:Cl)(k:Kd),rows[i]? = some r→r[j]? = some c→(Sx.row e)[j]? = some k→∃ x,xs[i*(Sx.row e).length+j]? = some x∧CR E.fz k x c
 |0,vs,xs,t,u,rows0,_,_,h3,h4,h5,h6=>by
  simp only[rowsX,Option.some.injEq] at h6;subst h6
  obtain⟨nl,h5⟩:=h5
  exact⟨h3,h4,[],rfl,⟨nl,by simpa using h5,fun h=>by omega⟩,fun i r h=>by simp at h,fun i r j c k h=>by simp at h⟩
 |n+1,vs,xs,t,u,rows0,h1,h2,h3,h4,h5,h6=>by
  simp only[rowsX] at h6
  cases hr:rowX (Sx.row e) (vs.take (Sx.row e).length) with
  |none=>rw[hr] at h6;cases h6
  |some a=>
   rw[hr] at h6;simp only at h6
   obtain⟨a1,a2,a3,a4⟩:=rowX_ok (h1.take (Sx.row e).length) hr
   obtain⟨nl,h5⟩:=h5
   have hs:∃ nl,Cl.hd ((X.snoc t a).den E)=.sl nl (rows0++[a.den E]):=⟨false,by show snocD (Cl.hd (t.den E)) (a.den E)=_;rw[h5];rfl⟩
   rw[Nat.add_mul,Nat.one_mul] at h2
   obtain⟨g1,g2,rows,g3,⟨nl2,g4,g5⟩,g6,g7⟩:=rowsX_ok (n:=n) (t:=.snoc t a) (u:=u) (rows0:=rows0++[a.den E]) (h1.drop (Sx.row e).length) (by rw[List.length_drop,h2];omega) ⟨h3,a1⟩ h4 hs h6
   have hxl:xs.length=n*(Sx.row e).length+(Sx.row e).length:=by rw[← h1.length,h2]
   refine⟨g1,g2,a.den E::rows,by simp[g3],⟨nl2,by rw[g4];simp,fun _=>?_⟩,fun i r hi=>?_,fun i r j c k hi hc hk=>?_⟩
   ·cases n with
    |zero=>
     simp only[rowsX,Option.some.injEq] at h6
     subst h6
     have:Cl.hd ((X.snoc t a).den E)=.sl false (rows0++[a.den E]):=by show snocD (Cl.hd (t.den E)) (a.den E)=_;rw[h5];rfl
     rw[this] at g4;simp only[Cl.sl.injEq] at g4;exact g4.1.symm
    |succ n=>exact g5 (by omega)
   ·cases i with
    |zero=>simp at hi;subst hi;exact a2
    |succ i=>exact g6 i r (by simpa using hi)
   ·have hj:j<(Sx.row e).length:=(List.getElem?_eq_some_iff.1 hk).1
    cases i with
    |zero=>
     simp at hi;subst hi
     have hjx:j<(xs.take (Sx.row e).length).length:=by omega
     refine⟨_,?_,a4 j _ c k (List.getElem?_eq_getElem hjx) hc hk⟩
     rw[Nat.zero_mul,Nat.zero_add,← List.getElem?_eq_getElem hjx,List.getElem?_take,if_pos hj]
    |succ i=>
     obtain⟨x,hx,hcr⟩:=g7 i r j c k (by simpa using hi) hc hk
     refine⟨x,?_,hcr⟩
     rw[List.getElem?_drop] at hx
     rw[← hx];congr 1
     rw[Nat.add_mul];omega
noncomputable def frzV (v:V)(H:T AObj)(nx:Nat):Option (V×T AObj):=
 match v with
 |.slice l 0 n (some cp) esz=>(match getH H l with
  |.cells vs len e 0 _ 0 false=>cond (Nat.ble 1 n&&Nat.beq esz (Sx.row e).length&&Nat.ble (Nat.mul n esz) len&&Nat.ble cp 9223372036854775807) (match rowsX e esz n (vs.range .bad (Nat.mul n esz) 0) (.nil e) with
   |some t=>some (.lst nx t,put .no (put .no H l .no) nx (.own e))
   |none=>none) none
  |_=>none)
 |_=>none
theorem frzV_ok (h:WR w0 E H nx w){v:V}{x:Value}(hv:VR E v x){v':V}{H':T AObj}(hf:frzV v H nx=some (v',H')):∃ E',E.le E'∧VR E' v' x∧WR w0 E' H' (nx+1) w:=by
 unfold frzV at hf
 split at hf
 case h_2=>cases hf
 rename_i l n cp esz
 split at hf
 case h_2=>cases hf
 rename_i vs len e rel hobj
 generalize hb:(Nat.ble 1 n&&Nat.beq esz (Sx.row e).length&&Nat.ble (Nat.mul n esz) len&&Nat.ble cp 9223372036854775807)=bb at hf
 cases bb with
 |false=>cases hf
 |true=>
 simp only[Bool.and_eq_true] at hb
 obtain⟨⟨⟨b1,b2⟩,b3⟩,b4⟩:=hb
 have q1:=Nat.le_of_ble_eq_true b1
 have q2:=Nat.eq_of_beq_eq_true b2
 have q3:n*esz≤len:=Nat.le_of_ble_eq_true b3
 subst q2
 simp only[cond_true] at hf
 cases hr:rowsX e (Sx.row e).length n (vs.range .bad (Nat.mul n (Sx.row e).length) 0) (.nil e) with
 |none=>rw[hr] at hf;cases hf
 |some t=>
 rw[hr] at hf
 simp only[Option.some.injEq,Prod.mk.injEq] at hf
 obtain⟨rfl,rfl⟩:=hf
 cases hv with
 |slice _ _ _ _ _ p c hp c1 c2 c3=>
 have ho:=h.objs l p hp
 rw[hobj] at ho
 obtain⟨cc,fr,h1,h2,h3,h4,h5⟩:=ho
 have hwr:=h.freeze hp hobj (m:=n*(Sx.row e).length) q3
 have hno:=h.fresh nx (Nat.le_refl _)
 have hle:E.le (E.set nx (frzPl w p (n*(Sx.row e).length))):=Env.le_set _ hno.1
 refine⟨_,hle,?_,hwr⟩
 let xs:List Value:=(cc.toList.drop p.base).take (n*(Sx.row e).length)
 have hxl:xs.length=n*(Sx.row e).length:=by simp only[xs,List.length_take,List.length_drop,Array.length_toList];omega
 have hxg:∀ j,j<n*(Sx.row e).length→xs[j]? = cc[p.base+j]? := fun j hj=>by
  simp only[xs];rw[List.getElem?_take,if_pos hj,List.getElem?_drop,Array.getElem?_toList]
 have hvs:VRs E (vs.range .bad (Nat.mul n (Sx.row e).length) 0) xs:=VRs.of_get (by rw[range_length,hxl];rfl) fun i v hv=>by
  have hi:i<n*(Sx.row e).length:=by have:=(List.getElem?_eq_some_iff.1 hv).1;rw[range_length] at this;exact this
  have hv':some (vs.get .bad (0+i))=some v:=(range_get V.bad vs (n*(Sx.row e).length) 0 i hi).symm.trans hv
  rw[Nat.zero_add] at hv'
  cases hv'
  obtain⟨x,hx,hvr⟩:=h5 i (by omega) (.inl rfl)
  exact⟨x,by rw[hxg i hi];exact hx,hvr⟩
 obtain⟨g1,g2,rows,g3,⟨nl,g4,g5⟩,g6,g7⟩:=rowsX_ok (n:=n) (t:=.nil e) (rows0:=[]) hvs (by rw[range_length];rfl) trivial rfl ⟨true,rfl⟩ hr
 obtain rfl:=g5 (by omega)
 have hcm:c≤maxLen:=by rw[← c3 cp rfl];exact Nat.le_of_ble_eq_true b4
 refine VR.lst nx (frzPl w p (n*(Sx.row e).length)) t e (p.base+0) n c (Env.set_self _ _ _) (X.ok_mono hle g1) g2 ?_ (by show p.base+0+_=p.base+_;omega) (by show p.base+0+_≤p.base+n*(Sx.row e).length+(p.size-n*(Sx.row e).length);omega)
 rw[X.den_mono hle g1,g4]
 simp only[List.nil_append]
 have hfz:∀ j x,j<n*(Sx.row e).length→xs[j]? = some x→(E.set nx (frzPl w p (n*(Sx.row e).length))).fz p.blk (p.base+j) x:=fun j x hj hx=>by
  refine⟨nx,_,Env.set_self _ _ _,?_⟩
  show (if p.blk=p.blk∧p.base≤p.base+j∧p.base+j<p.base+n*(Sx.row e).length then w.cell? ⟨p.blk,p.base+j,none⟩ else none)=some x
  rw[if_pos ⟨rfl,by omega,by omega⟩]
  rw[hxg j hj] at hx
  simp[World.cell?,h1,hx]
 refine .sl e p.blk (p.base+0) n c rows (fun i j=>(xs[i*(Sx.row e).length+j]?).getD undef) g3 c1 hcm g6 (fun i r j d hi hd=>?_) (fun i r j d k hi hd hk=>?_)
 ·have hj:j<(Sx.row e).length:=by have h2:=(List.getElem?_eq_some_iff.1 hd).1;have h3:=g6 i r hi;omega
  have hin:i<n:=by have:=(List.getElem?_eq_some_iff.1 hi).1;omega
  obtain⟨x,hx,_⟩:=g7 i r j d _ hi hd (List.getElem?_eq_getElem hj)
  have hlt:i*(Sx.row e).length+j<n*(Sx.row e).length:=by have:=(List.getElem?_eq_some_iff.1 hx).1;omega
  rw[hx]
  have:=hfz _ x hlt hx
  rw[Nat.add_zero,Nat.add_assoc];exact this
 ·obtain⟨x,hx,hcr⟩:=g7 i r j d k hi hd hk
  rw[hx]
  exact hcr.mono fun _ _ _=>Env.fz_mono hle
end
end Go.Exo

namespace Go.Exo
set_option linter.unusedSectionVars false
inductive Bx where
 |cells (elem:TypeId)(cells:List V)(fz:Nat)(ro:Bool)
 |own (e:TypeId)
structure Ct where
 todo:List AItem
 sl:List V
 box:List (Option Bx)
 ks:List Kd
noncomputable def Bx.obj:Bx→AObj
 |.cells elem cs fz ro=>.cells (T.ofK .bad cs 0 .e id) cs.length elem 0 0 fz ro
 |.own e=>.own e
def Bx.ro:Bx→Bool
 |.cells _ _ _ ro=>ro
 |.own _=>false
noncomputable def objO:Option Bx→AObj
 |some b=>b.obj
 |none=>.no
noncomputable def heapB (L:Nat)(bs:List (Option Bx)):T AObj:=T.ofK .no (bs.map objO) (L+1) .e id
noncomputable def Ct.H (C:Ct)(L:Nat):T AObj:=heapB L C.box
noncomputable def Ct.tm (C:Ct):T V:=T.ofK undefV C.sl 0 .e id
def Ct.nx (C:Ct)(L:Nat):Nat:=Nat.add (Nat.succ L) C.box.length
noncomputable def Ct.ctx (C:Ct)(L f:Nat):Ctx:={ fn:=f,tm:=C.tm,sz:=C.sl.length,ds:=[],kind:=.normal,round:=none,cs:=[],H:=C.H L,nx:=C.nx L }
def plB (L:Nat)(π:List Nat)(l l':Nat):Bool:=
 cond (Nat.ble (Nat.succ l) L) (Nat.beq l l') (cond (Nat.beq l L) false (match π[Nat.sub l (Nat.succ L)]? with|some k=>Nat.beq k l'|none=>false))
mutual
def matchV (L:Nat)(π:List Nat)(σ:List X):V→V→Bool
 |.junk,_=>true
 |.x (.var l j k),v=>Nat.beq l L&&(match σ[j]? with|some t=>(match toXk k v with|some u=>u.beq t|none=>false)|none=>false)
 |.lst l (.var l2 j k),.lst l' t=>Nat.ble (Nat.succ L) l&&plB L π l l'&&Nat.beq l2 L&&t.kd.beq k&&(match σ[j]? with|some u=>t.beq u|none=>false)
 |.ptr l o,.ptr l' o'=>Nat.beq o o'&&plB L π l l'
 |.slice l o n c e,.slice l' o' n' c' e'=>Nat.ble (Nat.succ L) l&&Nat.beq o o'&&Nat.beq n n'&&c==c'&&Nat.beq e e'&&plB L π l l'
 |.agg a,.agg b=>matchL L π σ a b
 |.tup a,.tup b=>matchL L π σ a b
 |.iface t v,.iface t' v'=>Nat.beq t t'&&matchV L π σ v v'
 |.func (.func f) a b,.func (.func f') a' b'=>Nat.beq f f'&&matchL L π σ a a'&&matchL L π σ b b'
 |u,v=>u.fine&&V.eqB u v
def matchL (L:Nat)(π:List Nat)(σ:List X):List V→List V→Bool
 |[],[]=>true
 |a::r,b::s=>matchV L π σ a b&&matchL L π σ r s
 |_,_=>false
end
section
variable [Sx] [Dc] [Tb]{E E':Env}
mutual
theorem matchV_ok {L:Nat}{π:List Nat}{σ:List X}(hvar:∀ j t,σ[j]? = some t→∃ p,E' L=some p∧p.ob.vl j=t.c E)(hfz:∀ b o v,E.fz b o v→E'.fz b o v)
  (hpl:∀ l l',plB L π l l'=true→∀ q,E l'=some q→∃ q',E' l=some q'∧q'.blk=q.blk∧q'.base=q.base∧(L<l→q'.size=q.size)) :
  ∀ {p v:V}{x:Value},matchV L π σ p v=true→VR E v x→VR E' p x:=by
 intro p v x h hv
 have gen:p.fine=true∧V.eqB p v=true→VR E' p x:=fun⟨h1,h2⟩=>by have e:=eqB_eq h2;subst e;exact VR.ofFine h1 hv
 cases p with
 |junk=>exact .junk x
 |x t=>
  cases t with
  |var l j k=>
   simp only[matchV,Bool.and_eq_true] at h
   obtain⟨h1,h2⟩:=h
   have e:=Nat.eq_of_beq_eq_true h1
   subst e
   cases hs:σ[j]? with
   |none=>rw[hs] at h2;cases h2
   |some t=>
    rw[hs] at h2;simp only at h2
    cases hx:toXk k v with
    |none=>rw[hx] at h2;cases h2
    |some u=>
     rw[hx] at h2;simp only at h2
     have e:=X.beq_eq h2
     subst e
     obtain⟨_,hc⟩:=toXk_ok hv hx
     obtain⟨p,hp,hpv⟩:=hvar j u hs
     refine .x _ _ ⟨p,hp⟩ ?_
     show CR E'.fz k _ (Cl.hd [match E' l with|some p=>p.ob.vl j|none=>.no])
     rw[hp]
     simp only[Cl.hd,hpv]
     exact hc.mono hfz
  |_=>simp[matchV,V.fine] at h
 |lst l u=>
  cases u with
  |var l2 j k=>
   cases v<;>first|(simp[matchV,V.fine] at h;done)|skip
   rename_i l' t
   simp only[matchV,Bool.and_eq_true] at h
   obtain⟨⟨⟨⟨h0,h1⟩,h2⟩,h3⟩,h4⟩:=h
   have hLl:=Nat.le_of_ble_eq_true h0
   have e2:=Nat.eq_of_beq_eq_true h2
   have e3:=Kd.beq_eq h3
   subst e2
   cases hs:σ[j]? with
   |none=>rw[hs] at h4;cases h4
   |some u=>
    rw[hs] at h4
    have e4:=X.beq_eq h4
    subst e4
    cases hv with
    |lst _ q _ e off len cap hq hok hkd hcr hb hc=>
     obtain⟨q',g1,g2,g3,g4⟩:=hpl _ _ h1 q hq
     obtain⟨pp,hp,hpv⟩:=hvar j t hs
     rw[← g2]
     refine .lst _ q' _ e off len cap g1 ⟨pp,hp⟩ (by rw[← hkd,← e3];rfl) ?_ (by rw[g3];exact hb) (by rw[g3,g4 hLl];exact hc)
     show CR E'.fz _ _ (Cl.hd [match E' l2 with|some p=>p.ob.vl j|none=>.no])
     rw[hp]
     simp only[Cl.hd,hpv]
     rw[g2];exact hcr.mono hfz
  |_=>cases v<;>simp[matchV,V.fine] at h
 |ptr l o=>
  cases v<;>first|(simp[matchV,V.fine] at h;done)|skip
  rename_i l' o'
  simp only[matchV,Bool.and_eq_true] at h
  have e:=Nat.eq_of_beq_eq_true h.1
  subst e
  cases hv with
  |ptr l2 off q hq=>
   obtain⟨q',g1,g2,g3,g4⟩:=hpl _ _ h.2 q hq
   rw[← g2,← g3]
   exact .ptr _ _ q' g1
 |slice l o n c e=>
  cases v<;>first|(simp[matchV,V.fine] at h;done)|skip
  rename_i l' o' n' c' e'
  simp only[matchV,Bool.and_eq_true] at h
  obtain⟨⟨⟨⟨⟨h0,h1⟩,h2⟩,h3⟩,h4⟩,h5⟩:=h
  have hLl:=Nat.le_of_ble_eq_true h0
  have e1:=Nat.eq_of_beq_eq_true h1
  have e2:=Nat.eq_of_beq_eq_true h2
  have e3:c=c':=by simpa using h3
  have e4:=Nat.eq_of_beq_eq_true h4
  subst e1 e2 e3 e4
  cases hv with
  |slice l2 off len cap esz q k hq a1 a2 a3=>
   obtain⟨q',g1,g2,g3,g4⟩:=hpl _ _ h5 q hq
   rw[← g2,← g3]
   have g4:=g4 hLl
   exact .slice _ _ _ _ _ q' k g1 a1 (by omega) a3
 |agg a=>
  cases v<;>first|(simp[matchV,V.fine] at h;done)|(exact gen (by simpa[matchV] using h))|skip
  simp only[matchV] at h
  cases hv with
  |agg cs xs hx=>exact .agg _ _ (matchL_ok hvar hfz hpl h hx)
 |tup a=>
  cases v<;>first|(simp[matchV,V.fine] at h;done)|(exact gen (by simpa[matchV] using h))|skip
  simp only[matchV] at h
  cases hv with
  |tup cs xs hx=>exact .tup _ _ (matchL_ok hvar hfz hpl h hx)
 |iface t u=>
  cases v<;>first|(simp[matchV,V.fine] at h;done)|(exact gen (by simpa[matchV] using h))|skip
  simp only[matchV,Bool.and_eq_true] at h
  have e:=Nat.eq_of_beq_eq_true h.1
  subst e
  cases hv with
  |iface t v x hx=>exact .iface _ _ _ (matchV_ok hvar hfz hpl h.2 hx)
 |func fn a b=>
  cases fn with
  |func f=>
   cases v<;>first|(simp[matchV,V.fine] at h;done)|(exact gen (by simpa[matchV] using h))|skip
   rename_i fn' a' b'
   cases fn'<;>first|(exact gen (by simpa[matchV] using h))|skip
   simp only[matchV,Bool.and_eq_true] at h
   obtain⟨⟨h1,h2⟩,h3⟩:=h
   have e:=Nat.eq_of_beq_eq_true h1
   subst e
   cases hv with
   |func _ _ _ _ fs cs hf a1 a2=>exact .func _ _ _ _ _ _ hf (matchL_ok hvar hfz hpl h2 a1) (matchL_ok hvar hfz hpl h3 a2)
  |_=>cases v<;>simp[matchV,V.fine] at h
 |_=>exact gen (by cases v<;>simpa[matchV] using h)
theorem matchL_ok {L:Nat}{π:List Nat}{σ:List X}(hvar:∀ j t,σ[j]? = some t→∃ p,E' L=some p∧p.ob.vl j=t.c E)(hfz:∀ b o v,E.fz b o v→E'.fz b o v)
  (hpl:∀ l l',plB L π l l'=true→∀ q,E l'=some q→∃ q',E' l=some q'∧q'.blk=q.blk∧q'.base=q.base∧(L<l→q'.size=q.size)) :
  ∀ {ps vs:List V}{xs:List Value},matchL L π σ ps vs=true→VRs E vs xs→VRs E' ps xs
 |[],[],_,_,h=>by cases h;exact .nil
 |[],_::_,_,h,_=>by simp[matchL] at h
 |_::_,[],_,h,_=>by simp[matchL] at h
 |p::ps,v::vs,_,h,hv=>by
  simp only[matchL,Bool.and_eq_true] at h
  cases hv with
  |cons _ x _ xs h1 h2=>exact .cons _ _ _ _ (matchV_ok hvar hfz hpl h.1 h1) (matchL_ok hvar hfz hpl h.2 h2)
end
end
end Go.Exo

namespace Go.Exo
set_option linter.unusedSectionVars false
def cutEnv (P:Program)(g:Gh)(pls:List Pl):Env:=fun l=>if l<P.globals.size then some ⟨l,0,0,undef,noOb,[]⟩ else if l=P.globals.size then some ⟨0,0,0,undef,g,[]⟩ else pls[l-(P.globals.size+1)]?
section
variable {P:Program}{g:Gh}{pls:List Pl}
theorem cutEnv_gl:∀ l,l<P.globals.size→∃ s,cutEnv P g pls l=some ⟨l,0,s,undef,noOb,[]⟩:=fun l hl=>⟨0,by unfold cutEnv;rw[if_pos hl]⟩
theorem cutEnv_gl' {l:Nat}(hl:l<P.globals.size):cutEnv P g pls l=some ⟨l,0,0,undef,noOb,[]⟩:=by unfold cutEnv;rw[if_pos hl]
theorem cutEnv_at:cutEnv P g pls P.globals.size=some ⟨0,0,0,undef,g,[]⟩:=by unfold cutEnv;rw[if_neg (by omega),if_pos rfl]
theorem cutEnv_box (i:Nat):cutEnv P g pls (P.globals.size+1+i)=pls[i]? := by
 unfold cutEnv;rw[if_neg (by omega),if_neg (by omega)]
 congr 1;omega
theorem cutEnv_inv {l:Nat}{p:Pl}(h:cutEnv P g pls l=some p):(l<P.globals.size∧p=⟨l,0,0,undef,noOb,[]⟩)∨(l=P.globals.size∧p=⟨0,0,0,undef,g,[]⟩)∨∃ i,l=P.globals.size+1+i∧pls[i]? = some p:=by
 unfold cutEnv at h
 split at h
 ·cases h;exact .inl ⟨by assumption,rfl⟩
 ·split at h
  ·cases h;exact .inr (.inl ⟨by assumption,rfl⟩)
  ·exact .inr (.inr ⟨l-(P.globals.size+1),by omega,h⟩)
theorem cutEnv_fz (hp:∀ p∈pls,p.ob=noOb){b o:Nat}{v:Value}:(cutEnv P g pls).fz b o v↔g.fz b o=some v:=by
 constructor
 ·rintro⟨l,p,hl,hv⟩
  rcases cutEnv_inv hl with⟨_,rfl⟩|⟨_,rfl⟩|⟨i,_,hi⟩
  ·cases hv
  ·exact hv
  ·rw[hp p (List.mem_of_getElem? hi)] at hv;cases hv
 ·intro h;exact⟨_,_,cutEnv_at,h⟩
end
noncomputable def matchB (L:Nat)(π:List Nat)(σ:List X)(b:Bx)(o:AObj):Bool:=
 match b with
 |.cells el cs f r=>(match o with
  |.cells vs len elem cls rel fz ro=>Nat.beq len cs.length&&Nat.beq elem el&&Nat.beq cls 0&&Nat.beq rel 0&&Nat.beq fz f&&(!ro || r)&&matchL L π σ cs (vs.range .bad len 0)
  |_=>false)
 |.own e=>(match o with|.own e'=>Nat.beq e e'|_=>false)
noncomputable def matchBs (L:Nat)(π:List Nat)(σ:List X)(H:T AObj):List (Option Bx)→List Nat→Bool
 |[],[]=>true
 |some b::r,l::s=>matchB L π σ b (getH H l)&&matchBs L π σ H r s
 |none::r,_::s=>matchBs L π σ H r s
 |_,_=>false
def liveP:List (Option Bx)→List Nat→List Nat
 |some _::r,l::s=>l::liveP r s
 |none::r,_::s=>liveP r s
 |_,_=>[]
def nodupN:List Nat→Bool
 |[]=>true
 |x::r=>!memN x r&&nodupN r
noncomputable def reachB (H:T AObj):List (Option Bx)→List Nat→List Nat→Bool
 |[],_,_=>true
 |some _::bs,l::ls,kn=>memN l kn&&reachB H bs ls (match getH H l with|.cells vs len _ _ _ _ _=>V.plsL (vs.range .bad len 0)++kn|_=>kn)
 |none::bs,_::ls,kn=>reachB H bs ls kn
 |_::_,[],_=>false
def keptB (L:Nat):Nat→List (Option Bx)→List Nat→Nat→Bool
 |0,_,_,_=>true
 |n+1,some _::bs,l::ls,i=>Nat.beq l (Nat.add L (Nat.succ i))&&keptB L n bs ls (Nat.succ i)
 |n+1,none::bs,_::ls,i=>keptB L n bs ls (Nat.succ i)
 |_+1,_,_,_=>false
def rangeN (a:Nat):Nat→List Nat
 |0=>[]
 |n+1=>a::rangeN (Nat.succ a) n
def AItem.pl0:AItem→Bool
 |.code _|.inBlock _|.inLoop _|.inScope _=>true
 |_=>false
def normalK:CallKind→Bool|.normal=>true|_=>false
noncomputable def boxesOk (L n:Nat)(bs:List (Option Bx))(ks:List Kd)(π:List Nat)(σ:List X)(H:T AObj)(kn:List Nat):Bool:=
 matchBs L π σ H bs π&&nodupN (liveP bs π)&&reachB H bs π kn&&keptB L n bs π 0&&Nat.beq σ.length ks.length
noncomputable def toCut (L f n:Nat)(C:Ct)(π:List Nat)(σ:List X)(o:Out):Option (List AItem):=
 match o with
 |.st .run todo c=>cond (Nat.beq c.fn f&&c.ds.isEmpty&&normalK c.kind&&c.round.isNone&&c.cs.isEmpty&&Nat.beq c.sz C.sl.length&&matchL L π σ C.sl (c.tm.range undefV c.sz 0) &&
   boxesOk L n C.box C.ks π σ c.H (V.plsL (c.tm.range undefV c.sz 0)++rangeN (Nat.succ L) n)&&σ.all (X.at1 L)&&todo.all AItem.pl0) (some todo) none
 |_=>none
inductive Bz where
 |same
 |set (b:Bx)
 |gone
def Bz.bx:Bz→Option Bx
 |.set b=>some b
 |_=>none
structure Ctr where
 f:Nat
 args:List V
 box:List Bx
 ks:List Kd
 res:V
 box':List Bz
 ks':List Kd
def Ctr.bs (C:Ctr):List (Option Bx):=C.box.map some
def Ctr.bs' (C:Ctr):List (Option Bx):=C.box'.map Bz.bx
inductive To where
 |ret (π:List Nat)(σ:List X)
 |cut (j:Nat)(π:List Nat)(σ:List X)
mutual
noncomputable def frzP [Sx]:V→V→T AObj→Nat→V×T AObj×Nat
 |.x _,.slice l o n c e,H,nx=>(match frzV (.slice l o n c e) H nx with|some (v,H')=>(v,H',Nat.succ nx)|none=>(.slice l o n c e,H,nx))
 |.agg ps,.agg vs,H,nx=>(match frzL ps vs H nx with|(vs',H',nx')=>(.agg vs',H',nx'))
 |.tup ps,.tup vs,H,nx=>(match frzL ps vs H nx with|(vs',H',nx')=>(.tup vs',H',nx'))
 |_,v,H,nx=>(v,H,nx)
noncomputable def frzL [Sx]:List V→List V→T AObj→Nat→List V×T AObj×Nat
 |p::ps,v::vs,H,nx=>(match frzP p v H nx with|(v',H',nx')=>(match frzL ps vs H' nx' with|(vs',H2,nx2)=>(v'::vs',H2,nx2)))
 |_,vs,H,nx=>(vs,H,nx)
end
section
variable [Sx] [Dc] [Tb]{B:Bs}{w:World}
mutual
theorem frzP_ok:∀ {p v:V}{x:Value}{E:Env}{H:T AObj}{nx:Nat}{v':V}{H':T AObj}{nx':Nat},WR B E H nx w→VR E v x→frzP p v H nx=(v',H',nx')→∃ E',E.le E'∧VR E' v' x∧WR B E' H' nx' w:=by
 intro p v x E H nx v' H' nx' h hv hf
 have same:(v,H,nx)=(v',H',nx')→∃ E',E.le E'∧VR E' v' x∧WR B E' H' nx' w:=fun e=>by cases e;exact⟨E,Env.le.refl E,hv,h⟩
 cases p with
 |x t=>
  cases v with
  |slice l o n c e=>
   simp only[frzP] at hf
   cases hz:frzV (.slice l o n c e) H nx with
   |none=>rw[hz] at hf;exact same hf
   |some r=>
    obtain⟨v1,H1⟩:=r
    rw[hz] at hf;cases hf
    exact frzV_ok h hv hz
  |_=>exact same (by simpa[frzP] using hf)
 |agg ps=>
  cases v with
  |agg vs=>
   simp only[frzP] at hf
   generalize hl:frzL ps vs H nx=r at hf
   obtain⟨vs',H1,n1⟩:=r
   cases hf
   cases hv with
   |agg _ xs hx=>
    obtain⟨E',h1,h2,h3⟩:=frzL_ok h hx hl
    exact⟨E',h1,.agg _ _ h2,h3⟩
  |_=>exact same (by simpa[frzP] using hf)
 |tup ps=>
  cases v with
  |tup vs=>
   simp only[frzP] at hf
   generalize hl:frzL ps vs H nx=r at hf
   obtain⟨vs',H1,n1⟩:=r
   cases hf
   cases hv with
   |tup _ xs hx=>
    obtain⟨E',h1,h2,h3⟩:=frzL_ok h hx hl
    exact⟨E',h1,.tup _ _ h2,h3⟩
  |_=>exact same (by simpa[frzP] using hf)
 |_=>exact same (by simpa[frzP] using hf)
theorem frzL_ok:∀ {ps vs:List V}{xs:List Value}{E:Env}{H:T AObj}{nx:Nat}{vs':List V}{H':T AObj}{nx':Nat},WR B E H nx w→VRs E vs xs→frzL ps vs H nx=(vs',H',nx')→∃ E',E.le E'∧VRs E' vs' xs∧WR B E' H' nx' w
 |[],vs,_,E,_,_,_,_,_,h,hv,hf=>by simp only[frzL] at hf;cases hf;exact⟨E,Env.le.refl E,hv,h⟩
 |_::_,[],_,E,_,_,_,_,_,h,hv,hf=>by simp only[frzL] at hf;cases hf;exact⟨E,Env.le.refl E,hv,h⟩
 |p::ps,v::vs,_,E,H,nx,vs',H',nx',h,hv,hf=>by
  cases hv with
  |cons _ x _ xs h1 h2=>
   simp only[frzL] at hf
   generalize hr:frzP p v H nx=r at hf
   obtain⟨v1,H1,n1⟩:=r
   simp only at hf
   generalize hr2:frzL ps vs H1 n1=r2 at hf
   obtain⟨vs1,H2,n2⟩:=r2
   cases hf
   obtain⟨E1,a1,a2,a3⟩:=frzP_ok h h1 hr
   obtain⟨E2,b1,b2,b3⟩:=frzL_ok a3 (VRs.mono a1 h2) hr2
   exact⟨E2,a1.trans b1,.cons _ _ _ _ (VR.mono b1 a2) b2,b3⟩
end
end
noncomputable def retB [Sx](P:Program)(L:Nat)(C:Ctr)(π:List Nat)(σ:List X)(o:Out):Bool:=
 match final P C.f o with
 |some (v0,H0,nx0)=>match frzP C.res v0 H0 nx0 with|(v,H,_)=>matchV L π σ C.res v&&boxesOk L C.box.length C.bs' C.ks' π σ H (V.pls v++rangeN (Nat.succ L) C.box.length)&&σ.all (X.at1 L)
 |none=>false
def ToOk [Sx](P:Program)(L:Nat)(K:Ctr)(cuts:List Ct)(o:Out):To→Prop
 |.ret π σ=>retB P L K π σ o=true
 |.cut j π σ=>∃ C,cuts[j]? = some C∧toCut L K.f K.box.length C π σ o=some C.todo
structure Pth where
 decs:List (X×Bool)
 n:Nat
 to:To
def hkN:Hook:=fun _ _ _ _=>none
noncomputable def outS [Sx](P:Program)(hk:Dc→Hook)(L:Nat)(K:Ctr)(D:List (X×Bool))(n:Nat):Out:=
 letI:=dcOf D;enterK P K.f K.args .normal [] (heapB L K.bs) (Nat.add (Nat.succ L) K.bs.length) (step P hkN (run P (hk (dcOf D)) n))
noncomputable def outC [Sx](P:Program)(hk:Dc→Hook)(L f:Nat)(C:Ct)(D:List (X×Bool))(n:Nat):Out:=letI:=dcOf D;run P (hk (dcOf D)) n .run C.todo (C.ctx L f)
noncomputable def stTodo:Out→List AItem|.st _ t _=>t|_=>[]
def Pth.okS [Sx](P:Program)(hk:Dc→Hook)(L:Nat)(K:Ctr)(cuts:List Ct)(p:Pth):Prop:=
 decsAt L p.decs=true∧ToOk P L K cuts (outS P hk L K p.decs p.n) p.to
def Pth.okC [Sx](P:Program)(hk:Dc→Hook)(L:Nat)(K:Ctr)(cuts:List Ct)(C:Ct)(p:Pth):Prop:=
 decsAt L p.decs=true∧ToOk P L K cuts (outC P hk L K.f C p.decs p.n) p.to
def X.isVar (L j:Nat)(k:Kd):X→Bool
 |.var l i k'=>Nat.beq l L&&Nat.beq i j&&k.beq k'
 |_=>false
def Bx.vs:Bx→List V
 |.cells _ cs _ _=>cs
 |.own _=>[]
mutual
def V.has (L j:Nat)(k:Kd):V→Bool
 |.x t=>t.isVar L j k
 |.lst _ t=>t.isVar L j k
 |.agg cs=>V.hasL L j k cs
 |.tup cs=>V.hasL L j k cs
 |.iface _ v=>v.has L j k
 |.func _ a b=>V.hasL L j k a || V.hasL L j k b
 |_=>false
def V.hasL (L j:Nat)(k:Kd):List V→Bool
 |[]=>false
 |v::r=>v.has L j k || V.hasL L j k r
end
def boxHas (L j:Nat)(k:Kd):List (Option Bx)→Bool
 |[]=>false
 |some b::r=>V.hasL L j k b.vs || boxHas L j k r
 |none::r=>boxHas L j k r
def ksIn (L:Nat)(sl:List V)(bx:List (Option Bx)):List Kd→Nat→Bool
 |[],_=>true
 |k::r,j=>(V.hasL L j k sl || boxHas L j k bx)&&ksIn L sl bx r (Nat.succ j)
def Ct.ok (C:Ct)(L:Nat):Bool:=ksIn L C.sl C.box C.ks 0
def liveB:Nat→List (Option Bx)→Bool
 |0,_=>true
 |n+1,some _::r=>liveB n r
 |_+1,_=>false
theorem liveB_ok:∀ {n:Nat}{bs:List (Option Bx)},liveB n bs=true→∀ i,i<n→∃ b,bs[i]? = some (some b)
 |0,_,_,i,h=>by omega
 |n+1,[],h,_,_=>by simp[liveB] at h
 |n+1,none::_,h,_,_=>by simp[liveB] at h
 |n+1,some b::r,h,i,hi=>by
  cases i with
  |zero=>exact⟨b,rfl⟩
  |succ i=>obtain⟨c,hc⟩:=liveB_ok (show liveB n r=true from h) i (by omega);exact⟨c,by simpa using hc⟩
theorem liveB_len:∀ {n:Nat}{bs:List (Option Bx)},liveB n bs=true→n≤bs.length
 |0,_,_=>Nat.zero_le _
 |n+1,[],h=>by simp[liveB] at h
 |n+1,none::_,h=>by simp[liveB] at h
 |n+1,some b::r,h=>by have:=liveB_len (show liveB n r=true from h);simp;omega
def Ctr.ok (C:Ctr)(L:Nat):Bool:=ksIn L [C.res] C.bs' C.ks' 0&&ksIn L C.args C.bs C.ks 0
section
variable [Sx] [Dc] [Tb]{E:Env}{p:Pl}{L j:Nat}{k:Kd}
mutual
theorem hasV_ok (hp:E L=some p):∀ {v:V}{x:Value},v.has L j k=true→VR E v x→Wt k (p.ob.vl j):=by
 intro v x h hv
 cases v with
 |x t=>
  cases hv with
  |x _ _ h1 h2=>
  simp only[V.has] at h
  cases t<;>simp only[X.isVar] at h<;>first|(cases h;done)|skip
  simp only[Bool.and_eq_true] at h
  obtain⟨⟨a1,a2⟩,a3⟩:=h
  have e1:=Nat.eq_of_beq_eq_true a1
  have e2:=Nat.eq_of_beq_eq_true a2
  have e3:=Kd.beq_eq a3
  subst e1 e2 e3
  have:=h2.wt
  simp only[X.den,hp,Cl.hd,X.kd] at this
  exact this
 |lst l t=>
  cases hv with
  |lst _ q _ e off len cap hq h1 h3 h2 hb hc=>
  simp only[V.has] at h
  cases t<;>simp only[X.isVar] at h<;>first|(cases h;done)|skip
  simp only[Bool.and_eq_true] at h
  obtain⟨⟨a1,a2⟩,a3⟩:=h
  have e1:=Nat.eq_of_beq_eq_true a1
  have e2:=Nat.eq_of_beq_eq_true a2
  have e3:=Kd.beq_eq a3
  subst e1 e2 e3
  have:=h2.wt
  simp only[X.kd] at h3
  simp only[X.den,hp,Cl.hd] at this
  rw[h3];exact this
 |agg cs=>cases hv with|agg _ xs h1=>exact hasL_ok hp (by simpa[V.has] using h) h1
 |tup cs=>cases hv with|tup _ xs h1=>exact hasL_ok hp (by simpa[V.has] using h) h1
 |iface t u=>cases hv with|iface _ _ x h1=>exact hasV_ok hp (by simpa[V.has] using h) h1
 |func fn a b=>
  cases hv with
  |func _ _ _ _ fs cs hf h1 h2=>
   simp only[V.has,Bool.or_eq_true] at h
   rcases h with h|h
   ·exact hasL_ok hp h h1
   ·exact hasL_ok hp h h2
 |_=>simp[V.has] at h
theorem hasL_ok (hp:E L=some p):∀ {vs:List V}{xs:List Value},V.hasL L j k vs=true→VRs E vs xs→Wt k (p.ob.vl j)
 |[],_,h,_=>by simp[V.hasL] at h
 |v::r,_,h,hv=>by
  cases hv with
  |cons _ x _ xs h1 h2=>
   simp only[V.hasL,Bool.or_eq_true] at h
   rcases h with h|h
   ·exact hasV_ok hp h h1
   ·exact hasL_ok hp h h2
end
end
theorem memN_ok {x:Nat}:∀ {l:List Nat},memN x l=true→x∈l
 |[],h=>by cases h
 |y::r,h=>by
  simp only[memN] at h
  cases hb:Nat.beq x y with
  |true=>rw[Nat.eq_of_beq_eq_true hb];exact List.mem_cons_self ..
  |false=>rw[hb] at h;exact List.mem_cons_of_mem _ (memN_ok h)
theorem memN_mk {l:List Nat}{x:Nat}(hx:x∈l):memN x l=true:=by
 induction l with
 |nil=>cases hx
 |cons y r ih=>
  simp only[memN]
  cases hb:Nat.beq x y with
  |true=>rfl
  |false=>
   cases hx with
   |head=>rw[Nat.beq_refl] at hb;cases hb
   |tail _ hx=>exact ih hx
theorem rangeN_mem {a n l:Nat}:l∈rangeN a n↔a≤l∧l<a+n:=by
 induction n generalizing a with
 |zero=>simp only[rangeN,List.not_mem_nil,false_iff];omega
 |succ n ih=>simp only[rangeN,List.mem_cons,ih];omega
theorem matchBs_get {L:Nat}{π:List Nat}{σ:List X}{H:T AObj}:∀ {bs:List (Option Bx)}{ls:List Nat},matchBs L π σ H bs ls=true→bs.length=ls.length∧∀ (i:Nat) b,bs[i]? = some (some b)→∃ l,ls[i]? = some l∧matchB L π σ b (getH H l)=true
 |[],[],_=>⟨rfl,fun i b h=>by simp at h⟩
 |[],_::_,h=>by simp[matchBs] at h
 |some _::_,[],h=>by simp[matchBs] at h
 |none::_,[],h=>by simp[matchBs] at h
 |some b::bs,l::ls,h=>by
  simp only[matchBs,Bool.and_eq_true] at h
  obtain⟨h1,h2⟩:=matchBs_get h.2
  refine⟨by simp[h1],fun i c hc=>?_⟩
  cases i with
  |zero=>simp at hc;subst hc;exact⟨l,rfl,h.1⟩
  |succ i=>simp at hc;obtain⟨k,g1,g2⟩:=h2 i c hc;exact⟨k,by simpa using g1,g2⟩
 |none::bs,l::ls,h=>by
  simp only[matchBs] at h
  obtain⟨h1,h2⟩:=matchBs_get h
  refine⟨by simp[h1],fun i c hc=>?_⟩
  cases i with
  |zero=>simp at hc
  |succ i=>simp at hc;obtain⟨k,g1,g2⟩:=h2 i c hc;exact⟨k,by simpa using g1,g2⟩
theorem liveP_mem:∀ {bs:List (Option Bx)}{ls:List Nat}(i:Nat) b l,bs[i]? = some (some b)→ls[i]? = some l→l∈liveP bs ls
 |[],_,i,b,l,h,_=>by simp at h
 |some _::_,[],i,b,l,_,h=>by simp at h
 |none::_,[],i,b,l,_,h=>by simp at h
 |some c::bs,k::ls,i,b,l,h1,h2=>by
  cases i with
  |zero=>simp at h2;subst h2;exact List.mem_cons_self ..
  |succ i=>exact List.mem_cons_of_mem _ (liveP_mem i b l (by simpa using h1) (by simpa using h2))
 |none::bs,k::ls,i,b,l,h1,h2=>by
  cases i with
  |zero=>simp at h1
  |succ i=>exact liveP_mem (bs:=bs) (ls:=ls) i b l (by simpa using h1) (by simpa using h2)
theorem liveP_inj:∀ {bs:List (Option Bx)}{ls:List Nat},nodupN (liveP bs ls)=true→∀ (i j:Nat) b c l,bs[i]? = some (some b)→bs[j]? = some (some c)→ls[i]? = some l→ls[j]? = some l→i=j
 |[],_,_,i,j,b,c,l,h,_,_,_=>by simp at h
 |some _::_,[],_,i,j,b,c,l,_,_,h,_=>by simp at h
 |none::_,[],_,i,j,b,c,l,_,_,h,_=>by simp at h
 |some d::bs,k::ls,hn,i,j,b,c,l,h1,h2,h3,h4=>by
  simp only[liveP,nodupN,Bool.and_eq_true,Bool.not_eq_true'] at hn
  cases i with
  |zero=>
   cases j with
   |zero=>rfl
   |succ j=>
    simp at h3;subst h3
    have:=liveP_mem j c k (by simpa using h2) (by simpa using h4)
    rw[memN_mk this] at hn;cases hn.1
  |succ i=>
   cases j with
   |zero=>
    simp at h4;subst h4
    have:=liveP_mem i b k (by simpa using h1) (by simpa using h3)
    rw[memN_mk this] at hn;cases hn.1
   |succ j=>rw[liveP_inj hn.2 i j b c l (by simpa using h1) (by simpa using h2) (by simpa using h3) (by simpa using h4)]
 |none::bs,k::ls,hn,i,j,b,c,l,h1,h2,h3,h4=>by
  cases i with
  |zero=>simp at h1
  |succ i=>
   cases j with
   |zero=>simp at h2
   |succ j=>rw[liveP_inj (bs:=bs) (ls:=ls) hn i j b c l (by simpa using h1) (by simpa using h2) (by simpa using h3) (by simpa using h4)]
theorem reachB_ok [Sx] [Dc] [Tb]{E:Env}{H:T AObj}{heap:Nat→Option Obj}(ho:∀ l p,E l=some p→OR E H l p (heap p.blk) (getH H l)){L:Nat}{π0:List Nat}{σ:List X}:∀ {bs:List (Option Bx)}{ls:List Nat}{kn:List Nat},(∀ l∈kn,∃ p,E l=some p)→matchBs L π0 σ H bs ls=true→reachB H bs ls kn=true→
  ∀ (i:Nat) b,bs[i]? = some (some b)→∃ l p,ls[i]? = some l∧E l=some p
 |[],_,_,_,_,_,i,b,h=>by simp at h
 |some _::_,[],_,_,_,hr,i,b,h=>by simp[reachB] at hr
 |none::_,[],_,_,_,hr,i,b,h=>by simp[reachB] at hr
 |some c::bs,k::ls,kn,hk,hm,hr,i,b,h=>by
  simp only[reachB,Bool.and_eq_true] at hr
  simp only[matchBs,Bool.and_eq_true] at hm
  obtain⟨p,hp⟩:=hk k (memN_ok hr.1)
  cases i with
  |zero=>exact⟨k,p,rfl,hp⟩
  |succ i=>
   refine reachB_ok (bs:=bs) (ls:=ls) ho ?_ hm.2 hr.2 i b (by simpa using h)
   intro l hl
   have hob:=ho k p hp
   cases hg:getH H k with
   |cells vs len elem cls rel fz ro=>
    rw[hg] at hl hob
    rcases List.mem_append.1 hl with hl|hl
    ·have hc:cls=0:=by
      cases c with
      |cells el cs f r=>
       rw[hg] at hm
       simp only[matchB,Bool.and_eq_true] at hm
       exact Nat.eq_of_beq_eq_true hm.1.1.1.1.1.2
      |own e=>rw[hg] at hm;simp[matchB] at hm
     exact OR.at hob hc l hl
    ·exact hk l hl
   |_=>rw[hg] at hl;exact hk l hl
 |none::bs,k::ls,kn,hk,hm,hr,i,b,h=>by
  simp only[reachB] at hr
  simp only[matchBs] at hm
  cases i with
  |zero=>simp at h
  |succ i=>exact reachB_ok (bs:=bs) (ls:=ls) ho hk hm hr i b (by simpa using h)
theorem keptB_ok {L:Nat}:∀ {n:Nat}{bs:List (Option Bx)}{ls:List Nat}{i0:Nat},keptB L n bs ls i0=true→∀ i b,i<n→bs[i]? = some (some b)→ls[i]? = some (L+1+(i0+i))
 |0,_,_,_,_,i,b,h,_=>by omega
 |n+1,[],_,_,h,i,b,_,_=>by simp[keptB] at h
 |n+1,some _::_,[],_,h,i,b,_,_=>by simp[keptB] at h
 |n+1,none::_,[],_,h,i,b,_,_=>by simp[keptB] at h
 |n+1,some c::bs,l::ls,i0,h,i,b,hi,hb=>by
  simp only[keptB,Bool.and_eq_true] at h
  cases i with
  |zero=>
   have:=Nat.eq_of_beq_eq_true h.1
   simp only[List.getElem?_cons_zero,Option.some.injEq]
   rw[this];show L+(i0+1)=_;omega
  |succ i=>
   have:=keptB_ok h.2 i b (by omega) (by simpa using hb)
   simp only[List.getElem?_cons_succ]
   rw[this];congr 1;show L+1+(i0+1+i)=_;omega
 |n+1,none::bs,l::ls,i0,h,i,b,hi,hb=>by
  simp only[keptB] at h
  cases i with
  |zero=>simp at hb
  |succ i=>
   have:=keptB_ok h i b (by omega) (by simpa using hb)
   simp only[List.getElem?_cons_succ]
   rw[this];congr 1;show L+1+(i0+1+i)=_;omega
theorem matchB_cells {L:Nat}{π:List Nat}{σ:List X}{el:TypeId}{cs:List V}{f:Nat}{r:Bool}{o:AObj}(h:matchB L π σ (.cells el cs f r) o=true):∃ vs ro,o=.cells vs cs.length el 0 0 f ro∧(ro=true→r=true)∧matchL L π σ cs (vs.range .bad cs.length 0)=true:=by
 cases o<;>first|(simp[matchB] at h;done)|skip
 rename_i vs len elem cls rel fz ro
 simp only[matchB,Bool.and_eq_true] at h
 obtain⟨⟨⟨⟨⟨⟨k1,k2⟩,k3⟩,k4⟩,k5⟩,k6⟩,k7⟩:=h
 have j1:=Nat.eq_of_beq_eq_true k1
 have j2:=Nat.eq_of_beq_eq_true k2
 have j3:=Nat.eq_of_beq_eq_true k3
 have j4:=Nat.eq_of_beq_eq_true k4
 have j5:=Nat.eq_of_beq_eq_true k5
 subst j1 j2 j3 j4 j5
 exact⟨vs,ro,rfl,fun e=>by rw[e] at k6;simpa using k6,k7⟩
theorem matchB_own {L:Nat}{π:List Nat}{σ:List X}{e:TypeId}{o:AObj}(h:matchB L π σ (.own e) o=true):o=.own e:=by
 cases o<;>first|(simp[matchB] at h;done)|skip
 simp only[matchB] at h
 rw[Nat.eq_of_beq_eq_true h]
theorem matchB_no {L:Nat}{π:List Nat}{σ:List X}{b:Bx}{o:AObj}(h:matchB L π σ b o=true):o≠.no∧clsOf o=0∧(isRo o=true→b.ro=true)∧isCls o=false:=by
 cases b with
 |cells el cs f r=>obtain⟨vs,ro,rfl,hr,_⟩:=matchB_cells h;exact⟨fun e=>(by cases e),rfl,hr,rfl⟩
 |own e=>rw[matchB_own h];exact⟨fun e=>(by cases e),rfl,fun e=>(by cases e),rfl⟩
theorem Bx.obj_cls (b:Bx):clsOf b.obj=0∧isRo b.obj=b.ro∧b.obj≠.no∧isCls b.obj=false:=by
 cases b with
 |cells _ _ _ _=>exact⟨rfl,rfl,(fun h=>by cases h),rfl⟩
 |own _=>exact⟨rfl,rfl,(fun h=>by cases h),rfl⟩
theorem getH_heapB {L l:Nat}{bs:List (Option Bx)}:getH (heapB L bs) l=if L+1≤l then ((bs.map objO)[l-(L+1)]?).getD .no else .no:=by
 unfold heapB
 rw[ofK_eq,getH_eq]
 show (putL AObj.no _ (L+1) .e).get AObj.no l=_
 rw[get_putL,get_e]
theorem getH_box {L i:Nat}{bs:List (Option Bx)}:getH (heapB L bs) (L+1+i)=match bs[i]? with|some o=>objO o|none=>.no:=by
 rw[getH_heapB,if_pos (by omega)]
 have:L+1+i-(L+1)=i:=by omega
 rw[this,List.getElem?_map]
 cases bs[i]?<;>rfl
theorem getH_lo {L l:Nat}{bs:List (Option Bx)}(h:l≤L):getH (heapB L bs) l=.no:=by rw[getH_heapB,if_neg (by omega)]
theorem matchL_get {L:Nat}{π:List Nat}{σ:List X}:∀ {ps vs:List V},matchL L π σ ps vs=true→∀ (i:Nat) p v,ps[i]? = some p→vs[i]? = some v→matchV L π σ p v=true
 |[],[],_,i,p,v,h,_=>by simp at h
 |[],_::_,h,_,_,_,_,_=>by simp[matchL] at h
 |_::_,[],h,_,_,_,_,_=>by simp[matchL] at h
 |a::r,b::s,h,i,p,v,h1,h2=>by
  simp only[matchL,Bool.and_eq_true] at h
  cases i with
  |zero=>simp at h1 h2;subst h1 h2;exact h.1
  |succ i=>exact matchL_get h.2 i p v (by simpa using h1) (by simpa using h2)
theorem V.hasL_mem {L j:Nat}{k:Kd}:∀ {vs:List V},V.hasL L j k vs=true→∃ v∈vs,v.has L j k=true
 |[],h=>by simp[V.hasL] at h
 |v::r,h=>by
  simp only[V.hasL,Bool.or_eq_true] at h
  rcases h with h|h
  ·exact⟨v,List.mem_cons_self ..,h⟩
  ·obtain⟨u,h1,h2⟩:=V.hasL_mem h;exact⟨u,List.mem_cons_of_mem _ h1,h2⟩
theorem boxHas_mem {L j:Nat}{k:Kd}:∀ {bs:List (Option Bx)},boxHas L j k bs=true→∃ b,some b∈bs∧V.hasL L j k b.vs=true
 |[],h=>by simp[boxHas] at h
 |some b::r,h=>by
  simp only[boxHas,Bool.or_eq_true] at h
  rcases h with h|h
  ·exact⟨b,List.mem_cons_self ..,h⟩
  ·obtain⟨u,h1,h2⟩:=boxHas_mem h;exact⟨u,List.mem_cons_of_mem _ h1,h2⟩
 |none::r,h=>by
  simp only[boxHas] at h
  obtain⟨u,h1,h2⟩:=boxHas_mem h;exact⟨u,List.mem_cons_of_mem _ h1,h2⟩
def Pth.allS [Sx](P:Program)(hk:Dc→Hook)(L:Nat)(K:Ctr)(cuts:List Ct):List Pth→Prop
 |[]=>True
 |p::r=>p.okS P hk L K cuts∧Pth.allS P hk L K cuts r
def Pth.allC [Sx](P:Program)(hk:Dc→Hook)(L:Nat)(K:Ctr)(cuts:List Ct)(C:Ct):List Pth→Prop
 |[]=>True
 |p::r=>p.okC P hk L K cuts C∧Pth.allC P hk L K cuts C r
section
variable [Sx]{P:Program}{hk:Dc→Hook}{L:Nat}{K:Ctr}{cuts:List Ct}{C:Ct}{D:List (X×Bool)}{n:Nat}{j:Nat}{π:List Nat}{σ:List X}
theorem Pth.okS_ret (h1:decsAt L D=true)(h2:retB P L K π σ (outS P hk L K D n)=true):Pth.okS P hk L K cuts ⟨D,n,.ret π σ⟩:=⟨h1,h2⟩
theorem Pth.okS_cut (C:Ct)(hC:cuts[j]? = some C)(h1:decsAt L D=true)(h2:toCut L K.f K.box.length C π σ (outS P hk L K D n)=some C.todo):Pth.okS P hk L K cuts ⟨D,n,.cut j π σ⟩:=⟨h1,C,hC,h2⟩
theorem Pth.okC_ret (h1:decsAt L D=true)(h2:retB P L K π σ (outC P hk L K.f C D n)=true):Pth.okC P hk L K cuts C ⟨D,n,.ret π σ⟩:=⟨h1,h2⟩
theorem Pth.okC_cut (C':Ct)(hC:cuts[j]? = some C')(h1:decsAt L D=true)(h2:toCut L K.f K.box.length C' π σ (outC P hk L K.f C D n)=some C'.todo):Pth.okC P hk L K cuts C ⟨D,n,.cut j π σ⟩:=⟨h1,C',hC,h2⟩
theorem Pth.allS_mem:∀ {ps:List Pth},Pth.allS P hk L K cuts ps→∀ p∈ps,p.okS P hk L K cuts
 |[],_,p,hp=>by cases hp
 |q::r,h,p,hp=>by
  cases hp with
  |head=>exact h.1
  |tail _ hp=>exact Pth.allS_mem h.2 p hp
theorem Pth.allC_mem:∀ {ps:List Pth},Pth.allC P hk L K cuts C ps→∀ p∈ps,p.okC P hk L K cuts C
 |[],_,p,hp=>by cases hp
 |q::r,h,p,hp=>by
  cases hp with
  |head=>exact h.1
  |tail _ hp=>exact Pth.allC_mem h.2 p hp
end
end Go.Exo
