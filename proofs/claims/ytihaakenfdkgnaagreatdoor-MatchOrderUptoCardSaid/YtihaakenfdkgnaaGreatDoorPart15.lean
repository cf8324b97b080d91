/-
  What is read of memory is data that is no greater than what is read. Own text.
-/
import Derived.Test.YtihaakenfdkgnaaGreatDoorPart14
import Derived.Test.YtihaakenfdkgnaaGreatDoorRows
set_option linter.all false
noncomputable section
namespace Go.Exo
open Go.Proofs.YtihaakenfdkgnaaGreatDoor
mutual
def iY:Cl->Nat
 |.str s=>s.length+1
 |.sl _ rows=>cQ rows+1
 |_=>1
def bh:List Cl->Nat
 |[]=>0
 |c::r=>iY c+bh r
def cQ:List (List Cl)->Nat
 |[]=>0
 |l::r=>bh l+cQ r
end
theorem ow {H:Type}(d:DataW H):1<=Rows.uptoBulk d:=by
 cases d with
 |lit l=>cases l<;>simp[Rows.uptoBulk]
 |_=>simp[Rows.uptoBulk]
theorem sR (a b:List Cl):bh (a++b)=bh a+bh b:=by
 induction a with
 |nil=>simp[bh]
 |cons c r ih=>simp only[List.cons_append,bh,ih];omega
theorem gU {H:Type}{β:Type}(f:β->DataW H):∀ l:List β,Rows.uptoBulkAll (l.map f)=(l.map fun x=>Rows.uptoBulk (f x)).sum
 |[]=>rfl
 |a::r=>by simp only[List.map_cons,Rows.uptoBulkAll,List.sum_cons,gU f r]
theorem vn:∀ (rows:List (List Cl))(bs:List Nat),rows.length=bs.length->(∀ (i:Nat) r b,rows[i]? = some r->bs[i]? = some b->bh r<=b)->cQ rows<=bs.sum
 |[],_,_,_=>by simp[cQ]
 |_::_,[],h,_=>by simp at h
 |r::rows,b::bs,h,g=>by
  have h0:=g 0 r b rfl rfl;have ih:=vn rows bs (by simpa using h) fun i r' b' h1 h2=>g (i+1) r' b' (by simpa using h1) (by simpa using h2)
  simp only[cQ,List.sum_cons];omega
variable [Sx]
section
variable {H:Type}{enc:TypeId×Value->H}{P:Program}{w:World}
theorem CRs.split {F:Nat->Nat->Value->Prop}{ks ks':List Kd}{vs:List Value}{cs:List Cl}(h:CRs F (ks++ks') vs cs):∃ v1 v2 c1 c2,vs=v1++v2/\cs=c1++c2/\CRs F ks v1 c1/\CRs F ks' v2 c2:=by
 induction ks generalizing vs cs with
 |nil=>exact⟨[],vs,[],cs,rfl,rfl,.nil,h⟩
 |cons k ks ih=>
  cases h with
  |cons h1 h2=>
   obtain⟨v1,v2,c1,c2,rfl,rfl,g1,g2⟩:=ih h2;exact⟨_::v1,v2,_::c1,c2,rfl,rfl,.cons h1 g1,g2⟩
theorem CRs.of_get {F:Nat->Nat->Value->Prop}:∀ {ks:List Kd}{vs:List Value}{cs:List Cl},vs.length=ks.length->cs.length=ks.length->(∀ (j:Nat) v c k,vs[j]? = some v->cs[j]? = some c->ks[j]? = some k->CR F k v c)->CRs F ks vs cs
 |[],[],[],_,_,_=>.nil
 |[],_::_,_,h,_,_=>by simp at h
 |[],[],_::_,_,h,_=>by simp at h
 |_::_,[],_,h,_,_=>by simp at h
 |_::_,_::_,[],_,h,_=>by simp at h
 |k::ks,v::vs,c::cs,h1,h2,g=>.cons (g 0 v c k rfl rfl rfl) (CRs.of_get (by simpa using h1) (by simpa using h2) fun j v c k a b d=>g (j+1) v c k (by simpa using a) (by simpa using b) (by simpa using d))
theorem my {r:TypeId->List Value->Option (DataW H×List MemPlace)}{k:TypeId->Option (List Kd)}{cs:List Value}:∀ (fs:List Field)(o:Nat)(ks:List Kd)(cls:List Cl)(xs:List (DataW H×List MemPlace)),kdsF P k fs o=some ks->o+ks.length<=cs.length->
  CRs (dt w) ks ((cs.drop o).take ks.length) cls->(fs.mapM fun f=>r f.type ((cs.drop f.offset).take (P.cellsOf f.type)))=some xs->
  (∀ f∈fs,∀ c y l cls,r f.type c=some y->k f.type=some l->CRs (dt w) l c cls->bh cls<=Rows.uptoBulk y.1)->bh cls<=(xs.map fun x=>Rows.uptoBulk x.1).sum
 |[],o,ks,cls,xs,h,_,hc,_,_=>by
  simp only[kdsF,Option.some.injEq] at h;subst h;cases hc;simp[bh]
 |f::fs,o,ks,cls,xs,h,hl,hc,hx,hk=>by
  simp only[kdsF] at h;cases h1:k f.type with
  |none=>rw[h1] at h;cases h
  |some l=>
   rw[h1] at h;simp only at h;cases hb:(Nat.beq f.offset o&&Nat.beq (P.cellsOf f.type) l.length) with
   |false=>rw[hb] at h;cases h
   |true=>
    rw[hb] at h;simp only[cond_true] at h;simp only[Bool.and_eq_true] at hb;have e1:=aa hb.1;have e2:=aa hb.2;cases h2:kdsF P k fs (o+l.length) with
    |none=>rw[h2] at h;cases h
    |some m=>
     rw[h2] at h;cases h;rw[List.length_append] at hl hc
     have e:(cs.drop o).take (l.length+m.length)=(cs.drop o).take l.length++(cs.drop (o+l.length)).take m.length:=by
      rw[List.take_add,List.drop_drop]
     rw[e] at hc;obtain⟨v1,v2,c1,c2,hv,rfl,g1,g2⟩:=hc.split;have hlen:v1.length=l.length:=g1.get.1;have hl1:((cs.drop o).take l.length).length=l.length:=by simp;omega
     obtain⟨rfl,rfl⟩:=List.append_inj hv (by omega);rw[List.mapM_cons] at hx;rw[e1,e2] at hx;cases hy:r f.type ((cs.drop o).take l.length) with
     |none=>rw[hy] at hx;cases hx
     |some y=>
      rw[hy] at hx;cases hr:(fs.mapM fun f=>r f.type ((cs.drop f.offset).take (P.cellsOf f.type))) with
      |none=>rw[hr] at hx;cases hx
      |some ys=>
       rw[hr] at hx;cases hx;have i1:=hk f (aj ..) _ y l c1 hy h1 g1;have i2:=my fs (o+l.length) m c2 ys h2 (by omega) g2 hr (fun g hg=>hk g (ai _ hg));rw[sR];simp only[List.map_cons,List.sum_cons];omega
theorem lF {T:TypeId->Prop}(hT:DatTs P T):∀ (fuel n:Nat)(t:TypeId)(cs:List Value)(y:DataW H×List MemPlace)(ks:List Kd)(cls:List Cl),T t->DataW.trod enc P w 0 (fun _=>true) true fuel t cs=some y->kdsT P n t=some ks->CRs (dt w) ks cs cls->bh cls<=Rows.uptoBulk y.1
 |0,_,_,_,_,_,_,_,h,_,_=>by simp[DataW.trod] at h
 |_+1,0,_,_,_,_,_,_,_,h,_=>by simp[kdsT] at h
 |fuel+1,n+1,t,cs,y,ks,cls,ht,h,hk,hc=>by
  simp only[kdsT] at hk;cases hu:P.underlying t with
  |none=>rw[hu] at hk;cases hk
  |some d=>
   rw[hu] at hk;cases d<;>simp only at hk<;>first|(cases hk;done)|skip
   case bool=>
    cases hk;obtain⟨b,rfl,hy⟩:=DataW.trod_bool hu h;cases hc with|cons h1 h2=>
    cases h1;cases h2;have:=ow y.1;simp only[bh,iY];omega
   case int k=>
    cases hk;obtain⟨m,rfl,hy,hw⟩:=DataW.trod_int hu h;cases hc with|cons h1 h2=>
    cases h1;cases h2;have:=ow y.1;simp only[bh,iY];omega
   case string=>
    cases hk;obtain⟨s,rfl,hy,hs⟩:=DataW.trod_string hu h;cases hc with|cons h1 h2=>
    cases h1;cases h2;rw[hy];simp[bh,iY,Rows.uptoBulk]
   case slice e=>
    cases hk;obtain⟨hTe,⟨m,hm⟩,hsz,hpos⟩:=hT.sl t e ht hu
    have hsl:cs=[.slice none 0 0]\/∃ a len cap,cs=[.slice (some a) len cap]/\len<=cap/\cap<=maxLen/\((((List.range len).mapM fun i=>(w.cells? 0 (a.add (i*P.cellsOf e)) (P.cellsOf e)).bind (DataW.trod enc P w 0 (fun _=>true) true fuel e))).bind fun elems=>
      (((List.range (cap-len)).mapM fun j=>(w.cells? 0 (a.add ((len+j)*P.cellsOf e)) (P.cellsOf e)).bind (DataW.trod enc P w 0 (fun _=>true) true fuel e))).map fun rest=>
      ((.slice (elems.map (·.1)) (rest.map (·.1)),MemPlace.row a ((elems.length+rest.length)*P.cellsOf e)++(elems++rest).flatMap (·.2)):DataW H×List MemPlace))=some y:=by
     unfold DataW.trod at h;rw[hu] at h;split at h
     case h_8=>
      rename_i e' a len cap heq;cases heq;simp only at h;split at h
      case isFalse=>cases h
      rename_i hc;refine .inr ⟨a,len,cap,rfl,hc.2.1,hc.2.2,?_⟩;simpa using h
     all_goals simp_all
    cases hc with|cons h1 h2=>
    cases h2;rcases hsl with he|⟨a,len,cap,he,hlc,hcm,hh⟩
    ·cases he
     cases h1;have:=ow y.1;simp only[bh,iY,cQ];omega
    ·cases he
     cases hel:(List.range len).mapM fun i=>(w.cells? 0 (a.add (i*P.cellsOf e)) (P.cellsOf e)).bind (DataW.trod enc P w 0 (fun _=>true) true fuel e) with
     |none=>rw[hel] at hh;cases hh
     |some elems=>
      rw[hel] at hh;simp only[Option.bind_some] at hh;cases hrest:((List.range (cap-len)).mapM fun j=>(w.cells? 0 (a.add ((len+j)*P.cellsOf e)) (P.cellsOf e)).bind (DataW.trod enc P w 0 (fun _=>true) true fuel e)) with
      |none=>rw[hrest] at hh;cases hh
      |some rest=>
       rw[hrest] at hh;simp only[Option.map_some,Option.some.injEq] at hh;subst hh;cases h1 with
       |e0 _ _=>simp[bh,iY,cQ,Rows.uptoBulk]
       |sl _ blk off _ _ rows vs g1 g2 g3 g4 g5 g6=>
        obtain⟨q1,q2⟩:=ou hel;rw[List.length_range] at q1
        have hle:cQ rows<=(elems.map fun x=>Rows.uptoBulk x.1).sum:=vn rows _ (by simp[q1,g1]) fun i r b hr hb=>by
         rw[List.getElem?_map] at hb;cases hx:elems[i]? with
         |none=>rw[hx] at hb;cases hb
         |some x=>
          rw[hx] at hb;cases hb;obtain⟨j,hj,hy⟩:=q2 i x hx;have hlt:i<len:=by have:=(ae.1 hj).1;simpa using this
          rw[List.getElem?_range hlt] at hj;cases hj;cases hcc:w.cells? 0 ((⟨blk,off,none⟩:Addr).add (i*P.cellsOf e)) (P.cellsOf e) with
          |none=>rw[hcc] at hy;cases hy
          |some c=>
           rw[hcc] at hy;obtain⟨z1,z2⟩:=iy hcc;refine lF hT fuel m e c x (Sx.row e) r hTe hy hm ?_;have hrl:=g4 i r hr
           exact CRs.of_get (by omega) hrl fun j v cl k hv hcl hkk=>by
            have h7:=g5 i r j cl hr hcl;have h8:=z2 j v hv;simp only[ov,hsz] at h8;have h9:vs i j=v:=Option.some.inj (h7.symm.trans h8);rw[<- h9];exact g6 i r j cl k hr hcl hkk
        simp only[bh,iY,Rows.uptoBulk,gU];omega
   case struct fs=>
    cases hf:kdsF P (kdsT P n) fs.toList 0 with
    |none=>rw[hf] at hk;cases hk
    |some l=>
     rw[hf] at hk;simp only at hk;cases hb:Nat.beq (P.cellsOf t) l.length with
     |false=>rw[hb] at hk;cases hk
     |true=>
      rw[hb] at hk;cases hk;have e1:=aa hb
      have h':(if cs.length=P.cellsOf t then (fs.toList.mapM fun f=>DataW.trod enc P w 0 (fun _=>true) true fuel f.type ((cs.drop f.offset).take (P.cellsOf f.type))).map fun xs=>((.agg (xs.map (·.1)),xs.flatMap (·.2)):DataW H×List MemPlace) else none)=some y:=by
       unfold DataW.trod at h;rw[hu] at h;split at h<;>simp_all
      split at h'
      case isFalse=>cases h'
      rename_i hlen;cases hm:(fs.toList.mapM fun f=>DataW.trod enc P w 0 (fun _=>true) true fuel f.type ((cs.drop f.offset).take (P.cellsOf f.type))) with
      |none=>rw[hm] at h';cases h'
      |some xs=>
       rw[hm] at h';cases h'
       have hc':CRs (dt w) ks ((cs.drop 0).take ks.length) cls:=by
        rw[List.drop_zero,List.take_of_length_le (by omega)];exact hc
       have:=my (r:=DataW.trod enc P w 0 (fun _=>true) true fuel) (cs:=cs) (w:=w) fs.toList 0 ks cls xs hf (by omega) hc' hm
        (fun f hf' c y l cls h1 h2 h3=>lF hT fuel n f.type c y l cls (hT.st t fs ht hu f hf') h1 h2 h3)
       simp only[Rows.uptoBulk,gU];omega
end
end Go.Exo
end

noncomputable section
namespace Go.Exo
variable [Sx] [Dc]
section
variable {E:Env}
theorem mW {k:Kd}{v:V}{x:Value}(h:VR E v x){t:X}(ht:toXk k v=some t):t.ok E/\CR E.fz k x (t.c E):=by
 have key:(match toX v with|some t=>cond (t.kd.beq k) (some t) none|none=>none)=some t->t.ok E/\CR E.fz k x (t.c E):=by
  intro ht;cases hx:toX v with
  |none=>rw[hx] at ht;cases ht
  |some u=>
   rw[hx] at ht;simp only at ht;cases hb:u.kd.beq k with
   |false=>rw[hb] at ht;cases ht
   |true=>
    rw[hb] at ht;simp only[cond_true,Option.some.injEq] at ht;subst ht;obtain⟨h1,h2⟩:=cI h hx;rw[Kd.beq_eq hb] at h2;exact⟨h1,h2⟩
 cases v<;>first|exact key ht|skip
 cases h;simp only[toXk] at ht;cases hk:kdS k with
 |none=>rw[hk] at ht;cases ht
 |some e=>rw[hk] at ht;cases ht;rw[lu hk];exact⟨trivial,.nil e⟩
theorem qA:∀ {ks:List Kd}{vs:List V}{xs:List Value}{ts:List X},VRs E vs xs->ot ks vs=some ts->(∀ t∈ts,t.ok E)/\CRs E.fz ks xs (ts.map (X.c E))
 |[],[],_,_,h,ht=>by cases h;cases ht;exact⟨by simp,.nil⟩
 |[],_::_,_,_,_,ht=>by cases ht
 |_::_,[],_,_,_,ht=>by cases ht
 |k::ks,v::vs,_,_,h,ht=>by
  cases h with
  |cons _ x _ xs h1 h2=>
   simp only[ot] at ht;cases ha:toXk k v with
   |none=>rw[ha] at ht;cases ht
   |some t=>
    cases hb:ot ks vs with
    |none=>rw[ha,hb] at ht;cases ht
    |some l=>
     rw[ha,hb] at ht;cases ht;obtain⟨a1,a2⟩:=mW h1 ha;obtain⟨b1,b2⟩:=qA h2 hb;exact⟨by simpa using ⟨a1,b1⟩,.cons a2 b2⟩
theorem y6 {s:Ash}{v:V}{x:Value}{ts:List X}(h:VR E v x)(ht:ashX s v=some ts):(∀ t∈ts,t.ok E)/\∀ {r:List Ash}{vs:List Value}{cs:List Cl},ArgR E.fz r vs cs->ArgR E.fz (s::r) (x::vs) (ts.map (X.c E)++cs):=by
 cases s with
 |one k=>
  simp only[ashX] at ht;cases ha:toXk k v with
  |none=>rw[ha] at ht;cases ht
  |some t=>
   rw[ha] at ht;cases ht;obtain⟨a1,a2⟩:=mW h ha;exact⟨by simpa using a1,fun hr=>.one a2 hr⟩
 |agg ks=>
  cases h<;>simp only[ashX] at ht<;>first|(cases ht;done)|skip
  rename_i cs xs h1;obtain⟨a1,a2⟩:=qA h1 ht;exact⟨a1,fun hr=>.agg a2 hr⟩
theorem oA:∀ {shs:List Ash}{vs:List V}{xs:List Value}{ts:List X},VRs E vs xs->iX shs vs=some ts->(∀ t∈ts,t.ok E)/\ArgR E.fz shs xs (ts.map (X.c E))
 |[],[],_,_,h,ht=>by cases h;cases ht;exact⟨by simp,.nil⟩
 |[],_::_,_,_,_,ht=>by cases ht
 |_::_,[],_,_,_,ht=>by cases ht
 |s::r,v::vs,_,_,h,ht=>by
  cases h with
  |cons _ x _ xs h1 h2=>
   simp only[iX] at ht;cases ha:ashX s v with
   |none=>rw[ha] at ht;cases ht
   |some t=>
    cases hb:iX r vs with
    |none=>rw[ha,hb] at ht;cases ht
    |some l=>
     rw[ha,hb] at ht;cases ht;obtain⟨a1,a2⟩:=y6 h1 ha;obtain⟨b1,b2⟩:=oA h2 hb;refine⟨fun u hu=>(List.mem_append.1 hu).elim (a1 u) (b1 u),?_⟩;rw[List.map_append];exact a2 b2
theorem y7 {r:Rsh}{v:V}{x:Value}{ts:List X}(h:VR E v x)(ht:rshX r v=some ts):(∀ t∈ts,t.ok E)/\ResR E.fz r x (ts.map (X.c E)):=by
 cases r with
 |one s=>
  obtain⟨a1,a2⟩:=y6 h ht;refine⟨a1,?_⟩;have:=a2 .nil;rw[List.append_nil] at this;exact this
 |tup l=>
  cases h<;>simp only[rshX] at ht<;>first|(cases ht;done)|skip
  rename_i vs xs h1;obtain⟨a1,a2⟩:=oA h1 ht;exact⟨a1,xs,rfl,a2⟩
def mz (t:X):List (X×Bool)->Option Bool
 |[]=>none
 |(u,b)::r=>cond (t.beq u) (some b) (mz t r)
theorem lG {t:X}{b:Bool}:∀ {D:List (X×Bool)},mz t D=some b->(t,b)∈D
 |[],h=>by cases h
 |(u,c)::r,h=>by
  simp only[mz] at h;cases hb:t.beq u with
  |true=>rw[hb] at h;cases h;rw[X.beq_eq hb];exact aj ..
  |false=>rw[hb] at h;exact ai _ (lG h)
inductive Cs where
 |le (c:Int)
 |ge (c:Int)
 |eq (c:Int)
 |ne (c:Int)
def satB:Cs->Int->Bool
 |.le c,m=>decide (m<=c)
 |.ge c,m=>decide (c<=m)
 |.eq c,m=>decide (m=c)
 |.ne c,m=>!decide (m=c)
def csOf (op:BinOp)(n:Int)(b:Bool):Option Cs:=
 match op with
 |.lss=>some (cond b (.le (subF n 1)) (.ge n))
 |.leq=>some (cond b (.le n) (.ge (addF n 1)))
 |.gtr=>some (cond b (.ge (addF n 1)) (.le n))
 |.geq=>some (cond b (.ge n) (.le (subF n 1)))
 |.eql=>some (cond b (.eq n) (.ne n))
 |.neq=>some (cond b (.ne n) (.eq n))
 |_=>none
def leF (a b:Int):Bool:=!ltF b a
def subC:Cs->Cs->Bool
 |.le a,.le b=>leF a b
 |.ge a,.ge b=>leF b a
 |.eq a,.le b=>leF a b
 |.eq a,.ge b=>leF b a
 |.eq a,.eq b=>eqF a b
 |.eq a,.ne b=>!eqF a b
 |.le a,.ne b=>ltF a b
 |.ge a,.ne b=>ltF b a
 |.ne a,.ne b=>eqF a b
 |_,_=>false
def compC:Cs->Cs
 |.le c=>.ge (addF c 1)
 |.ge c=>.le (subF c 1)
 |.eq c=>.ne c
 |.ne c=>.eq c
theorem y8 (a b:Int):ltF a b=decide (a<b):=fw a b
theorem eqF_iff (a b:Int):eqF a b=decide (a=b):=by rw[gE,Bool.eq_iff_iff];simp
theorem leF_iff (a b:Int):leF a b=decide (a<=b):=by
 rw[leF,y8,Bool.eq_iff_iff];simp
theorem y9 {a b:Cs}(h:subC a b=true){m:Int}(hm:satB a m=true):satB b m=true:=by
 cases a<;>cases b<;>simp only[subC,leF_iff,y8,eqF_iff,decide_eq_true_eq,Bool.not_eq_true',decide_eq_false_iff_not] at h <;>
  first|(cases h;done)|(simp only[satB,decide_eq_true_eq,Bool.not_eq_true',decide_eq_false_iff_not] at hm ⊢;omega)
theorem compC_ok {a:Cs}{m:Int}(hm:satB (compC a) m=true):satB a m=false:=by
 cases a<;>simp only[compC,satB,r7,mQ,decide_eq_true_eq,Bool.not_eq_true',decide_eq_false_iff_not,Bool.not_eq_false'] at hm ⊢ <;> omega
theorem za {op:BinOp}{n:Int}{b:Bool}{C:Cs}(h:csOf op n b=some C)(k:IntKind)(m:Int):intD op k m n=.bool (satB C m==b):=by
 cases op<;>simp only[csOf] at h<;>first|(cases h;done)|skip
 all_goals
  cases b<;>simp only[cond_true,cond_false,Option.some.injEq] at h<;>subst h<;>simp only[intD,satB,r7,mQ,Cl.bool.injEq]<;>rw[Bool.eq_iff_iff]<;>simp<;>omega
def imp1:X->X->Bool->Option Bool
 |.bin op a (.int _ n),.bin op' a' (.int _ n'),b=>cond (a.beq a') (match csOf op n true,csOf op' n' b with
  |some p,some f=>cond (subC f p) (some true) (cond (subC f (compC p)) (some false) none)
  |_,_=>none) none
 |.bin .eql a (.str l n),.bin .eql a' (.str l' n'),true=>cond (a.beq a') (some (decide (sB l' n'=sB l n))) none
 |_,_,_=>none
def impl (t:X):List (X×Bool)->Option Bool
 |[]=>none
 |(u,b)::r=>(match imp1 t u b with|some c=>some c|none=>impl t r)
def decA (D:List (X×Bool))(t:X):Option Bool:=match mz t D with|some b=>some b|none=>impl t D
def decN (D:List (X×Bool)):X->Option Bool
 |.un .not u=>cond (fo u.kd) (match decA D u with|some b=>some (!b)|none=>none) none
 |_=>none
def gV (D:List (X×Bool))(t:X):Option Bool:=match decA D t with|some b=>some b|none=>decN D t
@[reducible] def dcOf (D:List (X×Bool)):Dc:=⟨gV D⟩
def X.at1 (L:Nat)(t:X):Bool:=t.pls.all (Nat.beq L)
def gW (L:Nat)(D:List (X×Bool)):Bool:=D.all fun x=>x.1.at1 L
def holds (E:Env)(D:List (X×Bool)):Prop:=∀ x∈D,x.1.c E=.bool x.2
theorem lH (t:X):gV [] t=none:=by
 simp only[gV,decA,mz,impl];cases t<;>simp only[decN]<;>first|rfl|skip
 rename_i op a;cases op<;>simp only[decN,decA,mz,impl]<;>first|rfl|(cases fo a.kd<;>rfl)
theorem imp1_ok {E:Env}{t u:X}{b c:Bool}(h:imp1 t u b=some c)(hu:u.c E=.bool b):t.c E=.bool c/\t.pls=u.pls:=by
 unfold imp1 at h;split at h
 ·rename_i _ op a k n op' a' k' n'
  cases hb:a.beq a' with
  |false=>rw[hb] at h;cases h
  |true=>
   rw[hb] at h;have e:=X.beq_eq hb;subst e;simp only[cond_true] at h;cases h1:csOf op n true with
   |none=>rw[h1] at h;cases h
   |some p=>
    cases h2:csOf op' n' b with
    |none=>rw[h1,h2] at h;cases h
    |some f=>
     rw[h1,h2] at h;simp only at h;refine⟨?_,rfl⟩;have hu':binD op' a.kd (a.c E) (.int n')=.bool b:=hu
     have key:∃ kk m,a.kd=.int kk/\a.c E=.int m:=by
      cases hk:a.kd<;>cases hc:a.c E<;>rw[hk,hc] at hu'<;>first|(exact⟨_,_,rfl,rfl⟩)|(simp[binD] at hu')
     obtain⟨kk,m,e1,e2⟩:=key;rw[e1,e2] at hu';have hf:=za h2 kk m
     have hs:satB f m=true:=by
      have:intD op' kk m n'=.bool b:=hu';rw[hf] at this;simp only[Cl.bool.injEq] at this;cases hb2:b<;>rw[hb2] at this<;>simpa using this
     show binD op a.kd (a.c E) (.int n)=_;rw[e1,e2];show intD op kk m n=_;rw[za h1 kk m];cases hq:subC f p with
     |true=>rw[hq] at h;cases h;rw[y9 hq hs];rfl
     |false=>
      rw[hq] at h;simp only[cond_false] at h;cases hq2:subC f (compC p) with
      |true=>rw[hq2] at h;cases h;rw[compC_ok (y9 hq2 hs)];rfl
      |false=>rw[hq2] at h;cases h
 ·rename_i a l n a' l' n'
  cases hb:a.beq a' with
  |false=>rw[hb] at h;cases h
  |true=>
   rw[hb] at h;have e:=X.beq_eq hb;subst e;simp only[cond_true,Option.some.injEq] at h;subst h;refine⟨?_,rfl⟩;have hu':binD .eql a.kd (a.c E) (.str (sB l' n'))=.bool true:=hu
   have key:∃ s,a.kd=.str/\a.c E=.str s:=by
    cases hk:a.kd<;>cases hc:a.c E<;>rw[hk,hc] at hu'<;>first|(exact⟨_,rfl,rfl⟩)|(simp[binD] at hu')
   obtain⟨s,e1,e2⟩:=key;rw[e1,e2] at hu';have hs:s=sB l' n':=by simpa[binD,strD] using hu'
   show binD .eql a.kd (a.c E) (.str (sB l n))=_;rw[e1,e2,hs];show strD .eql _ _=_;simp only[strD,Cl.bool.injEq];rw[Bool.eq_iff_iff];simp
 ·cases h
theorem sS {t:X}{c:Bool}:∀ {D:List (X×Bool)},impl t D=some c->∃ u b,(u,b)∈D/\imp1 t u b=some c
 |[],h=>by cases h
 |(u,b)::r,h=>by
  simp only[impl] at h;cases h1:imp1 t u b with
  |some c'=>rw[h1] at h;cases h;exact⟨u,b,aj ..,h1⟩
  |none=>
   rw[h1] at h;obtain⟨u',b',h2,h3⟩:=sS h;exact⟨u',b',ai _ h2,h3⟩
theorem imp1_pls {t u:X}{b c:Bool}(h:imp1 t u b=some c):t.pls=u.pls:=by
 unfold imp1 at h;split at h
 ·rename_i _ op a k n op' a' k' n'
  cases hb:a.beq a' with
  |false=>rw[hb] at h;cases h
  |true=>have e:=X.beq_eq hb;subst e;rfl
 ·rename_i a l n a' l' n'
  cases hb:a.beq a' with
  |false=>rw[hb] at h;cases h
  |true=>have e:=X.beq_eq hb;subst e;rfl
 ·cases h
theorem zb {E:Env}{D:List (X×Bool)}{t:X}{b:Bool}(h:decA D t=some b)(hh:holds E D):t.c E=.bool b:=by
 unfold decA at h;cases hl:mz t D with
 |some c=>rw[hl] at h;cases h;exact hh _ (lG hl)
 |none=>
  rw[hl] at h;obtain⟨u,c,h1,h2⟩:=sS h;exact (imp1_ok h2 (hh _ h1)).1
theorem zd {L:Nat}{D:List (X×Bool)}{t:X}{b:Bool}(h:decA D t=some b)(hd:gW L D=true):t.at1 L=true:=by
 unfold decA at h;cases hl:mz t D with
 |some c=>rw[hl] at h;cases h;exact List.all_eq_true.1 hd _ (lG hl)
 |none=>
  rw[hl] at h;obtain⟨u,c,h1,h2⟩:=sS h;have:=List.all_eq_true.1 hd _ h1;unfold X.at1 at this ⊢;rw[imp1_pls h2];exact this
theorem unNot_c {E:Env}{u:X}{b:Bool}(hk:u.kd=.bool)(h:u.c E=.bool b):(X.un .not u).c E=.bool (!b):=by
 show unD .not u.kd (u.c E)=_;rw[hk,h];rfl
theorem vo {E:Env}{D:List (X×Bool)}{t:X}{b:Bool}(h:gV D t=some b)(hh:holds E D):t.c E=.bool b:=by
 unfold gV at h;cases ha:decA D t with
 |some c=>rw[ha] at h;cases h;exact zb ha hh
 |none=>
  rw[ha] at h;simp only at h;unfold decN at h;split at h
  ·rename_i u
   cases hk:fo u.kd with
   |false=>rw[hk] at h;cases h
   |true=>
    rw[hk] at h;simp only[cond_true] at h;cases hu:decA D u with
    |none=>rw[hu] at h;cases h
    |some c=>
     rw[hu] at h;cases h;exact unNot_c (ip hk) (zb hu hh)
  ·cases h
theorem vp {L:Nat}{D:List (X×Bool)}{t:X}{b:Bool}(h:gV D t=some b)(hd:gW L D=true):t.at1 L=true:=by
 unfold gV at h;cases ha:decA D t with
 |some c=>rw[ha] at h;cases h;exact zd ha hd
 |none=>
  rw[ha] at h;simp only at h;unfold decN at h;split at h
  ·rename_i u
   cases hk:fo u.kd with
   |false=>rw[hk] at h;cases h
   |true=>
    rw[hk] at h;simp only[cond_true] at h;cases hu:decA D u with
    |none=>rw[hu] at h;cases h
    |some c=>exact zd (t:=u) hu hd
  ·cases h
def eF (P:Program)(g:Gh):Env:=fun l=>if l<P.globals.size then some ⟨l,0,0,undef,noOb,[]⟩ else if l=P.globals.size then some ⟨0,0,0,undef,g,[]⟩ else none
def stBs (P:Program)(w:World)(g:Gh):Bs:=⟨w,fun b=>b<w.heap.size,fun _ h=>h,eF P g⟩
theorem stEnv_at {P:Program}{g:Gh}:eF P g P.globals.size=some ⟨0,0,0,undef,g,[]⟩:=by unfold eF;rw[if_neg (by omega),if_pos rfl]
theorem stEnv_fz {P:Program}{g:Gh}{b o:Nat}{v:Value}:(eF P g).fz b o v<->g.fz b o=some v:=by
 constructor
 ·rintro⟨l,p,hp,hv⟩
  unfold eF at hp;split at hp
  ·cases hp;cases hv
  ·split at hp
   ·cases hp;exact hv
   ·cases hp
 ·intro h;exact⟨_,_,stEnv_at,h⟩
theorem WR.startX {P:Program}{w:World}{g:Gh}{nx:Nat}(hsz:P.globals.size<=w.heap.size)(h0:0<w.heap.size)(hnx:P.globals.size<nx)(hfz:∀ b o v,g.fz b o=some v->w.cell? ⟨b,o,none⟩=some v)
  (hdc:∀ t b,Dc.dec t=some b->t.ok (eF P g)/\t.c (eF P g)=.bool b):WR (stBs P w g) (eF P g) .e nx w:=by
 refine⟨fun l p _=>trivial,fun l hl=>⟨?_,rfl⟩,fun l l' p p' _ _ _ _=>.inl (.inl rfl),fun l h=>absurd rfl h,fun l p hp=>⟨?_,.inl rfl⟩,fun _ _=>rfl,am _,rfl,rfl,rfl,Env.le.refl _,fun l p hp b o v hf=>⟨hfz b o v (stEnv_fz.1 ⟨l,p,hp,hf⟩),fun _ _ _ _=>.inl rfl⟩,hdc,fun l p hl b o v hf _=>⟨l,p,hl,hf⟩⟩
 ·unfold eF;rw[if_neg (by omega),if_neg (by omega)]
 ·unfold eF at hp
  split at hp
  ·cases hp;show l<_;omega
  ·split at hp
   ·cases hp;exact h0
   ·cases hp
open Classical in
def fzF (F:Nat->Nat->Value->Prop):Nat->Nat->Option Value:=fun b o=>if h:∃ v,F b o v then some (Classical.choose h) else none
theorem gZ {F:Nat->Nat->Value->Prop}{b o:Nat}{v:Value}(h:fzF F b o=some v):F b o v:=by
 unfold fzF at h;split at h
 ·rename_i hh;cases h;exact Classical.choose_spec hh
 ·cases h
theorem fzF_mk {F:Nat->Nat->Value->Prop}(hu:∀ b o v v',F b o v->F b o v'->v=v'){b o:Nat}{v:Value}(h:F b o v):fzF F b o=some v:=by
 unfold fzF;rw[dif_pos ⟨v,h⟩];congr 1;exact hu b o _ _ (Classical.choose_spec (⟨v,h⟩:∃ v,F b o v)) h
end
section
variable [Tb]{P:Program}{k:Nat}{G:World->Prop}
def ghOf (φ:Nat->Nat->Option Value)(cls:List Cl)(fn:Nat->List Cl->Cl):Gh:=⟨.deferred none,fun _ _ _=>True,φ,fun i=>cls.getD i .no,fn⟩
end
end Go.Exo
end

noncomputable section
namespace Go.Exo
structure DatE (E:Env)(L:Nat)(vl:Nat->Cl)(fn:Nat->List Cl->Cl):Prop where
 ex:∃ p,E L=some p/\p.ob.vl=vl/\p.ob.fn=fn
theorem DatE.var {E:Env}{L:Nat}{vl:Nat->Cl}{fn:Nat->List Cl->Cl}(h:DatE E L vl fn)(i:Nat)(k:Kd):(X.var L i k).den E=[vl i]:=by
 obtain⟨p,h1,h2,_⟩:=h.ex;simp only[X.den,h1,h2]
theorem DatE.app {E:Env}{L:Nat}{vl:Nat->Cl}{fn:Nat->List Cl->Cl}(h:DatE E L vl fn)(f:Nat)(a:X)(k:Kd):(X.app L f a k).den E=[fn f (a.den E)]:=by
 obtain⟨p,h1,_,h3⟩:=h.ex;simp only[X.den,h1,h3]
variable [Sx] [Tb]{P:Program}{k:Nat}{G:World->Prop}
def ashV (L:Nat)(ts:X):Ash->Nat->V
 |.one k,i=>.x (.app L i ts k)
 |.agg ks,i=>.agg (go ks i)
where go:List Kd->Nat->List V
 |[],_=>[]
 |k::r,i=>.x (.app L i ts k)::go r (i+1)
def ashsV (L:Nat)(ts:X):List Ash->Nat->List V
 |[],_=>[]
 |s::r,i=>ashV L ts s i::ashsV L ts r (i+s.ks.length)
def rshV (L:Nat)(ts:X)(r:Rsh)(i:Nat):V:=
 match r with
 |.one s=>ashV L ts s i
 |.tup l=>.tup (ashsV L ts l i)
def lI (L f:Nat)(shs:List Ash)(rsh:Rsh)(fi:Nat):Hook:=fun g args H nx=>
 cond (Nat.beq g f) (match iX shs args with|some ts=>some (rshV L (X.ofL ts) rsh fi,H,Nat.succ nx)|none=>none) none
def fK [Dc](L f:Nat)(shs:List Ash)(rsh:Rsh)(fi pi:Nat):Hook:=fun g args H nx=>
 cond (Nat.beq g f) (match iX shs args with|some ts=>(match Dc.dec (.app L pi (X.ofL ts) .bool) with|some true=>some (rshV L (X.ofL ts) rsh fi,H,Nat.succ nx)|_=>none)|none=>none) none
section
variable [Dc]{w0:Bs}{E:Env}{H:T AObj}{nx:Nat}{w:World}
theorem WR.chunk (h:WR w0 E H nx w)(hw:0<w.heap.size){φ:Nat->Nat->Option Value}(hv:∀ b o v,φ b o=some v->w.cell? ⟨b,o,none⟩=some v)
  (hn:∀ b o v,φ b o=some v->E.fz b o v\/((∀ l p,E l=some p->p.blk≠b)/\¬ w0.old b)) :
  WR w0 (E.set nx ⟨0,0,0,undef,{ noOb with fz:=φ },[]⟩) H (nx+1) w:=by
 have hno:=h.fresh nx (am _);have hle:E.le (E.set nx ⟨0,0,0,undef,{ noOb with fz:=φ },[]⟩):=Env.le_set _ hno.1
 have hE:∀ l p,(E.set nx ⟨0,0,0,undef,{ noOb with fz:=φ },[]⟩) l=some p->(l=nx/\p=⟨0,0,0,undef,{ noOb with fz:=φ },[]⟩)\/(l≠nx/\E l=some p):=by
  intro l p hl;by_cases e:l=nx
  ·subst e;rw[Env.set_self] at hl;cases hl;exact .inl ⟨rfl,rfl⟩
  ·rw[Env.set_other _ _ _ _ e] at hl;exact .inr ⟨e,hl⟩
 refine⟨fun l p hl=>?_,fun l hl=>?_,fun l l' p p' hne hl hl' hb=>?_,fun l hl=>?_,fun l p hl=>?_,h.old,h.size,h.os,h.output,h.tape,h.le.trans hle,fun l p hl b o v hf=>?_,h.dec,fun l p hl b o v hf ho=>?_⟩
 ·rcases hE l p hl with⟨rfl,rfl⟩|⟨_,hl⟩
  ·rw[hno.2];trivial
  ·exact (h.objs l p hl).trans hle fun _ ho=>ho
 ·have:=h.fresh l (by omega)
  exact⟨by rw[Env.set_other _ _ _ _ (by omega)];exact this.1,this.2⟩
 ·rcases hE l p hl with⟨rfl,rfl⟩|⟨_,hl⟩
  ·exact .inl (.inl hno.2)
  ·rcases hE l' p' hl' with⟨rfl,rfl⟩|⟨_,hl'⟩
   ·exact .inl (.inr (.inl hno.2))
   ·exact h.sep l l' p p' hne hl hl' hb
 ·obtain⟨a,b,m,h1,h2,h3⟩:=h.cls l hl
  exact⟨a,b,m,h1,h2,by rw[Env.set_other _ _ _ _ (fun e=>by rw[e,hno.2] at h1;cases h1)];exact h3⟩
 ·rcases hE l p hl with⟨rfl,rfl⟩|⟨_,hl⟩
  ·exact⟨hw,.inl hno.2⟩
  ·exact h.own l p hl
 ·rcases hE l p hl with⟨rfl,rfl⟩|⟨_,hl⟩
  ·refine⟨hv b o v hf,fun l' p' hl' hb'=>?_⟩
   rcases hE l' p' hl' with⟨rfl,rfl⟩|⟨_,hl'⟩
   ·rw[hno.2];exact .inl rfl
   ·rcases hn b o v hf with⟨l2,p2,h2,h3⟩|⟨h2,_⟩
    ·exact (h.dat l2 p2 h2 b o v h3).2 l' p' hl' hb'
    ·exact absurd hb' (h2 l' p' hl')
  ·obtain⟨h1,h2⟩:=h.dat l p hl b o v hf
   refine⟨h1,fun l' p' hl' hb'=>?_⟩;rcases hE l' p' hl' with⟨rfl,rfl⟩|⟨_,hl'⟩
   ·rw[hno.2];exact .inl rfl
   ·exact h2 l' p' hl' hb'
 ·rcases hE l p hl with⟨rfl,rfl⟩|⟨_,hl⟩
  ·rcases hn b o v hf with⟨l2,p2,h2,h3⟩|⟨_,h2⟩
   ·exact h.fzo l2 p2 h2 b o v h3 ho
   ·exact absurd ho h2
  ·exact h.fzo l p hl b o v hf ho
theorem zf {L:Nat}{ts:X}{p:Pl}(hp:E L=some p)(hts:ts.ok E):∀ {ks:List Kd}{xs:List Value}{cs:List Cl}(i:Nat),CRs E.fz ks xs cs->(∀ (j:Nat) c,cs[j]? = some c->p.ob.fn (i+j) (ts.den E)=c)->VRs E (ashV.go L ts ks i) xs
 |[],_,_,_,h,_=>by cases h;exact .nil
 |k::ks,_,_,i,h,hv=>by
  cases h with
  |cons h1 h2=>
   refine .cons _ _ _ _ (.x _ _ ⟨⟨p,hp⟩,hts⟩ ?_) (zf hp hts (i+1) h2 fun j c hc=>by rw[<- hv (j+1) c (by simpa using hc)];congr 1;omega);show CR E.fz k _ (Cl.hd [match E L with|some p=>p.ob.fn i (ts.den E)|none=>.no]);rw[hp];have:=hv 0 _ rfl;simp only[Nat.add_zero] at this;simp only[Cl.hd,this];exact h1
theorem kA {L:Nat}{ts:X}{p:Pl}(hp:E L=some p)(hts:ts.ok E):∀ {shs:List Ash}{xs:List Value}{cs:List Cl}(i:Nat),ArgR E.fz shs xs cs->(∀ (j:Nat) c,cs[j]? = some c->p.ob.fn (i+j) (ts.den E)=c)->VRs E (ashsV L ts shs i) xs
 |[],_,_,_,h,_=>by cases h;exact .nil
 |.one k::r,_,_,i,h,hv=>by
  cases h with
  |one h1 h2=>
   refine .cons _ _ _ _ (.x _ _ ⟨⟨p,hp⟩,hts⟩ ?_) (kA hp hts (i+1) h2 fun j c hc=>by rw[<- hv (j+1) c (by simpa using hc)];congr 1;omega);show CR E.fz k _ (Cl.hd [match E L with|some p=>p.ob.fn i (ts.den E)|none=>.no]);rw[hp];have:=hv 0 _ rfl;simp only[Nat.add_zero] at this;simp only[Cl.hd,this];exact h1
 |.agg ks::r,_,_,i,h,hv=>by
  cases h with
  |@agg _ xs ds _ vs cs h1 h2=>
   have hlen:ks.length=ds.length:=h1.wt.length;refine .cons _ _ _ _ (.agg _ _ (zf hp hts i h1 fun j c hc=>hv j c (by rw[List.getElem?_append_left (ae.1 hc).1];exact hc))) (kA hp hts (i+ks.length) h2 fun j c hc=>?_);rw[Nat.add_assoc];refine hv (ks.length+j) c ?_;rw[hlen,List.getElem?_append_right (by omega),Nat.add_sub_cancel_left];exact hc
theorem rshV_ok {L:Nat}{ts:X}{p:Pl}(hp:E L=some p)(hts:ts.ok E){rsh:Rsh}{x:Value}{cs:List Cl}(i:Nat)(h:ResR E.fz rsh x cs)(hv:∀ (j:Nat) c,cs[j]? = some c->p.ob.fn (i+j) (ts.den E)=c):VR E (rshV L ts rsh i) x:=by
 cases rsh with
 |one s=>
  have:=kA hp hts (shs:=[s]) i h hv;cases this with
  |cons _ _ _ _ h1 _=>exact h1
 |tup l=>
  obtain⟨xs,rfl,h1⟩:=h;exact .tup _ _ (kA hp hts i h1 hv)
theorem qC {L f fi:Nat}{fn:Nat->List Cl->Cl}{shs:List Ash}{rsh:Rsh}{Pre:List Cl->Prop}{F:List Cl->List Cl}(hS:Spec P G f shs rsh Pre F)(hfn:∀ cls (j:Nat) c,(F cls)[j]? = some c->fn (fi+j) cls=c)(hG:Gd0 k G)(hk0:0<k)
  (hgb:GB k G w0)(htb:Tb.tab=some (L,fn))(h:WR w0 E H nx w){args:List V}{xs:List Value}(hxs:VRs E args xs){ts:List X}(hts:iX shs args=some ts)(hpre:Pre (ts.map (X.c E))) :
  Calls P f xs.toArray w (dV w0 E H nx (rshV L (X.ofL ts) rsh fi) H (nx+1)):=by
 obtain⟨t1,t2⟩:=oA hxs hts;have hcell:∀ b o v,E.fz b o v->w.cell? ⟨b,o,none⟩=some v:=fun b o v ⟨l,p,hp,hv⟩=>(h.dat l p hp b o v hv).1
 have hu:∀ b o v v',E.fz b o v->E.fz b o v'->v=v':=fun b o v v' a b'=>by
  have e1:=hcell _ _ _ a;rw[hcell _ _ _ b'] at e1;cases e1;rfl
 have hsz:=hG.size w (hgb.at hG h);refine (hS w (fzF E.fz) xs (ts.map (X.c E)) (hgb.at hG h) (fun b o v hv=>hcell b o v (gZ hv)) (t2.mono fun b o v hv=>fzF_mk hu hv) hpre).mono fun e w' ⟨x,φ',he,h1,h2,h3,h4,h5⟩=>?_
 obtain⟨p,hp,hpf⟩:=(hgb.2.2.mono h.le) L fn htb;have hno:=h.fresh nx (am _);have hle:E.le (E.set nx ⟨0,0,0,undef,{ noOb with fz:=φ' },[]⟩):=Env.le_set _ hno.1
 have hwr:=(h.grow h4).chunk (by have:=h4.size;omega) h2 (fun b o v hv=>by
  by_cases hb:b<w.heap.size
  ·exact .inl (gZ (h3 b o v hv hb))
  ·exact .inr ⟨fun l p hp e=>by have:=(h.own l p hp).1;omega,fun ho=>by have:=h.lt_old ho;omega⟩)
 have hokL:(X.ofL ts).ok E:=X.ok_ofL.2 t1;refine .ret ⟨x,_,he,hle,?_,hwr,Nat.le_succ _,fun l hl hEl hc=>⟨by rw[Env.set_other _ _ _ _ (by omega)];exact hEl,rfl⟩⟩;have hfz:∀ b o v,φ' b o=some v->(E.set nx ⟨0,0,0,undef,{ noOb with fz:=φ' },[]⟩).fz b o v:=fun b o v hv=>⟨nx,_,Env.set_self _ _ _,hv⟩
 have h5':ResR (E.set nx ⟨0,0,0,undef,{ noOb with fz:=φ' },[]⟩).fz rsh x (F (ts.map (X.c E))):=by
  cases rsh with
  |one s=>exact ArgR.mono hfz h5
  |tup l=>obtain⟨xs,g1,g2⟩:=h5;exact⟨xs,g1,g2.mono hfz⟩
 refine rshV_ok (hle _ _ hp) (X.ok_mono hle hokL) fi h5' fun j c hc=>?_
 rw[hpf,X.den_mono hle hokL,X.den_ofL];exact hfn _ j c hc
end
theorem aq.spec {L f fi:Nat}{fn:Nat->List Cl->Cl}{shs:List Ash}{rsh:Rsh}{F:List Cl->List Cl}(hS:Spec P G f shs rsh (fun _=>True) F)(hfn:∀ cls (j:Nat) c,(F cls)[j]? = some c->fn (fi+j) cls=c)(hG:Gd0 k G)(hk0:0<k)
  (htb:Tb.tab=some (L,fn))(D:List (X×Bool)) : @aq _ (dcOf D) _ P k G (lI L f shs rsh fi):=by
 letI:=dcOf D
 intro w0 hw0 E H nx w g args xs v H' nx' hwr hgl hxs hh;unfold lI at hh;cases hb:Nat.beq g f with
 |false=>rw[hb] at hh;cases hh
 |true=>
  rw[hb] at hh;have e:=aa hb;subst e;simp only[cond_true] at hh;cases hts:iX shs args with
  |none=>rw[hts] at hh;cases hh
  |some ts=>
   rw[hts] at hh;simp only[Option.some.injEq,Prod.mk.injEq] at hh;obtain⟨rfl,rfl,rfl⟩:=hh;exact qC hS hfn hG hk0 hw0 htb hwr hxs hts trivial
theorem aq.specP {L f fi pi:Nat}{fn:Nat->List Cl->Cl}{shs:List Ash}{rsh:Rsh}{Pre:List Cl->Prop}{F:List Cl->List Cl}(hS:Spec P G f shs rsh Pre F)(hfn:∀ cls (j:Nat) c,(F cls)[j]? = some c->fn (fi+j) cls=c)(hpi:∀ cls,fn pi cls=.bool true->Pre cls)(hG:Gd0 k G)(hk0:0<k)
  (htb:Tb.tab=some (L,fn))(D:List (X×Bool)) : @aq _ (dcOf D) _ P k G (@fK (dcOf D) L f shs rsh fi pi):=by
 letI:=dcOf D
 intro w0 hw0 E H nx w g args xs v H' nx' hwr hgl hxs hh;unfold fK at hh;cases hb:Nat.beq g f with
 |false=>rw[hb] at hh;cases hh
 |true=>
  rw[hb] at hh;have e:=aa hb;subst e;simp only[cond_true] at hh;cases hts:iX shs args with
  |none=>rw[hts] at hh;cases hh
  |some ts=>
   rw[hts] at hh;simp only at hh;cases hd:Dc.dec (.app L pi (X.ofL ts) .bool) with
   |none=>rw[hd] at hh;cases hh
   |some b=>
    cases b with
    |false=>rw[hd] at hh;cases hh
    |true=>
     rw[hd] at hh;simp only[Option.some.injEq,Prod.mk.injEq] at hh;obtain⟨rfl,rfl,rfl⟩:=hh;refine qC hS hfn hG hk0 hw0 htb hwr hxs hts (hpi _ ?_);obtain⟨_,h2⟩:=hwr.decE _ _ hd;obtain⟨p,hp,hpf⟩:=(hw0.2.2.mono hwr.le) L fn htb;simp only[X.den,hp,Cl.hd,X.den_ofL] at h2;rw[<- hpf];exact h2
end Go.Exo
end

noncomputable section
namespace Go.Exo
variable [Sx] [Dc] [Tb]
section
variable {P:Program}{w0:Bs}{E:Env}{H:T AObj}{nx:Nat}{w:World}
def oB (e:TypeId)(esz:Nat):Nat->List V->X->Option X
 |0,_,t=>some t
 |n+1,vs,t=>(match rowX (Sx.row e) (vs.take esz) with|some a=>oB e esz n (vs.drop esz) (.snoc t a)|none=>none)
theorem vq {e:TypeId}:∀ {n:Nat}{vs:List V}{xs:List Value}{t u:X}{rows0:List (List Cl)},VRs E vs xs->vs.length=n*(Sx.row e).length->t.ok E->t.kd=.sl e->(∃ nl,Cl.hd (t.den E)=.sl nl rows0)->oB e (Sx.row e).length n vs t=some u->
  u.ok E/\u.kd=.sl e/\∃ rows,rows.length=n/\(∃ nl,Cl.hd (u.den E)=.sl nl (rows0++rows)/\(0<n->nl=false))/\(∀ (i:Nat) r,rows[i]? = some r->r.length=(Sx.row e).length)/\
   ∀ (i:Nat)(r:List Cl)(j:Nat)(c:Cl)(k:Kd),rows[i]? = some r->r[j]? = some c->(Sx.row e)[j]? = some k->∃ x,xs[i*(Sx.row e).length+j]? = some x/\CR E.fz k x c
 |0,vs,xs,t,u,rows0,_,_,h3,h4,h5,h6=>by
  simp only[oB,Option.some.injEq] at h6;subst h6;obtain⟨nl,h5⟩:=h5;exact⟨h3,h4,[],rfl,⟨nl,by simpa using h5,fun h=>by omega⟩,fun i r h=>by simp at h,fun i r j c k h=>by simp at h⟩
 |n+1,vs,xs,t,u,rows0,h1,h2,h3,h4,h5,h6=>by
  simp only[oB] at h6;cases hr:rowX (Sx.row e) (vs.take (Sx.row e).length) with
  |none=>rw[hr] at h6;cases h6
  |some a=>
   rw[hr] at h6;simp only at h6;obtain⟨a1,a2,a3,a4⟩:=mT (h1.take (Sx.row e).length) hr;obtain⟨nl,h5⟩:=h5;have hs:∃ nl,Cl.hd ((X.snoc t a).den E)=.sl nl (rows0++[a.den E]):=⟨false,by show iT (Cl.hd (t.den E)) (a.den E)=_;rw[h5];rfl⟩
   rw[Nat.add_mul,Nat.one_mul] at h2;obtain⟨g1,g2,rows,g3,⟨nl2,g4,g5⟩,g6,g7⟩:=vq (n:=n) (t:=.snoc t a) (u:=u) (rows0:=rows0++[a.den E]) (h1.drop (Sx.row e).length) (by rw[List.length_drop,h2];omega) ⟨h3,a1⟩ h4 hs h6;have hxl:xs.length=n*(Sx.row e).length+(Sx.row e).length:=by rw[<- h1.length,h2]
   refine⟨g1,g2,a.den E::rows,by simp[g3],⟨nl2,by rw[g4];simp,fun _=>?_⟩,fun i r hi=>?_,fun i r j c k hi hc hk=>?_⟩
   ·cases n with
    |zero=>
     simp only[oB,Option.some.injEq] at h6;subst h6;have:Cl.hd ((X.snoc t a).den E)=.sl false (rows0++[a.den E]):=by show iT (Cl.hd (t.den E)) (a.den E)=_;rw[h5];rfl
     rw[this] at g4;simp only[Cl.sl.injEq] at g4;exact g4.1.symm
    |succ n=>exact g5 (by omega)
   ·cases i with
    |zero=>simp at hi;subst hi;exact a2
    |succ i=>exact g6 i r (by simpa using hi)
   ·have hj:j<(Sx.row e).length:=(ae.1 hk).1
    cases i with
    |zero=>
     simp at hi;subst hi;have hjx:j<(xs.take (Sx.row e).length).length:=by omega
     refine⟨_,?_,a4 j _ c k (ah hjx) hc hk⟩;rw[Nat.zero_mul,Nat.zero_add,<- ah hjx,List.getElem?_take,if_pos hj]
    |succ i=>
     obtain⟨x,hx,hcr⟩:=g7 i r j c k (by simpa using hi) hc hk;refine⟨x,?_,hcr⟩;rw[List.getElem?_drop] at hx;rw[<- hx];congr 1;rw[Nat.add_mul];omega
def frzV (v:V)(H:T AObj)(nx:Nat):Option (V×T AObj):=
 match v with
 |.slice l 0 n (some cp) esz=>(match getH H l with
  |.cells vs len e 0 _ 0 false=>cond (Nat.ble 1 n&&Nat.beq esz (Sx.row e).length&&Nat.ble (Nat.mul n esz) len&&Nat.ble cp 9223372036854775807) (match oB e esz n (vs.range .bad (Nat.mul n esz) 0) (.nil e) with
   |some t=>some (.lst nx t,put .no (put .no H l .no) nx (.own e))
   |none=>none) none
  |_=>none)
 |_=>none
theorem frzV_ok (h:WR w0 E H nx w){v:V}{x:Value}(hv:VR E v x){v':V}{H':T AObj}(hf:frzV v H nx=some (v',H')):∃ E',E.le E'/\VR E' v' x/\WR w0 E' H' (nx+1) w:=by
 unfold frzV at hf;split at hf
 case h_2=>cases hf
 rename_i l n cp esz;split at hf
 case h_2=>cases hf
 rename_i vs len e rel hobj;generalize hb:(Nat.ble 1 n&&Nat.beq esz (Sx.row e).length&&Nat.ble (Nat.mul n esz) len&&Nat.ble cp 9223372036854775807)=bb at hf;cases bb with
 |false=>cases hf
 |true=>
 simp only[Bool.and_eq_true] at hb;obtain⟨⟨⟨b1,b2⟩,b3⟩,b4⟩:=hb;have q1:=ab b1;have q2:=aa b2;have q3:n*esz<=len:=ab b3;subst q2;simp only[cond_true] at hf;cases hr:oB e (Sx.row e).length n (vs.range .bad (Nat.mul n (Sx.row e).length) 0) (.nil e) with
 |none=>rw[hr] at hf;cases hf
 |some t=>
 rw[hr] at hf;simp only[Option.some.injEq,Prod.mk.injEq] at hf;obtain⟨rfl,rfl⟩:=hf;cases hv with
 |slice _ _ _ _ _ p c hp c1 c2 c3=>
 have ho:=h.objs l p hp;rw[hobj] at ho;obtain⟨cc,fr,h1,h2,h3,h4,h5⟩:=ho;have hwr:=h.freeze hp hobj (m:=n*(Sx.row e).length) q3;have hno:=h.fresh nx (am _);have hle:E.le (E.set nx (gK w p (n*(Sx.row e).length))):=Env.le_set _ hno.1;refine⟨_,hle,?_,hwr⟩
 let xs:List Value:=(cc.toList.drop p.base).take (n*(Sx.row e).length)
 have hxl:xs.length=n*(Sx.row e).length:=by simp only[xs,List.length_take,List.length_drop,Array.length_toList];omega
 have hxg:∀ j,j<n*(Sx.row e).length->xs[j]? = cc[p.base+j]? := fun j hj=>by
  simp only[xs];rw[List.getElem?_take,if_pos hj,List.getElem?_drop,Array.getElem?_toList]
 have hvs:VRs E (vs.range .bad (Nat.mul n (Sx.row e).length) 0) xs:=VRs.of_get (by rw[bp,hxl];rfl) fun i v hv=>by
  have hi:i<n*(Sx.row e).length:=by have:=(ae.1 hv).1;rw[bp] at this;exact this
  have hv':some (vs.get .bad (0+i))=some v:=(bP V.bad vs (n*(Sx.row e).length) 0 i hi).symm.trans hv;rw[Nat.zero_add] at hv';cases hv';obtain⟨x,hx,hvr⟩:=h5 i (by omega) (.inl rfl);exact⟨x,by rw[hxg i hi];exact hx,hvr⟩
 obtain⟨g1,g2,rows,g3,⟨nl,g4,g5⟩,g6,g7⟩:=vq (n:=n) (t:=.nil e) (rows0:=[]) hvs (by rw[bp];rfl) trivial rfl ⟨true,rfl⟩ hr;obtain rfl:=g5 (by omega);have hcm:c<=maxLen:=by rw[<- c3 cp rfl];exact ab b4
 refine VR.lst nx (gK w p (n*(Sx.row e).length)) t e (p.base+0) n c (Env.set_self _ _ _) (X.ok_mono hle g1) g2 ?_ (by show p.base+0+_=p.base+_;omega) (by show p.base+0+_<=p.base+n*(Sx.row e).length+(p.size-n*(Sx.row e).length);omega);rw[X.den_mono hle g1,g4];simp only[List.nil_append]
 have hfz:∀ j x,j<n*(Sx.row e).length->xs[j]? = some x->(E.set nx (gK w p (n*(Sx.row e).length))).fz p.blk (p.base+j) x:=fun j x hj hx=>by
  refine⟨nx,_,Env.set_self _ _ _,?_⟩;show (if p.blk=p.blk/\p.base<=p.base+j/\p.base+j<p.base+n*(Sx.row e).length then w.cell? ⟨p.blk,p.base+j,none⟩ else none)=some x;rw[if_pos ⟨rfl,by omega,by omega⟩];rw[hxg j hj] at hx;simp[World.cell?,h1,hx]
 refine .sl e p.blk (p.base+0) n c rows (fun i j=>(xs[i*(Sx.row e).length+j]?).getD undef) g3 c1 hcm g6 (fun i r j d hi hd=>?_) (fun i r j d k hi hd hk=>?_)
 ·have hj:j<(Sx.row e).length:=by have h2:=(ae.1 hd).1;have h3:=g6 i r hi;omega
  have hin:i<n:=by have:=(ae.1 hi).1;omega
  obtain⟨x,hx,_⟩:=g7 i r j d _ hi hd (ah hj);have hlt:i*(Sx.row e).length+j<n*(Sx.row e).length:=by have:=(ae.1 hx).1;omega
  rw[hx];have:=hfz _ x hlt hx;rw[Nat.add_zero,Nat.add_assoc];exact this
 ·obtain⟨x,hx,hcr⟩:=g7 i r j d k hi hd hk
  rw[hx];exact hcr.mono fun _ _ _=>Env.fz_mono hle
end
end Go.Exo
end

noncomputable section
namespace Go.Exo
inductive Bx where
 |cells (elem:TypeId)(cells:List V)(fz:Nat)(ro:Bool)
 |own (e:TypeId)
structure Ct where
 todo:List AItem
 sl:List V
 box:List (Option Bx)
 ks:List Kd
def Bx.obj:Bx->AObj
 |.cells elem cs fz ro=>.cells (T.ofK .bad cs 0 .e id) cs.length elem 0 0 fz ro
 |.own e=>.own e
def Bx.ro:Bx->Bool
 |.cells _ _ _ ro=>ro
 |.own _=>false
def objO:Option Bx->AObj
 |some b=>b.obj
 |none=>.no
def df (L:Nat)(bs:List (Option Bx)):T AObj:=T.ofK .no (bs.map objO) (L+1) .e id
def Ct.H (C:Ct)(L:Nat):T AObj:=df L C.box
def Ct.tm (C:Ct):T V:=T.ofK au C.sl 0 .e id
def Ct.nx (C:Ct)(L:Nat):Nat:=Nat.add (Nat.succ L) C.box.length
def Ct.ctx (C:Ct)(L f:Nat):Ctx:={ fn:=f,tm:=C.tm,sz:=C.sl.length,ds:=[],kind:=.normal,round:=none,cs:=[],H:=C.H L,nx:=C.nx L }
def plB (L:Nat)(π:List Nat)(l l':Nat):Bool:=
 cond (Nat.ble (Nat.succ l) L) (Nat.beq l l') (cond (Nat.beq l L) false (match π[Nat.sub l (Nat.succ L)]? with|some k=>Nat.beq k l'|none=>false))
mutual
def aC (L:Nat)(π:List Nat)(σ:List X):V->V->Bool
 |.junk,_=>true
 |.x (.var l j k),v=>Nat.beq l L&&(match σ[j]? with|some t=>(match toXk k v with|some u=>u.beq t|none=>false)|none=>false)
 |.lst l (.var l2 j k),.lst l' t=>Nat.ble (Nat.succ L) l&&plB L π l l'&&Nat.beq l2 L&&t.kd.beq k&&(match σ[j]? with|some u=>t.beq u|none=>false)
 |.ptr l o,.ptr l' o'=>Nat.beq o o'&&plB L π l l'
 |.slice l o n c e,.slice l' o' n' c' e'=>Nat.ble (Nat.succ L) l&&Nat.beq o o'&&Nat.beq n n'&&c==c'&&Nat.beq e e'&&plB L π l l'
 |.agg a,.agg b=>aZ L π σ a b
 |.tup a,.tup b=>aZ L π σ a b
 |.iface t v,.iface t' v'=>Nat.beq t t'&&aC L π σ v v'
 |.func (.func f) a b,.func (.func f') a' b'=>Nat.beq f f'&&aZ L π σ a a'&&aZ L π σ b b'
 |u,v=>u.fine&&V.eqB u v
def aZ (L:Nat)(π:List Nat)(σ:List X):List V->List V->Bool
 |[],[]=>true
 |a::r,b::s=>aC L π σ a b&&aZ L π σ r s
 |_,_=>false
end
section
variable [Sx] [Dc] [Tb]{E E':Env}
mutual
theorem lJ {L:Nat}{π:List Nat}{σ:List X}(hvar:∀ j t,σ[j]? = some t->∃ p,E' L=some p/\p.ob.vl j=t.c E)(hfz:∀ b o v,E.fz b o v->E'.fz b o v)
  (hpl:∀ l l',plB L π l l'=true->∀ q,E l'=some q->∃ q',E' l=some q'/\q'.blk=q.blk/\q'.base=q.base/\(L<l->q'.size=q.size)) :
  ∀ {p v:V}{x:Value},aC L π σ p v=true->VR E v x->VR E' p x:=by
 intro p v x h hv;have gen:p.fine=true/\V.eqB p v=true->VR E' p x:=fun⟨h1,h2⟩=>by have e:=fG h2;subst e;exact VR.ofFine h1 hv
 cases p with
 |junk=>exact .junk x
 |x t=>
  cases t with
  |var l j k=>
   simp only[aC,Bool.and_eq_true] at h;obtain⟨h1,h2⟩:=h;have e:=aa h1;subst e;cases hs:σ[j]? with
   |none=>rw[hs] at h2;cases h2
   |some t=>
    rw[hs] at h2;simp only at h2;cases hx:toXk k v with
    |none=>rw[hx] at h2;cases h2
    |some u=>
     rw[hx] at h2;simp only at h2;have e:=X.beq_eq h2;subst e;obtain⟨_,hc⟩:=mW hv hx;obtain⟨p,hp,hpv⟩:=hvar j u hs;refine .x _ _ ⟨p,hp⟩ ?_;show CR E'.fz k _ (Cl.hd [match E' l with|some p=>p.ob.vl j|none=>.no]);rw[hp];simp only[Cl.hd,hpv];exact hc.mono hfz
  |_=>simp[aC,V.fine] at h
 |lst l u=>
  cases u with
  |var l2 j k=>
   cases v<;>first|(simp[aC,V.fine] at h;done)|skip
   rename_i l' t;simp only[aC,Bool.and_eq_true] at h;obtain⟨⟨⟨⟨h0,h1⟩,h2⟩,h3⟩,h4⟩:=h;have hLl:=ab h0;have e2:=aa h2;have e3:=Kd.beq_eq h3;subst e2;cases hs:σ[j]? with
   |none=>rw[hs] at h4;cases h4
   |some u=>
    rw[hs] at h4;have e4:=X.beq_eq h4;subst e4;cases hv with
    |lst _ q _ e off len cap hq hok hkd hcr hb hc=>
     obtain⟨q',g1,g2,g3,g4⟩:=hpl _ _ h1 q hq;obtain⟨pp,hp,hpv⟩:=hvar j t hs;rw[<- g2];refine .lst _ q' _ e off len cap g1 ⟨pp,hp⟩ (by rw[<- hkd,<- e3];rfl) ?_ (by rw[g3];exact hb) (by rw[g3,g4 hLl];exact hc);show CR E'.fz _ _ (Cl.hd [match E' l2 with|some p=>p.ob.vl j|none=>.no]);rw[hp];simp only[Cl.hd,hpv];rw[g2];exact hcr.mono hfz
  |_=>cases v<;>simp[aC,V.fine] at h
 |ptr l o=>
  cases v<;>first|(simp[aC,V.fine] at h;done)|skip
  rename_i l' o';simp only[aC,Bool.and_eq_true] at h;have e:=aa h.1;subst e;cases hv with
  |ptr l2 off q hq=>
   obtain⟨q',g1,g2,g3,g4⟩:=hpl _ _ h.2 q hq;rw[<- g2,<- g3];exact .ptr _ _ q' g1
 |slice l o n c e=>
  cases v<;>first|(simp[aC,V.fine] at h;done)|skip
  rename_i l' o' n' c' e';simp only[aC,Bool.and_eq_true] at h;obtain⟨⟨⟨⟨⟨h0,h1⟩,h2⟩,h3⟩,h4⟩,h5⟩:=h;have hLl:=ab h0;have e1:=aa h1;have e2:=aa h2;have e3:c=c':=by simpa using h3
  have e4:=aa h4;subst e1 e2 e3 e4;cases hv with
  |slice l2 off len cap esz q k hq a1 a2 a3=>
   obtain⟨q',g1,g2,g3,g4⟩:=hpl _ _ h5 q hq;rw[<- g2,<- g3];have g4:=g4 hLl;exact .slice _ _ _ _ _ q' k g1 a1 (by omega) a3
 |agg a=>
  cases v<;>first|(simp[aC,V.fine] at h;done)|(exact gen (by simpa[aC] using h))|skip
  simp only[aC] at h;cases hv with
  |agg cs xs hx=>exact .agg _ _ (dF hvar hfz hpl h hx)
 |tup a=>
  cases v<;>first|(simp[aC,V.fine] at h;done)|(exact gen (by simpa[aC] using h))|skip
  simp only[aC] at h;cases hv with
  |tup cs xs hx=>exact .tup _ _ (dF hvar hfz hpl h hx)
 |iface t u=>
  cases v<;>first|(simp[aC,V.fine] at h;done)|(exact gen (by simpa[aC] using h))|skip
  simp only[aC,Bool.and_eq_true] at h;have e:=aa h.1;subst e;cases hv with
  |iface t v x hx=>exact .iface _ _ _ (lJ hvar hfz hpl h.2 hx)
 |func fn a b=>
  cases fn with
  |func f=>
   cases v<;>first|(simp[aC,V.fine] at h;done)|(exact gen (by simpa[aC] using h))|skip
   rename_i fn' a' b';cases fn'<;>first|(exact gen (by simpa[aC] using h))|skip
   simp only[aC,Bool.and_eq_true] at h;obtain⟨⟨h1,h2⟩,h3⟩:=h;have e:=aa h1;subst e;cases hv with
   |func _ _ _ _ fs cs hf a1 a2=>exact .func _ _ _ _ _ _ hf (dF hvar hfz hpl h2 a1) (dF hvar hfz hpl h3 a2)
  |_=>cases v<;>simp[aC,V.fine] at h
 |_=>exact gen (by cases v<;>simpa[aC] using h)
theorem dF {L:Nat}{π:List Nat}{σ:List X}(hvar:∀ j t,σ[j]? = some t->∃ p,E' L=some p/\p.ob.vl j=t.c E)(hfz:∀ b o v,E.fz b o v->E'.fz b o v)
  (hpl:∀ l l',plB L π l l'=true->∀ q,E l'=some q->∃ q',E' l=some q'/\q'.blk=q.blk/\q'.base=q.base/\(L<l->q'.size=q.size)) :
  ∀ {ps vs:List V}{xs:List Value},aZ L π σ ps vs=true->VRs E vs xs->VRs E' ps xs
 |[],[],_,_,h=>by cases h;exact .nil
 |[],_::_,_,h,_=>by simp[aZ] at h
 |_::_,[],_,h,_=>by simp[aZ] at h
 |p::ps,v::vs,_,h,hv=>by
  simp only[aZ,Bool.and_eq_true] at h;cases hv with
  |cons _ x _ xs h1 h2=>exact .cons _ _ _ _ (lJ hvar hfz hpl h.1 h1) (dF hvar hfz hpl h.2 h2)
end
end
end Go.Exo
end
