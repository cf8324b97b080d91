/-
  What is read of memory is data that is no greater than what is read. Own text.
-/
import Derived.Test.YtbddnchfoojacaaGreatDoorSx1
import Derived.Test.YtbddnchfoojacaaGreatDoorRows
import Derived.Test.YtbddnchfoojacaaGreatDoorQs2
import Derived.Test.YtbddnchfoojacaaGreatDoorWo2
import Derived.RangeFuncNested
import Derived.RangeFuncBound
import Derived.RangeFuncCalls
import Derived.RangeFuncLeaves
import Derived.Shelf.Abstract
import Derived.Shelf.RegionOpen
import Derived.WalkKit
import Derived.OwnWalkIn
import Derived.TacticsInMore
import Derived.LoopNIn
import Derived.LoopIn
import Derived.Laws.EntriesVeiled
import Derived.Test.YtbddnchfoojacaaGreatDoorQs1
import Derived.RecoverIn
set_option linter.all false
namespace Go.Exo
open Go.Proofs.YtbddnchfoojacaaGreatDoor
set_option linter.unusedSectionVars false
mutual
def massC:Cl→Nat
 |.str s=>s.length+1
 |.sl _ rows=>massR rows+1
 |_=>1
def massL:List Cl→Nat
 |[]=>0
 |c::r=>massC c+massL r
def massR:List (List Cl)→Nat
 |[]=>0
 |l::r=>massL l+massR r
end
theorem bulk_pos {H:Type}(d:DataW H):1≤Rows.uptoBulk d:=by
 cases d with
 |lit l=>cases l<;>simp[Rows.uptoBulk]
 |_=>simp[Rows.uptoBulk]
theorem massL_append (a b:List Cl):massL (a++b)=massL a+massL b:=by
 induction a with
 |nil=>simp[massL]
 |cons c r ih=>simp only[List.cons_append,massL,ih];omega
theorem bulkAll_map {H:Type}{β:Type}(f:β→DataW H):∀ l:List β,Rows.uptoBulkAll (l.map f)=(l.map fun x=>Rows.uptoBulk (f x)).sum
 |[]=>rfl
 |a::r=>by simp only[List.map_cons,Rows.uptoBulkAll,List.sum_cons,bulkAll_map f r]
theorem massR_le:∀ (rows:List (List Cl))(bs:List Nat),rows.length=bs.length→(∀ (i:Nat) r b,rows[i]? = some r→bs[i]? = some b→massL r≤b)→massR rows≤bs.sum
 |[],_,_,_=>by simp[massR]
 |_::_,[],h,_=>by simp at h
 |r::rows,b::bs,h,g=>by
  have h0:=g 0 r b rfl rfl
  have ih:=massR_le rows bs (by simpa using h) fun i r' b' h1 h2=>g (i+1) r' b' (by simpa using h1) (by simpa using h2)
  simp only[massR,List.sum_cons];omega
variable [Sx]
section
variable {H:Type}{enc:TypeId×Value→H}{P:Program}{w:World}
theorem CRs.split {F:Nat→Nat→Value→Prop}{ks ks':List Kd}{vs:List Value}{cs:List Cl}(h:CRs F (ks++ks') vs cs):∃ v1 v2 c1 c2,vs=v1++v2∧cs=c1++c2∧CRs F ks v1 c1∧CRs F ks' v2 c2:=by
 induction ks generalizing vs cs with
 |nil=>exact⟨[],vs,[],cs,rfl,rfl,.nil,h⟩
 |cons k ks ih=>
  cases h with
  |cons h1 h2=>
   obtain⟨v1,v2,c1,c2,rfl,rfl,g1,g2⟩:=ih h2
   exact⟨_::v1,v2,_::c1,c2,rfl,rfl,.cons h1 g1,g2⟩
theorem CRs.of_get {F:Nat→Nat→Value→Prop}:∀ {ks:List Kd}{vs:List Value}{cs:List Cl},vs.length=ks.length→cs.length=ks.length→(∀ (j:Nat) v c k,vs[j]? = some v→cs[j]? = some c→ks[j]? = some k→CR F k v c)→CRs F ks vs cs
 |[],[],[],_,_,_=>.nil
 |[],_::_,_,h,_,_=>by simp at h
 |[],[],_::_,_,h,_=>by simp at h
 |_::_,[],_,h,_,_=>by simp at h
 |_::_,_::_,[],_,h,_=>by simp at h
 |k::ks,v::vs,c::cs,h1,h2,g=>.cons (g 0 v c k rfl rfl rfl) (CRs.of_get (by simpa using h1) (by simpa using h2) fun j v c k a b d=>g (j+1) v c k (by simpa using a) (by simpa using b) (by simpa using d))
theorem mass_fields {r:TypeId→List Value→Option (DataW H×List MemPlace)}{k:TypeId→Option (List Kd)}{cs:List Value}:∀ (fs:List Field)(o:Nat)(ks:List Kd)(cls:List Cl)(xs:List (DataW H×List MemPlace)),kdsF P k fs o=some ks→o+ks.length≤cs.length→
  CRs (cellsW w) ks ((cs.drop o).take ks.length) cls→(fs.mapM fun f=>r f.type ((cs.drop f.offset).take (P.cellsOf f.type)))=some xs→
  (∀ f∈fs,∀ c y l cls,r f.type c=some y→k f.type=some l→CRs (cellsW w) l c cls→massL cls≤Rows.uptoBulk y.1)→massL cls≤(xs.map fun x=>Rows.uptoBulk x.1).sum
 |[],o,ks,cls,xs,h,_,hc,_,_=>by
  simp only[kdsF,Option.some.injEq] at h;subst h
  cases hc
  simp[massL]
 |f::fs,o,ks,cls,xs,h,hl,hc,hx,hk=>by
  simp only[kdsF] at h
  cases h1:k f.type with
  |none=>rw[h1] at h;cases h
  |some l=>
   rw[h1] at h;simp only at h
   cases hb:(Nat.beq f.offset o&&Nat.beq (P.cellsOf f.type) l.length) with
   |false=>rw[hb] at h;cases h
   |true=>
    rw[hb] at h;simp only[cond_true] at h
    simp only[Bool.and_eq_true] at hb
    have e1:=Nat.eq_of_beq_eq_true hb.1
    have e2:=Nat.eq_of_beq_eq_true hb.2
    cases h2:kdsF P k fs (o+l.length) with
    |none=>rw[h2] at h;cases h
    |some m=>
     rw[h2] at h;cases h
     rw[List.length_append] at hl hc
     have e:(cs.drop o).take (l.length+m.length)=(cs.drop o).take l.length++(cs.drop (o+l.length)).take m.length:=by
      rw[List.take_add,List.drop_drop]
     rw[e] at hc
     obtain⟨v1,v2,c1,c2,hv,rfl,g1,g2⟩:=hc.split
     have hlen:v1.length=l.length:=g1.get.1
     have hl1:((cs.drop o).take l.length).length=l.length:=by simp;omega
     obtain⟨rfl,rfl⟩:=List.append_inj hv (by omega)
     rw[List.mapM_cons] at hx
     rw[e1,e2] at hx
     cases hy:r f.type ((cs.drop o).take l.length) with
     |none=>rw[hy] at hx;cases hx
     |some y=>
      rw[hy] at hx
      cases hr:(fs.mapM fun f=>r f.type ((cs.drop f.offset).take (P.cellsOf f.type))) with
      |none=>rw[hr] at hx;cases hx
      |some ys=>
       rw[hr] at hx
       cases hx
       have i1:=hk f (List.mem_cons_self ..) _ y l c1 hy h1 g1
       have i2:=mass_fields fs (o+l.length) m c2 ys h2 (by omega) g2 hr (fun g hg=>hk g (List.mem_cons_of_mem _ hg))
       rw[massL_append]
       simp only[List.map_cons,List.sum_cons]
       omega
theorem mass_trod {T:TypeId→Prop}(hT:DatTs P T):∀ (fuel n:Nat)(t:TypeId)(cs:List Value)(y:DataW H×List MemPlace)(ks:List Kd)(cls:List Cl),T t→DataW.trod enc P w 0 (fun _=>true) true fuel t cs=some y→kdsT P n t=some ks→CRs (cellsW w) ks cs cls→massL cls≤Rows.uptoBulk y.1
 |0,_,_,_,_,_,_,_,h,_,_=>by simp[DataW.trod] at h
 |_+1,0,_,_,_,_,_,_,_,h,_=>by simp[kdsT] at h
 |fuel+1,n+1,t,cs,y,ks,cls,ht,h,hk,hc=>by
  simp only[kdsT] at hk
  cases hu:P.underlying t with
  |none=>rw[hu] at hk;cases hk
  |some d=>
   rw[hu] at hk
   cases d<;>simp only at hk<;>first|(cases hk;done)|skip
   case bool=>
    cases hk
    obtain⟨b,rfl,hy⟩:=DataW.trod_bool hu h
    cases hc with|cons h1 h2=>
    cases h1;cases h2
    have:=bulk_pos y.1
    simp only[massL,massC];omega
   case int k=>
    cases hk
    obtain⟨m,rfl,hy,hw⟩:=DataW.trod_int hu h
    cases hc with|cons h1 h2=>
    cases h1;cases h2
    have:=bulk_pos y.1
    simp only[massL,massC];omega
   case string=>
    cases hk
    obtain⟨s,rfl,hy,hs⟩:=DataW.trod_string hu h
    cases hc with|cons h1 h2=>
    cases h1;cases h2
    rw[hy]
    simp[massL,massC,Rows.uptoBulk]
   case slice e=>
    cases hk
    obtain⟨hTe,⟨m,hm⟩,hsz,hpos⟩:=hT.sl t e ht hu
    have hsl:cs=[.slice none 0 0]∨∃ a len cap,cs=[.slice (some a) len cap]∧len≤cap∧cap≤maxLen∧((((List.range len).mapM fun i=>(w.cells? 0 (a.add (i*P.cellsOf e)) (P.cellsOf e)).bind (DataW.trod enc P w 0 (fun _=>true) true fuel e))).bind fun elems=>
      (((List.range (cap-len)).mapM fun j=>(w.cells? 0 (a.add ((len+j)*P.cellsOf e)) (P.cellsOf e)).bind (DataW.trod enc P w 0 (fun _=>true) true fuel e))).map fun rest=>
      ((.slice (elems.map (·.1)) (rest.map (·.1)),MemPlace.row a ((elems.length+rest.length)*P.cellsOf e)++(elems++rest).flatMap (·.2)):DataW H×List MemPlace))=some y:=by
     unfold DataW.trod at h
     rw[hu] at h
     split at h
     case h_8=>
      rename_i e' a len cap heq
      cases heq
      simp only at h
      split at h
      case isFalse=>cases h
      rename_i hc
      refine .inr ⟨a,len,cap,rfl,hc.2.1,hc.2.2,?_⟩
      simpa using h
     all_goals simp_all
    cases hc with|cons h1 h2=>
    cases h2
    rcases hsl with he|⟨a,len,cap,he,hlc,hcm,hh⟩
    ·cases he
     cases h1
     have:=bulk_pos y.1
     simp only[massL,massC,massR];omega
    ·cases he
     cases hel:(List.range len).mapM fun i=>(w.cells? 0 (a.add (i*P.cellsOf e)) (P.cellsOf e)).bind (DataW.trod enc P w 0 (fun _=>true) true fuel e) with
     |none=>rw[hel] at hh;cases hh
     |some elems=>
      rw[hel] at hh
      simp only[Option.bind_some] at hh
      cases hrest:((List.range (cap-len)).mapM fun j=>(w.cells? 0 (a.add ((len+j)*P.cellsOf e)) (P.cellsOf e)).bind (DataW.trod enc P w 0 (fun _=>true) true fuel e)) with
      |none=>rw[hrest] at hh;cases hh
      |some rest=>
       rw[hrest] at hh
       simp only[Option.map_some,Option.some.injEq] at hh
       subst hh
       cases h1 with
       |e0 _ _=>simp[massL,massC,massR,Rows.uptoBulk]
       |sl _ blk off _ _ rows vs g1 g2 g3 g4 g5 g6=>
        obtain⟨q1,q2⟩:=mapM_get hel
        rw[List.length_range] at q1
        have hle:massR rows≤(elems.map fun x=>Rows.uptoBulk x.1).sum:=massR_le rows _ (by simp[q1,g1]) fun i r b hr hb=>by
         rw[List.getElem?_map] at hb
         cases hx:elems[i]? with
         |none=>rw[hx] at hb;cases hb
         |some x=>
          rw[hx] at hb
          cases hb
          obtain⟨j,hj,hy⟩:=q2 i x hx
          have hlt:i<len:=by have:=(List.getElem?_eq_some_iff.1 hj).1;simpa using this
          rw[List.getElem?_range hlt] at hj
          cases hj
          cases hcc:w.cells? 0 ((⟨blk,off,none⟩:Addr).add (i*P.cellsOf e)) (P.cellsOf e) with
          |none=>rw[hcc] at hy;cases hy
          |some c=>
           rw[hcc] at hy
           obtain⟨z1,z2⟩:=cells_get hcc
           refine mass_trod hT fuel m e c x (Sx.row e) r hTe hy hm ?_
           have hrl:=g4 i r hr
           exact CRs.of_get (by omega) hrl fun j v cl k hv hcl hkk=>by
            have h7:=g5 i r j cl hr hcl
            have h8:=z2 j v hv
            simp only[addr_add,hsz] at h8
            have h9:vs i j=v:=Option.some.inj (h7.symm.trans h8)
            rw[← h9]
            exact g6 i r j cl k hr hcl hkk
        simp only[massL,massC,Rows.uptoBulk,bulkAll_map]
        omega
   case struct fs=>
    cases hf:kdsF P (kdsT P n) fs.toList 0 with
    |none=>rw[hf] at hk;cases hk
    |some l=>
     rw[hf] at hk;simp only at hk
     cases hb:Nat.beq (P.cellsOf t) l.length with
     |false=>rw[hb] at hk;cases hk
     |true=>
      rw[hb] at hk;cases hk
      have e1:=Nat.eq_of_beq_eq_true hb
      have h':(if cs.length=P.cellsOf t then (fs.toList.mapM fun f=>DataW.trod enc P w 0 (fun _=>true) true fuel f.type ((cs.drop f.offset).take (P.cellsOf f.type))).map fun xs=>((.agg (xs.map (·.1)),xs.flatMap (·.2)):DataW H×List MemPlace) else none)=some y:=by
       unfold DataW.trod at h
       rw[hu] at h
       split at h<;>simp_all
      split at h'
      case isFalse=>cases h'
      rename_i hlen
      cases hm:(fs.toList.mapM fun f=>DataW.trod enc P w 0 (fun _=>true) true fuel f.type ((cs.drop f.offset).take (P.cellsOf f.type))) with
      |none=>rw[hm] at h';cases h'
      |some xs=>
       rw[hm] at h'
       cases h'
       have hc':CRs (cellsW w) ks ((cs.drop 0).take ks.length) cls:=by
        rw[List.drop_zero,List.take_of_length_le (by omega)];exact hc
       have:=mass_fields (r:=DataW.trod enc P w 0 (fun _=>true) true fuel) (cs:=cs) (w:=w) fs.toList 0 ks cls xs hf (by omega) hc' hm
        (fun f hf' c y l cls h1 h2 h3=>mass_trod hT fuel n f.type c y l cls (hT.st t fs ht hu f hf') h1 h2 h3)
       simp only[Rows.uptoBulk,bulkAll_map]
       omega
end
end Go.Exo

namespace Go.Proofs.Wo
open Go.Exo Go.Exo.Wo Go.RowKit
attribute [local go_sem] Oper.semAt_some
set_option linter.all false
theorem cells_cell {W:World}{B o:Nat}{c:Array Value}{t:TypeId}{fr:Nat×Nat}{v:Value}(h:W.heap[B]? = some (.cells c t fr))(hv:c[o]? = some v):W.cell? ⟨B,o,none⟩=some v:=by simp[World.cell?,h,hv]
theorem cells_new (W:World)(c:Array Value)(t:TypeId):(W.alloc (.cells c t)).heap[W.heap.size]? = some (.cells c t (0,0)):=World.alloc_heap_new W _
structure Node (φ:Nat→Nat→Option Value) where
 d:Int
 ka:Int
 ba:Bool
 na:Int
 sa:ByteArray
 a4:Option Addr
 l4:Nat
 c4:Nat
 a5:Option Addr
 l5:Nat
 c5:Nat
 cl:List Cl
 h:CRs (rel φ) vK [.int .i64 ka,.bool ba,.int .i64 na,.string sa,.slice a4 l4 c4,.slice a5 l5 c5] cl
def Node.vs {φ:Nat→Nat→Option Value}(x:Node φ):Array Value:=#[.int .i64 x.ka,.bool x.ba,.int .i64 x.na,.string x.sa,.slice x.a4 x.l4 x.c4,.slice x.a5 x.l5 x.c5]
def Node.enc {φ:Nat→Nat→Option Value}(x:Node φ):Array Value:=#[.int .i64 x.d,.agg x.vs]
def Node.p {φ:Nat→Nat→Option Value}(x:Node φ):Int×List Cl:=(x.d,x.cl)
set_option maxRecDepth 100000 in
theorem all_q (F:Fence)(n:Nat)(h60:F.fn 70)(hro:F.round=none){φ:Nat→Nat→Option Value}(x:Node φ)(w:World) :
  CallsIn F n Tryz.prog 70 #[.agg x.vs] w fun e w'=>e=.returned (.func (.func 118) #[] #[.pointer (some ⟨w.heap.size,0,none⟩)])∧w'=w.alloc (.cells x.vs 31):=by
 have hmf:∀ (fn:Fn)(first cap:Array Value)(w:World),(Instr.makeFunc fn first cap).run Tryz.prog w=.ok (.func fn first cap) w:=fun _ _ _ _=>rfl
 obtain⟨d,ka,ba,na,sa,a4,l4,c4,a5,l5,c5,cl,hc⟩:=x
 dsimp only[Node.vs]
 clear hc
 refine callsIn_of_wp Tryz.func70 rfl h60 ?_ hro
 simp only[Tryz.ntmps70,List.size_toArray,List.length_cons,List.length_nil,Nat.reduceAdd,Nat.reduceSub,Array.replicate_succ,Array.replicate_zero,List.push_toArray,List.append_toArray,List.nil_append,List.cons_append]
 gi_wp2
 go_ret
 exact⟨rfl,rfl⟩
end Go.Proofs.Wo

namespace Go.Proofs.Wo
open Go.Exo Go.Exo.Wo Go.RowKit Go.Shelf
attribute [local go_sem] Oper.semAt_some
set_option linter.all false
structure KpC (B3 B4:Nat)(W W':World):Prop where
 size:W.heap.size≤W'.heap.size
 cells:∀ k c t fr,k≠B3→k≠B4→W.heap[k]? = some (.cells c t fr)→W'.heap[k]? = some (.cells c t fr)
theorem KpC.refl (B3 B4:Nat)(W:World):KpC B3 B4 W W:=⟨Nat.le_refl _,fun _ _ _ _ _ _ h=>h⟩
theorem KpC.trans {B3 B4:Nat}{A B C:World}(h:KpC B3 B4 A B)(h':KpC B3 B4 B C):KpC B3 B4 A C:=⟨Nat.le_trans h.size h'.size,fun k c t fr a b e=>h'.cells k c t fr a b (h.cells k c t fr a b e)⟩
theorem KpC.alloc {B3 B4:Nat}{A B:World}(h:KpC B3 B4 A B)(o:Obj):KpC B3 B4 A (B.alloc o):=
 h.trans ⟨by simp,fun k c t fr _ _ e=>(Below.heap_alloc B o k (Array.getElem?_eq_some_iff.1 e).1).trans e⟩
theorem KpC.of_below {B3 B4:Nat}{A B:World}(h:Below A.heap.size A B):KpC B3 B4 A B:=⟨h.size,fun k c t fr _ _ e=>(h.block k (Array.getElem?_eq_some_iff.1 e).1).trans e⟩
theorem Dat.kp {φ:Nat→Nat→Option Value}{A B:World}{B3 B4:Nat}(h:Dat φ A)(hk:KpC B3 B4 A B)(hn:∀ b o v,φ b o=some v→b≠B3∧b≠B4):Dat φ B:=fun b o v hv=>by
 have h1:=h b o v hv
 obtain⟨n3,n4⟩:=hn b o v hv
 unfold World.cell? at h1 ⊢
 cases e:A.heap[b]? with
 |none=>simp[e] at h1
 |some ob=>
  cases ob with
  |cells c t fr=>rw[hk.cells b c t fr n3 n4 e];simpa[e] using h1
  |_=>simp[e] at h1
theorem room_of_none {F:Fence}(hd:F.depth=none)(k:Nat):F.room k:=fun d h=>by rw[hd] at h;cases h
theorem RoundIn.anyDepth {F:Fence}(hd:F.depth=none){m m':Nat}{P:Program}{l:Nat}{f:FuncId}{tmps:Array Value}{assign body:Code}{w:World}{R:Ending→World→Prop}
  (h:RoundIn F m P l f tmps assign body w R):RoundIn F m' P l f tmps assign body w R:=⟨h.1,fun c cs _=>h.2 c cs (room_of_none hd _)⟩
theorem YieldAt.anyDepth {F:Fence}(hd:F.depth=none){m:Nat}(m':Nat){P:Program}{l:Nat}{args:Array Value}{W:World}{R:Ending→World→Prop}(h:YieldAt F m P l args W R):YieldAt F m' P l args W R:=by
 obtain⟨fn,tmps,assign,body,hy,hR⟩:=h
 exact⟨fn,tmps,assign,body,hy,RoundIn.anyDepth hd hR⟩
theorem last6 {φ:Nat→Nat→Option Value}{y0 y1 y2 y3 y4 y5:Value}{cl:List Cl}(h:CRs (rel φ) vK [y0,y1,y2,y3,y4,y5] cl):∃ k b n s nl ys ml rs,cl=[.int k,.bool b,.int n,.str s,.sl nl ys,.sl ml rs]∧CR (rel φ) (.sl 31) y5 (.sl ml rs):=by
 obtain⟨k,b,n,s,nl,ys,ml,rs,rfl,-⟩:=row6 h.wt
 refine⟨k,b,n,s,nl,ys,ml,rs,rfl,?_⟩
 cases h with|cons h0 h=>cases h with|cons h1 h=>cases h with|cons h2 h=>cases h with|cons h3 h=>cases h with|cons h4 h=>cases h with|cons h5 h=>exact h5
set_option maxRecDepth 100000 in
set_option maxHeartbeats 4000000 in
theorem goes_q {φ:Nat→Nat→Option Value}(F:Fence)(hd:F.depth=none)(h103:F.fn 119)(hro:F.round=none)(l B3 B4 N:Nat)(hn34:∀ b o v,φ b o=some v→b≠B3∧b≠B4)(J Jx:List (Node φ)→World→Prop)
  (hJa:∀ pre W o,J pre W→J pre (W.alloc o))
  (hY:∀ m pre x W,J pre W→pre.length<N→YieldAt F m Tryz.prog l x.enc W fun e W'=>(e=.returned (.bool true)∧J (pre++[x]) W'∧KpC B3 B4 W W')∨(e=.returned (.bool false)∧Jx (pre++[x]) W'))
  (By Bg:Nat)(hy3:By≠B3)(hy4:By≠B4)(hg3:Bg≠B3)(hg4:Bg≠B4) :
  ∀ (n:Nat)(x:Node φ),SizeOf.sizeOf x.cl<n→∀ (m:Nat)(pre:List (Node φ))(W:World),W.heap[By]? = some (.cells #[.func (.yield l) #[] #[]] 205 (0,0))→W.heap[Bg]? = some (.cells #[.func (.func 119) #[] #[.pointer (some ⟨By,0,none⟩),.pointer (some ⟨Bg,0,none⟩)]] 206 (0,0))→B3<W.heap.size→B4<W.heap.size→Dat φ W→J pre W→pre.length+(flat n x.d x.cl).length≤N→
  CallsIn F m Tryz.prog 119 #[.agg x.vs,.int .i64 x.d,.pointer (some ⟨By,0,none⟩),.pointer (some ⟨Bg,0,none⟩)] W fun e W'=>
   (e=.returned (.bool true)∧(∃ xs:List (Node φ),xs.map Node.p=flat n x.d x.cl∧J (pre++xs) W')∧KpC B3 B4 W W')∨(e=.returned (.bool false)∧∃ xs:List (Node φ),(∃ more,xs.map Node.p++more=flat n x.d x.cl)∧Jx (pre++xs) W'):=by
 intro n
 induction n with
 |zero=>intro x h;omega
 |succ n ih=>
  intro x hm m pre W hy hg h3 h4 hD hJ hN
  have hdd:∀ k:Nat,(F.depth.isSome=true→1≤k):=fun k h=>by rw[hd] at h;cases h
  obtain⟨x0,hx0⟩:∃ x0,x=x0:=⟨_,rfl⟩
  obtain⟨d,ka,ba,na,sa,a4,l4,c4,a5,l5,c5,cl,hc⟩:=x
  obtain⟨k',b',n',s',nl,ys,ml,rs,rfl,hlast⟩:=last6 hc
  obtain⟨a,cap,e5,hmax,hrow⟩:=slice_form hlast
  cases e5
  have hfl:flat (n+1) d [.int k',.bool b',.int n',.str s',.sl nl ys,.sl ml rs]=(d,[.int k',.bool b',.int n',.str s',.sl nl ys,.sl ml rs])::rs.flatMap (flat n (w64 (d+1))):=rfl
  have hyc:=cells_cell (o:=0) ((Below.heap_alloc W (.cells #[.int .i64 ka,.bool ba,.int .i64 na,.string sa,.slice a4 l4 c4,.slice a5 rs.length c5] 31) By (Array.getElem?_eq_some_iff.1 hy).1).trans hy) rfl
  have hx0p:x0.p=(d,[.int k',.bool b',.int n',.str s',.sl nl ys,.sl ml rs]):=by rw[← hx0];rfl
  have hYz:YieldAt F (m-1) Tryz.prog l #[.int .i64 d,.agg #[.int .i64 ka,.bool ba,.int .i64 na,.string sa,.slice a4 l4 c4,.slice a5 rs.length c5]] (W.alloc (.cells #[.int .i64 ka,.bool ba,.int .i64 na,.string sa,.slice a4 l4 c4,.slice a5 rs.length c5] 31)) fun e W'=>
    (e=.returned (.bool true)∧J (pre++[x0]) W'∧KpC B3 B4 W W'∧W'.cell? ⟨W.heap.size,5,none⟩=some (.slice a5 rs.length c5))∨(e=.returned (.bool false)∧Jx (pre++[x0]) W'):=by
   have:=hY (m-1) pre x0 (W.alloc (.cells #[.int .i64 ka,.bool ba,.int .i64 na,.string sa,.slice a4 l4 c4,.slice a5 rs.length c5] 31)) (hJa _ _ _ hJ) (by dsimp only at hN;rw[hfl] at hN;simp at hN;omega)
   rw[← hx0] at this ⊢
   refine YieldAt.mono this fun e W' h=>h.elim (fun⟨he,hj,hk⟩=>.inl ⟨he,hj,((KpC.refl B3 B4 W).alloc _).trans hk,
    cells_cell (hk.cells _ _ _ _ (by omega) (by omega) (cells_new W _ 31)) rfl⟩) .inr
  obtain⟨fn,tmps,assign,body,hyo,hR⟩:=hYz
  dsimp only[Node.vs] at hN ⊢
  rw[hfl] at hN ⊢
  simp only[List.length_cons] at hN
  simp only[maxLen] at hmax
  dsimp only at hm
  have HR:=Go.Lib.hid hrow
  have HN:=Go.Lib.hid hN
  have HM:=Go.Lib.hid hm
  have HD:=Go.Lib.hid hD
  have HIH:=Go.Lib.hid ih
  clear hrow hN hm hD ih hc hlast hx0
  refine callsIn_of_wp Tryz.func119 rfl h103 ?_ hro
  simp only[Tryz.ntmps119,List.size_toArray,List.length_cons,List.length_nil,Nat.reduceAdd,Nat.reduceSub,Array.replicate_succ,Array.replicate_zero,List.push_toArray,List.append_toArray,List.nil_append,List.cons_append]
  gi_wp2_with ((try refine⟨hdd _,?_⟩);refine hR.mono ?_;clear hR;rintro e W2 (⟨rfl,hJ2,hk2,hc2⟩|⟨rfl,hx2⟩))
  ·gi_loopw [17] (fun i wr=>∃ (j:Nat)(xs:List (Node φ)),j≤rs.length∧i=.int .i64 j∧Hid (xs.map Node.p=(rs.take j).flatMap (flat n (w64 (d+1))))∧J (pre++([x0]++xs)) wr∧KpC B3 B4 W wr) (fun i _=>rs.length-(intOf i).toNat)
   case atStart=>exact⟨0,[],Nat.zero_le _,rfl,Go.Lib.hid rfl,by simpa using hJ2,hk2⟩
   case round=>
    obtain⟨j,xs,hj,rfl,HX,hJ3,hk3⟩:=hrel
    by_cases hlt:j<rs.length
    ·obtain⟨r,hr⟩:∃ r,rs[j]? = some r:=⟨rs[j],by simp[hlt]⟩
     obtain⟨blk,off,y0,y1,y2,y3,y4,y5,rfl,f0,f1,f2,f3,f4,f5,hcr⟩:=HR.out j r hr
     obtain⟨kb,bb,nb,sb,b4,m4,d4,b5,m5,d5,rfl,rfl,rfl,rfl,rfl,rfl⟩:=row_form hcr
     have hDw:=HD.out.kp hk3 hn34
     have e0:=hDw _ _ _ f0
     have e1:=hDw _ _ _ f1
     have e2:=hDw _ _ _ f2
     have e3:=hDw _ _ _ f3
     have e4:=hDw _ _ _ f4
     have e5:=hDw _ _ _ f5
     have hgb:=hk3.cells _ _ _ _ hg3 hg4 hg
     have hgb3:=(Below.heap_alloc wr (.cells #[.int .i64 kb,.bool bb,.int .i64 nb,.string sb,.slice b4 m4 d4,.slice b5 m5 d5] 31) Bg (Array.getElem?_eq_some_iff.1 hgb).1).trans hgb
     have hgc:(wr.alloc (.cells #[.int .i64 kb,.bool bb,.int .i64 nb,.string sb,.slice b4 m4 d4,.slice b5 m5 d5] 31)).cell? ⟨Bg,0,none⟩=some (.func (.func 119) #[] #[.pointer (some ⟨By,0,none⟩),.pointer (some ⟨Bg,0,none⟩)]):=cells_cell (o:=0) hgb3 rfl
     have hyb:=hk3.cells _ _ _ _ hy3 hy4 hy
     have hyb3:=(Below.heap_alloc wr (.cells #[.int .i64 kb,.bool bb,.int .i64 nb,.string sb,.slice b4 m4 d4,.slice b5 m5 d5] 31) By (Array.getElem?_eq_some_iff.1 hyb).1).trans hyb
     have hsz:=hk3.size
     have hspl:rs=rs.take j++r::rs.drop (j+1):=by
      obtain⟨hl,rfl⟩:=List.getElem?_eq_some_iff.1 hr
      rw[← List.drop_eq_getElem_cons hl,List.take_append_drop]
     have hfm:rs.flatMap (flat n (w64 (d+1)))=xs.map Node.p++(flat n (w64 (d+1)) r++(rs.drop (j+1)).flatMap (flat n (w64 (d+1)))):=by
      conv=>lhs;rw[hspl]
      rw[List.flatMap_append,List.flatMap_cons,HX.out]
     have htk:(rs.take (j+1)).flatMap (flat n (w64 (d+1)))=xs.map Node.p++flat n (w64 (d+1)) r:=by
      rw[List.take_add_one,hr,List.flatMap_append,HX.out];simp
     have G:=HIH.out ⟨w64 (d+1),kb,bb,nb,sb,b4,m4,d4,b5,m5,d5,r,hcr⟩ (by
      have z:=List.sizeOf_lt_of_mem (List.mem_of_getElem? hr)
      have hm:=HM.out
      simp only[List.cons.sizeOf_spec,Cl.sl.sizeOf_spec] at hm
      show SizeOf.sizeOf r<n
      omega) (m-1) (pre++([x0]++xs)) (wr.alloc (.cells #[.int .i64 kb,.bool bb,.int .i64 nb,.string sb,.slice b4 m4 d4,.slice b5 m5 d5] 31)) hyb3 hgb3 (by simp;omega) (by simp;omega) (hDw.below ((Below.refl _ _).alloc (Nat.le_refl _) _)) (hJa _ _ _ hJ3) (by
      have h1:=HN.out
      rw[hfm] at h1
      simp only[List.length_append,List.length_map,List.length_cons,List.length_nil] at h1 ⊢
      omega)
     dsimp only[Node.vs] at G
     have hw:w64 (d+1)=wrap64 (d+1):=Go.IntWalk.i64_left (d+1)
     rw[hw] at G
     have HF:=Go.Lib.hid hfm
     have HT:=Go.Lib.hid htk
     clear hfm htk hspl hyb hyb3 hgb hgb3 hr f0 f1 f2 f3 f4 f5 hcr hDw
     gi_wp2_with ((try refine⟨hdd _,?_⟩);((with_reducible refine G.mono ?_));clear G;rintro e W4 (⟨rfl,⟨zs,hzs,hJ4⟩,hk4⟩|⟨rfl,zs,⟨more,hzs⟩,hx4⟩))
     ·go_roundw
      case rel=>exact⟨j+1,xs++zs,by omega,by go_num,Go.Lib.hid (by rw[HT.out,List.map_append,hzs,← hw]),by simpa using hJ4,(hk3.alloc _).trans hk4⟩
      case measure=>simp[intOf];omega
     ·go_ret
      exact .inr ⟨rfl,x0::(xs++zs),⟨more++(rs.drop (j+1)).flatMap (flat n (w64 (d+1))),by rw[HF.out,hw,← hzs];simp[hx0p]⟩,by simpa using hx4⟩
    ·obtain rfl:j=rs.length:=by omega
     gi_wp2
     go_ret
     exact .inl ⟨rfl,⟨x0::xs,by have:=HX.out;simp only[List.take_length] at this;simp[hx0p,this],by simpa using hJ3⟩,hk3⟩
  ·go_ret
   exact .inr ⟨rfl,[x0],⟨_,by simp[hx0p];rfl⟩,hx2⟩
end Go.Proofs.Wo

namespace Go.Proofs.Wo
open Go.Exo Go.Exo.Wo Go.RowKit Go.Shelf
attribute [local go_sem] Oper.semAt_some
set_option linter.all false
set_option maxRecDepth 100000 in
set_option maxHeartbeats 2000000 in
theorem all1_q {φ:Nat→Nat→Option Value}(F:Fence)(hd:F.depth=none)(h118:F.fn 118)(h119:F.fn 119)(hro:F.round=none)(l B3 B4 Bv N:Nat)(hn34:∀ b o v,φ b o=some v→b≠B3∧b≠B4)(J Jx:List (Node φ)→World→Prop)
  (hJa:∀ pre W o,J pre W→J pre (W.alloc o))
  (hY:∀ m pre x W,J pre W→pre.length<N→YieldAt F m Tryz.prog l x.enc W fun e W'=>(e=.returned (.bool true)∧J (pre++[x]) W'∧KpC B3 B4 W W')∨(e=.returned (.bool false)∧Jx (pre++[x]) W'))
  (n s:Nat)(x:Node φ)(hs:SizeOf.sizeOf x.cl<s)(hd1:x.d=1)(hN:(flat s 1 x.cl).length≤N)(W:World)(hv:W.heap[Bv]? = some (.cells x.vs 31 (0,0)))
  (h3:B3<W.heap.size)(h4:B4<W.heap.size)(hD:Dat φ W)(hJ:J [] W) :
  CallsIn F n Tryz.prog 118 #[.func (.yield l) #[] #[],.pointer (some ⟨Bv,0,none⟩)] W fun e W'=>(∃ v,e=.returned v)∧
   ((∃ xs:List (Node φ),xs.map Node.p=flat s 1 x.cl∧J xs W')∨(∃ pre:List (Node φ),(∃ more,pre.map Node.p++more=flat s 1 x.cl)∧Jx pre W')):=by
 have hdd:∀ k:Nat,(F.depth.isSome=true→1≤k):=fun k h=>by rw[hd] at h;cases h
 have hmf:∀ (fn:Fn)(first cap:Array Value)(w:World),(Instr.makeFunc fn first cap).run Tryz.prog w=.ok (.func fn first cap) w:=fun _ _ _ _=>rfl
 obtain⟨W2,hW2⟩:∃ W2,(W.alloc (.cells #[.func (.yield l) #[] #[]] 205)).alloc (.cells #[.func (.func 119) #[] #[.pointer (some ⟨W.heap.size,0,none⟩),.pointer (some ⟨W.heap.size+1,0,none⟩)]] 206)=W2:=⟨_,rfl⟩
 have hB2:Below W.heap.size W W2:=by rw[← hW2];exact ((Below.refl _ W).alloc (Nat.le_refl _) _).alloc (by simp) _
 have hv2:=(hB2.block Bv (Array.getElem?_eq_some_iff.1 hv).1).trans hv
 have hy2:W2.heap[W.heap.size]? = some (.cells #[.func (.yield l) #[] #[]] 205 (0,0)):=by
  rw[← hW2];exact (Below.heap_alloc _ _ _ (by simp)).trans (cells_new W _ 205)
 have hg2:W2.heap[W.heap.size+1]? = some (.cells #[.func (.func 119) #[] #[.pointer (some ⟨W.heap.size,0,none⟩),.pointer (some ⟨W.heap.size+1,0,none⟩)]] 206 (0,0)):=by
  rw[← hW2];have:=cells_new (W.alloc (.cells #[.func (.yield l) #[] #[]] 205)) #[.func (.func 119) #[] #[.pointer (some ⟨W.heap.size,0,none⟩),.pointer (some ⟨W.heap.size+1,0,none⟩)]] 206;rwa [World.size_alloc] at this
 have hs2:=hB2.size
 have G:=goes_q F hd h119 hro l B3 B4 N hn34 J Jx hJa hY W.heap.size (W.heap.size+1) (by omega) (by omega) (by omega) (by omega) s x hs (n-1) [] W2 hy2 hg2 (by omega) (by omega) (hD.below hB2) (by rw[← hW2];exact hJa _ _ _ (hJa _ _ _ hJ)) (by rw[hd1];simpa using hN)
 rw[hd1] at G
 obtain⟨x0,hx0⟩:∃ x0,x=x0:=⟨_,rfl⟩
 obtain⟨d,ka,ba,na,sa,a4,l4,c4,a5,l5,c5,cl,hc⟩:=x
 dsimp only[Node.vs] at hv hv2 G ⊢
 have c0:W2.cell? ⟨Bv,0,none⟩=some (.int .i64 ka):=cells_cell (o:=0) hv2 rfl
 have c1:W2.cell? ⟨Bv,1,none⟩=some (.bool ba):=cells_cell (o:=1) hv2 rfl
 have c2:W2.cell? ⟨Bv,2,none⟩=some (.int .i64 na):=cells_cell (o:=2) hv2 rfl
 have c3:W2.cell? ⟨Bv,3,none⟩=some (.string sa):=cells_cell (o:=3) hv2 rfl
 have c4':W2.cell? ⟨Bv,4,none⟩=some (.slice a4 l4 c4):=cells_cell (o:=4) hv2 rfl
 have c5':W2.cell? ⟨Bv,5,none⟩=some (.slice a5 l5 c5):=cells_cell (o:=5) hv2 rfl
 have cg:W2.cell? ⟨W.heap.size+1,0,none⟩=some (.func (.func 119) #[] #[.pointer (some ⟨W.heap.size,0,none⟩),.pointer (some ⟨W.heap.size+1,0,none⟩)]):=cells_cell (o:=0) hg2 rfl
 rw[← hW2] at c0 c1 c2 c3 c4' c5' cg G
 clear hy2 hg2 hv2 hW2 hd1 hs hN hx0 hc
 refine callsIn_of_wp Tryz.func118 rfl h118 ?_ hro
 simp only[Tryz.ntmps118,List.size_toArray,List.length_cons,List.length_nil,Nat.reduceAdd,Nat.reduceSub,Array.replicate_succ,Array.replicate_zero,List.push_toArray,List.append_toArray,List.nil_append,List.cons_append]
 gi_wp2_with ((try refine⟨hdd _,?_⟩);((with_reducible refine G.mono ?_));clear G;rintro e W4 (⟨rfl,⟨xs,hxs,hJ4⟩,hk4⟩|⟨rfl,xs,⟨more,hxs⟩,hx4⟩))
 ·go_end0
  exact⟨⟨_,rfl⟩,.inl ⟨xs,hxs,by simpa using hJ4⟩⟩
 ·go_end0
  exact⟨⟨_,rfl⟩,.inr ⟨xs,⟨more,hxs⟩,by simpa using hx4⟩⟩
theorem all_stops {φ:Nat→Nat→Option Value}(F:Fence)(hd:F.depth=none)(n:Nat)(h118:F.fn 118)(h119:F.fn 119)(hro:F.round=none)(B3 B4 Bv:Nat)(hn34:∀ b o v,φ b o=some v→b≠B3∧b≠B4)(s:Nat)(x:Node φ)(hs:SizeOf.sizeOf x.cl<s)(hd1:x.d=1)(w:World)
  (hv:w.heap[Bv]? = some (.cells x.vs 31 (0,0)))(h3:B3<w.heap.size)(h4:B4<w.heap.size)(hD:Dat φ w) :
  SeqStopsK F n Tryz.prog 118 #[.pointer (some ⟨Bv,0,none⟩)] (Node.enc (φ:=φ)) (KpC B3 B4) (fun xs=>xs.map Node.p=flat s 1 x.cl) (fun pre=>∃ more,pre.map Node.p++more=flat s 1 x.cl) (flat s 1 x.cl).length w:=fun l J Jx W hW hJ _ hY h0=>
 all1_q F hd h118 h119 hro l B3 B4 Bv _ hn34 J Jx (fun pre W o hj=>hJ pre W _ none hj (World.grownBy_alloc W o none) (fun r e=>by cases e)) (fun m pre x W hj hl=>YieldAt.anyDepth hd m (hY pre x W hj hl)) n s x hs hd1 (Nat.le_refl _) W
  ((hW.block Bv (Array.getElem?_eq_some_iff.1 hv).1).trans hv) (Nat.lt_of_lt_of_le h3 hW.size) (Nat.lt_of_lt_of_le h4 hW.size) (hD.below hW) h0
end Go.Proofs.Wo

namespace Go.Proofs.Wo
open Go.Exo Go.Exo.Wo Go.RowKit Go.Shelf Go.Lib
attribute [local go_sem] Oper.semAt_some
set_option linter.all false
variable {k:Nat}{G:World→Prop}
theorem below_ext {w w':World}(h:Ext w w'):Below w.heap.size w w':=⟨h.os,h.tape,h.output,h.size,h.old⟩
def MayAt (G:World→Prop):Prop:=∀ (φ:Nat→Nat→Option Value)(x:Node φ)(w:World),G w→Dat φ w→Calls Tryz.prog 71 #[.agg x.vs] w fun e w'=>e=.returned (.bool (mayB validD x.cl))∧Below w.heap.size w w'
theorem may_at (hG:Gd0 k G)(hk0:0<k)(hsz:Tryz.prog.globals.size≤k)(hT:∀ w,G w→Go.Lib.Utf8Tabs 1 2 w):MayAt G:=by
 obtain⟨tb,h⟩:=pmay_ok hG hk0 hsz hT
 have hS:Go.Exo.Spec Tryz.prog G 71 [vA] (.one (.one .bool)) (fun _=>True) pmayF:=Ctr.Sound.spec (by kernel_rfl) hG hk0 hsz h rfl
 intro φ x w hw hd
 have ha:ArgR (rel φ) [vA] [.agg x.vs] x.cl:=by
  have:=ArgR.agg x.h (ArgR.nil (F:=rel φ))
  rw[List.append_nil] at this
  exact this
 refine (hS w φ [.agg x.vs] x.cl hw hd ha trivial).mono ?_
 rintro e w' ⟨y,φ',rfl,-,-,-,he,hr⟩
 refine⟨?_,below_ext he⟩
 cases hr with
 |one h1 h2=>
  cases h1
  rfl
theorem keys_form {F:Nat→Nat→Value→Prop}{x:Value}{nl:Bool}{rows:List (List Cl)}(h:CR F (.sl 9) x (.sl nl rows)):∃ a cap,x=.slice a rows.length cap∧rows.length≤maxLen∧
  ∀ (i:Nat)(r:List Cl),rows[i]? = some r→∃ blk off s,a=some ⟨blk,off,none⟩∧F blk (off+i) (.string s)∧r=[.str s.data.toList]∧s.size≤maxLen:=by
 cases h with
 |nil=>exact⟨none,0,rfl,Nat.zero_le _,fun i r h=>by simp at h⟩
 |e0 _ a=>exact⟨some a,0,rfl,Nat.zero_le _,fun i r h=>by simp at h⟩
 |sl _ blk off len cap _ vs a1 a2 a3 a4 a5 a6=>
  subst a1
  refine⟨_,cap,rfl,by omega,fun i r hr=>?_⟩
  have hl:r.length=1:=a4 i r hr
  obtain⟨c0,rfl⟩:∃ c0,r=[c0]:=by
   match r,hl with
   |[c0],_=>exact⟨_,rfl⟩
  have h0:=a5 i _ 0 _ hr rfl
  rw[show (Sx.row 9).length=1 from rfl,Nat.mul_one,Nat.add_zero] at h0
  have hc:=a6 i _ 0 _ _ hr rfl rfl
  generalize vs i 0=v at h0 hc
  cases hc with
  |str s hs=>exact⟨blk,off,s,rfl,h0,rfl,by simpa using hs⟩
theorem node6 {φ:Nat→Nat→Option Value}{kx:Int}{bx:Bool}{nx:Int}{sx:ByteArray}{p4:Option Addr}{m4 e4:Nat}{p5:Option Addr}{m5 e5:Nat}{cl:List Cl}(h:CRs (rel φ) vK [.int .i64 kx,.bool bx,.int .i64 nx,.string sx,.slice p4 m4 e4,.slice p5 m5 e5] cl) :
  ∃ nl ys ml rs,cl=[.int kx,.bool bx,.int nx,.str sx.data.toList,.sl nl ys,.sl ml rs]∧m4=ys.length∧ys.length≤maxLen∧m5=rs.length∧rs.length≤maxLen∧sx.size≤maxLen∧
   ∀ (i:Nat)(r:List Cl),ys[i]? = some r→∃ blk off s,p4=some ⟨blk,off,none⟩∧φ blk (off+i)=some (.string s)∧r=[.str s.data.toList]∧s.size≤maxLen:=by
 obtain⟨k',b',n',s',nl,ys,ml,rs,rfl,hlast⟩:=last6 h
 obtain⟨a,cap,e5,hmax,hrow⟩:=slice_form hlast
 cases h with|cons h0 h=>cases h with|cons h1 h=>cases h with|cons h2 h=>cases h with|cons h3 h=>cases h with|cons h4 h=>cases h with|cons h5 h=>
  obtain⟨a',cap',e4,hmax',hrow'⟩:=keys_form h4
  cases e4
  cases e5
  cases h0;cases h1;cases h2
  cases h3 with
  |str s hs=>exact⟨nl,ys,ml,rs,rfl,rfl,hmax',rfl,hmax,by simpa using hs,hrow'⟩
theorem check1_idle (F:Fence)(n:Nat)(h45:F.fn 69)(hro:F.round=none)(p:Addr)(w:World) :
  CallsDIn F n Tryz.prog 69 #[.pointer (some p)] .returning w fun e u' w'=>e=.returned (.tuple #[])∧u'=.returning∧w'=w:=by
 refine callsDIn_of_wpSIn Tryz.func69 rfl h45 fun c₀ cs hu=>?_
 apply wpSIn_seq
 apply wpSIn_region
 simp[wpOpsSIn,go_sem,recoverD,hu,Tryz.ntmps69,Exit.thenS]
 refine wpSIn_of_wpIn hro ?_
 gi_wp2
 cases c₀
 simp_all [bodyPostS,results,Tryz.results69]
theorem KpC_b {B3 B4:Nat}{w:World}(W:World)(l:Nat)(o o':Obj)(_:w.heap.size≤l)(hl:W.heap[l]? = some o)(ho:o.isCells=false)(_:o.isWalk=false):KpC B3 B4 W (W.putObj l o'):=by
 have hg:=grownBy_putObj' W l o'
 refine⟨hg.size,fun k c t fr _ _ h=>(hg.block k (Array.getElem?_eq_some_iff.1 h).1 (fun e=>?_)).trans h⟩
 obtain rfl:k=l:=Option.some.inj e
 rw[h] at hl;cases hl;cases ho
theorem cellsOwn {β:Type}(B:Nat)(t:TypeId)(cs:Array Value):Own (fun (_:β) W=>W.heap[B]? = some (.cells cs t (0,0))):=fun s X Y row hs hg hrow=>
 (hg.block B (Array.getElem?_eq_some_iff.1 hs).1 (fun e'=>by obtain⟨o,ho,hc⟩:=hrow B e'.symm;rw[hs] at ho;cases ho;cases hc)).trans hs
theorem KpC.set3 {B3 B4:Nat}(W:World)(o:Nat)(v:Value):KpC B3 B4 W (W.setCell ⟨B3,o,none⟩ v):=⟨by simp[World.setCell],fun k _ _ _ h _ e=>(Below.heap_setCell W _ v k h).trans e⟩
theorem KpC.set4 {B3 B4:Nat}(W:World)(o:Nat)(v:Value):KpC B3 B4 W (W.setCell ⟨B4,o,none⟩ v):=⟨by simp[World.setCell],fun k _ _ _ _ h e=>(Below.heap_setCell W _ v k h).trans e⟩
theorem bcell {W w1:World}(hb:Below W.heap.size W w1):(∀ b o,b<W.heap.size→w1.cell? ⟨b,o,none⟩=W.cell? ⟨b,o,none⟩)∧(∀ b o,b<W.heap.size→w1.frozen? ⟨b,o,none⟩=W.frozen? ⟨b,o,none⟩):=
 ⟨fun b o h=>hb.cell (p:=⟨b,o,none⟩) h,fun b o h=>hb.frozen (p:=⟨b,o,none⟩) h⟩
theorem keepsFrom_below {B:Nat}{W W':World}(h:Below W.heap.size W W'):KeepsFrom B W W':=⟨h.size,fun i o _ h0 _=>(h.block i (Array.getElem?_eq_some_iff.1 h0).1).trans h0⟩
theorem boxed_below {W W':World}{B:Nat}{t:TypeId}{v:Value}(h:Below W.heap.size W W')(hb:Boxed W B t v):Boxed W' B t v:=(h.block B hb.lt).trans hb
end Go.Proofs.Wo

namespace Go.Proofs.Wo
open Go.Exo Go.Exo.Wo Go.RowKit Go.Shelf Go.Lib
attribute [local go_sem] Oper.semAt_some
set_option linter.all false
variable {k:Nat}{G:World→Prop}
def CkI {φ:Nat→Nat→Option Value}(w:World)(pre:List (Node φ))(W:World):Prop:=
 ∃ st:Int×Bool,(pre.map Node.p).foldl (visit validD) (some (0,false))=some st∧(((Boxed W (w.heap.size+1+1) 3 (.int .i64 st.1)∧Boxed W (w.heap.size+1+1+1) 4 (.bool st.2))∧Boxed W (w.heap.size+1) 39 (.int .i64 0))∧Below w.heap.size w W)
def CkX {φ:Nat→Nat→Option Value}(w:World)(c:Code)(pre:List (Node φ))(W:World):Prop:=
 c=.ret∧(∃ (ps:List (Node φ))(x:Node φ),pre=ps++[x]∧mayB validD x.cl=false)∧Boxed W (w.heap.size+1) 39 (.int .i64 110)∧Below w.heap.size w W
def CkA {φ:Nat→Nat→Option Value}(w:World)(x0 x:Node φ)(a':Act)(W:World):Prop:=
 ∃ Bx,w.heap.size+1+1+1<Bx∧W.heap[Bx]? = some (.cells x.vs 31 (0,0))∧a'={ tmps:=#[.agg x0.vs,
    .pointer (some ⟨w.heap.size,0,none⟩),.pointer (some ⟨w.heap.size+1,0,none⟩),.pointer (some ⟨w.heap.size+1+1,0,none⟩),.pointer (some ⟨w.heap.size+1+1+1,0,none⟩),.int .i64 x.d,.pointer (some ⟨Bx,0,none⟩),undef,undef,
    .func (.func 69) #[] #[.pointer (some ⟨w.heap.size+1,0,none⟩)],.agg x0.vs,
    .func (.func 118) #[] #[.pointer (some ⟨w.heap.size+1+1+1+1,0,none⟩)],.int .i64 x.d,.agg x.vs,
    undef,undef,undef,undef,undef,undef,undef,undef,undef,undef,undef,undef,undef,undef,undef,undef,undef,undef,undef,undef,undef,undef,undef,undef,undef,undef,undef,undef,undef,undef,undef,undef,undef,undef,undef,undef,undef,undef],defers:=[] }
theorem CkI.own {φ:Nat→Nat→Option Value}(w:World)(B:Nat)(hB:w.heap.size≤B):OwnFrom B (CkI (φ:=φ) w):=fun pre X Y row ⟨st,h1,h2⟩ hg hr=>⟨st,h1,
 (OwnFrom.and (OwnFrom.and (OwnFrom.and (Own.from (boxed_own (β:=Unit) _ _ (fun _=>.int .i64 st.1)) _) (Own.from (boxed_own _ _ (fun _=>.bool st.2)) _)) (Own.from (boxed_own _ _ (fun _=>.int .i64 0)) _)) (ownFrom_below (Nat.le_refl _) hB)) () X Y row h2 hg hr⟩
theorem CkX.own {φ:Nat→Nat→Option Value}(w:World)(B:Nat)(hB:w.heap.size≤B)(c:Code):OwnFrom B (CkX (φ:=φ) w c):=fun pre X Y row ⟨h0,h1,h2⟩ hg hr=>⟨h0,h1,
 (OwnFrom.and (Own.from (boxed_own (β:=Unit) _ _ (fun _=>.int .i64 110)) _) (ownFrom_below (Nat.le_refl _) hB)) () X Y row h2 hg hr⟩
set_option maxRecDepth 100000 in
theorem check1_rec (F:Fence)(n:Nat)(h69:F.fn 69)(hro:F.round=none)(B:Nat)(w:World)(hb:Boxed w B 39 (.int .i64 0)) :
  CallsDIn F n Tryz.prog 69 #[.pointer (some ⟨B,0,none⟩)] (.panicking [{ v:=.iface 161 (.agg #[]),recovered:=false }]) w fun e u' w'=>e=.returned (.tuple #[])∧u'=.panicking [{ v:=.iface 161 (.agg #[]),recovered:=true }]∧Boxed w' B 39 (.int .i64 3)∧Below B w w':=by
 have c2:=hb.cell
 have f2:=hb.frozen
 have l2:=hb.lt
 have b2:=hb
 refine callsDIn_of_wpSIn Tryz.func69 rfl h69 fun c₀ cs hu=>?_
 apply wpSIn_seq
 apply wpSIn_region
 simp[wpOpsSIn,go_sem,recoverD,hu,Tryz.ntmps69,Exit.thenS]
 refine wpSIn_of_wpIn hro ?_
 have hta:∀ w:World,(Instr.typeAssert (.iface 161 (.agg #[])) 20 161 true).run Tryz.prog w=.ok (.tuple #[.agg #[],.bool true]) w:=fun w=>by kernel_rfl
 simp only[List.size_toArray,List.length_cons,List.length_nil,Nat.reduceAdd,Nat.reduceSub,Array.replicate_succ,Array.replicate_zero,List.push_toArray,List.append_toArray,List.nil_append,List.cons_append]
 gi_wp2
 exact⟨rfl,_,rfl,.tuple #[],by simp[results,Tryz.f69,go_sem],rfl,rfl,(b2.set _).alloc _,((Below.refl B w).setCell (p:=⟨B,0,none⟩) (Nat.le_refl _) _).alloc (by simp;omega) _⟩
set_option maxRecDepth 100000 in
set_option maxHeartbeats 4000000 in
theorem check_in (hG:Gd0 k G)(hM:MayAt G)(F:Fence)(hd:F.depth=none)(hf:∀ f,F.fn f)(hro:F.round=none)(hw:∀ {n:Nat}{f:FuncId}{args:Array Value}{w:World}{R:Ending→World→Prop},Calls Tryz.prog f args w R→CallsIn F n Tryz.prog f args w R)
  {φ:Nat→Nat→Option Value}(s:Nat)(x0:Node φ)(hs:SizeOf.sizeOf x0.cl<s)(hx1:x0.d=1)(w:World)(hGw:G w)(hD:Dat φ w) :
  CallsIn F 6 Tryz.prog 37 #[.agg x0.vs] w fun e w'=>e=.returned (.int .i64 (chkN validD s x0.cl))∧Below w.heap.size w w':=by
 have hdd:∀ k:Nat,(F.depth.isSome=true→1≤k):=fun k h=>by rw[hd] at h;cases h
 have hmf:∀ (fn:Fn)(first cap:Array Value)(w:World),(Instr.makeFunc fn first cap).run Tryz.prog w=.ok (.func fn first cap) w:=fun _ _ _ _=>rfl
 have hlt:∀ b o v,φ b o=some v→b<w.heap.size:=fun b o v h=>World.block_lt_of_cell? w ⟨b,o,none⟩ (hD b o v h)
 have hflat:=chk_flat validD s x0.cl hs x0.h.wt
 obtain⟨y0,hy0⟩:∃ y0,x0=y0:=⟨_,rfl⟩
 have hwf:=fun W (hW:Below w.heap.size w W)(Bv:Nat) hv h3 h4=>all_stops F hd 5 (hf 118) (hf 119) hro (w.heap.size+1+1) (w.heap.size+1+1+1) Bv (fun b o v h=>⟨by have:=hlt b o v h;omega,by have:=hlt b o v h;omega⟩) s x0 hs hx1 W hv h3 h4 (hD.below hW)
 obtain⟨d0,ka,ba,na,sa,a4,l4,c4,a5,l5,c5,cl0,hc0⟩:=x0
 obtain rfl:d0=1:=hx1
 dsimp only[Node.vs] at hwf ⊢
 have c0:∀ n w,CallsIn F n Tryz.prog 70 #[.agg #[.int .i64 ka,.bool ba,.int .i64 na,.string sa,.slice a4 l4 c4,.slice a5 l5 c5]] w fun e w'=>e=.returned (.func (.func 118) #[] #[.pointer (some ⟨w.heap.size,0,none⟩)])∧w'=w.alloc (.cells #[.int .i64 ka,.bool ba,.int .i64 na,.string sa,.slice a4 l4 c4,.slice a5 l5 c5] 31):=fun n w=>all_q F n (hf _) hro ⟨1,ka,ba,na,sa,a4,l4,c4,a5,l5,c5,cl0,hc0⟩ w
 refine callsIn_of_wp_marks Tryz.func37 rfl (hf _) ?_ hro
 simp only[Tryz.ntmps37,List.size_toArray,List.length_cons,List.length_nil,Nat.reduceAdd,Nat.reduceSub,Array.replicate_succ,Array.replicate_zero,List.push_toArray,List.append_toArray,List.nil_append,List.cons_append]
 gi_wp2_with ((try refine⟨hdd _,?_⟩);((with_reducible refine (c0 _ _).mono ?_));rintro e w' ⟨rfl,rfl⟩)
 clear c0
 obtain⟨W0,hW0⟩:∃ W0,((((w.alloc (.cells #[.int .i64 ka,.bool ba,.int .i64 na,.string sa,.slice a4 l4 c4,.slice a5 l5 c5] 31)).alloc (.cells #[.int .i64 0] 39)).alloc (.cells #[.int .i64 0] 3)).alloc (.cells #[.bool false] 4)).alloc (.cells #[.int .i64 ka,.bool ba,.int .i64 na,.string sa,.slice a4 l4 c4,.slice a5 l5 c5] 31)=W0:=⟨_,rfl⟩
 have bx:W0.heap[w.heap.size+1+1+1+1]? = some (.cells #[.int .i64 ka,.bool ba,.int .i64 na,.string sa,.slice a4 l4 c4,.slice a5 l5 c5] 31 (0,0)):=by
  rw[← hW0]
  have:=cells_new ((((w.alloc (.cells #[.int .i64 ka,.bool ba,.int .i64 na,.string sa,.slice a4 l4 c4,.slice a5 l5 c5] 31)).alloc (.cells #[.int .i64 0] 39)).alloc (.cells #[.int .i64 0] 3)).alloc (.cells #[.bool false] 4)) #[.int .i64 ka,.bool ba,.int .i64 na,.string sa,.slice a4 l4 c4,.slice a5 l5 c5] 31
  simp only[World.size_alloc] at this
  exact this
 have b2:=(((Boxed.new (w.alloc (.cells #[.int .i64 ka,.bool ba,.int .i64 na,.string sa,.slice a4 l4 c4,.slice a5 l5 c5] 31)) 39 (.int .i64 0)).alloc (.cells #[.int .i64 0] 3)).alloc (.cells #[.bool false] 4)).alloc (.cells #[.int .i64 ka,.bool ba,.int .i64 na,.string sa,.slice a4 l4 c4,.slice a5 l5 c5] 31)
 have b3:=((Boxed.new ((w.alloc (.cells #[.int .i64 ka,.bool ba,.int .i64 na,.string sa,.slice a4 l4 c4,.slice a5 l5 c5] 31)).alloc (.cells #[.int .i64 0] 39)) 3 (.int .i64 0)).alloc (.cells #[.bool false] 4)).alloc (.cells #[.int .i64 ka,.bool ba,.int .i64 na,.string sa,.slice a4 l4 c4,.slice a5 l5 c5] 31)
 have b4:=(Boxed.new (((w.alloc (.cells #[.int .i64 ka,.bool ba,.int .i64 na,.string sa,.slice a4 l4 c4,.slice a5 l5 c5] 31)).alloc (.cells #[.int .i64 0] 39)).alloc (.cells #[.int .i64 0] 3)) 4 (.bool false)).alloc (.cells #[.int .i64 ka,.bool ba,.int .i64 na,.string sa,.slice a4 l4 c4,.slice a5 l5 c5] 31)
 have hB0:Below w.heap.size w (((((w.alloc (.cells #[.int .i64 ka,.bool ba,.int .i64 na,.string sa,.slice a4 l4 c4,.slice a5 l5 c5] 31)).alloc (.cells #[.int .i64 0] 39)).alloc (.cells #[.int .i64 0] 3)).alloc (.cells #[.bool false] 4)).alloc (.cells #[.int .i64 ka,.bool ba,.int .i64 na,.string sa,.slice a4 l4 c4,.slice a5 l5 c5] 31)):=
  (((((Below.refl _ w).alloc (Nat.le_refl _) _).alloc (by simp) _).alloc (by simp;omega) _).alloc (by simp;omega) _).alloc (by simp;omega) _
 have hsz0:(((((w.alloc (.cells #[.int .i64 ka,.bool ba,.int .i64 na,.string sa,.slice a4 l4 c4,.slice a5 l5 c5] 31)).alloc (.cells #[.int .i64 0] 39)).alloc (.cells #[.int .i64 0] 3)).alloc (.cells #[.bool false] 4)).alloc (.cells #[.int .i64 ka,.bool ba,.int .i64 na,.string sa,.slice a4 l4 c4,.slice a5 l5 c5] 31)).heap.size=w.heap.size+1+1+1+1+1:=by simp only[World.size_alloc]
 simp only[World.size_alloc] at b2 b3 b4
 rw[hW0] at b2 b3 b4 hB0 hsz0
 rw[hW0]
 clear hW0
 have hall:=hwf W0 hB0 (w.heap.size+1+1+1+1) bx (by omega) (by omega)
 clear hwf
 refine wpIn_rangeFunc_ownH hro (by decide) (gf:=118) (lb:=#[.pointer (some ⟨w.heap.size+1+1+1+1,0,none⟩)]) rfl (hf _) (enters_of Tryz.func118 (by kernel_rfl) rfl)
  hall (fun h h'=>h.trans h') KpC_b (Below.refl _ _) (fun x=>rfl)
  (CkI w) (CkX w) (CkI.own w _ (by omega)) (fun c=>CkX.own w _ (by omega) c)
  ⟨(0,false),rfl,⟨⟨b3,b4⟩,b2⟩,hB0⟩
  (CkA w ⟨1,ka,ba,na,sa,a4,l4,c4,a5,l5,c5,cl0,hc0⟩)
  (fun x a' _ X Y row hs hg hr=>by obtain⟨Bx,h1,h2,h3⟩:=hs;exact⟨Bx,h1,cellsOwn (β:=Unit) Bx 31 _ () X Y row h2 hg (fun r e=>(hr r e).2),h3⟩)
  ?assign ?body ?done ?stop
 case assign=>
  rintro l pre x W K ⟨st,hst,⟨⟨b31,b41⟩,b21⟩,hB1⟩ hK
  have hs1:=hB1.size
  have hs4:=b41.lt
  obtain⟨dx,kx,bx1,nx,sx,p4,m4,e4,p5,m5,e5,clx,hcx⟩:=x
  dsimp only[Node.enc,Node.vs] at hK ⊢
  have hA:=hK _ _ ((KeepsOthers.alloc W _).from _) ((KpC.refl _ _ W).alloc _) ⟨st,hst,⟨⟨b31.alloc _,b41.alloc _⟩,b21.alloc _⟩,hB1.alloc hB1.size _⟩ ⟨W.heap.size,hs4,cells_new W #[.int .i64 kx,.bool bx1,.int .i64 nx,.string sx,.slice p4 m4 e4,.slice p5 m5 e5] 31,rfl⟩
  clear hK
  gi_wp2
  exact hA
 case body=>
  rintro l pre x a' W hl ⟨r,hr⟩ ⟨st,hst,⟨⟨b31,b41⟩,b21⟩,hB1⟩ ⟨Bx,hBx,bX,rfl⟩ hlt1
  have hGW:G W:=hG.keep w W (fun b hb=>hB1.block b (Nat.lt_of_lt_of_le hb (hG.size w hGw))) hGw
  have hDW:Dat φ W:=hD.below hB1
  have hm:=hM φ x W hGW hDW
  obtain⟨dx,kx,bx1,nx,sx,p4,m4,e4,p5,m5,e5,clx,hcx⟩:=x
  obtain⟨x1,hx1⟩:∃ x1:Node φ,x1=⟨dx,kx,bx1,nx,sx,p4,m4,e4,p5,m5,e5,clx,hcx⟩:=⟨_,rfl⟩
  have hxp:x1.p=(dx,clx):=by rw[hx1];rfl
  have hxc:x1.cl=clx:=by rw[hx1]
  have hn6:=node6 hcx
  dsimp only[Node.vs] at bX hm ⊢
  rw[← hx1]
  clear hx1
  have x0:W.cell? ⟨Bx,0,none⟩=some (.int .i64 kx):=cells_cell (o:=0) bX rfl
  have x1':W.cell? ⟨Bx,1,none⟩=some (.bool bx1):=cells_cell (o:=1) bX rfl
  have x2:W.cell? ⟨Bx,2,none⟩=some (.int .i64 nx):=cells_cell (o:=2) bX rfl
  have x3:W.cell? ⟨Bx,3,none⟩=some (.string sx):=cells_cell (o:=3) bX rfl
  have x4:W.cell? ⟨Bx,4,none⟩=some (.slice p4 m4 e4):=cells_cell (o:=4) bX rfl
  have x5:W.cell? ⟨Bx,5,none⟩=some (.slice p5 m5 e5):=cells_cell (o:=5) bX rfl
  have c3:=b31.cell
  have f3:=b31.frozen
  have c4:=b41.cell
  have f4:=b41.frozen
  have c2:=b21.cell
  have f2:=b21.frozen
  have l2:=b21.lt
  have l3:=b31.lt
  have l4:=b41.lt
  have lX:=(Array.getElem?_eq_some_iff.1 bX).1
  have hP:=Go.Lib.hid hst
  have HP:=Go.Lib.hid hst
  clear hflat hst
  cases hmb:mayB validD clx with
  |false=>
   rw[hmb] at hm
   gi_wp2_with ((try refine⟨hdd _,?_⟩);((with_reducible refine (CallsIn.inRound l (hw hm)).mono ?_));rintro e w1 ⟨rfl,hb1⟩;obtain⟨hc1,hf1⟩:=bcell hb1)
   exact⟨(keepsFrom_below hb1).trans ((KeepsOthers.setCell _ _ _).from _),rfl,⟨pre,x1,rfl,by rw[hxc];exact hmb⟩,(boxed_below hb1 b21).set _,(hB1.trans (hb1.mono hB1.size)).setCell (p:=⟨w.heap.size+1,0,none⟩) (by simp) _⟩
  |true=>
   rw[hmb] at hm
   obtain⟨nl,ys,ml,rs,rfl,rfl,hmy,rfl,hmr,hms,hkeys⟩:=hn6
   simp only[maxLen] at hmy hmr hms
   have HK:=Go.Lib.hid hkeys
   have HMB:=Go.Lib.hid hmb
   clear hkeys hmb
   gi_wp2_with ((try refine⟨hdd _,?_⟩);((with_reducible refine (CallsIn.inRound l (hw hm)).mono ?_));rintro e w1 ⟨rfl,hb1⟩;obtain⟨hc1,hf1⟩:=bcell hb1)
   clear hm
   have q31:=(boxed_below hb1 b31).set (.int .i64 (wrap64 (st.1 + ↑sx.size)))
   have q41:=(boxed_below hb1 b41).other (B':=w.heap.size+1+1) (by omega) (.int .i64 (wrap64 (st.1 + ↑sx.size)))
   have q21:=(boxed_below hb1 b21).other (B':=w.heap.size+1+1) (by omega) (.int .i64 (wrap64 (st.1 + ↑sx.size)))
   have qB:=(hB1.trans (hb1.mono hB1.size)).setCell (p:=⟨w.heap.size+1+1,0,none⟩) (by simp;omega) (.int .i64 (wrap64 (st.1 + ↑sx.size)))
   have qK:KpC (w.heap.size+1+1) (w.heap.size+1+1+1) W _:=(KpC.of_below hb1).trans (KpC.set3 w1 0 (.int .i64 (wrap64 (st.1 + ↑sx.size))))
   have qF:KeepsFrom W0.heap.size W _:=(keepsFrom_below hb1).trans ((KeepsOthers.setCell w1 ⟨w.heap.size+1+1,0,none⟩ (.int .i64 (wrap64 (st.1 + ↑sx.size)))).from _)
   gi_loopw [25] (fun i wr=>∃ (j:Nat)(acc:Int),j≤ys.length∧i=.int .i64 j∧Hid (acc=(ys.take j).foldl keyLen (w64 (st.1 + ↑sx.size)))∧Boxed wr (w.heap.size+1+1) 3 (.int .i64 acc)∧Boxed wr (w.heap.size+1+1+1) 4 (.bool st.2)∧Boxed wr (w.heap.size+1) 39 (.int .i64 0)∧Below w.heap.size w wr∧KpC (w.heap.size+1+1) (w.heap.size+1+1+1) W wr∧KeepsFrom W0.heap.size W wr) (fun i _=>ys.length-(RowKit.intOf i).toNat)
   case atStart=>exact⟨0,_,Nat.zero_le _,rfl,Go.Lib.hid (by rw[List.take_zero,List.foldl_nil];exact (Go.IntWalk.i64_left _).symm),q31,q41,q21,qB,qK,qF⟩
   case round=>
    obtain⟨j,acc,hj,rfl,HX,r31,r41,r21,rB,rK,rF⟩:=hrel
    by_cases hlt:j<ys.length
    ·obtain⟨y,hy⟩:∃ y,ys[j]? = some y:=⟨ys[j],by simp[hlt]⟩
     obtain⟨blk,off,sy,rfl,f0,rfl,hsy⟩:=HK.out j y hy
     have e0:=(hDW.kp rK (fun b o v h=>⟨by have:=World.block_lt_of_cell? w ⟨b,o,none⟩ (hD b o v h);simp at this;omega,by have:=World.block_lt_of_cell? w ⟨b,o,none⟩ (hD b o v h);simp at this;omega⟩)) _ _ _ f0
     have c3':=r31.cell
     have f3':=r31.frozen
     clear f0
     have hstep:wrap64 (acc + ↑sy.size)=(ys.take (j+1)).foldl keyLen (w64 (st.1 + ↑sx.size)):=by
      rw[List.take_add_one,hy,List.foldl_append,← HX.out,← Go.IntWalk.i64_left]
      simp[keyLen]
     have HS:=Go.Lib.hid hstep
     clear hstep hy
     gi_wp2
     refine⟨⟨j+1,_,by omega,by go_num,HS,r31.set _,r41.other (by omega) _,r21.other (by omega) _,rB.setCell (p:=⟨w.heap.size+1+1,0,none⟩) (by simp;omega) _,rK.trans (KpC.set3 wr 0 _),rF.trans ((KeepsOthers.setCell wr ⟨w.heap.size+1+1,0,none⟩ _).from _)⟩,by simp[RowKit.intOf];omega⟩
    ·obtain rfl:j=ys.length:=by omega
     have y3:wr.cell? ⟨Bx,3,none⟩=some (.string sx):=cells_cell (o:=3) (rK.cells _ _ _ _ (by omega) (by omega) bX) rfl
     have y4:wr.cell? ⟨Bx,4,none⟩=some (.slice p4 ys.length e4):=cells_cell (o:=4) (rK.cells _ _ _ _ (by omega) (by omega) bX) rfl
     have y5:wr.cell? ⟨Bx,5,none⟩=some (.slice p5 rs.length e5):=cells_cell (o:=5) (rK.cells _ _ _ _ (by omega) (by omega) bX) rfl
     have c3':=r31.cell
     have f3':=r31.frozen
     have c4':=r41.cell
     have f4':=r41.frozen
     clear c3 f3 c4 f4 c2 f2 x0 x1' x2 x3 x4 x5
     have fin:∀ (v:Bool)(a:Act),v=(st.2 || decide (64<dx) || decide (65536<(rs.length:Int)) || decide (1048576<acc))→ownPostG W0.heap.size (KpC (w.heap.size+1+1) (w.heap.size+1+1+1)) (CkI w) (CkX w) (pre++[x1]) W .normal a (wr.setCell ⟨w.heap.size+1+1+1,0,none⟩ (.bool v)):=by
      rintro v a rfl
      refine⟨rF.trans ((KeepsOthers.setCell wr ⟨w.heap.size+1+1+1,0,none⟩ _).from _),rK.trans (KpC.set4 wr 0 _),stepC dx [.int kx,.bool bx1,.int nx,.str sx.data.toList,.sl nl ys,.sl ml rs] st,?_,?_⟩
      ·rw[List.map_append,List.foldl_append,HP.out]
       simp only[List.map_cons,List.map_nil,List.foldl_cons,List.foldl_nil,hxp,visit,Option.bind_some,HMB.out,if_true]
      ·have ha:(stepC dx [.int kx,.bool bx1,.int nx,.str sx.data.toList,.sl nl ys,.sl ml rs] st)=(acc,st.2 || decide (64<dx) || decide (65536<(rs.length:Int)) || decide (1048576<acc)):=by
        have hx:=HX.out
        rw[List.take_length] at hx
        simp only[stepC]
        have hz:((sx.data.toList.length:Nat):Int)=(sx.size:Int):=rfl
        simp only[hz,← hx]
       rw[ha]
       exact⟨⟨⟨r31.other (by omega) _,r41.set _⟩,r21.other (by omega) _⟩,rB.setCell (p:=⟨w.heap.size+1+1+1,0,none⟩) (by simp;omega) _⟩
     have FIN:=Go.Lib.hid fin
     clear fin
     gi_wp2
     all_goals (first|refine FIN.out _ _ ?_|(rw[← hsz0];refine FIN.out _ _ ?_))
     all_goals clear FIN
     ·rename_i h;rw[h];rfl
     ·rename_i h1 h2 h3
      rw[Bool.not_eq_true] at h1
      rw[h1,Bool.false_or]
     ·rename_i h1 h2 h3
      rw[decide_eq_true h3];simp
     ·rename_i h1 h2
      rw[decide_eq_true h2];simp
 case done=>
  rintro D xs W hWD hxs ⟨st,hst,⟨⟨b31,b41⟩,b21⟩,hB1⟩ hK
  have hchk:chkN validD s cl0=if st.2 then 3 else 0:=by
   rw[hflat,← hxs,hst]
  have c4:=b41.cell
  have c2:=b21.cell
  have f2:=b21.frozen
  cases hst2:st.2 with
  |true=>
   rw[hst2] at c4 hchk
   have HC:=Go.Lib.hid hchk
   clear hchk hflat hst hxs
   have hpi:∀ (t:TypeId)(v:Value)(w:World),(Instr.panic (.iface t v)).run Tryz.prog w=.halt (.panic (.iface t v)) w:=fun _ _ _=>rfl
   gi_wp2
   refine⟨by simp,.inl ⟨_,_,rfl,run_takeDeferred hK,?_⟩⟩
   have b21':Boxed (W.putObj D (.deferred none)) (w.heap.size+1) 39 (.int .i64 0):=b21.kept (grownBy_putObj' _ D (.deferred none)) (by simp;omega)
   have hB2:=hB1.trans (belowK_b (w:=w) (Nat.le_refl _) _ D _ (.deferred none) (by omega) hK rfl rfl)
   refine⟨by simp,.inr ⟨hdd _,_,_,69,#[.pointer (some ⟨w.heap.size+1,0,none⟩)],rfl,by simp[go_sem],fun g _=>hf g,?_⟩⟩
   refine (check1_rec F _ (hf _) hro _ _ b21').mono ?_
   rintro e u' w' ⟨rfl,rfl,b5,hB3⟩
   have hc5:=b5.cell
   refine⟨.int .i64 3,?_,by rw[HC.out];rfl,hB2.trans (hB3.mono (by omega))⟩
   simp[results,Tryz.f37,go_sem,hc5]
  |false=>
   rw[hst2] at c4 hchk
   have HC:=Go.Lib.hid hchk
   clear hchk hflat hst hxs
   gi_wp2
   have hK':=(KeepsOthers.setCell W ⟨w.heap.size+1,0,none⟩ (.int .i64 0)).same D _ hK rfl
   refine⟨by simp,.inl ⟨_,_,rfl,run_takeDeferred hK',?_⟩⟩
   have hc5:=cell_kept (World.cell?_setCell_same' W ⟨w.heap.size+1,0,none⟩ (.int .i64 0) (by rw[c2];rfl)) (grownBy_putObj' _ D (.deferred none)) (fun r e=>by cases e;exact⟨_,hK',rfl⟩)
   have hB2:=(hB1.setCell (p:=⟨w.heap.size+1,0,none⟩) (by simp) (.int .i64 0)).trans (belowK_b (w:=w) (Nat.le_refl _) _ D _ (.deferred none) (by omega) hK' rfl rfl)
   refine⟨by simp,.inr ⟨hdd _,_,_,69,#[.pointer (some ⟨w.heap.size+1,0,none⟩)],rfl,by simp[go_sem],fun g _=>hf g,?_⟩⟩
   refine (check1_idle F _ (hf _) hro _ _).mono ?_
   rintro e u' w' ⟨rfl,rfl,rfl⟩
   refine⟨.int .i64 0,?_,by rw[HC.out];rfl,hB2⟩
   simp[results,Tryz.f37,go_sem,hc5]
 case stop=>
  rintro D c pre W hWD ⟨more,hmore⟩ ⟨rfl,⟨ps,x,rfl,hbad⟩,b21,hB1⟩ hK
  have hchk:chkN validD s cl0=110:=by
   rw[hflat,visit_bad validD (flat s 1 cl0) _ (x.p) (by rw[← hmore];simp) hbad]
  have c2:=b21.cell
  have f2:=b21.frozen
  gi_wp2
  refine⟨by simp,.inl ⟨_,_,rfl,run_takeDeferred hK,?_⟩⟩
  have hc5:=cell_kept c2 (grownBy_putObj' _ D (.deferred none)) (fun r e=>by cases e;exact⟨_,hK,rfl⟩)
  have hB2:=hB1.trans (belowK_b (w:=w) (Nat.le_refl _) _ D _ (.deferred none) (by omega) hK rfl rfl)
  refine⟨by simp,.inr ⟨hdd _,_,_,69,#[.pointer (some ⟨w.heap.size+1,0,none⟩)],rfl,by simp[go_sem],fun g _=>hf g,?_⟩⟩
  refine (check1_idle F _ (hf _) hro _ _).mono ?_
  rintro e u' w' ⟨rfl,rfl,rfl⟩
  refine⟨.int .i64 110,?_,by rw[hchk],hB2⟩
  simp[results,Tryz.f37,go_sem,hc5]
end Go.Proofs.Wo

namespace Go.Proofs.Wo
open Go.Exo Go.Exo.Wo Go.RowKit Go.Shelf Go.Lib
set_option linter.all false
variable {k:Nat}{G:World→Prop}
theorem check_calls (hG:Gd0 k G)(hM:MayAt G){φ:Nat→Nat→Option Value}(s:Nat)(x0:Node φ)(hs:SizeOf.sizeOf x0.cl<s)(hx1:x0.d=1)(w:World)(hGw:G w)(hD:Dat φ w) :
  Calls Tryz.prog 37 #[.agg x0.vs] w fun e w'=>e=.returned (.int .i64 (chkN validD s x0.cl))∧Below w.heap.size w w':=
 callsIn_wide.1 (check_in hG hM Fence.wide rfl (fun _=>trivial) rfl (fun h=>callsIn_wide.2 h) s x0 hs hx1 w hGw hD)
theorem chkN_range (u:List UInt8→Bool)(n:Nat)(r:List Cl):IntKind.min .i64≤chkN u n r∧chkN u n r≤IntKind.max .i64:=by
 unfold chkN
 split
 ·decide
 ·split<;>decide
theorem check_spec (hG:Gd0 k G)(hM:MayAt G)(n:Nat):Go.Exo.Spec Tryz.prog G 37 [vA] (.one (.one iK)) (fun c=>SizeOf.sizeOf c<n) (fun c=>[.int (chkN validD n c)]):=by
 intro w φ args cls hGw hφ ha hp
 cases ha with
 |agg h1 h2=>
  cases h2
  rename_i xs ds
  rw[List.append_nil] at hp
  obtain⟨y0,y1,y2,y3,y4,y5,rfl⟩:∃ y0 y1 y2 y3 y4 y5,xs=[y0,y1,y2,y3,y4,y5]:=by
   cases h1 with|cons h0 h=>cases h with|cons h1 h=>cases h with|cons h2 h=>cases h with|cons h3 h=>cases h with|cons h4 h=>cases h with|cons h5 h=>cases h;exact⟨_,_,_,_,_,_,rfl⟩
  obtain⟨kb,bb,nb,sb,b4,m4,d4,b5,m5,d5,rfl,rfl,rfl,rfl,rfl,rfl⟩:=row_form h1
  refine (show Calls Tryz.prog 37 #[.agg #[.int .i64 kb,.bool bb,.int .i64 nb,.string sb,.slice b4 m4 d4,.slice b5 m5 d5]] w _ from check_calls hG hM n ⟨1,kb,bb,nb,sb,b4,m4,d4,b5,m5,d5,ds,h1⟩ hp rfl w hGw hφ).mono ?_
  rintro e w' ⟨rfl,hb⟩
  have hx:=ext_below hb
  refine⟨_,φ,rfl,fun b o v h=>h,fun b o v h=>?_,fun b o v h _=>h,hx,?_⟩
  ·have h1:=hφ b o v h
   rw[← h1]
   exact World.cell?_of_block (hx.old b (World.block_lt_of_cell? w ⟨b,o,none⟩ h1))
  ·rw[List.append_nil]
   exact .one (.int _ _ (chkN_range _ _ _).1 (chkN_range _ _ _).2) .nil
end Go.Proofs.Wo

namespace Go.Proofs.Wo
open Go.Exo Go.Exo.Wo Go.Lib
set_option maxRecDepth 100000
set_option linter.all false
noncomputable def lawc0:Ct:=⟨stTodo (outS Tryz.prog hkLaw 9 Klaw [((.bin .gtr (.len (.var 9 1 (.sl 27))) (.int .i64 (20))),false),((.bin .gtr (.len (.var 9 3 (.sl 27))) (.int .i64 (20))),false),((.bin .gtr (.len (.var 9 0 (.sl 9))) (.int .i64 (20))),false),((.bin .gtr (.len (.var 9 2 (.sl 9))) (.int .i64 (20))),false)] 14),[.junk,.junk,.ptr 10 0,.ptr 11 0,.junk,.x (.var 9 0 .bool),.x (.var 9 1 (.int .i64)),.junk,.junk,.junk,.junk,.junk,.junk,.junk,.junk,.junk,.junk,.junk,.junk,.junk,.junk,.junk,.junk,.junk,.junk,.junk,.junk,.junk,.junk,.junk,.junk,.junk,.junk,.junk,.junk,.junk,.junk,.junk,.junk,.junk,.junk,.junk,.junk,.junk,.junk,.junk,.junk,.junk,.junk,.junk,.junk,.junk,.junk,.junk,.junk,.junk,.junk,.junk,.junk,.junk,.junk,.junk,.junk,.junk,.junk,.junk,.junk,.junk,.junk,.junk,.junk,.junk,.junk,.junk,.junk,.junk,.junk,.junk,.junk,.junk,.junk,.junk,.junk,.junk,.junk,.junk,.junk,.junk,.junk,.junk,.junk,.junk,.junk,.junk,.junk,.junk,.junk,.junk],[some (.cells 25 [.x (.var 9 2 (.sl 9)),.x (.var 9 3 (.sl 27))] 0 false),some (.cells 25 [.x (.var 9 4 (.sl 9)),.x (.var 9 5 (.sl 27))] 0 false)],[.bool,(.int .i64),(.sl 9),(.sl 27),(.sl 9),(.sl 27)]⟩
noncomputable def lawc1:Ct:=⟨stTodo (outC Tryz.prog hkLaw 9 3 lawc0 [((.bin .lss (.var 9 1 (.int .i64)) (.len (.var 9 3 (.sl 27)))),true),((.inr (.var 9 1 (.int .i64)) (.len (.var 9 3 (.sl 27)))),true),((.bin .gtr (.len (.el (.var 9 3 (.sl 27)) (.var 9 1 (.int .i64)) 0 (.sl 31))) (.int .i64 (10))),false)] 16),[.junk,.junk,.ptr 10 0,.ptr 11 0,.junk,.x (.var 9 0 .bool),.x (.var 9 1 (.int .i64)),.x (.var 9 2 (.int .i64)),.junk,.junk,.junk,.junk,.junk,.junk,.junk,.junk,.junk,.junk,.junk,.junk,.junk,.junk,.junk,.junk,.junk,.junk,.junk,.junk,.junk,.junk,.junk,.junk,.junk,.junk,.junk,.junk,.junk,.junk,.junk,.junk,.junk,.junk,.junk,.junk,.junk,.junk,.junk,.junk,.junk,.junk,.junk,.junk,.junk,.junk,.junk,.junk,.junk,.junk,.junk,.junk,.junk,.junk,.junk,.junk,.junk,.junk,.junk,.junk,.junk,.junk,.junk,.junk,.junk,.junk,.junk,.junk,.junk,.junk,.junk,.junk,.junk,.junk,.junk,.junk,.junk,.junk,.junk,.junk,.junk,.junk,.junk,.junk,.junk,.junk,.junk,.junk,.junk,.junk],[some (.cells 25 [.x (.var 9 3 (.sl 9)),.x (.var 9 4 (.sl 27))] 0 false),some (.cells 25 [.x (.var 9 5 (.sl 9)),.x (.var 9 6 (.sl 27))] 0 false)],[.bool,(.int .i64),(.int .i64),(.sl 9),(.sl 27),(.sl 9),(.sl 27)]⟩
noncomputable def lawcuts:List Ct:=[lawc0,lawc1]
def lawt:Tr:=.ask (.bin .gtr (.len (.var 9 1 (.sl 27))) (.int .i64 (20)))
 (.leaf 10 (.ret [] [(.app 9 3 .nilA .bool)]))
 (.ask (.bin .gtr (.len (.var 9 3 (.sl 27))) (.int .i64 (20)))
 (.leaf 10 (.ret [] [(.app 9 3 .nilA .bool)]))
 (.ask (.bin .gtr (.len (.var 9 0 (.sl 9))) (.int .i64 (20)))
 (.leaf 10 (.ret [] [(.app 9 3 .nilA .bool)]))
 (.ask (.bin .gtr (.len (.var 9 2 (.sl 9))) (.int .i64 (20)))
 (.leaf 10 (.ret [] [(.app 9 3 .nilA .bool)]))
 (.leaf 14 (.cut 0 [10,11] [(.bool true),(.int .i64 (0)),(.var 9 0 (.sl 9)),(.var 9 1 (.sl 27)),(.var 9 2 (.sl 9)),(.var 9 3 (.sl 27))])))))
def lawt0:Tr:=.ask (.bin .lss (.var 9 1 (.int .i64)) (.len (.var 9 3 (.sl 27))))
 (.must (.inr (.var 9 1 (.int .i64)) (.len (.var 9 3 (.sl 27)))) true <|
 .ask (.bin .gtr (.len (.el (.var 9 3 (.sl 27)) (.var 9 1 (.int .i64)) 0 (.sl 31))) (.int .i64 (10)))
 (.leaf 15 (.ret [] [(.app 9 3 .nilA .bool)]))
 (.leaf 16 (.cut 1 [10,11] [(.var 9 0 .bool),(.var 9 1 (.int .i64)),(.int .i64 (0)),(.var 9 2 (.sl 9)),(.var 9 3 (.sl 27)),(.var 9 4 (.sl 9)),(.var 9 5 (.sl 27))])))
 (.must (.app 9 1000001 (.cons (.var 9 2 (.sl 9)) (.cons (.var 9 3 (.sl 27)) (.cons (.var 9 4 (.sl 9)) (.cons (.var 9 5 (.sl 27)) .nilA)))) .bool) true <|
 .ask (.var 9 0 .bool)
 (.must (.app 9 1000002 (.cons (.var 9 2 (.sl 9)) (.cons (.var 9 3 (.sl 27)) (.cons (.var 9 4 (.sl 9)) (.cons (.var 9 5 (.sl 27)) .nilA)))) .bool) true <|
 .ask (.bin .eql (.app 9 1 (.cons (.var 9 2 (.sl 9)) (.cons (.var 9 3 (.sl 27)) (.cons (.var 9 4 (.sl 9)) (.cons (.var 9 5 (.sl 27)) .nilA)))) .bool) (.app 9 2 (.cons (.var 9 2 (.sl 9)) (.cons (.var 9 3 (.sl 27)) (.cons (.var 9 4 (.sl 9)) (.cons (.var 9 5 (.sl 27)) .nilA)))) .bool))
 (.must (.app 9 1000001 (.cons (.var 9 4 (.sl 9)) (.cons (.var 9 5 (.sl 27)) (.cons (.var 9 2 (.sl 9)) (.cons (.var 9 3 (.sl 27)) .nilA)))) .bool) true <|
 .ask (.bin .eql (.app 9 1 (.cons (.var 9 4 (.sl 9)) (.cons (.var 9 5 (.sl 27)) (.cons (.var 9 2 (.sl 9)) (.cons (.var 9 3 (.sl 27)) .nilA)))) .bool) (.app 9 1 (.cons (.var 9 2 (.sl 9)) (.cons (.var 9 3 (.sl 27)) (.cons (.var 9 4 (.sl 9)) (.cons (.var 9 5 (.sl 27)) .nilA)))) .bool))
 (.must (.app 9 1000001 (.cons (.var 9 2 (.sl 9)) (.cons (.var 9 3 (.sl 27)) (.cons (.var 9 2 (.sl 9)) (.cons (.var 9 3 (.sl 27)) .nilA)))) .bool) true <|
 .ask (.bin .eql (.app 9 1 (.cons (.var 9 2 (.sl 9)) (.cons (.var 9 3 (.sl 27)) (.cons (.var 9 2 (.sl 9)) (.cons (.var 9 3 (.sl 27)) .nilA)))) .bool) (.var 9 0 .bool))
 (.leaf 14 (.ret [] [(.app 9 3 .nilA .bool)]))
 (.leaf 13 (.ret [] [(.bool false)])))
 (.leaf 12 (.ret [] [(.bool false)])))
 (.leaf 10 (.ret [] [(.bool false)])))
 (.ask (.bin .eql (.app 9 1 (.cons (.var 9 2 (.sl 9)) (.cons (.var 9 3 (.sl 27)) (.cons (.var 9 4 (.sl 9)) (.cons (.var 9 5 (.sl 27)) .nilA)))) .bool) (.bool false))
 (.must (.app 9 1000001 (.cons (.var 9 4 (.sl 9)) (.cons (.var 9 5 (.sl 27)) (.cons (.var 9 2 (.sl 9)) (.cons (.var 9 3 (.sl 27)) .nilA)))) .bool) true <|
 .ask (.bin .eql (.app 9 1 (.cons (.var 9 4 (.sl 9)) (.cons (.var 9 5 (.sl 27)) (.cons (.var 9 2 (.sl 9)) (.cons (.var 9 3 (.sl 27)) .nilA)))) .bool) (.app 9 1 (.cons (.var 9 2 (.sl 9)) (.cons (.var 9 3 (.sl 27)) (.cons (.var 9 4 (.sl 9)) (.cons (.var 9 5 (.sl 27)) .nilA)))) .bool))
 (.must (.app 9 1000001 (.cons (.var 9 2 (.sl 9)) (.cons (.var 9 3 (.sl 27)) (.cons (.var 9 2 (.sl 9)) (.cons (.var 9 3 (.sl 27)) .nilA)))) .bool) true <|
 .ask (.bin .eql (.app 9 1 (.cons (.var 9 2 (.sl 9)) (.cons (.var 9 3 (.sl 27)) (.cons (.var 9 2 (.sl 9)) (.cons (.var 9 3 (.sl 27)) .nilA)))) .bool) (.var 9 0 .bool))
 (.leaf 13 (.ret [] [(.app 9 3 .nilA .bool)]))
 (.leaf 12 (.ret [] [(.bool false)])))
 (.leaf 11 (.ret [] [(.bool false)])))
 (.leaf 9 (.ret [] [(.bool false)]))))
def lawt1:Tr:=.must (.inr (.var 9 1 (.int .i64)) (.len (.var 9 4 (.sl 27)))) true <|
 .ask (.bin .lss (.var 9 2 (.int .i64)) (.len (.el (.var 9 4 (.sl 27)) (.var 9 1 (.int .i64)) 0 (.sl 31))))
 (.ask (.var 9 0 .bool)
 (.must (.inr (.var 9 2 (.int .i64)) (.len (.el (.var 9 4 (.sl 27)) (.var 9 1 (.int .i64)) 0 (.sl 31)))) true <|
 .must (.app 9 1000000 (.cons (.el (.el (.var 9 4 (.sl 27)) (.var 9 1 (.int .i64)) 0 (.sl 31)) (.var 9 2 (.int .i64)) 0 (.int .i64)) (.cons (.el (.el (.var 9 4 (.sl 27)) (.var 9 1 (.int .i64)) 0 (.sl 31)) (.var 9 2 (.int .i64)) 1 .bool) (.cons (.el (.el (.var 9 4 (.sl 27)) (.var 9 1 (.int .i64)) 0 (.sl 31)) (.var 9 2 (.int .i64)) 2 (.int .i64)) (.cons (.el (.el (.var 9 4 (.sl 27)) (.var 9 1 (.int .i64)) 0 (.sl 31)) (.var 9 2 (.int .i64)) 3 .str) (.cons (.el (.el (.var 9 4 (.sl 27)) (.var 9 1 (.int .i64)) 0 (.sl 31)) (.var 9 2 (.int .i64)) 4 (.sl 9)) (.cons (.el (.el (.var 9 4 (.sl 27)) (.var 9 1 (.int .i64)) 0 (.sl 31)) (.var 9 2 (.int .i64)) 5 (.sl 31)) .nilA)))))) .bool) true <|
 .leaf 12 (.cut 1 [10,11] [(.bin .eql (.app 9 0 (.cons (.el (.el (.var 9 4 (.sl 27)) (.var 9 1 (.int .i64)) 0 (.sl 31)) (.var 9 2 (.int .i64)) 0 (.int .i64)) (.cons (.el (.el (.var 9 4 (.sl 27)) (.var 9 1 (.int .i64)) 0 (.sl 31)) (.var 9 2 (.int .i64)) 1 .bool) (.cons (.el (.el (.var 9 4 (.sl 27)) (.var 9 1 (.int .i64)) 0 (.sl 31)) (.var 9 2 (.int .i64)) 2 (.int .i64)) (.cons (.el (.el (.var 9 4 (.sl 27)) (.var 9 1 (.int .i64)) 0 (.sl 31)) (.var 9 2 (.int .i64)) 3 .str) (.cons (.el (.el (.var 9 4 (.sl 27)) (.var 9 1 (.int .i64)) 0 (.sl 31)) (.var 9 2 (.int .i64)) 4 (.sl 9)) (.cons (.el (.el (.var 9 4 (.sl 27)) (.var 9 1 (.int .i64)) 0 (.sl 31)) (.var 9 2 (.int .i64)) 5 (.sl 31)) .nilA)))))) (.int .i64)) (.int .i64 (0))),(.var 9 1 (.int .i64)),(.bin .add (.var 9 2 (.int .i64)) (.int .i64 (1))),(.var 9 3 (.sl 9)),(.var 9 4 (.sl 27)),(.var 9 5 (.sl 9)),(.var 9 6 (.sl 27))]))
 (.leaf 11 (.cut 1 [10,11] [(.bool false),(.var 9 1 (.int .i64)),(.bin .add (.var 9 2 (.int .i64)) (.int .i64 (1))),(.var 9 3 (.sl 9)),(.var 9 4 (.sl 27)),(.var 9 5 (.sl 9)),(.var 9 6 (.sl 27))])))
 (.leaf 8 (.cut 0 [10,11] [(.var 9 0 .bool),(.bin .add (.var 9 1 (.int .i64)) (.int .i64 (1))),(.var 9 3 (.sl 9)),(.var 9 4 (.sl 27)),(.var 9 5 (.sl 9)),(.var 9 6 (.sl 27))]))
theorem lawt_ok:Pth.allS Tryz.prog hkLaw 9 Klaw lawcuts (lawt.paths []):=
 ⟨Pth.okS_ret (by kernel_rfl) (by kernel_rfl),
  Pth.okS_ret (by kernel_rfl) (by kernel_rfl),
  Pth.okS_ret (by kernel_rfl) (by kernel_rfl),
  Pth.okS_ret (by kernel_rfl) (by kernel_rfl),
  Pth.okS_cut lawc0 rfl (by kernel_rfl) (by kernel_rfl),
  trivial⟩
theorem lawt0_ok:Pth.allC Tryz.prog hkLaw 9 Klaw lawcuts lawc0 (lawt0.paths []):=
 ⟨Pth.okC_ret (by kernel_rfl) (by kernel_rfl),
  Pth.okC_cut lawc1 rfl (by kernel_rfl) (by kernel_rfl),
  Pth.okC_ret (by kernel_rfl) (by kernel_rfl),
  Pth.okC_ret (by kernel_rfl) (by kernel_rfl),
  Pth.okC_ret (by kernel_rfl) (by kernel_rfl),
  Pth.okC_ret (by kernel_rfl) (by kernel_rfl),
  Pth.okC_ret (by kernel_rfl) (by kernel_rfl),
  Pth.okC_ret (by kernel_rfl) (by kernel_rfl),
  Pth.okC_ret (by kernel_rfl) (by kernel_rfl),
  Pth.okC_ret (by kernel_rfl) (by kernel_rfl),
  trivial⟩
theorem lawt1_ok:Pth.allC Tryz.prog hkLaw 9 Klaw lawcuts lawc1 (lawt1.paths []):=
 ⟨Pth.okC_cut lawc1 rfl (by kernel_rfl) (by kernel_rfl),
  Pth.okC_cut lawc1 rfl (by kernel_rfl) (by kernel_rfl),
  Pth.okC_cut lawc0 rfl (by kernel_rfl) (by kernel_rfl),
  trivial⟩
variable {k:Nat}{G:World→Prop}
def lawPre (n:Nat)(c:List Cl):Prop:=2*SizeOf.sizeOf c<n∧∀ n1 ca n2 A n3 cb n4 B,c=[Cl.sl n1 ca,.sl n2 A,.sl n3 cb,.sl n4 B]→∀ r∈A++B,∀ xl P1,r=[Cl.sl xl P1]→∀ v∈P1,chkN validD n v=checkN validD v
noncomputable def tbLw (n:Nat)(f:Nat)(c:List Cl):Cl:=if f=1000000∨f=1000001∨f=1000002 then .bool (decide (SizeOf.sizeOf c<n)) else if f=0 then .int (checkN validD c) else if f=1 then (qsameF (chkN validD n) n c).getD 0 .no else if f=2 then (tableF c).getD 0 .no else .bool true
def lawInv (n:Nat)(j:Nat)(c0 c:List Cl):Prop:=∃ n1 ca n2 A n3 cb n4 B fine i,c0=[Cl.sl n1 ca,.sl n2 A,.sl n3 cb,.sl n4 B]∧lawPre n c0∧Wts [.sl 9,.sl 27,.sl 9,.sl 27] c0∧0≤i∧
 (j=0→c=[.bool fine,.int i,.sl n1 ca,.sl n2 A,.sl n3 cb,.sl n4 B]∧i≤A.length∧fine=(A.take i.toNat).all rowFine)∧
 (j≠0→∃ m xl P1,c=[.bool fine,.int i,.int m,.sl n1 ca,.sl n2 A,.sl n3 cb,.sl n4 B]∧i<A.length∧A[i.toNat]? = some [.sl xl P1]∧0≤m∧m≤P1.length∧fine=((A.take i.toNat).all rowFine&&(P1.take m.toNat).all vFine))
def lawM (_:Nat)(c:List Cl):Nat:=match c with
 |[_,.int i,_,.sl _ A,_,_]=>sumW (A.drop i.toNat)
 |[_,.int i,.int m,_,.sl _ A,_,_]=>(wRow (A.getD i.toNat [])-2-m.toNat)+1+sumW (A.drop (i.toNat+1))
 |_=>0
theorem lawV {n:Nat}:Vc0 (tbLw n) 9 Klaw.ks (lawPre n) (lawInv n) (fun _ r=>r=[.bool true]) lawt:=by
 intro cls E hE hw hn
 have hw':Wts [.sl 9,.sl 27,.sl 9,.sl 27] cls:=hw
 obtain⟨n1,ca,n2,A,n3,cb,n4,B,rfl,-⟩:=tab4 hw'
 have e3:tbLw n 3 []=.bool true:=by simp[tbLw]
 simp only[lawt,Tr.vc,To.goodT,List.map_cons,List.map_nil,hE.v,hE.a,X.d_nil,X.c_int,X.c_bool,X.c_bin,X.c_len,lenC,X.kd,binD,intD,List.getD_cons_zero,List.getD_cons_succ,Cl.bool.injEq,exists_eq',true_and,and_true,e3,implies_true]
 exact fun _ _ _ _=>⟨n1,ca,n2,A,n3,cb,n4,B,true,0,rfl,hn,hw',by omega,fun _=>⟨rfl,by omega,by simp⟩,fun h=>absurd rfl h⟩
theorem lawV0 {n:Nat}:Vc (· < ·) lawM (tbLw n) 9 lawc0.ks (lawInv n) (fun _ r=>r=[.bool true]) 0 lawt0:=by
 rintro c0 cls E hE hw ⟨n1,ca,n2,A,n3,cb,n4,B,fine,i,rfl,hp,hw0,h1,hh,-⟩
 obtain⟨rfl,h2,h3⟩:=hh rfl
 obtain⟨_,_,_,_,_,_,_,_,e,⟨hl1,hlen,hl2,hl3⟩,gca,gA,gcb,gB⟩:=tab4 hw0
 cases e
 have e3:tbLw n 3 []=.bool true:=by simp[tbLw]
 simp only[lawt0,Tr.vc,To.goodT,List.map_cons,List.map_nil,hE.v,hE.a,X.d_cons,X.d_nil,X.c_len,X.c_int,X.c_bool,X.c_bin,X.c_inr,X.c_el,X.kd,isCmp,cond_true,cond_false,List.getD_cons_zero,List.getD_cons_succ,lenC,binD,intD,inrD,elD,Cl.bool.injEq,decide_eq_true_eq,decide_eq_false_iff_not,exists_eq',true_and,h1,e3]
 have hlen':(A.length:Int)≤9223372036854775807:=by simp only[maxLen] at hlen;omega
 refine⟨fun hlt=>⟨hlt,?_⟩,fun hge=>?_⟩
 ·obtain⟨r,hr,hwr,hd,hm⟩:=row_at gA (i:=i.toNat) (by omega)
  obtain⟨c,rfl,hc⟩:=hwr.one
  obtain⟨xl,P1,rfl,-⟩:=hc.sl_inv
  rw[hr]
  simp only[List.getD_cons_zero,Cl.bool.injEq,exists_eq',true_and,implies_true]
  intro _
  refine⟨⟨n1,ca,n2,A,n3,cb,n4,B,fine,i,rfl,hp,hw0,h1,fun h=>absurd h (by decide),fun _=>⟨0,xl,P1,rfl,hlt,hm,by omega,by omega,?_⟩⟩,?_⟩
  ·rw[h3];simp
  ·simp only[lawM,hr,wRow]
   rw[hd]
   simp only[sumW,List.map_cons,List.sum_cons,wRow]
   omega
 ·have hi:i.toNat=A.length:=by omega
  rw[hi,List.take_length] at h3
  have hs1:2*SizeOf.sizeOf [Cl.sl n1 ca,.sl n2 A,.sl n3 cb,.sl n4 B]<n:=hp.1
  have q1:SizeOf.sizeOf [Cl.sl n3 cb,.sl n4 B,.sl n1 ca,.sl n2 A]<n:=by
   simp only[List.cons.sizeOf_spec,List.nil.sizeOf_spec,Cl.sl.sizeOf_spec] at hs1 ⊢;omega
  have q2:SizeOf.sizeOf [Cl.sl n1 ca,.sl n2 A,.sl n1 ca,.sl n2 A]<n:=by
   simp only[List.cons.sizeOf_spec,List.nil.sizeOf_spec,Cl.sl.sizeOf_spec] at hs1 ⊢;omega
  have q0:SizeOf.sizeOf [Cl.sl n1 ca,.sl n2 A,.sl n3 cb,.sl n4 B]<n:=by omega
  have hok:∀ r∈A++B,RowOk n r:=fun r hr=>by
   have hwr:Wts [.sl 31] r:=(List.mem_append.1 hr).elim (gA r) (gB r)
   obtain⟨c,rfl,hc⟩:=hwr.one
   obtain⟨xl,P1,rfl,-,-,hP⟩:=hc.sl_inv
   refine⟨xl,P1,rfl,fun v hv=>⟨hP v hv,?_,hp.2 _ _ _ _ _ _ _ _ rfl _ hr _ _ rfl v hv⟩⟩
   have z1:=List.sizeOf_lt_of_mem hv
   rcases List.mem_append.1 hr with h|h
   ·have z2:=List.sizeOf_lt_of_mem h
    simp only[List.cons.sizeOf_spec,List.nil.sizeOf_spec,Cl.sl.sizeOf_spec] at z2 hs1 ⊢;omega
   ·have z2:=List.sizeOf_lt_of_mem h
    simp only[List.cons.sizeOf_spec,List.nil.sizeOf_spec,Cl.sl.sizeOf_spec] at z2 hs1 ⊢;omega
  obtain⟨l1,l2,l3⟩:=same_law (n:=n) (ca:=ca) (A:=A) (cb:=cb) (B:=B) gca (fun r h=>hok r (List.mem_append.2 (.inl h))) (fun r h=>hok r (List.mem_append.2 (.inr h)))
  have m1:∀ f c,f=1000001∨f=1000002→SizeOf.sizeOf c<n→tbLw n f c=.bool true:=fun f c hf h=>by
   rw[tbLw,if_pos (by omega),decide_eq_true h]
  have t1:∀ n1 ca n2 A n3 cb n4 B,tbLw n 1 [.sl n1 ca,.sl n2 A,.sl n3 cb,.sl n4 B]=.bool (eqL eqS ca cb&&eqL (eqRow (chkN validD n) n) A B):=fun n1 ca n2 A n3 cb n4 B=>by simp[tbLw,qsameF]
  have t2:∀ n1 ca n2 A n3 cb n4 B,tbLw n 2 [.sl n1 ca,.sl n2 A,.sl n3 cb,.sl n4 B]=.bool (eqL eqS ca cb&&eqL alRow A B):=fun n1 ca n2 A n3 cb n4 B=>by simp[tbLw,tableF]
  simp only[m1 1000001 _ (.inl rfl) q0,m1 1000001 _ (.inl rfl) q1,m1 1000001 _ (.inl rfl) q2,m1 1000002 _ (.inr rfl) q0,t1,t2,l1,l2,l3,← h3]
  refine⟨trivial,fun hf=>?_,fun hf=>?_⟩
  ·rw[hf];simp
  ·rw[hf];simp
theorem lawV1 {n:Nat}:Vc (· < ·) lawM (tbLw n) 9 lawc1.ks (lawInv n) (fun _ r=>r=[.bool true]) 1 lawt1:=by
 rintro c0 cls E hE hw ⟨n1,ca,n2,A,n3,cb,n4,B,fine,i,rfl,hp,hw0,h1,-,hh⟩
 obtain⟨m,xl,P1,rfl,hi,hX,m0,m1,h3⟩:=hh (by decide)
 obtain⟨_,_,_,_,_,_,_,_,e,⟨hl1,hlen,hl2,hl3⟩,gca,gA,gcb,gB⟩:=tab4 hw0
 cases e
 have gX:A.getD i.toNat []=[.sl xl P1]:=by rw[List.getD_eq_getElem?_getD,hX];rfl
 simp only[lawt1,Tr.vc,To.goodT,List.map_cons,List.map_nil,hE.v,hE.a,X.d_cons,X.d_nil,X.c_len,X.c_int,X.c_bool,X.c_bin,X.c_inr,X.c_el,X.kd,isCmp,cond_true,cond_false,List.getD_cons_zero,List.getD_cons_succ,lenC,binD,intD,inrD,elD,Cl.bool.injEq,decide_eq_true_eq,decide_eq_false_iff_not,exists_eq',true_and,h1,m0,gX]
 obtain⟨_,e,hcX⟩:=(gA _ (List.mem_of_getElem? hX)).one
 cases e
 obtain⟨_,_,e,hlX,-,hWX⟩:=hcX.sl_inv;cases e
 have hlen':(A.length:Int)≤9223372036854775807:=by simp only[maxLen] at hlen;omega
 have hlX':(P1.length:Int)≤9223372036854775807:=by simp only[maxLen] at hlX;omega
 have hs1:2*SizeOf.sizeOf [Cl.sl n1 ca,.sl n2 A,.sl n3 cb,.sl n4 B]<n:=hp.1
 refine⟨hi,fun hlt=>?_,fun hge=>?_⟩
 ·obtain⟨r,hr,hwr,hd,hm⟩:=row_at hWX (i:=m.toNat) (by omega)
  obtain⟨ka,ba,na,sa,nla,ya,mla,ra,rfl,-⟩:=row6 hwr
  have e2:(m+1).toNat=m.toNat+1:=by omega
  have htk:(P1.take (m.toNat+1)).all vFine=((P1.take m.toNat).all vFine&&vFine [Cl.int ka,.bool ba,.int na,.str sa,.sl nla ya,.sl mla ra]):=by
   rw[List.take_add_one,hm,List.all_append];simp
  rw[i64_id (n:=m+1) (by omega) (by omega)]
  have hmM:∀ x y,lawM 1 [x,Cl.int i,.int (m+1),.sl n1 ca,.sl n2 A,.sl n3 cb,.sl n4 B]<lawM 1 [y,Cl.int i,.int m,.sl n1 ca,.sl n2 A,.sl n3 cb,.sl n4 B]:=fun x y=>by
   simp only[lawM,gX,wRow];omega
  refine⟨fun hf=>⟨hlt,?_⟩,fun hf=>⟨⟨n1,ca,n2,A,n3,cb,n4,B,false,i,rfl,hp,hw0,h1,fun h=>absurd h (by decide),fun _=>⟨m+1,xl,P1,rfl,hi,hX,by omega,by omega,?_⟩⟩,hmM _ _⟩⟩
  ·have hsz:SizeOf.sizeOf [Cl.int ka,.bool ba,.int na,.str sa,.sl nla ya,.sl mla ra]<n:=by
    have z1:=List.sizeOf_lt_of_mem (List.mem_of_getElem? hm)
    have z3:=List.sizeOf_lt_of_mem (List.mem_of_getElem? hX)
    simp only[List.cons.sizeOf_spec,List.nil.sizeOf_spec,Cl.sl.sizeOf_spec] at z1 z3 hs1 ⊢
    omega
   rw[hr]
   have en:tbLw n 1000000 [Cl.int ka,.bool ba,.int na,.str sa,.sl nla ya,.sl mla ra]=.bool true:=by rw[tbLw,if_pos (by omega),decide_eq_true hsz]
   have et:tbLw n 0 [Cl.int ka,.bool ba,.int na,.str sa,.sl nla ya,.sl mla ra]=.int (checkN validD [Cl.int ka,.bool ba,.int na,.str sa,.sl nla ya,.sl mla ra]):=by simp[tbLw]
   simp only[List.getD_cons_zero,List.getD_cons_succ,en,et,true_and]
   refine⟨⟨n1,ca,n2,A,n3,cb,n4,B,_,i,rfl,hp,hw0,h1,fun h=>absurd h (by decide),fun _=>⟨m+1,xl,P1,rfl,hi,hX,by omega,by omega,?_⟩⟩,hmM _ _⟩
   rw[e2,htk,← Bool.and_assoc,← h3,hf]
   rfl
  ·rw[e2,htk,← Bool.and_assoc,← h3,hf]
   rfl
 ·have e1:P1.take m.toNat=P1:=List.take_of_length_le (by omega)
  rw[i64_id (n:=i+1) (by omega) (by omega)]
  have e3:(i+1).toNat=i.toNat+1:=by omega
  refine⟨⟨n1,ca,n2,A,n3,cb,n4,B,fine,i+1,rfl,hp,hw0,by omega,fun _=>⟨rfl,by omega,?_⟩,fun h=>absurd rfl h⟩,?_⟩
  ·rw[h3,e1,e3,List.take_add_one,hX,List.all_append]
   simp[rowFine]
  ·simp only[lawM,e3];omega
theorem law_ok (hG:Gd0 k G)(hk0:0<k)(hsz:Tryz.prog.globals.size≤k)(hT:∀ w,G w→Go.Lib.Utf8Tabs 1 2 w)(hK:Go.Exo.Spec Tryz.prog G 4 [] (.one (.one .bool)) (fun _=>True) (fun _=>[.bool true]))(n:Nat):∃ tb,Klaw.Sound Tryz.prog k G tb (lawPre n) (fun _=>[.bool true]):=by
 have hC:=check_spec hG (may_at hG hk0 hsz hT) n
 obtain⟨tb1,h1⟩:=check_v hG hk0 hsz n
 obtain⟨tb2,h2⟩:=qsame_x hG hk0 hsz hC
 obtain⟨tb3,h3⟩:=table_ok hG hk0 hsz n
 letI:Tb:=⟨some (9,tbLw n)⟩
 have hx:∀ (x:Nat) c,x=1000000∨x=1000001∨x=1000002→tbLw n x c=.bool true→SizeOf.sizeOf c<n:=fun x c hx h=>by
  rw[tbLw,if_pos hx] at h
  simpa using h
 exact⟨_,Ctr.ofT (hk:=hkLaw) Nat.lt_wfRel.wf lawM (lawInv n) hG (fun D=>@Hooks.or _ (dcOf D) _ _ _ _ _ _
   (@Hooks.ctr _ (dcOf D) _ _ _ _ 9 (by kernel_rfl) _ _ _ _ h1 (by kernel_rfl) _ _ (one_h (fun c=>by simp) (fun c=>by simp[tbLw])) (some 1000000) (fun c h=>hx 1000000 c (by omega) h) hG hk0 hsz rfl)
   (@Hooks.or _ (dcOf D) _ _ _ _ _ _
   (@Hooks.ctr _ (dcOf D) _ _ _ _ 9 (by kernel_rfl) _ _ _ _ h2 (by kernel_rfl) _ _ (one_h (fun c=>by unfold qsameF;split<;>simp) (fun c=>by simp[tbLw])) (some 1000001) (fun c h=>hx 1000001 c (by omega) h) hG hk0 hsz rfl)
   (@Hooks.or _ (dcOf D) _ _ _ _ _ _
   (@Hooks.ctr _ (dcOf D) _ _ _ _ 9 (by kernel_rfl) _ _ _ _ h3 (by kernel_rfl) _ _ (one_h (fun c=>by unfold tableF;split<;>simp) (fun c=>by simp[tbLw])) (some 1000002) (fun c h=>hx 1000002 c (by omega) h) hG hk0 hsz rfl)
   (Hooks.spec hK (one_h (fun c=>by simp) (fun c=>by simp[tbLw])) hG hk0 rfl D)))) hsz (L:=9) (by kernel_rfl) rfl (trs:=[lawt0,lawt1]) (by kernel_rfl) lawt_ok lawV ⟨⟨lawt0_ok,lawV0⟩,⟨lawt1_ok,lawV1⟩,trivial⟩⟩
end Go.Proofs.Wo

namespace Go.Proofs.Wo
open Go.Exo Go.Exo.Wo Go.Lib
set_option linter.all false
theorem mass_mem {r:List Cl}:∀ {l:List (List Cl)},r∈l→massL r≤massR l
 |y::l,h=>by
  simp only[massR]
  rcases List.mem_cons.1 h with rfl|h
  ·omega
  ·have:=mass_mem h;omega
theorem kl_mass:∀ (ys:List (List Cl))(n:Int),ys.foldl kl n≤n+massR ys
 |[],n=>by simp[massR]
 |y::ys,n=>by
  have h:=kl_mass ys (kl n y)
  have:kl n y≤n+massL y:=by
   unfold kl
   split
   ·simp only[massL,massC];omega
   ·omega
  simp only[List.foldl_cons,massR]
  omega
theorem tr_mass (n:Nat):∀ r:List Cl,SizeOf.sizeOf r<n→(trR r).1≤massL r∧(trR r).2.1≤massL r∧(trR r).2.2.1≤massL r:=by
 induction n with
 |zero=>intro r h;omega
 |succ n ih=>
  intro r h
  by_cases hr:∃ k b i s nl ys ml rs,r=[Cl.int k,.bool b,.int i,.str s,.sl nl ys,.sl ml rs]
  ·obtain⟨k,b,i,s,nl,ys,ml,rs,rfl⟩:=hr
   rw[trR_eq]
   have key:∀ (l:List (List Cl))(a:Sz),(∀ x∈l,x∈rs)→(trRs a l).1≤a.1+massR l∧(0≤a.2.1→(trRs a l).2.1≤a.2.1+massR l)∧(trRs a l).2.2.1≤a.2.2.1+massR l:=by
    intro l
    induction l with
    |nil=>intro a _;simp[trRs,massR]
    |cons x l ihl=>
     intro a hx
     have z:=List.sizeOf_lt_of_mem (hx x (.head _))
     simp only[List.cons.sizeOf_spec,Cl.sl.sizeOf_spec] at h
     have hz:=ih x (by omega)
     have h0:=trR_0 x
     have q:=ihl (trAdd a (trR x)) fun y hy=>hx y (.tail _ hy)
     have e1:(trAdd a (trR x)).1=a.1+(trR x).1:=rfl
     have e3:(trAdd a (trR x)).2.2.1=a.2.2.1+(trR x).2.2.1:=rfl
     have e2:0≤a.2.1→0≤(trAdd a (trR x)).2.1∧(trAdd a (trR x)).2.1≤a.2.1+massL x:=fun ha=>by
      unfold trAdd
      simp only
      split<;>omega
     show (trRs (trAdd a (trR x)) l).1≤_∧(0≤a.2.1→(trRs (trAdd a (trR x)) l).2.1≤_)∧(trRs (trAdd a (trR x)) l).2.2.1≤_
     simp only[massR]
     refine⟨by omega,fun ha=>?_,by omega⟩
     have:=e2 ha
     have:=q.2.1 this.1
     omega
   have q:=key rs (1,0,ys.foldl kl (s.length:Int),(rs.length:Int)) fun _ h=>h
   have hk:=kl_mass ys (s.length:Int)
   have q2:=q.2.1 (by simp)
   simp only[massL,massC] at q q2 ⊢
   refine⟨by omega,by omega,by omega⟩
  ·have e:trR r=(0,0,0,0):=by
    unfold trR
    split
    ·rename_i k b i s nl ys ml rs
     exact absurd ⟨k,b,i,s,nl,ys,ml,rs,rfl⟩ hr
    ·rfl
   rw[e]
   simp
theorem law_fits {n:Nat}{c:List Cl}(hw:Wts [.sl 9,.sl 27,.sl 9,.sl 27] c)(hs:2*SizeOf.sizeOf c<n)(hm:massL c≤1048576):lawPre n c:=by
 refine⟨hs,?_⟩
 rintro n1 ca n2 A n3 cb n4 B rfl r hr xl P1 rfl v hv
 obtain⟨_,_,_,_,_,_,_,_,e,-,gca,gA,gcb,gB⟩:=tab4 hw
 cases e
 have hwr:Wts [.sl 31] [Cl.sl xl P1]:=(List.mem_append.1 hr).elim (gA _) (gB _)
 obtain⟨_,e,hc⟩:=hwr.one
 cases e
 obtain⟨_,_,e,-,-,hP⟩:=hc.sl_inv
 cases e
 have hv1:massL v≤1048576:=by
  have h1:=mass_mem hv
  have h2:massL [Cl.sl xl P1]≤massR A+massR B:=(List.mem_append.1 hr).elim (fun h=>by have:=mass_mem h;omega) (fun h=>by have:=mass_mem h;omega)
  simp only[massL,massC] at h2 hm
  omega
 have hsv:SizeOf.sizeOf v<n:=by
  have z1:=List.sizeOf_lt_of_mem hv
  rcases List.mem_append.1 hr with h|h
  ·have z2:=List.sizeOf_lt_of_mem h
   simp only[List.cons.sizeOf_spec,List.nil.sizeOf_spec,Cl.sl.sizeOf_spec] at z2 hs;omega
  ·have z2:=List.sizeOf_lt_of_mem h
   simp only[List.cons.sizeOf_spec,List.nil.sizeOf_spec,Cl.sl.sizeOf_spec] at z2 hs;omega
 have t:=tr_mass _ v (Nat.lt_succ_self _)
 have hb:big=4611686018427387904:=rfl
 exact chk_check validD n v hsv (hP v hv) (by omega) (by omega) (by omega)
end Go.Proofs.Wo
