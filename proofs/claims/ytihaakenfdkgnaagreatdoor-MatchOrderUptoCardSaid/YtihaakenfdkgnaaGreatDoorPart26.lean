/-
  value.all goes over all that a value holds: by hand, at any data. Own text.
-/
import Derived.Test.YtihaakenfdkgnaaGreatDoorPart21
import Derived.Shelf.Abstract
import Derived.Shelf.RegionOpen
import Derived.WalkKit
import Derived.OwnWalkIn
import Derived.TacticsInMore
import Derived.LoopNIn
import Derived.LoopIn
import Derived.Laws.EntriesVeiled
import Derived.RecoverIn
import Derived.Test.YtihaakenfdkgnaaGreatDoorPart25
set_option linter.all false
noncomputable section
namespace Go.Proofs.Wo
open Go.Exo Go.Exo.Wo Go.RowKit Go.Shelf
attribute [local go_sem] Oper.semAt_some
structure KpC (B3 B4:Nat)(W W':World):Prop where
 size:W.heap.size<=W'.heap.size
 cells:∀ k c t fr,k≠B3->k≠B4->W.heap[k]? = some (.cells c t fr)->W'.heap[k]? = some (.cells c t fr)
theorem KpC.refl (B3 B4:Nat)(W:World):KpC B3 B4 W W:=⟨am _,fun _ _ _ _ _ _ h=>h⟩
theorem KpC.trans {B3 B4:Nat}{A B C:World}(h:KpC B3 B4 A B)(h':KpC B3 B4 B C):KpC B3 B4 A C:=⟨Nat.le_trans h.size h'.size,fun k c t fr a b e=>h'.cells k c t fr a b (h.cells k c t fr a b e)⟩
theorem KpC.alloc {B3 B4:Nat}{A B:World}(h:KpC B3 B4 A B)(o:Obj):KpC B3 B4 A (B.alloc o):=
 h.trans ⟨by simp,fun k c t fr _ _ e=>(Below.heap_alloc B o k (ag.1 e).1).trans e⟩
theorem KpC.of_below {B3 B4:Nat}{A B:World}(h:Below A.heap.size A B):KpC B3 B4 A B:=⟨h.size,fun k c t fr _ _ e=>(h.block k (ag.1 e).1).trans e⟩
theorem Dat.kp {φ:Nat->Nat->Option Value}{A B:World}{B3 B4:Nat}(h:Dat φ A)(hk:KpC B3 B4 A B)(hn:∀ b o v,φ b o=some v->b≠B3/\b≠B4):Dat φ B:=fun b o v hv=>by
 have h1:=h b o v hv;obtain⟨n3,n4⟩:=hn b o v hv;unfold World.cell? at h1 ⊢;cases e:A.heap[b]? with
 |none=>simp[e] at h1
 |some ob=>
  cases ob with
  |cells c t fr=>rw[hk.cells b c t fr n3 n4 e];simpa[e] using h1
  |_=>simp[e] at h1
theorem tZ {F:Fence}(hd:F.depth=none)(k:Nat):F.room k:=fun d h=>by rw[hd] at h;cases h
theorem RoundIn.anyDepth {F:Fence}(hd:F.depth=none){m m':Nat}{P:Program}{l:Nat}{f:FuncId}{tmps:Array Value}{assign body:Code}{w:World}{R:Ending->World->Prop}
  (h:RoundIn F m P l f tmps assign body w R):RoundIn F m' P l f tmps assign body w R:=⟨h.1,fun c cs _=>h.2 c cs (tZ hd _)⟩
theorem YieldAt.anyDepth {F:Fence}(hd:F.depth=none){m:Nat}(m':Nat){P:Program}{l:Nat}{args:Array Value}{W:World}{R:Ending->World->Prop}(h:YieldAt F m P l args W R):YieldAt F m' P l args W R:=by
 obtain⟨fn,tmps,assign,body,hy,hR⟩:=h;exact⟨fn,tmps,assign,body,hy,RoundIn.anyDepth hd hR⟩
theorem last6 {φ:Nat->Nat->Option Value}{y0 y1 y2 y3 y4 y5:Value}{cl:List Cl}(h:CRs (rel φ) vK [y0,y1,y2,y3,y4,y5] cl):∃ k b n s nl ys ml rs,cl=[.int k,.bool b,.int n,.str s,.sl nl ys,.sl ml rs]/\CR (rel φ) (.sl 29) y5 (.sl ml rs):=by
 obtain⟨k,b,n,s,nl,ys,ml,rs,rfl,-⟩:=row6 h.wt;refine⟨k,b,n,s,nl,ys,ml,rs,rfl,?_⟩;cases h with|cons h0 h=>cases h with|cons h1 h=>cases h with|cons h2 h=>cases h with|cons h3 h=>cases h with|cons h4 h=>cases h with|cons h5 h=>exact h5
set_option maxRecDepth 100000 in
set_option maxHeartbeats 4000000 in
theorem goes_q {φ:Nat->Nat->Option Value}(F:Fence)(hd:F.depth=none)(h103:F.fn 180)(hro:F.round=none)(l B3 B4 N:Nat)(hn34:∀ b o v,φ b o=some v->b≠B3/\b≠B4)(J Jx:List (Node φ)->World->Prop)
  (hJa:∀ pre W o,J pre W->J pre (W.alloc o))
  (hY:∀ m pre x W,J pre W->pre.length<N->YieldAt F m Tryz.prog l x.enc W fun e W'=>(e=.returned (.bool true)/\J (pre++[x]) W'/\KpC B3 B4 W W')\/(e=.returned (.bool false)/\Jx (pre++[x]) W'))
  (By Bg:Nat)(hy3:By≠B3)(hy4:By≠B4)(hg3:Bg≠B3)(hg4:Bg≠B4) :
  ∀ (n:Nat)(x:Node φ),SizeOf.sizeOf x.cl<n->∀ (m:Nat)(pre:List (Node φ))(W:World),W.heap[By]? = some (.cells #[.func (.yield l) #[] #[]] 274 (0,0))->W.heap[Bg]? = some (.cells #[.func (.func 180) #[] #[.pointer (some ⟨By,0,none⟩),.pointer (some ⟨Bg,0,none⟩)]] 275 (0,0))->B3<W.heap.size->B4<W.heap.size->Dat φ W->J pre W->pre.length+(flat n x.d x.cl).length<=N->
  CallsIn F m Tryz.prog 180 #[.agg x.vs,.int .i64 x.d,.pointer (some ⟨By,0,none⟩),.pointer (some ⟨Bg,0,none⟩)] W fun e W'=>
   (e=.returned (.bool true)/\(∃ xs:List (Node φ),xs.map Node.p=flat n x.d x.cl/\J (pre++xs) W')/\KpC B3 B4 W W')\/(e=.returned (.bool false)/\∃ xs:List (Node φ),(∃ more,xs.map Node.p++more=flat n x.d x.cl)/\Jx (pre++xs) W'):=by
 intro n;induction n with
 |zero=>intro x h;omega
 |succ n ih=>
  intro x hm m pre W hy hg h3 h4 hD hJ hN;have hdd:∀ k:Nat,(F.depth.isSome=true->1<=k):=fun k h=>by rw[hd] at h;cases h
  obtain⟨x0,hx0⟩:∃ x0,x=x0:=⟨_,rfl⟩
  obtain⟨d,ka,ba,na,sa,a4,l4,c4,a5,l5,c5,cl,hc⟩:=x;obtain⟨k',b',n',s',nl,ys,ml,rs,rfl,hlast⟩:=last6 hc;obtain⟨a,cap,e5,hmax,hrow⟩:=jP hlast;cases e5;have hfl:flat (n+1) d [.int k',.bool b',.int n',.str s',.sl nl ys,.sl ml rs]=(d,[.int k',.bool b',.int n',.str s',.sl nl ys,.sl ml rs])::rs.flatMap (flat n (w64 (d+1))):=rfl;have hyc:=aA (o:=0) ((Below.heap_alloc W (.cells #[.int .i64 ka,.bool ba,.int .i64 na,.string sa,.slice a4 l4 c4,.slice a5 rs.length c5] 29) By (ag.1 hy).1).trans hy) rfl;have hx0p:x0.p=(d,[.int k',.bool b',.int n',.str s',.sl nl ys,.sl ml rs]):=by rw[<- hx0];rfl
  have hYz:YieldAt F (m-1) Tryz.prog l #[.int .i64 d,.agg #[.int .i64 ka,.bool ba,.int .i64 na,.string sa,.slice a4 l4 c4,.slice a5 rs.length c5]] (W.alloc (.cells #[.int .i64 ka,.bool ba,.int .i64 na,.string sa,.slice a4 l4 c4,.slice a5 rs.length c5] 29)) fun e W'=>
    (e=.returned (.bool true)/\J (pre++[x0]) W'/\KpC B3 B4 W W'/\W'.cell? ⟨W.heap.size,5,none⟩=some (.slice a5 rs.length c5))\/(e=.returned (.bool false)/\Jx (pre++[x0]) W'):=by
   have:=hY (m-1) pre x0 (W.alloc (.cells #[.int .i64 ka,.bool ba,.int .i64 na,.string sa,.slice a4 l4 c4,.slice a5 rs.length c5] 29)) (hJa _ _ _ hJ) (by dsimp only at hN;rw[hfl] at hN;simp at hN;omega);rw[<- hx0] at this ⊢
   refine YieldAt.mono this fun e W' h=>h.elim (fun⟨he,hj,hk⟩=>.inl ⟨he,hj,((KpC.refl B3 B4 W).alloc _).trans hk,
    aA (hk.cells _ _ _ _ (by omega) (by omega) (cW W _ 29)) rfl⟩) .inr
  obtain⟨fn,tmps,assign,body,hyo,hR⟩:=hYz;dsimp only[Node.vs] at hN ⊢;rw[hfl] at hN ⊢;simp only[List.length_cons] at hN;simp only[maxLen] at hmax;dsimp only at hm;have HR:=Go.Lib.hid hrow;have HN:=Go.Lib.hid hN;have HM:=Go.Lib.hid hm;have HD:=Go.Lib.hid hD;have HIH:=Go.Lib.hid ih;clear hrow hN hm hD ih hc hlast hx0;refine callsIn_of_wp Tryz.func180 rfl h103 ?_ hro;simp only[Tryz.ntmps180,List.size_toArray,List.length_cons,List.length_nil,Nat.reduceAdd,Nat.reduceSub,Array.replicate_succ,Array.replicate_zero,List.push_toArray,List.append_toArray,List.nil_append,List.cons_append]
  gi_wp2_with ((try refine⟨hdd _,?_⟩);refine hR.mono ?_;clear hR;rintro e W2 (⟨rfl,hJ2,hk2,hc2⟩|⟨rfl,hx2⟩))
  ·gi_loopw [17] (fun i wr=>∃ (j:Nat)(xs:List (Node φ)),j<=rs.length/\i=.int .i64 j/\Hid (xs.map Node.p=(rs.take j).flatMap (flat n (w64 (d+1))))/\J (pre++([x0]++xs)) wr/\KpC B3 B4 W wr) (fun i _=>rs.length-(intOf i).toNat)
   case atStart=>exact⟨0,[],Nat.zero_le _,rfl,Go.Lib.hid rfl,by simpa using hJ2,hk2⟩
   case round=>
    obtain⟨j,xs,hj,rfl,HX,hJ3,hk3⟩:=hrel;by_cases hlt:j<rs.length
    ·obtain⟨r,hr⟩:∃ r,rs[j]? = some r:=⟨rs[j],by simp[hlt]⟩
     obtain⟨blk,off,y0,y1,y2,y3,y4,y5,rfl,f0,f1,f2,f3,f4,f5,hcr⟩:=HR.out j r hr;obtain⟨kb,bb,nb,sb,b4,m4,d4,b5,m5,d5,rfl,rfl,rfl,rfl,rfl,rfl⟩:=kV hcr;have hDw:=HD.out.kp hk3 hn34;have e0:=hDw _ _ _ f0;have e1:=hDw _ _ _ f1;have e2:=hDw _ _ _ f2;have e3:=hDw _ _ _ f3;have e4:=hDw _ _ _ f4;have e5:=hDw _ _ _ f5;have hgb:=hk3.cells _ _ _ _ hg3 hg4 hg;have hgb3:=(Below.heap_alloc wr (.cells #[.int .i64 kb,.bool bb,.int .i64 nb,.string sb,.slice b4 m4 d4,.slice b5 m5 d5] 29) Bg (ag.1 hgb).1).trans hgb;have hgc:(wr.alloc (.cells #[.int .i64 kb,.bool bb,.int .i64 nb,.string sb,.slice b4 m4 d4,.slice b5 m5 d5] 29)).cell? ⟨Bg,0,none⟩=some (.func (.func 180) #[] #[.pointer (some ⟨By,0,none⟩),.pointer (some ⟨Bg,0,none⟩)]):=aA (o:=0) hgb3 rfl;have hyb:=hk3.cells _ _ _ _ hy3 hy4 hy;have hyb3:=(Below.heap_alloc wr (.cells #[.int .i64 kb,.bool bb,.int .i64 nb,.string sb,.slice b4 m4 d4,.slice b5 m5 d5] 29) By (ag.1 hyb).1).trans hyb;have hsz:=hk3.size
     have hspl:rs=rs.take j++r::rs.drop (j+1):=by
      obtain⟨hl,rfl⟩:=ae.1 hr;rw[<- List.drop_eq_getElem_cons hl,List.take_append_drop]
     have hfm:rs.flatMap (flat n (w64 (d+1)))=xs.map Node.p++(flat n (w64 (d+1)) r++(rs.drop (j+1)).flatMap (flat n (w64 (d+1)))):=by
      conv=>lhs;rw[hspl]
      rw[List.flatMap_append,List.flatMap_cons,HX.out]
     have htk:(rs.take (j+1)).flatMap (flat n (w64 (d+1)))=xs.map Node.p++flat n (w64 (d+1)) r:=by
      rw[List.take_add_one,hr,List.flatMap_append,HX.out];simp
     have G:=HIH.out ⟨w64 (d+1),kb,bb,nb,sb,b4,m4,d4,b5,m5,d5,r,hcr⟩ (by
      have z:=List.sizeOf_lt_of_mem (List.mem_of_getElem? hr)
      have hm:=HM.out
      simp only[List.cons.sizeOf_spec,Cl.sl.sizeOf_spec] at hm
      show SizeOf.sizeOf r<n
      omega) (m-1) (pre++([x0]++xs)) (wr.alloc (.cells #[.int .i64 kb,.bool bb,.int .i64 nb,.string sb,.slice b4 m4 d4,.slice b5 m5 d5] 29)) hyb3 hgb3 (by simp;omega) (by simp;omega) (hDw.below ((Below.refl _ _).alloc (am _) _)) (hJa _ _ _ hJ3) (by
      have h1:=HN.out
      rw[hfm] at h1
      simp only[List.length_append,List.length_map,List.length_cons,List.length_nil] at h1 ⊢
      omega)
     dsimp only[Node.vs] at G;have hw:w64 (d+1)=wrap64 (d+1):=Go.IntWalk.i64_left (d+1);rw[hw] at G;have HF:=Go.Lib.hid hfm;have HT:=Go.Lib.hid htk;clear hfm htk hspl hyb hyb3 hgb hgb3 hr f0 f1 f2 f3 f4 f5 hcr hDw
     gi_wp2_with ((try refine⟨hdd _,?_⟩);((with_reducible refine G.mono ?_));clear G;rintro e W4 (⟨rfl,⟨zs,hzs,hJ4⟩,hk4⟩|⟨rfl,zs,⟨more,hzs⟩,hx4⟩))
     ·go_roundw
      case rel=>exact⟨j+1,xs++zs,by omega,by go_num,Go.Lib.hid (by rw[HT.out,List.map_append,hzs,<- hw]),by simpa using hJ4,(hk3.alloc _).trans hk4⟩
      case measure=>simp[intOf];omega
     ·go_ret
      exact .inr ⟨rfl,x0::(xs++zs),⟨more++(rs.drop (j+1)).flatMap (flat n (w64 (d+1))),by rw[HF.out,hw,<- hzs];simp[hx0p]⟩,by simpa using hx4⟩
    ·obtain rfl:j=rs.length:=by omega
     gi_wp2
     go_ret;exact .inl ⟨rfl,⟨x0::xs,by have:=HX.out;simp only[List.take_length] at this;simp[hx0p,this],by simpa using hJ3⟩,hk3⟩
  ·go_ret
   exact .inr ⟨rfl,[x0],⟨_,by simp[hx0p];rfl⟩,hx2⟩
end Go.Proofs.Wo
end

noncomputable section
namespace Go.Proofs.Wo
open Go.Exo Go.Exo.Wo Go.RowKit Go.Shelf
attribute [local go_sem] Oper.semAt_some
set_option maxRecDepth 100000 in
set_option maxHeartbeats 2000000 in
theorem all1_q {φ:Nat->Nat->Option Value}(F:Fence)(hd:F.depth=none)(h118:F.fn 179)(h119:F.fn 180)(hro:F.round=none)(l B3 B4 Bv N:Nat)(hn34:∀ b o v,φ b o=some v->b≠B3/\b≠B4)(J Jx:List (Node φ)->World->Prop)
  (hJa:∀ pre W o,J pre W->J pre (W.alloc o))
  (hY:∀ m pre x W,J pre W->pre.length<N->YieldAt F m Tryz.prog l x.enc W fun e W'=>(e=.returned (.bool true)/\J (pre++[x]) W'/\KpC B3 B4 W W')\/(e=.returned (.bool false)/\Jx (pre++[x]) W'))
  (n s:Nat)(x:Node φ)(hs:SizeOf.sizeOf x.cl<s)(hd1:x.d=1)(hN:(flat s 1 x.cl).length<=N)(W:World)(hv:W.heap[Bv]? = some (.cells x.vs 29 (0,0)))
  (h3:B3<W.heap.size)(h4:B4<W.heap.size)(hD:Dat φ W)(hJ:J [] W) :
  CallsIn F n Tryz.prog 179 #[.func (.yield l) #[] #[],.pointer (some ⟨Bv,0,none⟩)] W fun e W'=>(∃ v,e=.returned v)/\
   ((∃ xs:List (Node φ),xs.map Node.p=flat s 1 x.cl/\J xs W')\/(∃ pre:List (Node φ),(∃ more,pre.map Node.p++more=flat s 1 x.cl)/\Jx pre W')):=by
 have hdd:∀ k:Nat,(F.depth.isSome=true->1<=k):=fun k h=>by rw[hd] at h;cases h
 have hmf:∀ (fn:Fn)(first cap:Array Value)(w:World),(Instr.makeFunc fn first cap).run Tryz.prog w=.ok (.func fn first cap) w:=fun _ _ _ _=>rfl
 obtain⟨W2,hW2⟩:∃ W2,(W.alloc (.cells #[.func (.yield l) #[] #[]] 274)).alloc (.cells #[.func (.func 180) #[] #[.pointer (some ⟨W.heap.size,0,none⟩),.pointer (some ⟨W.heap.size+1,0,none⟩)]] 275)=W2:=⟨_,rfl⟩
 have hB2:Below W.heap.size W W2:=by rw[<- hW2];exact ((Below.refl _ W).alloc (am _) _).alloc (by simp) _
 have hv2:=(hB2.block Bv (ag.1 hv).1).trans hv
 have hy2:W2.heap[W.heap.size]? = some (.cells #[.func (.yield l) #[] #[]] 274 (0,0)):=by
  rw[<- hW2];exact (Below.heap_alloc _ _ _ (by simp)).trans (cW W _ 274)
 have hg2:W2.heap[W.heap.size+1]? = some (.cells #[.func (.func 180) #[] #[.pointer (some ⟨W.heap.size,0,none⟩),.pointer (some ⟨W.heap.size+1,0,none⟩)]] 275 (0,0)):=by
  rw[<- hW2];have:=cW (W.alloc (.cells #[.func (.yield l) #[] #[]] 274)) #[.func (.func 180) #[] #[.pointer (some ⟨W.heap.size,0,none⟩),.pointer (some ⟨W.heap.size+1,0,none⟩)]] 275;rwa [World.size_alloc] at this
 have hs2:=hB2.size;have G:=goes_q F hd h119 hro l B3 B4 N hn34 J Jx hJa hY W.heap.size (W.heap.size+1) (by omega) (by omega) (by omega) (by omega) s x hs (n-1) [] W2 hy2 hg2 (by omega) (by omega) (hD.below hB2) (by rw[<- hW2];exact hJa _ _ _ (hJa _ _ _ hJ)) (by rw[hd1];simpa using hN);rw[hd1] at G;obtain⟨x0,hx0⟩:∃ x0,x=x0:=⟨_,rfl⟩
 obtain⟨d,ka,ba,na,sa,a4,l4,c4,a5,l5,c5,cl,hc⟩:=x;dsimp only[Node.vs] at hv hv2 G ⊢;have c0:W2.cell? ⟨Bv,0,none⟩=some (.int .i64 ka):=aA (o:=0) hv2 rfl;have c1:W2.cell? ⟨Bv,1,none⟩=some (.bool ba):=aA (o:=1) hv2 rfl;have c2:W2.cell? ⟨Bv,2,none⟩=some (.int .i64 na):=aA (o:=2) hv2 rfl;have c3:W2.cell? ⟨Bv,3,none⟩=some (.string sa):=aA (o:=3) hv2 rfl;have c4':W2.cell? ⟨Bv,4,none⟩=some (.slice a4 l4 c4):=aA (o:=4) hv2 rfl;have c5':W2.cell? ⟨Bv,5,none⟩=some (.slice a5 l5 c5):=aA (o:=5) hv2 rfl;have cg:W2.cell? ⟨W.heap.size+1,0,none⟩=some (.func (.func 180) #[] #[.pointer (some ⟨W.heap.size,0,none⟩),.pointer (some ⟨W.heap.size+1,0,none⟩)]):=aA (o:=0) hg2 rfl;rw[<- hW2] at c0 c1 c2 c3 c4' c5' cg G;clear hy2 hg2 hv2 hW2 hd1 hs hN hx0 hc;refine callsIn_of_wp Tryz.func179 rfl h118 ?_ hro;simp only[Tryz.ntmps179,List.size_toArray,List.length_cons,List.length_nil,Nat.reduceAdd,Nat.reduceSub,Array.replicate_succ,Array.replicate_zero,List.push_toArray,List.append_toArray,List.nil_append,List.cons_append]
 gi_wp2_with ((try refine⟨hdd _,?_⟩);((with_reducible refine G.mono ?_));clear G;rintro e W4 (⟨rfl,⟨xs,hxs,hJ4⟩,hk4⟩|⟨rfl,xs,⟨more,hxs⟩,hx4⟩))
 ·go_end0
  exact⟨⟨_,rfl⟩,.inl ⟨xs,hxs,by simpa using hJ4⟩⟩
 ·go_end0
  exact⟨⟨_,rfl⟩,.inr ⟨xs,⟨more,hxs⟩,by simpa using hx4⟩⟩
theorem Bo {φ:Nat->Nat->Option Value}(F:Fence)(hd:F.depth=none)(n:Nat)(h118:F.fn 179)(h119:F.fn 180)(hro:F.round=none)(B3 B4 Bv:Nat)(hn34:∀ b o v,φ b o=some v->b≠B3/\b≠B4)(s:Nat)(x:Node φ)(hs:SizeOf.sizeOf x.cl<s)(hd1:x.d=1)(w:World)
  (hv:w.heap[Bv]? = some (.cells x.vs 29 (0,0)))(h3:B3<w.heap.size)(h4:B4<w.heap.size)(hD:Dat φ w) :
  SeqStopsK F n Tryz.prog 179 #[.pointer (some ⟨Bv,0,none⟩)] (Node.enc (φ:=φ)) (KpC B3 B4) (fun xs=>xs.map Node.p=flat s 1 x.cl) (fun pre=>∃ more,pre.map Node.p++more=flat s 1 x.cl) (flat s 1 x.cl).length w:=fun l J Jx W hW hJ _ hY h0=>
 all1_q F hd h118 h119 hro l B3 B4 Bv _ hn34 J Jx (fun pre W o hj=>hJ pre W _ none hj (World.grownBy_alloc W o none) (fun r e=>by cases e)) (fun m pre x W hj hl=>YieldAt.anyDepth hd m (hY pre x W hj hl)) n s x hs hd1 (am _) W
  ((hW.block Bv (ag.1 hv).1).trans hv) (Nat.lt_of_lt_of_le h3 hW.size) (Nat.lt_of_lt_of_le h4 hW.size) (hD.below hW) h0
end Go.Proofs.Wo
end

noncomputable section
namespace Go.Proofs.Wo
open Go.Exo Go.Exo.Wo Go.RowKit Go.Shelf Go.Lib
attribute [local go_sem] Oper.semAt_some
variable {k:Nat}{G:World->Prop}
theorem Bp {w w':World}(h:Ext w w'):Below w.heap.size w w':=⟨h.os,h.tape,h.output,h.size,h.old⟩
def MayAt (G:World->Prop):Prop:=∀ (φ:Nat->Nat->Option Value)(x:Node φ)(w:World),G w->Dat φ w->Calls Tryz.prog 133 #[.agg x.vs] w fun e w'=>e=.returned (.bool (mayB validD x.cl))/\Below w.heap.size w w'
theorem may_at (hG:Gd0 k G)(hk0:0<k)(hsz:Tryz.prog.globals.size<=k)(hT:∀ w,G w->Go.Lib.Utf8Tabs 1 2 w):MayAt G:=by
 obtain⟨tb,h⟩:=pmay_ok hG hk0 hsz hT;have hS:Go.Exo.Spec Tryz.prog G 133 [vA] (.one (.one .bool)) (fun _=>True) oZ:=Ctr.Sound.spec (by kernel_rfl) hG hk0 hsz h rfl;intro φ x w hw hd
 have ha:ArgR (rel φ) [vA] [.agg x.vs] x.cl:=by
  have:=ArgR.agg x.h (ArgR.nil (F:=rel φ));rw[List.append_nil] at this;exact this
 refine (hS w φ [.agg x.vs] x.cl hw hd ha trivial).mono ?_;rintro e w' ⟨y,φ',rfl,-,-,-,he,hr⟩;refine⟨?_,Bp he⟩;cases hr with
 |one h1 h2=>
  cases h1;rfl
theorem Bq {F:Nat->Nat->Value->Prop}{x:Value}{nl:Bool}{rows:List (List Cl)}(h:CR F (.sl 9) x (.sl nl rows)):∃ a cap,x=.slice a rows.length cap/\rows.length<=maxLen/\
  ∀ (i:Nat)(r:List Cl),rows[i]? = some r->∃ blk off s,a=some ⟨blk,off,none⟩/\F blk (off+i) (.string s)/\r=[.str s.data.toList]/\s.size<=maxLen:=by
 cases h with
 |nil=>exact⟨none,0,rfl,Nat.zero_le _,fun i r h=>by simp at h⟩
 |e0 _ a=>exact⟨some a,0,rfl,Nat.zero_le _,fun i r h=>by simp at h⟩
 |sl _ blk off len cap _ vs a1 a2 a3 a4 a5 a6=>
  subst a1;refine⟨_,cap,rfl,by omega,fun i r hr=>?_⟩;have hl:r.length=1:=a4 i r hr
  obtain⟨c0,rfl⟩:∃ c0,r=[c0]:=by
   match r,hl with
   |[c0],_=>exact⟨_,rfl⟩
  have h0:=a5 i _ 0 _ hr rfl;rw[show (Sx.row 9).length=1 from rfl,Nat.mul_one,Nat.add_zero] at h0;have hc:=a6 i _ 0 _ _ hr rfl rfl;generalize vs i 0=v at h0 hc;cases hc with
  |str s hs=>exact⟨blk,off,s,rfl,h0,rfl,by simpa using hs⟩
theorem node6 {φ:Nat->Nat->Option Value}{kx:Int}{bx:Bool}{nx:Int}{sx:ByteArray}{p4:Option Addr}{m4 e4:Nat}{p5:Option Addr}{m5 e5:Nat}{cl:List Cl}(h:CRs (rel φ) vK [.int .i64 kx,.bool bx,.int .i64 nx,.string sx,.slice p4 m4 e4,.slice p5 m5 e5] cl) :
  ∃ nl ys ml rs,cl=[.int kx,.bool bx,.int nx,.str sx.data.toList,.sl nl ys,.sl ml rs]/\m4=ys.length/\ys.length<=maxLen/\m5=rs.length/\rs.length<=maxLen/\sx.size<=maxLen/\
   ∀ (i:Nat)(r:List Cl),ys[i]? = some r->∃ blk off s,p4=some ⟨blk,off,none⟩/\φ blk (off+i)=some (.string s)/\r=[.str s.data.toList]/\s.size<=maxLen:=by
 obtain⟨k',b',n',s',nl,ys,ml,rs,rfl,hlast⟩:=last6 h;obtain⟨a,cap,e5,hmax,hrow⟩:=jP hlast
 cases h with|cons h0 h=>cases h with|cons h1 h=>cases h with|cons h2 h=>cases h with|cons h3 h=>cases h with|cons h4 h=>cases h with|cons h5 h=>
  obtain⟨a',cap',e4,hmax',hrow'⟩:=Bq h4;cases e4;cases e5;cases h0;cases h1;cases h2;cases h3 with
  |str s hs=>exact⟨nl,ys,ml,rs,rfl,rfl,hmax',rfl,hmax,by simpa using hs,hrow'⟩
theorem mH (F:Fence)(n:Nat)(h45:F.fn 131)(hro:F.round=none)(p:Addr)(w:World) :
  CallsDIn F n Tryz.prog 131 #[.pointer (some p)] .returning w fun e u' w'=>e=.returned (.tuple #[])/\u'=.returning/\w'=w:=by
 refine callsDIn_of_wpSIn Tryz.func131 rfl h45 fun c₀ cs hu=>?_
 apply wpSIn_seq;apply wpSIn_region;simp[wpOpsSIn,go_sem,recoverD,hu,Tryz.ntmps131,Exit.thenS];refine wpSIn_of_wpIn hro ?_
 gi_wp2
 cases c₀;simp_all [bodyPostS,results,Tryz.results131]
theorem KpC_b {B3 B4:Nat}{w:World}(W:World)(l:Nat)(o o':Obj)(_:w.heap.size<=l)(hl:W.heap[l]? = some o)(ho:o.isCells=false)(_:o.isWalk=false):KpC B3 B4 W (W.putObj l o'):=by
 have hg:=grownBy_putObj' W l o';refine⟨hg.size,fun k c t fr _ _ h=>(hg.block k (ag.1 h).1 (fun e=>?_)).trans h⟩;obtain rfl:k=l:=Option.some.inj e;rw[h] at hl;cases hl;cases ho
theorem cellsOwn {β:Type}(B:Nat)(t:TypeId)(cs:Array Value):Own (fun (_:β) W=>W.heap[B]? = some (.cells cs t (0,0))):=fun s X Y row hs hg hrow=>
 (hg.block B (ag.1 hs).1 (fun e'=>by obtain⟨o,ho,hc⟩:=hrow B e'.symm;rw[hs] at ho;cases ho;cases hc)).trans hs
theorem KpC.set3 {B3 B4:Nat}(W:World)(o:Nat)(v:Value):KpC B3 B4 W (W.setCell ⟨B3,o,none⟩ v):=⟨by simp[World.setCell],fun k _ _ _ h _ e=>(Below.heap_setCell W _ v k h).trans e⟩
theorem KpC.set4 {B3 B4:Nat}(W:World)(o:Nat)(v:Value):KpC B3 B4 W (W.setCell ⟨B4,o,none⟩ v):=⟨by simp[World.setCell],fun k _ _ _ _ h e=>(Below.heap_setCell W _ v k h).trans e⟩
theorem bclq {W w1:World}(hb:Below W.heap.size W w1):(∀ b o,b<W.heap.size->w1.cell? ⟨b,o,none⟩=W.cell? ⟨b,o,none⟩)/\(∀ b o,b<W.heap.size->w1.frozen? ⟨b,o,none⟩=W.frozen? ⟨b,o,none⟩):=
 ⟨fun b o h=>hb.cell (p:=⟨b,o,none⟩) h,fun b o h=>hb.frozen (p:=⟨b,o,none⟩) h⟩
theorem gp {B:Nat}{W W':World}(h:Below W.heap.size W W'):KeepsFrom B W W':=⟨h.size,fun i o _ h0 _=>(h.block i (ag.1 h0).1).trans h0⟩
theorem eL {W W':World}{B:Nat}{t:TypeId}{v:Value}(h:Below W.heap.size W W')(hb:Boxed W B t v):Boxed W' B t v:=(h.block B hb.lt).trans hb
end Go.Proofs.Wo
end

noncomputable section
namespace Go.Proofs.Wo
open Go.Exo Go.Exo.Wo Go.RowKit Go.Shelf Go.Lib
attribute [local go_sem] Oper.semAt_some
variable {k:Nat}{G:World->Prop}
def CkI {φ:Nat->Nat->Option Value}(w:World)(pre:List (Node φ))(W:World):Prop:=
 ∃ st:Int×Bool,(pre.map Node.p).foldl (kT validD) (some (0,false))=some st/\(((Boxed W (w.heap.size+1+1) 3 (.int .i64 st.1)/\Boxed W (w.heap.size+1+1+1) 4 (.bool st.2))/\Boxed W (w.heap.size+1) 37 (.int .i64 0))/\Below w.heap.size w W)
def CkX {φ:Nat->Nat->Option Value}(w:World)(c:Code)(pre:List (Node φ))(W:World):Prop:=
 c=.ret/\(∃ (ps:List (Node φ))(x:Node φ),pre=ps++[x]/\mayB validD x.cl=false)/\Boxed W (w.heap.size+1) 37 (.int .i64 110)/\Below w.heap.size w W
def CkA {φ:Nat->Nat->Option Value}(w:World)(x0 x:Node φ)(a':Act)(W:World):Prop:=
 ∃ Bx,w.heap.size+1+1+1<Bx/\W.heap[Bx]? = some (.cells x.vs 29 (0,0))/\a'={ tmps:=#[.agg x0.vs,
    .pointer (some ⟨w.heap.size,0,none⟩),.pointer (some ⟨w.heap.size+1,0,none⟩),.pointer (some ⟨w.heap.size+1+1,0,none⟩),.pointer (some ⟨w.heap.size+1+1+1,0,none⟩),.int .i64 x.d,.pointer (some ⟨Bx,0,none⟩),undef,undef,
    .func (.func 131) #[] #[.pointer (some ⟨w.heap.size+1,0,none⟩)],.agg x0.vs,
    .func (.func 179) #[] #[.pointer (some ⟨w.heap.size+1+1+1+1,0,none⟩)],.int .i64 x.d,.agg x.vs,
    undef,undef,undef,undef,undef,undef,undef,undef,undef,undef,undef,undef,undef,undef,undef,undef,undef,undef,undef,undef,undef,undef,undef,undef,undef,undef,undef,undef,undef,undef,undef,undef,undef,undef,undef,undef,undef,undef],defers:=[] }
theorem CkI.own {φ:Nat->Nat->Option Value}(w:World)(B:Nat)(hB:w.heap.size<=B):OwnFrom B (CkI (φ:=φ) w):=fun pre X Y row ⟨st,h1,h2⟩ hg hr=>⟨st,h1,(OwnFrom.and (OwnFrom.and (OwnFrom.and (Own.from (boxed_own (β:=Unit) _ _ (fun _=>.int .i64 st.1)) _) (Own.from (boxed_own _ _ (fun _=>.bool st.2)) _)) (Own.from (boxed_own _ _ (fun _=>.int .i64 0)) _)) (ownFrom_below (am _) hB)) () X Y row h2 hg hr⟩
theorem CkX.own {φ:Nat->Nat->Option Value}(w:World)(B:Nat)(hB:w.heap.size<=B)(c:Code):OwnFrom B (CkX (φ:=φ) w c):=fun pre X Y row ⟨h0,h1,h2⟩ hg hr=>⟨h0,h1,(OwnFrom.and (Own.from (boxed_own (β:=Unit) _ _ (fun _=>.int .i64 110)) _) (ownFrom_below (am _) hB)) () X Y row h2 hg hr⟩
set_option maxRecDepth 100000 in
theorem yf (F:Fence)(n:Nat)(h69:F.fn 131)(hro:F.round=none)(B:Nat)(w:World)(hb:Boxed w B 37 (.int .i64 0)) :
  CallsDIn F n Tryz.prog 131 #[.pointer (some ⟨B,0,none⟩)] (.panicking [{ v:=.iface 226 (.agg #[]),recovered:=false }]) w fun e u' w'=>e=.returned (.tuple #[])/\u'=.panicking [{ v:=.iface 226 (.agg #[]),recovered:=true }]/\Boxed w' B 37 (.int .i64 3)/\Below B w w':=by
 have c2:=hb.cell;have f2:=hb.frozen;have l2:=hb.lt;have b2:=hb;refine callsDIn_of_wpSIn Tryz.func131 rfl h69 fun c₀ cs hu=>?_
 apply wpSIn_seq;apply wpSIn_region;simp[wpOpsSIn,go_sem,recoverD,hu,Tryz.ntmps131,Exit.thenS];refine wpSIn_of_wpIn hro ?_;have hta:∀ w:World,(Instr.typeAssert (.iface 226 (.agg #[])) 20 226 true).run Tryz.prog w=.ok (.tuple #[.agg #[],.bool true]) w:=fun w=>by kernel_rfl
 simp only[List.size_toArray,List.length_cons,List.length_nil,Nat.reduceAdd,Nat.reduceSub,Array.replicate_succ,Array.replicate_zero,List.push_toArray,List.append_toArray,List.nil_append,List.cons_append]
 gi_wp2
 exact⟨rfl,_,rfl,.tuple #[],by simp[results,Tryz.f131,go_sem],rfl,rfl,(b2.set _).alloc _,((Below.refl B w).setCell (p:=⟨B,0,none⟩) (am _) _).alloc (by simp;omega) _⟩
set_option maxRecDepth 100000 in
set_option maxHeartbeats 4000000 in
theorem check_in (hG:Gd0 k G)(hM:MayAt G)(F:Fence)(hd:F.depth=none)(hf:∀ f,F.fn f)(hro:F.round=none)(hw:∀ {n:Nat}{f:FuncId}{args:Array Value}{w:World}{R:Ending->World->Prop},Calls Tryz.prog f args w R->CallsIn F n Tryz.prog f args w R)
  {φ:Nat->Nat->Option Value}(s:Nat)(x0:Node φ)(hs:SizeOf.sizeOf x0.cl<s)(hx1:x0.d=1)(w:World)(hGw:G w)(hD:Dat φ w) :
  CallsIn F 6 Tryz.prog 79 #[.agg x0.vs] w fun e w'=>e=.returned (.int .i64 (chkN validD s x0.cl))/\Below w.heap.size w w':=by
 have hdd:∀ k:Nat,(F.depth.isSome=true->1<=k):=fun k h=>by rw[hd] at h;cases h
 have hmf:∀ (fn:Fn)(first cap:Array Value)(w:World),(Instr.makeFunc fn first cap).run Tryz.prog w=.ok (.func fn first cap) w:=fun _ _ _ _=>rfl
 have hlt:∀ b o v,φ b o=some v->b<w.heap.size:=fun b o v h=>World.block_lt_of_cell? w ⟨b,o,none⟩ (hD b o v h)
 have hflat:=chk_flat validD s x0.cl hs x0.h.wt;obtain⟨y0,hy0⟩:∃ y0,x0=y0:=⟨_,rfl⟩
 have hwf:=fun W (hW:Below w.heap.size w W)(Bv:Nat) hv h3 h4=>Bo F hd 5 (hf 179) (hf 180) hro (w.heap.size+1+1) (w.heap.size+1+1+1) Bv (fun b o v h=>⟨by have:=hlt b o v h;omega,by have:=hlt b o v h;omega⟩) s x0 hs hx1 W hv h3 h4 (hD.below hW)
 obtain⟨d0,ka,ba,na,sa,a4,l4,c4,a5,l5,c5,cl0,hc0⟩:=x0;obtain rfl:d0=1:=hx1;dsimp only[Node.vs] at hwf ⊢;have c0:∀ n w,CallsIn F n Tryz.prog 132 #[.agg #[.int .i64 ka,.bool ba,.int .i64 na,.string sa,.slice a4 l4 c4,.slice a5 l5 c5]] w fun e w'=>e=.returned (.func (.func 179) #[] #[.pointer (some ⟨w.heap.size,0,none⟩)])/\w'=w.alloc (.cells #[.int .i64 ka,.bool ba,.int .i64 na,.string sa,.slice a4 l4 c4,.slice a5 l5 c5] 29):=fun n w=>all_q F n (hf _) hro ⟨1,ka,ba,na,sa,a4,l4,c4,a5,l5,c5,cl0,hc0⟩ w
 refine callsIn_of_wp_marks Tryz.func79 rfl (hf _) ?_ hro;simp only[Tryz.ntmps79,List.size_toArray,List.length_cons,List.length_nil,Nat.reduceAdd,Nat.reduceSub,Array.replicate_succ,Array.replicate_zero,List.push_toArray,List.append_toArray,List.nil_append,List.cons_append]
 gi_wp2_with ((try refine⟨hdd _,?_⟩);((with_reducible refine (c0 _ _).mono ?_));rintro e w' ⟨rfl,rfl⟩)
 clear c0;obtain⟨W0,hW0⟩:∃ W0,((((w.alloc (.cells #[.int .i64 ka,.bool ba,.int .i64 na,.string sa,.slice a4 l4 c4,.slice a5 l5 c5] 29)).alloc (.cells #[.int .i64 0] 37)).alloc (.cells #[.int .i64 0] 3)).alloc (.cells #[.bool false] 4)).alloc (.cells #[.int .i64 ka,.bool ba,.int .i64 na,.string sa,.slice a4 l4 c4,.slice a5 l5 c5] 29)=W0:=⟨_,rfl⟩
 have bx:W0.heap[w.heap.size+1+1+1+1]? = some (.cells #[.int .i64 ka,.bool ba,.int .i64 na,.string sa,.slice a4 l4 c4,.slice a5 l5 c5] 29 (0,0)):=by
  rw[<- hW0];have:=cW ((((w.alloc (.cells #[.int .i64 ka,.bool ba,.int .i64 na,.string sa,.slice a4 l4 c4,.slice a5 l5 c5] 29)).alloc (.cells #[.int .i64 0] 37)).alloc (.cells #[.int .i64 0] 3)).alloc (.cells #[.bool false] 4)) #[.int .i64 ka,.bool ba,.int .i64 na,.string sa,.slice a4 l4 c4,.slice a5 l5 c5] 29;simp only[World.size_alloc] at this;exact this
 have b2:=(((Boxed.new (w.alloc (.cells #[.int .i64 ka,.bool ba,.int .i64 na,.string sa,.slice a4 l4 c4,.slice a5 l5 c5] 29)) 37 (.int .i64 0)).alloc (.cells #[.int .i64 0] 3)).alloc (.cells #[.bool false] 4)).alloc (.cells #[.int .i64 ka,.bool ba,.int .i64 na,.string sa,.slice a4 l4 c4,.slice a5 l5 c5] 29);have b3:=((Boxed.new ((w.alloc (.cells #[.int .i64 ka,.bool ba,.int .i64 na,.string sa,.slice a4 l4 c4,.slice a5 l5 c5] 29)).alloc (.cells #[.int .i64 0] 37)) 3 (.int .i64 0)).alloc (.cells #[.bool false] 4)).alloc (.cells #[.int .i64 ka,.bool ba,.int .i64 na,.string sa,.slice a4 l4 c4,.slice a5 l5 c5] 29);have b4:=(Boxed.new (((w.alloc (.cells #[.int .i64 ka,.bool ba,.int .i64 na,.string sa,.slice a4 l4 c4,.slice a5 l5 c5] 29)).alloc (.cells #[.int .i64 0] 37)).alloc (.cells #[.int .i64 0] 3)) 4 (.bool false)).alloc (.cells #[.int .i64 ka,.bool ba,.int .i64 na,.string sa,.slice a4 l4 c4,.slice a5 l5 c5] 29)
 have hB0:Below w.heap.size w (((((w.alloc (.cells #[.int .i64 ka,.bool ba,.int .i64 na,.string sa,.slice a4 l4 c4,.slice a5 l5 c5] 29)).alloc (.cells #[.int .i64 0] 37)).alloc (.cells #[.int .i64 0] 3)).alloc (.cells #[.bool false] 4)).alloc (.cells #[.int .i64 ka,.bool ba,.int .i64 na,.string sa,.slice a4 l4 c4,.slice a5 l5 c5] 29)):=
  (((((Below.refl _ w).alloc (am _) _).alloc (by simp) _).alloc (by simp;omega) _).alloc (by simp;omega) _).alloc (by simp;omega) _
 have hsz0:(((((w.alloc (.cells #[.int .i64 ka,.bool ba,.int .i64 na,.string sa,.slice a4 l4 c4,.slice a5 l5 c5] 29)).alloc (.cells #[.int .i64 0] 37)).alloc (.cells #[.int .i64 0] 3)).alloc (.cells #[.bool false] 4)).alloc (.cells #[.int .i64 ka,.bool ba,.int .i64 na,.string sa,.slice a4 l4 c4,.slice a5 l5 c5] 29)).heap.size=w.heap.size+1+1+1+1+1:=by simp only[World.size_alloc]
 simp only[World.size_alloc] at b2 b3 b4;rw[hW0] at b2 b3 b4 hB0 hsz0;rw[hW0];clear hW0;have hall:=hwf W0 hB0 (w.heap.size+1+1+1+1) bx (by omega) (by omega);clear hwf
 refine wpIn_rangeFunc_ownH hro (by decide) (gf:=179) (lb:=#[.pointer (some ⟨w.heap.size+1+1+1+1,0,none⟩)]) rfl (hf _) (enters_of Tryz.func179 (by kernel_rfl) rfl)
  hall (fun h h'=>h.trans h') KpC_b (Below.refl _ _) (fun x=>rfl)
  (CkI w) (CkX w) (CkI.own w _ (by omega)) (fun c=>CkX.own w _ (by omega) c)
  ⟨(0,false),rfl,⟨⟨b3,b4⟩,b2⟩,hB0⟩
  (CkA w ⟨1,ka,ba,na,sa,a4,l4,c4,a5,l5,c5,cl0,hc0⟩)
  (fun x a' _ X Y row hs hg hr=>by obtain⟨Bx,h1,h2,h3⟩:=hs;exact⟨Bx,h1,cellsOwn (β:=Unit) Bx 29 _ () X Y row h2 hg (fun r e=>(hr r e).2),h3⟩)
  ?assign ?body ?done ?stop
 case assign=>
  rintro l pre x W K ⟨st,hst,⟨⟨b31,b41⟩,b21⟩,hB1⟩ hK;have hs1:=hB1.size;have hs4:=b41.lt;obtain⟨dx,kx,bx1,nx,sx,p4,m4,e4,p5,m5,e5,clx,hcx⟩:=x;dsimp only[Node.enc,Node.vs] at hK ⊢;have hA:=hK _ _ ((KeepsOthers.alloc W _).from _) ((KpC.refl _ _ W).alloc _) ⟨st,hst,⟨⟨b31.alloc _,b41.alloc _⟩,b21.alloc _⟩,hB1.alloc hB1.size _⟩ ⟨W.heap.size,hs4,cW W #[.int .i64 kx,.bool bx1,.int .i64 nx,.string sx,.slice p4 m4 e4,.slice p5 m5 e5] 29,rfl⟩;clear hK
  gi_wp2
  exact hA
 case body=>
  rintro l pre x a' W hl ⟨r,hr⟩ ⟨st,hst,⟨⟨b31,b41⟩,b21⟩,hB1⟩ ⟨Bx,hBx,bX,rfl⟩ hlt1;have hGW:G W:=hG.keep w W (fun b hb=>hB1.block b (Nat.lt_of_lt_of_le hb (hG.size w hGw))) hGw;have hDW:Dat φ W:=hD.below hB1;have hm:=hM φ x W hGW hDW;obtain⟨dx,kx,bx1,nx,sx,p4,m4,e4,p5,m5,e5,clx,hcx⟩:=x;obtain⟨x1,hx1⟩:∃ x1:Node φ,x1=⟨dx,kx,bx1,nx,sx,p4,m4,e4,p5,m5,e5,clx,hcx⟩:=⟨_,rfl⟩
  have hxp:x1.p=(dx,clx):=by rw[hx1];rfl
  have hxc:x1.cl=clx:=by rw[hx1]
  have hn6:=node6 hcx;dsimp only[Node.vs] at bX hm ⊢;rw[<- hx1];clear hx1;have x0:W.cell? ⟨Bx,0,none⟩=some (.int .i64 kx):=aA (o:=0) bX rfl;have x1':W.cell? ⟨Bx,1,none⟩=some (.bool bx1):=aA (o:=1) bX rfl;have x2:W.cell? ⟨Bx,2,none⟩=some (.int .i64 nx):=aA (o:=2) bX rfl;have x3:W.cell? ⟨Bx,3,none⟩=some (.string sx):=aA (o:=3) bX rfl;have x4:W.cell? ⟨Bx,4,none⟩=some (.slice p4 m4 e4):=aA (o:=4) bX rfl;have x5:W.cell? ⟨Bx,5,none⟩=some (.slice p5 m5 e5):=aA (o:=5) bX rfl;have c3:=b31.cell;have f3:=b31.frozen;have c4:=b41.cell;have f4:=b41.frozen;have c2:=b21.cell;have f2:=b21.frozen;have l2:=b21.lt;have l3:=b31.lt;have l4:=b41.lt;have lX:=(ag.1 bX).1;have hP:=Go.Lib.hid hst;have HP:=Go.Lib.hid hst;clear hflat hst;cases hmb:mayB validD clx with
  |false=>
   rw[hmb] at hm
   gi_wp2_with ((try refine⟨hdd _,?_⟩);((with_reducible refine (CallsIn.inRound l (hw hm)).mono ?_));rintro e w1 ⟨rfl,hb1⟩;obtain⟨hc1,hf1⟩:=bclq hb1)
   exact⟨(gp hb1).trans ((KeepsOthers.setCell _ _ _).from _),rfl,⟨pre,x1,rfl,by rw[hxc];exact hmb⟩,(eL hb1 b21).set _,(hB1.trans (hb1.mono hB1.size)).setCell (p:=⟨w.heap.size+1,0,none⟩) (by simp) _⟩
  |true=>
   rw[hmb] at hm;obtain⟨nl,ys,ml,rs,rfl,rfl,hmy,rfl,hmr,hms,hkeys⟩:=hn6;simp only[maxLen] at hmy hmr hms;have HK:=Go.Lib.hid hkeys;have HMB:=Go.Lib.hid hmb;clear hkeys hmb
   gi_wp2_with ((try refine⟨hdd _,?_⟩);((with_reducible refine (CallsIn.inRound l (hw hm)).mono ?_));rintro e w1 ⟨rfl,hb1⟩;obtain⟨hc1,hf1⟩:=bclq hb1)
   clear hm;have q31:=(eL hb1 b31).set (.int .i64 (wrap64 (st.1 + ↑sx.size)));have q41:=(eL hb1 b41).other (B':=w.heap.size+1+1) (by omega) (.int .i64 (wrap64 (st.1 + ↑sx.size)));have q21:=(eL hb1 b21).other (B':=w.heap.size+1+1) (by omega) (.int .i64 (wrap64 (st.1 + ↑sx.size)));have qB:=(hB1.trans (hb1.mono hB1.size)).setCell (p:=⟨w.heap.size+1+1,0,none⟩) (by simp;omega) (.int .i64 (wrap64 (st.1 + ↑sx.size)));have qK:KpC (w.heap.size+1+1) (w.heap.size+1+1+1) W _:=(KpC.of_below hb1).trans (KpC.set3 w1 0 (.int .i64 (wrap64 (st.1 + ↑sx.size))));have qF:KeepsFrom W0.heap.size W _:=(gp hb1).trans ((KeepsOthers.setCell w1 ⟨w.heap.size+1+1,0,none⟩ (.int .i64 (wrap64 (st.1 + ↑sx.size)))).from _)
   gi_loopw [25] (fun i wr=>∃ (j:Nat)(acc:Int),j<=ys.length/\i=.int .i64 j/\Hid (acc=(ys.take j).foldl bC (w64 (st.1 + ↑sx.size)))/\Boxed wr (w.heap.size+1+1) 3 (.int .i64 acc)/\Boxed wr (w.heap.size+1+1+1) 4 (.bool st.2)/\Boxed wr (w.heap.size+1) 37 (.int .i64 0)/\Below w.heap.size w wr/\KpC (w.heap.size+1+1) (w.heap.size+1+1+1) W wr/\KeepsFrom W0.heap.size W wr) (fun i _=>ys.length-(RowKit.intOf i).toNat)
   case atStart=>exact⟨0,_,Nat.zero_le _,rfl,Go.Lib.hid (by rw[List.take_zero,List.foldl_nil];exact (Go.IntWalk.i64_left _).symm),q31,q41,q21,qB,qK,qF⟩
   case round=>
    obtain⟨j,acc,hj,rfl,HX,r31,r41,r21,rB,rK,rF⟩:=hrel;by_cases hlt:j<ys.length
    ·obtain⟨y,hy⟩:∃ y,ys[j]? = some y:=⟨ys[j],by simp[hlt]⟩
     obtain⟨blk,off,sy,rfl,f0,rfl,hsy⟩:=HK.out j y hy;have e0:=(hDW.kp rK (fun b o v h=>⟨by have:=World.block_lt_of_cell? w ⟨b,o,none⟩ (hD b o v h);simp at this;omega,by have:=World.block_lt_of_cell? w ⟨b,o,none⟩ (hD b o v h);simp at this;omega⟩)) _ _ _ f0;have c3':=r31.cell;have f3':=r31.frozen;clear f0
     have hstep:wrap64 (acc + ↑sy.size)=(ys.take (j+1)).foldl bC (w64 (st.1 + ↑sx.size)):=by
      rw[List.take_add_one,hy,List.foldl_append,<- HX.out,<- Go.IntWalk.i64_left];simp[bC]
     have HS:=Go.Lib.hid hstep;clear hstep hy
     gi_wp2
     refine⟨⟨j+1,_,by omega,by go_num,HS,r31.set _,r41.other (by omega) _,r21.other (by omega) _,rB.setCell (p:=⟨w.heap.size+1+1,0,none⟩) (by simp;omega) _,rK.trans (KpC.set3 wr 0 _),rF.trans ((KeepsOthers.setCell wr ⟨w.heap.size+1+1,0,none⟩ _).from _)⟩,by simp[RowKit.intOf];omega⟩
    ·obtain rfl:j=ys.length:=by omega
     have y3:wr.cell? ⟨Bx,3,none⟩=some (.string sx):=aA (o:=3) (rK.cells _ _ _ _ (by omega) (by omega) bX) rfl;have y4:wr.cell? ⟨Bx,4,none⟩=some (.slice p4 ys.length e4):=aA (o:=4) (rK.cells _ _ _ _ (by omega) (by omega) bX) rfl;have y5:wr.cell? ⟨Bx,5,none⟩=some (.slice p5 rs.length e5):=aA (o:=5) (rK.cells _ _ _ _ (by omega) (by omega) bX) rfl;have c3':=r31.cell;have f3':=r31.frozen;have c4':=r41.cell;have f4':=r41.frozen;clear c3 f3 c4 f4 c2 f2 x0 x1' x2 x3 x4 x5
     have fin:∀ (v:Bool)(a:Act),v=(st.2 || decide (64<dx) || decide (65536<(rs.length:Int)) || decide (1048576<acc))->ownPostG W0.heap.size (KpC (w.heap.size+1+1) (w.heap.size+1+1+1)) (CkI w) (CkX w) (pre++[x1]) W .normal a (wr.setCell ⟨w.heap.size+1+1+1,0,none⟩ (.bool v)):=by
      rintro v a rfl;refine⟨rF.trans ((KeepsOthers.setCell wr ⟨w.heap.size+1+1+1,0,none⟩ _).from _),rK.trans (KpC.set4 wr 0 _),pf dx [.int kx,.bool bx1,.int nx,.str sx.data.toList,.sl nl ys,.sl ml rs] st,?_,?_⟩
      ·rw[List.map_append,List.foldl_append,HP.out]
       simp only[List.map_cons,List.map_nil,List.foldl_cons,List.foldl_nil,hxp,kT,Option.bind_some,HMB.out,if_true]
      ·have ha:(pf dx [.int kx,.bool bx1,.int nx,.str sx.data.toList,.sl nl ys,.sl ml rs] st)=(acc,st.2 || decide (64<dx) || decide (65536<(rs.length:Int)) || decide (1048576<acc)):=by
        have hx:=HX.out;rw[List.take_length] at hx;simp only[pf];have hz:((sx.data.toList.length:Nat):Int)=(sx.size:Int):=rfl;simp only[hz,<- hx]
       rw[ha];exact⟨⟨⟨r31.other (by omega) _,r41.set _⟩,r21.other (by omega) _⟩,rB.setCell (p:=⟨w.heap.size+1+1+1,0,none⟩) (by simp;omega) _⟩
     have FIN:=Go.Lib.hid fin;clear fin
     gi_wp2
     all_goals (first|refine FIN.out _ _ ?_|(rw[<- hsz0];refine FIN.out _ _ ?_))
     all_goals clear FIN
     ·rename_i h;rw[h];rfl
     ·rename_i h1 h2 h3
      rw[Bool.not_eq_true] at h1;rw[h1,Bool.false_or]
     ·rename_i h1 h2 h3
      rw[decide_eq_true h3];simp
     ·rename_i h1 h2
      rw[decide_eq_true h2];simp
 case done=>
  rintro D xs W hWD hxs ⟨st,hst,⟨⟨b31,b41⟩,b21⟩,hB1⟩ hK
  have hchk:chkN validD s cl0=if st.2 then 3 else 0:=by
   rw[hflat,<- hxs,hst]
  have c4:=b41.cell;have c2:=b21.cell;have f2:=b21.frozen;cases hst2:st.2 with
  |true=>
   rw[hst2] at c4 hchk;have HC:=Go.Lib.hid hchk;clear hchk hflat hst hxs;have hpi:∀ (t:TypeId)(v:Value)(w:World),(Instr.panic (.iface t v)).run Tryz.prog w=.halt (.panic (.iface t v)) w:=fun _ _ _=>rfl
   gi_wp2
   refine⟨by simp,.inl ⟨_,_,rfl,run_takeDeferred hK,?_⟩⟩;have b21':Boxed (W.putObj D (.deferred none)) (w.heap.size+1) 37 (.int .i64 0):=b21.kept (grownBy_putObj' _ D (.deferred none)) (by simp;omega);have hB2:=hB1.trans (belowK_b (w:=w) (am _) _ D _ (.deferred none) (by omega) hK rfl rfl);refine⟨by simp,.inr ⟨hdd _,_,_,131,#[.pointer (some ⟨w.heap.size+1,0,none⟩)],rfl,by simp[go_sem],fun g _=>hf g,?_⟩⟩;refine (yf F _ (hf _) hro _ _ b21').mono ?_;rintro e u' w' ⟨rfl,rfl,b5,hB3⟩;have hc5:=b5.cell;refine⟨.int .i64 3,?_,by rw[HC.out];rfl,hB2.trans (hB3.mono (by omega))⟩;simp[results,Tryz.f79,go_sem,hc5]
  |false=>
   rw[hst2] at c4 hchk;have HC:=Go.Lib.hid hchk;clear hchk hflat hst hxs
   gi_wp2
   have hK':=(KeepsOthers.setCell W ⟨w.heap.size+1,0,none⟩ (.int .i64 0)).same D _ hK rfl;refine⟨by simp,.inl ⟨_,_,rfl,run_takeDeferred hK',?_⟩⟩;have hc5:=cell_kept (World.cell?_setCell_same' W ⟨w.heap.size+1,0,none⟩ (.int .i64 0) (by rw[c2];rfl)) (grownBy_putObj' _ D (.deferred none)) (fun r e=>by cases e;exact⟨_,hK',rfl⟩);have hB2:=(hB1.setCell (p:=⟨w.heap.size+1,0,none⟩) (by simp) (.int .i64 0)).trans (belowK_b (w:=w) (am _) _ D _ (.deferred none) (by omega) hK' rfl rfl);refine⟨by simp,.inr ⟨hdd _,_,_,131,#[.pointer (some ⟨w.heap.size+1,0,none⟩)],rfl,by simp[go_sem],fun g _=>hf g,?_⟩⟩;refine (mH F _ (hf _) hro _ _).mono ?_;rintro e u' w' ⟨rfl,rfl,rfl⟩;refine⟨.int .i64 0,?_,by rw[HC.out];rfl,hB2⟩;simp[results,Tryz.f79,go_sem,hc5]
 case stop=>
  rintro D c pre W hWD ⟨more,hmore⟩ ⟨rfl,⟨ps,x,rfl,hbad⟩,b21,hB1⟩ hK
  have hchk:chkN validD s cl0=110:=by
   rw[hflat,rj validD (flat s 1 cl0) _ (x.p) (by rw[<- hmore];simp) hbad]
  have c2:=b21.cell;have f2:=b21.frozen
  gi_wp2
  refine⟨by simp,.inl ⟨_,_,rfl,run_takeDeferred hK,?_⟩⟩;have hc5:=cell_kept c2 (grownBy_putObj' _ D (.deferred none)) (fun r e=>by cases e;exact⟨_,hK,rfl⟩);have hB2:=hB1.trans (belowK_b (w:=w) (am _) _ D _ (.deferred none) (by omega) hK rfl rfl);refine⟨by simp,.inr ⟨hdd _,_,_,131,#[.pointer (some ⟨w.heap.size+1,0,none⟩)],rfl,by simp[go_sem],fun g _=>hf g,?_⟩⟩;refine (mH F _ (hf _) hro _ _).mono ?_;rintro e u' w' ⟨rfl,rfl,rfl⟩;refine⟨.int .i64 110,?_,by rw[hchk],hB2⟩;simp[results,Tryz.f79,go_sem,hc5]
end Go.Proofs.Wo
end

noncomputable section
namespace Go.Proofs.Wo
open Go.Exo Go.Exo.Wo Go.RowKit Go.Shelf Go.Lib
variable {k:Nat}{G:World->Prop}
theorem we (hG:Gd0 k G)(hM:MayAt G){φ:Nat->Nat->Option Value}(s:Nat)(x0:Node φ)(hs:SizeOf.sizeOf x0.cl<s)(hx1:x0.d=1)(w:World)(hGw:G w)(hD:Dat φ w) :
  Calls Tryz.prog 79 #[.agg x0.vs] w fun e w'=>e=.returned (.int .i64 (chkN validD s x0.cl))/\Below w.heap.size w w':=
 callsIn_wide.1 (check_in hG hM Fence.wide rfl (fun _=>trivial) rfl (fun h=>callsIn_wide.2 h) s x0 hs hx1 w hGw hD)
theorem pF (u:List UInt8->Bool)(n:Nat)(r:List Cl):IntKind.min .i64<=chkN u n r/\chkN u n r<=IntKind.max .i64:=by
 unfold chkN;split
 ·decide
 ·split<;>decide
theorem yg (hG:Gd0 k G)(hM:MayAt G)(n:Nat):Go.Exo.Spec Tryz.prog G 79 [vA] (.one (.one iK)) (fun c=>SizeOf.sizeOf c<n) (fun c=>[.int (chkN validD n c)]):=by
 intro w φ args cls hGw hφ ha hp;cases ha with
 |agg h1 h2=>
  cases h2;rename_i xs ds;rw[List.append_nil] at hp
  obtain⟨y0,y1,y2,y3,y4,y5,rfl⟩:∃ y0 y1 y2 y3 y4 y5,xs=[y0,y1,y2,y3,y4,y5]:=by
   cases h1 with|cons h0 h=>cases h with|cons h1 h=>cases h with|cons h2 h=>cases h with|cons h3 h=>cases h with|cons h4 h=>cases h with|cons h5 h=>cases h;exact⟨_,_,_,_,_,_,rfl⟩
  obtain⟨kb,bb,nb,sb,b4,m4,d4,b5,m5,d5,rfl,rfl,rfl,rfl,rfl,rfl⟩:=kV h1;refine (show Calls Tryz.prog 79 #[.agg #[.int .i64 kb,.bool bb,.int .i64 nb,.string sb,.slice b4 m4 d4,.slice b5 m5 d5]] w _ from we hG hM n ⟨1,kb,bb,nb,sb,b4,m4,d4,b5,m5,d5,ds,h1⟩ hp rfl w hGw hφ).mono ?_;rintro e w' ⟨rfl,hb⟩;have hx:=fc hb;refine⟨_,φ,rfl,fun b o v h=>h,fun b o v h=>?_,fun b o v h _=>h,hx,?_⟩
  ·have h1:=hφ b o v h
   rw[<- h1];exact World.cell?_of_block (hx.old b (World.block_lt_of_cell? w ⟨b,o,none⟩ h1))
  ·rw[List.append_nil]
   exact .one (.int _ _ (pF _ _ _).1 (pF _ _ _).2) .nil
end Go.Proofs.Wo
end

noncomputable section
namespace Go.Proofs.Wo
open Go.Exo Go.Exo.Wo Go.Lib
set_option maxRecDepth 100000
def pG:Ct:=⟨bf (outS Tryz.prog i4 9 Klaw [((.bin .gtr (.len (.var 9 0 (.sl 24))) (.int .i64 (40))),false)] 12),[.x (.var 9 0 (.sl 24)),.junk,.junk,.x (.var 9 1 (.int .i64)),.junk,.junk,.junk,.junk,.junk,.junk,.junk,.junk,.junk,.junk,.junk,.junk,.junk,.junk,.junk,.junk,.junk,.junk,.junk,.junk,.junk,.junk,.junk,.junk,.junk,.junk,.junk,.junk,.junk,.junk,.junk,.junk,.junk,.junk,.junk,.junk,.junk,.junk,.junk,.junk,.junk,.junk,.junk,.junk,.junk,.junk,.junk,.junk,.junk,.junk,.junk,.junk,.junk,.junk,.junk,.junk,.junk,.junk,.junk,.junk,.junk,.junk,.junk,.junk,.junk,.junk,.junk,.junk,.junk,.junk,.junk,.junk,.junk,.junk,.junk,.junk,.junk,.junk,.junk,.junk,.junk,.junk,.junk,.junk,.junk,.junk,.junk,.junk,.junk,.junk],[],[(.sl 24),(.int .i64)]⟩
def wg:Ct:=(fun(a b:X)(c:Kd)=>(⟨bf (outC Tryz.prog i4 9 3 pG [((.bin .lss a (.len b)),true),((.inr a (.len b)),true),((.bin .gtr (.len (.el b a 0 (.sl 29))) (.int .i64 (10))),false)] 16),[.x b,.junk,.junk,.x a,.x (.var 9 2 c),.junk,.junk,.junk,.junk,.junk,.junk,.junk,.junk,.junk,.junk,.junk,.junk,.junk,.junk,.junk,.junk,.junk,.junk,.junk,.junk,.junk,.junk,.junk,.junk,.junk,.junk,.junk,.junk,.junk,.junk,.junk,.junk,.junk,.junk,.junk,.junk,.junk,.junk,.junk,.junk,.junk,.junk,.junk,.junk,.junk,.junk,.junk,.junk,.junk,.junk,.junk,.junk,.junk,.junk,.junk,.junk,.junk,.junk,.junk,.junk,.junk,.junk,.junk,.junk,.junk,.junk,.junk,.junk,.junk,.junk,.junk,.junk,.junk,.junk,.junk,.junk,.junk,.junk,.junk,.junk,.junk,.junk,.junk,.junk,.junk,.junk,.junk,.junk,.junk],[],[(.sl 24),c,c]⟩:Ct)) (.var 9 1 (.int .i64)) (.var 9 0 (.sl 24)) (.int .i64)
def rv:Ct:=(fun(a c:X)(b:Kd)=>(⟨bf (outC Tryz.prog i4 9 3 pG [((.bin .lss c (.len (.var 9 0 b))),false),((.app 9 1000002 a .bool),true),((.app 9 1000003 a .bool),true),((.app 9 1000004 (.cons (.app 9 2 a b) (.cons (.app 9 3 a b) .nilA)) .bool),true),((.app 9 4 (.cons (.app 9 2 a b) (.cons (.app 9 3 a b) .nilA)) .bool),true)] 20),[.x (.var 9 0 b),.junk,.junk,.junk,.junk,.junk,.x c,.junk,.junk,.junk,.junk,.junk,.junk,.junk,.junk,.junk,.junk,.junk,.junk,.junk,.junk,.junk,.junk,.junk,.junk,.junk,.junk,.junk,.junk,.junk,.junk,.junk,.junk,.junk,.junk,.junk,.junk,.junk,.junk,.junk,.junk,.junk,.junk,.junk,.junk,.junk,.junk,.junk,.junk,.junk,.junk,.junk,.junk,.junk,.junk,.junk,.junk,.junk,.junk,.junk,.junk,.junk,.junk,.junk,.junk,.junk,.junk,.junk,.junk,.junk,.junk,.junk,.junk,.junk,.junk,.junk,.junk,.junk,.junk,.junk,.junk,.junk,.junk,.junk,.junk,.junk,.junk,.junk,.junk,.junk,.junk,.junk,.junk,.junk],[],[b,(.int .i64)]⟩:Ct)) (.cons (.var 9 0 (.sl 24)) .nilA) (.var 9 1 (.int .i64)) (.sl 24)
def wh:Ct:=(fun(b:X)(a:Kd)=>(⟨bf (outC Tryz.prog i4 9 3 rv [((.bin .lss (.var 9 1 a) (.len b)),true)] 11),[.x b,.junk,.junk,.junk,.junk,.junk,.x (.var 9 1 a),.x (.var 9 2 a),.junk,.junk,.junk,.junk,.junk,.junk,.junk,.junk,.junk,.junk,.junk,.junk,.junk,.junk,.junk,.junk,.junk,.junk,.junk,.junk,.junk,.junk,.junk,.junk,.junk,.junk,.junk,.junk,.junk,.junk,.junk,.junk,.junk,.junk,.junk,.junk,.junk,.junk,.junk,.junk,.junk,.junk,.junk,.junk,.junk,.junk,.junk,.junk,.junk,.junk,.junk,.junk,.junk,.junk,.junk,.junk,.junk,.junk,.junk,.junk,.junk,.junk,.junk,.junk,.junk,.junk,.junk,.junk,.junk,.junk,.junk,.junk,.junk,.junk,.junk,.junk,.junk,.junk,.junk,.junk,.junk,.junk,.junk,.junk,.junk,.junk],[],[(.sl 24),a,a]⟩:Ct)) (.var 9 0 (.sl 24)) (.int .i64)
def ll:List Ct:=[pG,wg,rv,wh]
def lawt:Tr:=(fun(a:X)=>.ask (.bin .gtr (.len a) (.int .i64 (40))) (.leaf 10 (.ret [] [(.app 9 7 .nilA .bool)])) (.leaf 12 (.cut 0 [] [a,(.int .i64 (0))]))) (.var 9 0 (.sl 24))
def lawt0:Tr:=(fun(a b c d:X)=>.ask (.bin .lss b (.len a)) (.must (.inr b (.len a)) true <| .ask (.bin .gtr (.len (.el a b 0 (.sl 29))) (.int .i64 (10))) (.leaf 15 (.ret [] [(.app 9 7 .nilA .bool)])) (.leaf 16 (.cut 1 [] [a,b,d]))) (.must (.app 9 1000002 (.cons a .nilA) .bool) true <| .must (.app 9 1000003 (.cons a .nilA) .bool) true <| .must (.app 9 1000004 c .bool) true <| .ask (.app 9 4 c .bool) (.leaf 20 (.cut 2 [] [a,d])) (.leaf 17 (.ret [] [(.bool false)])))) (.var 9 0 (.sl 24)) (.var 9 1 (.int .i64)) (.cons (.app 9 2 (.cons (.var 9 0 (.sl 24)) .nilA) (.sl 24)) (.cons (.app 9 3 (.cons (.var 9 0 (.sl 24)) .nilA) (.sl 24)) .nilA)) (.int .i64 (0))
def lawt1:Tr:=(fun(a b c d e f:X)=>.must (.inr b (.len c)) true <| .ask (.bin .lss d (.len (.el c b 0 (.sl 29)))) (.must (.inr d (.len (.el c b 0 (.sl 29)))) true <| .must (.app 9 1000000 a .bool) true <| .ask (.app 9 0 a .bool) (.leaf 15 (.ret [] [e])) (.must (.app 9 1000001 a .bool) true <| .ask (.bin .neq (.app 9 1 a (.int .i64)) (.int .i64 (0))) (.leaf 16 (.ret [] [e])) (.leaf 16 (.cut 1 [] [c,b,(.bin .add d f)])))) (.leaf 8 (.cut 0 [] [c,(.bin .add b f)]))) (.cons (.el (.el (.var 9 0 (.sl 24)) (.var 9 1 (.int .i64)) 0 (.sl 29)) (.var 9 2 (.int .i64)) 0 (.int .i64)) (.cons (.el (.el (.var 9 0 (.sl 24)) (.var 9 1 (.int .i64)) 0 (.sl 29)) (.var 9 2 (.int .i64)) 1 .bool) (.cons (.el (.el (.var 9 0 (.sl 24)) (.var 9 1 (.int .i64)) 0 (.sl 29)) (.var 9 2 (.int .i64)) 2 (.int .i64)) (.cons (.el (.el (.var 9 0 (.sl 24)) (.var 9 1 (.int .i64)) 0 (.sl 29)) (.var 9 2 (.int .i64)) 3 .str) (.cons (.el (.el (.var 9 0 (.sl 24)) (.var 9 1 (.int .i64)) 0 (.sl 29)) (.var 9 2 (.int .i64)) 4 (.sl 9)) (.cons (.el (.el (.var 9 0 (.sl 24)) (.var 9 1 (.int .i64)) 0 (.sl 29)) (.var 9 2 (.int .i64)) 5 (.sl 29)) .nilA)))))) (.var 9 1 (.int .i64)) (.var 9 0 (.sl 24)) (.var 9 2 (.int .i64)) (.app 9 7 .nilA .bool) (.int .i64 (1))
def lawt2:Tr:=(fun(a b:X)=>.ask (.bin .lss a (.len b)) (.leaf 11 (.cut 3 [] [b,a,(.int .i64 (0))])) (.leaf 9 (.ret [] [(.app 9 7 .nilA .bool)]))) (.var 9 1 (.int .i64)) (.var 9 0 (.sl 24))
def lawt3:Tr:=(fun(a b d e f:X)(c:Kd)=>.ask (.bin .lss d (.len b)) (.must (.inr e (.len b)) true <| .must (.inr d (.len b)) true <| .must (.app 9 1000005 a .bool) true <| .must (.app 9 1000006 a .bool) true <| .ask (.bin .eql (.app 9 5 a .bool) (.bin .lss (.app 9 6 a c) (.int .i64 (0)))) (.leaf 16 (.cut 3 [] [b,e,(.bin .add d f)])) (.leaf 15 (.ret [] [(.bool false)]))) (.leaf 8 (.cut 2 [] [b,(.bin .add e f)]))) (.cons (.el (.var 9 0 (.sl 24)) (.var 9 1 (.int .i64)) 0 (.sl 29)) (.cons (.el (.var 9 0 (.sl 24)) (.var 9 2 (.int .i64)) 0 (.sl 29)) .nilA)) (.var 9 0 (.sl 24)) (.var 9 2 (.int .i64)) (.var 9 1 (.int .i64)) (.int .i64 (1)) (.int .i64)
theorem lawt_ok:Pth.allS Tryz.prog i4 9 Klaw ll (lawt.paths []):=
 ⟨Pth.rS,Pth.cS pG rfl,
  trivial⟩
theorem lawt0_ok:Pth.allC Tryz.prog i4 9 Klaw ll pG (lawt0.paths []):=
 ⟨Pth.rC,Pth.cC wg rfl,Pth.cC rv rfl,Pth.rC,
  trivial⟩
theorem lawt1_ok:Pth.allC Tryz.prog i4 9 Klaw ll wg (lawt1.paths []):=
 ⟨Pth.rC,Pth.rC,Pth.cC wg rfl,Pth.cC pG rfl,
  trivial⟩
theorem lawt2_ok:Pth.allC Tryz.prog i4 9 Klaw ll rv (lawt2.paths []):=
 ⟨Pth.cC wh rfl,Pth.rC,
  trivial⟩
theorem lawt3_ok:Pth.allC Tryz.prog i4 9 Klaw ll wh (lawt3.paths []):=
 ⟨Pth.cC wh rfl,Pth.rC,Pth.cC rv rfl,
  trivial⟩
variable {k:Nat}{G:World->Prop}
open Classical in
def tbLw (Fg Fc:List Cl->List Cl)(M:Nat)(f:Nat)(c:List Cl):Cl:=
 if f=1000000\/f=1000001\/f=1000004 then .bool (decide (SizeOf.sizeOf c<M)) else if f=1000005\/f=1000006 then .bool (decide (SizeOf.sizeOf c<dp M))
 else if f=1000002 then .bool (decide (∃ nl rows,c=[Cl.sl nl rows]/\OrdP Fc (Cm M) M M rows)) else if f=1000003 then .bool (decide (ordPre (dp M) 42 c))
 else if f=0 then (Fg c).getD 0 .no else if f=1 then .int (aI validD c) else if f=2 then (ordF Fc (Cm M) M c).getD 0 .no else if f=3 then (ordG (oRef (dp M)) 42 c).getD 0 .no
 else if f=4 then (smF c).getD 0 .no else if f=5 then (rf (Cm M) (dp M) c).getD 0 .no else if f=6 then (bN (rcN (dp M)) c).getD 0 .no else .bool true
section
variable {Fg Fc:List Cl->List Cl}{M:Nat}
theorem tw7:tbLw Fg Fc M 7 []=.bool true:=by simp[tbLw]
theorem twM {f:Nat}{c:List Cl}(hf:f=1000000\/f=1000001\/f=1000004)(h:SizeOf.sizeOf c<M):tbLw Fg Fc M f c=.bool true:=by rw[tbLw,if_pos hf,decide_eq_true h]
theorem twD {f:Nat}{c:List Cl}(hf:f=1000005\/f=1000006)(h:SizeOf.sizeOf c<dp M):tbLw Fg Fc M f c=.bool true:=by rw[tbLw,if_neg (by omega),if_pos hf,decide_eq_true h]
open Classical in
theorem tw2 {nl:Bool}{rows:List (List Cl)}(h:OrdP Fc (Cm M) M M rows):tbLw Fg Fc M 1000002 [.sl nl rows]=.bool true:=by
 rw[tbLw,if_neg (by omega),if_neg (by omega),if_pos rfl,decide_eq_true ⟨nl,rows,rfl,h⟩]
open Classical in
theorem tw3 {c:List Cl}(h:ordPre (dp M) 42 c):tbLw Fg Fc M 1000003 c=.bool true:=by
 rw[tbLw,if_neg (by omega),if_neg (by omega),if_neg (by omega),if_pos rfl,decide_eq_true h]
theorem tv1 {c:List Cl}:tbLw Fg Fc M 1 c=.int (aI validD c):=by simp[tbLw]
theorem tv2 {c:List Cl}:tbLw Fg Fc M 2 c=(ordF Fc (Cm M) M c).getD 0 .no:=by simp[tbLw]
theorem tv3 {c:List Cl}:tbLw Fg Fc M 3 c=(ordG (oRef (dp M)) 42 c).getD 0 .no:=by simp[tbLw]
theorem tv4 {a b:Bool}{A B:List (List Cl)}:tbLw Fg Fc M 4 [.sl a A,.sl b B]=.bool (eqL lh A B):=by simp[tbLw,smF]
theorem tv5 {a b:Bool}{A B:List (List Cl)}:tbLw Fg Fc M 5 [.sl a A,.sl b B]=.bool (decide (lsC (vcN (Cm M) (dp M)) A B<0)):=by simp[tbLw,rf]
theorem tv6 {a b:Bool}{A B:List (List Cl)}:tbLw Fg Fc M 6 [.sl a A,.sl b B]=.int (lsC (rcN (dp M)) A B):=by simp[tbLw,bN]
def l9 (M:Nat)(j:Nat)(c0 c:List Cl):Prop:=∃ (nl:Bool)(rows:List (List Cl))(i:Int),c0=[Cl.sl nl rows]/\l8 M c0/\(∀ r∈rows,Wts [.sl 29] r)/\rows.length<=40/\0<=i/\i<=rows.length/\
 (j=0->c=[Cl.sl nl rows,.int i]/\∀ r∈rows.take i.toNat,ru r)/\
 (j=1->∃ (q:Int)(xl:Bool)(d:List (List Cl)),c=[Cl.sl nl rows,.int i,.int q]/\i<rows.length/\rows[i.toNat]? = some [Cl.sl xl d]/\d.length<=10/\0<=q/\q<=d.length/\(∀ r∈rows.take i.toNat,ru r)/\∀ v∈d.take q.toNat,aI validD v=0)/\
 (j=2->c=[Cl.sl nl rows,.int i]/\∀ r∈rows,ru r)/\
 (j=3->∃ q:Int,c=[Cl.sl nl rows,.int i,.int q]/\i<rows.length/\0<=q/\q<=rows.length/\∀ r∈rows,ru r)
def lawM (j:Nat)(c:List Cl):Nat:=match j,c with
 |0,[.sl _ A,.int i]=>A.length*(A.length+2)+10+sumW (A.drop i.toNat)
 |1,[.sl _ A,.int i,.int q]=>A.length*(A.length+2)+10+((wRow (A.getD i.toNat [])-2-q.toNat)+1+sumW (A.drop (i.toNat+1)))
 |2,[.sl _ A,.int i]=>(A.length-i.toNat)*(A.length+2)
 |3,[.sl _ A,.int i,.int q]=>(A.length-i.toNat-1)*(A.length+2)+(A.length-q.toNat)+1
 |_,_=>0
theorem wj {nl:Bool}{rows:List (List Cl)}(hp:l8 M [Cl.sl nl rows])(hw:∀ r∈rows,Wts [.sl 29] r)(h40:rows.length<=40)(hok:∀ r∈rows,ru r):RowsG M nl rows:=⟨h40,hp.1,hw,hok,fun r hr xl d e=>hp.2 _ _ rfl r hr xl d e⟩
theorem lawV:Vc0 (tbLw Fg Fc M) 9 Klaw.ks (l8 M) (l9 M) (fun _ r=>r=[.bool true]) lawt:=by
 intro cls E hE hw hn;have hw':Wts [.sl 24] cls:=hw;obtain⟨_,rfl,h1⟩:=hw'.one;obtain⟨nl,rows,rfl,hl,-,hr⟩:=h1.sl_inv;simp only[lawt,Tr.vc,To.goodT,List.map_cons,List.map_nil,hE.v,hE.a,X.d_nil,X.c_int,X.c_bool,X.c_bin,X.c_len,lenC,X.kd,aL,cond_true,cond_false,binD,intD,ak,al,Cl.bool.injEq,exists_eq',true_and,and_true,tw7,implies_true,decide_eq_true_eq,decide_eq_false_iff_not];intro h;exact⟨nl,rows,0,rfl,hn,hr,by omega,by omega,by omega,fun _=>⟨rfl,fun r hr=>by simp at hr⟩,fun h=>absurd h (by decide),fun h=>absurd h (by decide),fun h=>absurd h (by decide)⟩
theorem lawV0 (hF:FcOk Fc):Vc (· < ·) lawM (tbLw Fg Fc M) 9 pG.ks (l9 M) (fun _ r=>r=[.bool true]) 0 lawt0:=by
 rintro c0 cls E hE hw ⟨nl,rows,i,rfl,hp,hwr,h40,h0,h1,hc,-,-,-⟩;obtain⟨rfl,hok⟩:=hc rfl;simp only[lawt0,Tr.vc,To.goodT,List.map_cons,List.map_nil,hE.v,hE.a,X.d_cons,X.d_nil,X.c_len,X.c_int,X.c_bool,X.c_bin,X.c_inr,X.c_el,X.kd,aL,cond_true,cond_false,ak,al,lenC,binD,intD,inrD,elD,Cl.bool.injEq,decide_eq_true_eq,decide_eq_false_iff_not,exists_eq',true_and,tw7,implies_true];refine⟨fun hlt=>⟨⟨h0,hlt⟩,?_⟩,fun hge=>?_⟩
 ·obtain⟨r,hr,hwr',hd,hm⟩:=aE hwr (i:=i.toNat) (by omega)
  obtain⟨_,rfl,hcr⟩:=hwr'.one;obtain⟨xl,d,rfl,-⟩:=hcr.sl_inv;simp only[hr,ak,lenC,Cl.bool.injEq,exists_eq',true_and,decide_eq_true_eq,decide_eq_false_iff_not,implies_true];intro h10;refine⟨⟨nl,rows,i,rfl,hp,hwr,h40,h0,h1,fun h=>absurd h (by decide),fun _=>⟨0,xl,d,rfl,hlt,hm,by omega,by omega,by omega,hok,fun v hv=>by simp at hv⟩,fun h=>absurd h (by decide),fun h=>absurd h (by decide)⟩,?_⟩;simp only[lawM,hr,wRow];rw[hd];simp only[sumW,List.map_cons,List.sum_cons,wRow];omega
 ·have hi:i.toNat=rows.length:=by omega
  rw[hi,List.take_length] at hok;have g:=wj hp hwr h40 hok;obtain⟨X,Y,b,b',e1,e2,e3,e4⟩:=g.same hF;have t2:tbLw Fg Fc M 2 [Cl.sl nl rows]=.sl b X:=by rw[tv2,e1];rfl
  have t3:tbLw Fg Fc M 3 [Cl.sl nl rows]=.sl b' Y:=by rw[tv3,e2];rfl
  simp only[tw2 (g.ordP hF),tw3 g.ordPre,t2,t3,twM (.inr (.inr rfl)) e4,tv4,e3,Cl.bool.injEq,exists_eq',true_and,Bool.true_eq_false,false_implies,and_true];refine fun _=>⟨⟨nl,rows,0,rfl,hp,hwr,h40,by omega,by omega,fun h=>absurd h (by decide),fun h=>absurd h (by decide),fun _=>⟨rfl,hok⟩,fun h=>absurd h (by decide)⟩,?_⟩
  simp only[lawM,Int.toNat_zero,Nat.sub_zero];omega
theorem lawV1 (hB:∀ c,jb c (Fg c)):Vc (· < ·) lawM (tbLw Fg Fc M) 9 wg.ks (l9 M) (fun _ r=>r=[.bool true]) 1 lawt1:=by
 rintro c0 cls E hE hw ⟨nl,rows,i,rfl,hp,hwr,h40,h0,h1,-,hc,-,-⟩;obtain⟨q,xl,d,rfl,hi,hX,h10,q0,q1,hok,hcd⟩:=hc rfl;have gX:rows.getD i.toNat []=[.sl xl d]:=by rw[List.getD_eq_getElem?_getD,hX];rfl
 have hmX:=List.mem_of_getElem? hX;obtain⟨_,e,hcX⟩:=(hwr _ hmX).one;cases e;obtain⟨_,_,e,-,-,hWX⟩:=hcX.sl_inv;cases e;have hs:=hp.1;simp only[lawt1,Tr.vc,To.goodT,List.map_cons,List.map_nil,hE.v,hE.a,X.d_cons,X.d_nil,X.c_len,X.c_int,X.c_bool,X.c_bin,X.c_inr,X.c_el,X.kd,aL,cond_true,cond_false,ak,al,lenC,binD,intD,inrD,elD,Cl.bool.injEq,decide_eq_true_eq,decide_eq_false_iff_not,exists_eq',true_and,gX,h0,q0,tw7,implies_true];refine⟨hi,fun hlt=>⟨hlt,?_⟩,fun hge=>?_⟩
 ·obtain⟨r,hr,hwr',hd,hm⟩:=aE hWX (i:=q.toNat) (by omega)
  obtain⟨ka,ba,na,sa,nla,ya,mla,ra,rfl,-⟩:=row6 hwr';have e2:(q+1).toNat=q.toNat+1:=by omega
  have hsz:SizeOf.sizeOf [Cl.int ka,.bool ba,.int na,.str sa,.sl nla ya,.sl mla ra]<M:=by
   have z1:=List.sizeOf_lt_of_mem (List.mem_of_getElem? hm);have z3:=List.sizeOf_lt_of_mem hmX;simp only[List.cons.sizeOf_spec,List.nil.sizeOf_spec,Cl.sl.sizeOf_spec] at z1 z3 hs ⊢;omega
  obtain⟨bg,hbg⟩:=hB [Cl.int ka,.bool ba,.int na,.str sa,.sl nla ya,.sl mla ra];have t0:tbLw Fg Fc M 0 [Cl.int ka,.bool ba,.int na,.str sa,.sl nla ya,.sl mla ra]=.bool bg:=by simp[tbLw,hbg]
  have wq:IntKind.i64.wrap (q+1)=q+1:=aH (by omega) (by omega);simp only[hr,ak,al,twM (.inl rfl) hsz,twM (.inr (.inl rfl)) hsz,t0,tv1,Cl.bool.injEq,exists_eq',true_and,implies_true,wq,Bool.not_eq_true',Bool.not_eq_false',beq_iff_eq,beq_eq_false_iff_ne,ne_eq];intro hb hk;refine⟨⟨nl,rows,i,rfl,hp,hwr,h40,h0,h1,fun h=>absurd h (by decide),fun _=>⟨q+1,xl,d,rfl,hi,hX,h10,by omega,by omega,hok,fun v hv=>?_⟩,fun h=>absurd h (by decide),fun h=>absurd h (by decide)⟩,?_⟩
  ·rw[e2,List.take_add_one,hm] at hv
   rcases List.mem_append.1 hv with hv|hv
   ·exact hcd v hv
   ·have:v=[Cl.int ka,.bool ba,.int na,.str sa,.sl nla ya,.sl mla ra]:=by simpa using hv
    rw[this];exact hk
  ·simp only[lawM,gX,wRow];omega
 ·have wi:IntKind.i64.wrap (i+1)=i+1:=aH (by omega) (by omega)
  have e3:(i+1).toNat=i.toNat+1:=by omega
  have hq:q.toNat=d.length:=by omega
  rw[hq,List.take_length] at hcd;rw[wi];refine⟨⟨nl,rows,i+1,rfl,hp,hwr,h40,by omega,by omega,fun _=>⟨rfl,fun r hr=>?_⟩,fun h=>absurd h (by decide),fun h=>absurd h (by decide),fun h=>absurd h (by decide)⟩,?_⟩
  ·rw[e3,List.take_add_one,hX] at hr
   rcases List.mem_append.1 hr with hr|hr
   ·exact hok r hr
   ·have:r=[Cl.sl xl d]:=by simpa using hr
    exact⟨xl,d,this,h10,hcd⟩
  ·simp only[lawM,e3];omega
theorem lawV2:Vc (· < ·) lawM (tbLw Fg Fc M) 9 rv.ks (l9 M) (fun _ r=>r=[.bool true]) 2 lawt2:=by
 rintro c0 cls E hE hw ⟨nl,rows,i,rfl,hp,hwr,h40,h0,h1,-,-,hc,-⟩;obtain⟨rfl,hok⟩:=hc rfl;simp only[lawt2,Tr.vc,To.goodT,List.map_cons,List.map_nil,hE.v,hE.a,X.d_cons,X.d_nil,X.c_len,X.c_int,X.c_bool,X.c_bin,X.kd,aL,cond_true,cond_false,ak,al,lenC,binD,intD,Cl.bool.injEq,decide_eq_true_eq,decide_eq_false_iff_not,exists_eq',true_and,tw7,implies_true,and_true];intro hlt;refine⟨⟨nl,rows,i,rfl,hp,hwr,h40,h0,h1,fun h=>absurd h (by decide),fun h=>absurd h (by decide),fun h=>absurd h (by decide),fun _=>⟨0,rfl,hlt,by omega,by omega,hok⟩⟩,?_⟩;obtain⟨p,hp'⟩:∃ p,rows.length-i.toNat=p+1:=⟨rows.length-i.toNat-1,by omega⟩
 have hp2:rows.length-i.toNat-1=p:=by omega
 simp only[lawM,hp',Nat.add_sub_cancel,Int.toNat_zero,Nat.sub_zero,Nat.succ_mul];omega
theorem lawV3:Vc (· < ·) lawM (tbLw Fg Fc M) 9 wh.ks (l9 M) (fun _ r=>r=[.bool true]) 3 lawt3:=by
 rintro c0 cls E hE hw ⟨nl,rows,i,rfl,hp,hwr,h40,h0,h1,-,-,-,hc⟩;obtain⟨q,rfl,hi,q0,q1,hok⟩:=hc rfl;have g:=wj hp hwr h40 hok;simp only[lawt3,Tr.vc,To.goodT,List.map_cons,List.map_nil,hE.v,hE.a,X.d_cons,X.d_nil,X.c_len,X.c_int,X.c_bool,X.c_bin,X.c_inr,X.c_el,X.kd,aL,cond_true,cond_false,ak,al,lenC,binD,intD,inrD,elD,Cl.bool.injEq,decide_eq_true_eq,decide_eq_false_iff_not,exists_eq',true_and,h0,q0];refine⟨fun hlt=>⟨hi,hlt,?_⟩,fun hge=>?_⟩
 ·obtain⟨r,hr,-,-,hm⟩:=aE hwr (i:=i.toNat) (by omega)
  obtain⟨r',hr',-,-,hm'⟩:=aE hwr (i:=q.toNat) (by omega);obtain⟨xl,d,yl,d',rfl,rfl,hsz,he⟩:=g.less (List.mem_of_getElem? hm) (List.mem_of_getElem? hm');have wq:IntKind.i64.wrap (q+1)=q+1:=aH (by omega) (by omega);simp only[hr,hr',ak,twD (.inl rfl) hsz,twD (.inr rfl) hsz,tv5,tv6,he,Cl.bool.injEq,exists_eq',true_and,wq,beq_self_eq_true,Bool.true_eq_false,false_implies,and_true];refine fun _=>⟨⟨nl,rows,i,rfl,hp,hwr,h40,h0,h1,fun h=>absurd h (by decide),fun h=>absurd h (by decide),fun h=>absurd h (by decide),fun _=>⟨q+1,rfl,hi,by omega,by omega,hok⟩⟩,?_⟩
  simp only[lawM];generalize (rows.length-i.toNat-1)*(rows.length+2)=z;omega
 ·have wi:IntKind.i64.wrap (i+1)=i+1:=aH (by omega) (by omega)
  have e3:(i+1).toNat=i.toNat+1:=by omega
  rw[wi];refine⟨⟨nl,rows,i+1,rfl,hp,hwr,h40,by omega,by omega,fun h=>absurd h (by decide),fun h=>absurd h (by decide),fun _=>⟨rfl,hok⟩,fun h=>absurd h (by decide)⟩,?_⟩;simp only[lawM,e3,show rows.length-(i.toNat+1)=rows.length-i.toNat-1 by omega];omega
end
end Go.Proofs.Wo
end
