/-
  A map's keys, handed on one by one: the two iterators that known() meets, whatever the box's place. Own text.
-/
import Derived.Shelf.SlIterI.Sorted
import Derived.Test.YtihaakenfdkgnaaGreatDoorProg
import Derived.KernelRfl
import Derived.Test.YtihaakenfdkgnaaGreatDoorPart29
import Derived.Lib.SlKeysI
import Derived.Below
import Derived.Shelf.SortM.Plain
import Derived.Shelf.SortM.SortNone
import Derived.Ground.GgzProg
import Derived.Ground.SlgmProg
import Derived.Shelf.SlGeneric
import Derived.Shelf.Strings.Count
import Derived.Ground.NamesProg
import Derived.Test.YtihaakenfdkgnaaGreatDoorK8R0
import Derived.Test.YtihaakenfdkgnaaGreatDoorK8R1
import Derived.Test.YtihaakenfdkgnaaGreatDoorK8R2
import Derived.Test.YtihaakenfdkgnaaGreatDoorK8R3
import Derived.Test.YtihaakenfdkgnaaGreatDoorK8R4
import Derived.Test.YtihaakenfdkgnaaGreatDoorK8R5
import Derived.Test.YtihaakenfdkgnaaGreatDoorK8R6
import Derived.Test.YtihaakenfdkgnaaGreatDoorK8R7
import Derived.Test.YtihaakenfdkgnaaGreatDoorK8R8
import Derived.Test.YtihaakenfdkgnaaGreatDoorK8R9
set_option linter.all false
noncomputable section
namespace Go.Proofs.Sk
open Go.RowKit Go.Maps Go.Sort Go.Shelf
set_option maxRecDepth 100000 in
set_option maxHeartbeats 1000000 in
theorem keys99 {H:Type}(n:Nat)(hn:1<=n)(l Bm off b nn:Nat)(D0:DataW H){R:Value->Option (DataW H×List MemPlace)}(J:List Int->World->Prop)
  (hY:∀ pre x W,J pre W->pre.length<Maps.size D0->YieldAt Fence.wide (n-1) Tryz.prog l #[encZ x] W fun e W'=>e=.returned (.bool true)/\J (pre++[x]) W'/\KeepsWalks W W')
  (W:World)(hJ:AbidesFrom W.heap.size J)(hm:W.cell? ⟨Bm,off,none⟩=some (.map (some b)))(hown:W.ownsMap Tryz.prog 2 R b nn D0)(h0:J [] W) :
  CallsIn Fence.wide n Tryz.prog 148 #[.func (.yield l) #[] #[],.pointer (some ⟨Bm,off,none⟩)] W fun e W'=>(∃ v,e=.returned v)/\∃ ss:List Int,ss.Perm (intKeys D0)/\J ss W':=by
 have t2:=Tryz.underlying2;refine callsIn_of_wp Tryz.func148 rfl trivial ?_ rfl;simp only[Tryz.ntmps148,List.size_toArray,List.length_cons,List.length_nil,Nat.reduceAdd,Nat.reduceSub,Array.replicate_succ,Array.replicate_zero,List.push_toArray,List.append_toArray,List.nil_append,List.cons_append]
 gi_wp2_with (first
  |(gi_at_range;refine wpListIn_range_own _ rfl _ 79 rfl 2 42 (int_keyed t2) Tryz.underlying79 _ b nn _ rfl hown ?_;intro w0 hrg0 hg0 hs0)
  |gi_in)
 go_frame
 gi_loopw [3] (fun _ wr=>∃ (left:Lit->Bool)(cnt:Nat)(ss:List Int),wr.ranges Tryz.prog 2 R b W.heap.size nn D0 left cnt/\ss.length+cnt<=Maps.size D0/\CollectedI D0 left ss/\J ss wr)
  (fun _ wr=>wr.rangeLeft b W.heap.size)
 case atStart=>exact⟨_,_,[],hrg0,by simp,CollectedI.start D0,hJ [] W w0 none h0 hg0 (fun r e=>by cases e)⟩
 case round=>
  obtain⟨left,cnt,ss,hrg,hcs,hC,hJs⟩:=hrel
  gi_wp2_with (first
   |(gi_at_next;refine wpListIn_next_ranges _ rfl _ rfl 2 (int_keyed t2) R encZ id (fun key kl hk=>by obtain⟨x,hx,_⟩:=Maps.keyOf_i64 t2 hk;exact⟨x,hx⟩) (fun v _ _=>⟨v,rfl⟩) b W.heap.size nn _ _ _ rfl hrg ?_ ?_)
   |gi_in)
  ·intro hc0 hl0
   gi_wp2
   go_end0;exact⟨⟨_,rfl⟩,ss,hC.perm hown (int_keyed t2) t2 hl0,hJs⟩
  ·intro x c kl yd yp w2 cnt2 hkey hlk hv hat hrg2 hlt hg2 hs2 hen
   obtain⟨x',ex,rfl,_⟩:=Maps.keyOf_i64 t2 hkey;obtain rfl:x=x':=encZ_inj ex;have hJ2:J ss w2:=hJ ss wr w2 (some W.heap.size) hJs hg2 (fun r e=>by cases e;exact⟨Nat.le_refl _,hrg.iter_walk⟩);obtain⟨fn,tmps,assign,body,hy,hR⟩:=hY ss x w2 hJ2 (by omega);clear hs2
   gi_wp2
   refine hR.mono ?_;rintro e W3 ⟨rfl,hJ3,hk3⟩
   gi_wp2
   have hrg3:=hrg2.of_walks hk3;go_roundw
   case rel=>exact⟨_,cnt2,ss++[x],hrg3,by simp;omega,hC.step hlk hat,hJ3⟩
   case measure=>rw[hrg3.left_eq,hrg.left_eq];exact hlt
end Go.Proofs.Sk
end

noncomputable section
namespace Go.Exo
section
variable [Sx] [Dc]{w0:Bs}{E:Env}{H:T AObj}{nx:Nat}{w:World}
theorem WR.madeAt (h:WR w0 E H nx w){l:Nat}(hl:E l=none)(hlt:l<nx){g:Nat}(hg:g<w.heap.size)(hno:∀ k p,E k=some p->p.blk≠g)(hfz:∀ k p,E k=some p->∀ o v,p.ob.fz g o≠some v)(hold:¬ w0.old g)
  (size:Nat)(hc:aw (getH H l)=0)(hk:a8 (getH H l)=false)(hor:OR (E.set l ⟨g,0,size,undef,noOb,[]⟩) H l ⟨g,0,size,undef,noOb,[]⟩ w.heap[g]? (getH H l)) :
  WR w0 (E.set l ⟨g,0,size,undef,noOb,[]⟩) H nx w:=by
 have hle:E.le (E.set l ⟨g,0,size,undef,noOb,[]⟩):=Env.le_set _ hl
 have hcn:∀ k,aw (getH H k)≠0->aw (getH H k)≠l:=fun k hc0 e=>by
  obtain⟨a,b,m,h1,_⟩:=h.cls k hc0;rw[e] at h1;rw[h1] at hk;cases hk
 have hE:∀ k p,(E.set l ⟨g,0,size,undef,noOb,[]⟩) k=some p->(k=l/\p=⟨g,0,size,undef,noOb,[]⟩)\/(k≠l/\E k=some p):=by
  intro k p hp;by_cases e:k=l
  ·subst e;rw[Env.set_self] at hp;cases hp;exact .inl ⟨rfl,rfl⟩
  ·rw[Env.set_other _ _ _ _ e] at hp;exact .inr ⟨e,hp⟩
 refine⟨?_,?_,?_,?_,?_,h.old,h.size,h.os,h.output,h.tape,h.le.trans hle,?_,h.dec,fun l p hl b o v hf ho=>?_⟩
 ·intro k p hp
  rcases hE k p hp with⟨rfl,rfl⟩|⟨hne,hp⟩
  ·exact hor
  ·exact (h.objs k p hp).trans hle fun _ ho=>ho
 ·intro k hkx
  have:=h.fresh k hkx;exact⟨by rw[Env.set_other _ _ _ _ (by omega)];exact this.1,this.2⟩
 ·intro k k' p p' hne hp hp' hb
  rcases hE k p hp with⟨e1,e2⟩|⟨hn1,g1⟩<;>rcases hE k' p' hp' with⟨e3,e4⟩|⟨hn2,g2⟩
  ·exact absurd (e1.trans e3.symm) hne
  ·rw[e2] at hb;exact absurd hb.symm (hno k' p' g2)
  ·rw[e4] at hb;exact absurd hb (hno k p g1)
  ·exact h.sep k k' p p' hne g1 g2 hb
 ·intro k hc0
  obtain⟨a,b,m,h1,h2,h3⟩:=h.cls k hc0;exact⟨a,b,m,h1,h2,by rw[Env.set_other _ _ _ _ (hcn k hc0)];exact h3⟩
 ·intro k p hp
  rcases hE k p hp with⟨rfl,rfl⟩|⟨hne,hp⟩
  ·exact⟨hg,.inr (.inr hold)⟩
  ·exact h.own k p hp
 ·intro k p hp b off v hf
  rcases hE k p hp with⟨rfl,rfl⟩|⟨hne,hp2⟩
  ·cases hf
  ·
   obtain⟨h1,h2⟩:=h.dat k p hp2 b off v hf;refine⟨h1,fun l' p' hl' hb'=>?_⟩;rcases hE l' p' hl' with⟨_,e2⟩|⟨hne',hl'⟩
   ·rw[e2] at hb';simp only at hb';subst hb';exact absurd hf (hfz k p hp2 off v)
   ·exact h2 l' p' hl' hb'
 ·rcases hE l p hl with⟨rfl,rfl⟩|⟨_,hl⟩
  ·cases hf
  ·exact h.fzo l p hl b o v hf ho
theorem WR.newList (h:WR w0 E H nx w){w':World}(he:Ext w w'){g cap:Nat}{c:Array Value}{e:TypeId}(hg:w.heap.size<=g)(hgb:w'.heap[g]? = some (.cells c e (0,0)))(hcs:c.size=cap){vs:List V}{xs:List Value}(hvs:∀ E',VRs E' vs xs)
  (hlen:vs.length<=cap)(htk:c.toList.take vs.length=xs) :
  ∃ E',E.le E'/\VR E' (.slice nx 0 vs.length none 1) (.slice (some ⟨g,0,none⟩) vs.length cap)/\WR w0 E' (put .no H nx (.cells (putL .bad vs 0 .e) vs.length e 0 0 0 false)) (nx+1) w'/\
   Keep E E' H (put .no H nx (.cells (putL .bad vs 0 .e) vs.length e 0 0 0 false)) nx:=by
 have hno:=h.fresh nx (am _);have hself:getH (put .no H nx (.cells (putL .bad vs 0 .e) vs.length e 0 0 0 false)) nx=.cells (putL .bad vs 0 .e) vs.length e 0 0 0 false:=by rw[ar,if_pos rfl]
 have h1:=(h.grow he).lazy (.cells (putL .bad vs 0 .e) vs.length e 0 0 0 false) rfl;have hlt:g<w'.heap.size:=(ag.1 hgb).1
 have hw:=h1.madeAt (l:=nx) (g:=g) hno.1 (Nat.lt_succ_self _) hlt (fun k p hp e=>by have:=(h.own k p hp).1;omega) (fun k p hp o v hv=>by have:=fA (h.dat k p hp g o v hv).1;omega) (fun ho=>by have:=h.lt_old ho;omega)
  cap (by rw[hself];rfl) (by rw[hself];rfl) (by
   rw[hself,hgb]
   refine⟨c,(0,0),rfl,by rw[hcs];simp,hlen,rfl,fun i hi _=>?_⟩
   have hv:=hvs (E.set nx ⟨g,0,cap,undef,noOb,[]⟩)
   obtain⟨x,hx,hr⟩:=hv.get i vs[i] (ah hi)
   refine⟨x,?_,?_⟩
   ·rw[<- htk,List.getElem?_take_of_lt hi,Array.getElem?_toList] at hx
    simpa using hx
   ·rw[gI,if_pos (Nat.zero_le _),Nat.sub_zero,ah hi];exact hr)
 refine⟨_,Env.le_set _ hno.1,?_,hw,fun l hl hEl _=>⟨by rw[Env.set_other _ _ _ _ (by omega)];exact hEl,by rw[ar,if_neg (by omega)]⟩⟩;exact .slice nx 0 vs.length none 1 ⟨g,0,cap,undef,noOb,[]⟩ cap (Env.set_self _ _ _) hlen (by simp) (fun k hk=>by cases hk)
end
end Go.Exo
end

noncomputable section
namespace Go.Exo
open Go.Maps Go.WideElems Go.RowKit Go.MapKept
variable [Sx] [Dc]
def pL (P:Program)(fn g:Nat)(et:TypeId):Prop:=
 ∀ (Bm off b nn:Nat)(D0:DataW Unit)(R:Value->Option (DataW Unit×List MemPlace))(w:World),Bm<w.heap.size->w.cell? ⟨Bm,off,none⟩=some (.map (some b))->w.ownsMap P et R b nn D0->Maps.size D0<=1000->
  Calls P fn #[.func (.func g) #[] #[.pointer (some ⟨Bm,off,none⟩)]] w fun e w'=>∃ (v:Value)(ss:List Int),e=.returned v/\ss.Perm (intKeys D0)/\w'.ownsRow w.heap.size et 1 v ss.length ((ss.mergeSort leI).map encZ)/\(v=.slice none 0 0<->ss=[])/\Below w.heap.size w w'
theorem wn {E:Env}:∀ {es:List (V×V×Nat)}{ks:List Int}{es':List MapEntry},pI es=some ks->ERs E es es'->es'.map (·.key)=ks.map encZ
 |[],ks,es',h,he=>by
  cases es' with
  |nil=>simp only[pI,Option.some.injEq] at h;subst h;rfl
  |cons _ _=>exact he.elim
 |(k,v,b)::r,ks,es',h,he=>by
  cases es' with
  |nil=>exact he.elim
  |cons e es'=>
   obtain⟨h1,_,_,h4⟩:=he;unfold pI at h;split at h
   ·rename_i heq;cases heq
   ·rename_i n v' b' r' heq
    simp only[List.cons.injEq,Prod.mk.injEq] at heq;obtain⟨⟨rfl,rfl,rfl⟩,rfl⟩:=heq;cases hr:pI r with
    |none=>rw[hr] at h;cases h
    |some l=>
     rw[hr] at h;simp only[Option.some.injEq] at h;subst h;have ih:=wn hr h4
     have e1:e.key=encZ n:=by
      generalize e.key=x at h1;cases h1;rfl
     simp only[List.map_cons,ih,e1]
   ·cases h
theorem ry {E:Env}{clock:Nat}:∀ {es:List (V×V×Nat)}{lo:Nat}{es':List MapEntry},pJ lo es clock=true->ERs E es es'->lo<=clock/\(∀ x∈es',lo<=x.born/\x.born<clock)/\(es'.map (·.born)).Nodup
 |[],lo,es',h,he=>by
  cases es' with
  |nil=>exact⟨ab h,(fun _ h=>by cases h),List.nodup_nil⟩
  |cons _ _=>exact he.elim
 |(k,v,b)::r,lo,es',h,he=>by
  cases es' with
  |nil=>exact he.elim
  |cons e es'=>
   obtain⟨_,_,h3,h4⟩:=he;simp only[pJ,Bool.and_eq_true] at h;have hlo:=ab h.1;obtain⟨i1,i2,i3⟩:=ry h.2 h4;refine⟨by omega,fun x hx=>?_,?_⟩
   ·cases hx with
    |head=>rw[h3];exact⟨hlo,i1⟩
    |tail _ hx=>have:=i2 x hx;omega
   ·rw[List.map_cons,List.nodup_cons]
    refine⟨fun hm=>?_,i3⟩;obtain⟨x,hx,hxe⟩:=List.mem_map.1 hm;have:=(i2 x hx).1;rw[h3] at hxe;omega
theorem rz:∀ {ks:List Int}{lo:Int},fZ lo ks=true->(∀ n∈ks,lo<n/\n<9223372036854775808)/\ks.Pairwise (· < ·)
 |[],lo,_=>⟨(fun _ h=>by cases h),List.Pairwise.nil⟩
 |n::r,lo,h=>by
  simp only[fZ,Bool.and_eq_true] at h;have h1:lo<n:=by simpa[fw] using h.1
  obtain⟨i1,i2⟩:=rz h.2
  have hn:n<9223372036854775808:=by
   clear i1 i2 h1
   have:∀ (r:List Int)(n:Int),fZ n r=true->n<9223372036854775808:=by
    intro r;induction r with
    |nil=>intro n h;simpa[fZ,fw] using h
    |cons m r ih=>intro n h;simp only[fZ,Bool.and_eq_true] at h;have a:=ih m h.2;have b:n<m:=(by simpa[fZ,fw] using h.1);omega
   exact this r n h.2
  refine⟨fun x hx=>?_,List.pairwise_cons.2 ⟨fun x hx=>(i1 x hx).1,i2⟩⟩;cases hx with
  |head=>exact⟨h1,hn⟩
  |tail _ hx=>have:=i1 x hx;omega
theorem mI {H:Type}(x:Lit×DataW H):∀ (l:List (Lit×DataW H)),(DataW.insert x l).Perm (x::l)
 |[]=>List.Perm.refl _
 |y::r=>by
  unfold DataW.insert;split
  ·exact List.Perm.refl _
  ·exact ((mI x r).cons y).trans (List.Perm.swap x y r)
theorem f9 {H:Type}:∀ (l:List (Lit×DataW H)),(l.foldr DataW.insert []).Perm l
 |[]=>List.Perm.refl _
 |x::r=>(mI x _).trans ((f9 r).cons x)
theorem yk {P:Program}{et:TypeId}(ht:P.underlying et=some (.int .i64)){w:World}{b clock:Nat}{es':Array MapEntry}{ks:List Int}(hb:w.heap[b]? = some (.map es' clock))(hk:es'.toList.map (·.key)=ks.map encZ)
  (hst:(∀ x∈es'.toList,x.born<clock)/\(es'.toList.map (·.born)).Nodup)(hr:∀ n∈ks,-9223372036854775809<n/\n<9223372036854775808)(hp:ks.Pairwise (· < ·))(hl:ks.length<=1000) :
  ∃ D0:DataW Unit,w.ownsMap P et (fun _=>some (.nil,[])) b es'.size D0/\(intKeys D0).Perm ks/\Maps.size D0<=1000:=by
 have hlen:es'.size=ks.length:=by
  have:=congrArg List.length hk;simpa using this
 have hkey:∀ n∈ks,keyOf P et (encZ n)=some (.int .i64 n):=fun n hn=>by
  have hw:(Lit.int .i64 n).wf=true:=by
   have:=hr n hn;have h1:IntKind.i64.min = -9223372036854775808:=rfl;have h2:IntKind.i64.max=9223372036854775807:=rfl;simp only[Lit.wf,Bool.and_eq_true,decide_eq_true_eq];omega
  simp[keyOf,ht,mapKey,hw]
 have hkx:∀ x∈es'.toList,∃ n∈ks,x.key=encZ n:=fun x hx=>by
  have:x.key∈ks.map encZ:=by rw[<- hk];exact List.mem_map.2 ⟨x,hx,rfl⟩
  obtain⟨n,h1,h2⟩:=List.mem_map.1 this;exact⟨n,h1,h2.symm⟩
 have hrd:∀ x∈es'.toList,∀ n,n∈ks->x.key=encZ n->rd (H:=Unit) P et (fun _=>some (.nil,[])) x=some (.int .i64 n,.nil):=fun x hx n hn e=>by
  unfold rd;rw[e,hkey n hn];rfl
 have hrg:∀ (es:List MapEntry)(l:List Int),(∀ x∈es,x∈es'.toList)->(∀ n∈l,n∈ks)->es.map (·.key)=l.map encZ->(es.map (rg (H:=Unit) P et (fun _=>some (.nil,[])))).map (fun p=>intOf p.1)=l:=by
  intro es;induction es with
  |nil=>intro l _ _ h;cases l with|nil=>rfl|cons _ _=>cases h
  |cons x r ih=>
   intro l h1 h2 h;cases l with
   |nil=>cases h
   |cons n l=>
    simp only[List.map_cons,List.cons.injEq] at h;have e:=hrd x (h1 x (aj ..)) n (h2 n (aj ..)) h.1;rw[List.map_cons,List.map_cons,ih l (fun y hy=>h1 y (ai _ hy)) (fun y hy=>h2 y (ai _ hy)) h.2];congr 1;unfold rg;rw[e];rfl
 have hF:Fit P et (fun _=>some ((.nil:DataW Unit),[])) es' clock:=by
  refine⟨?_,⟨hst.1,hst.2,?_⟩,fun x hx=>?_⟩
  ·have:(1000:Nat)<=maxLen:=by unfold maxLen;omega
   omega
  ·rw[hk]
   exact List.Pairwise.map _ (fun a b hab e=>by have:=encZ_inj e;omega) hp
  ·obtain⟨n,h1,h2⟩:=hkx x hx
   exact⟨_,hrd x hx n h1 h2⟩
 refine⟨_,⟨es',clock,hb,hF,am _,rfl⟩,?_,?_⟩
 ·have h1:=(f9 (es'.toList.map (rg (H:=Unit) P et (fun _=>some (.nil,[]))))).map (fun p=>intOf p.1)
  rw[hrg es'.toList ks (fun _ h=>h) (fun _ h=>h) hk] at h1;exact h1
 ·show (List.foldr DataW.insert [] _).length<=1000
  rw[(f9 _).length_eq,List.length_map,Array.length_toList];omega
theorem mJ {ks:List Int}(hp:ks.Pairwise (· < ·)):ks.mergeSort leI=ks:=by
 refine List.mergeSort_of_pairwise (hp.imp fun {a b} h=>?_);simp only[leI,decide_eq_true_eq];omega
theorem VRs.ints (E:Env):∀ (ks:List Int),VRs E (ks.map (V.int .i64)) (ks.map encZ)
 |[]=>.nil
 |n::r=>.cons _ _ _ _ (.int .i64 n) (VRs.ints E r)
variable [Tb]
theorem aq.sorted {P:Program}{k:Nat}{G:World->Prop}{fn:Nat}{its:List Nat}{et:TypeId}(ht:P.underlying et=some (.int .i64))(hS:∀ g∈its,pL P fn g et):aq P k G (pK fn its et):=by
 intro w0 hw0 E H nx w f args xs v H' nx' hwr hgl hxs hh;unfold pK at hh;cases hf:Nat.beq f fn with
 |false=>rw[hf] at hh;cases hh
 |true=>
  rw[hf] at hh;have e:=aa hf;subst e;simp only[cond_true] at hh;split at hh
  ·rename_i g l
   cases hg:its.any (Nat.beq g) with
   |false=>rw[hg] at hh;cases hh
   |true=>
    rw[hg] at hh;simp only[cond_true] at hh;obtain⟨g',hg1,hg2⟩:=List.any_eq_true.1 hg;have e:=aa hg2;subst e;split at hh
    ·rename_i vs len elem cls rel fz ro hob
     cases hc:(Nat.beq cls 0&&Nat.ble 1 len) with
     |false=>rw[hc] at hh;cases hh
     |true=>
      rw[hc] at hh;simp only[cond_true] at hh;simp only[Bool.and_eq_true] at hc;have hcls:=aa hc.1;have hlen:=ab hc.2;subst hcls;split at hh
      ·rename_i m hm
       split at hh
       ·rename_i es clock hmap
        cases hk:pI es with
        |none=>rw[hk] at hh;cases hh
        |some ks=>
         rw[hk] at hh;simp only at hh;cases hok:(fZ (-9223372036854775809) ks&&pJ 0 es clock&&Nat.ble ks.length 1000) with
         |false=>rw[hok] at hh;cases hh
         |true=>
          rw[hok] at hh;simp only[cond_true] at hh;simp only[Bool.and_eq_true] at hok;obtain⟨r1,r2⟩:=rz hok.1.1;have hl:=ab hok.2;cases hxs with
          |cons _ x _ ys h1 h2=>
          cases h2;cases h1 with
          |func _ fn' _ _ a c hfn ha hcc=>
          cases ha;cases hcc with
          |cons _ y _ zs h3 h4=>
          cases h4;cases h3 with
          |ptr _ _ p hp=>
          have hfn2:fn'=.func g:=by
           cases fn'<;>first|exact hfn.elim|skip
           all_goals first|(have:=hfn;simp only[FnR] at this;rw[this])|exact (by simpa[FnR] using hfn)
          subst hfn2;have hobj:=hwr.objs l p hp;rw[hob] at hobj;obtain⟨c,fr,hb1,hb2,_,_,hb5⟩:=hobj;obtain⟨z,hz1,hz2⟩:=hb5 0 (by omega) (.inl rfl);rw[hm] at hz2;cases hz2 with
          |map _ q hq=>
          have hobj2:=hwr.objs m q hq;rw[hmap] at hobj2;obtain⟨es',hm1,hm2⟩:=hobj2;obtain⟨_,b2,b3⟩:=ry hok.1.2 hm2;obtain⟨D0,d1,d2,d3⟩:=yk (P:=P) ht hm1 (wn hk hm2) ⟨fun x hx=>(b2 x hx).2,b3⟩ r1 r2 hl
          have hcell:w.cell? ⟨p.blk,p.base+0,none⟩=some (.map (some q.blk)):=by
           unfold World.cell?;simp only[hb1];simpa using hz1
          refine (hS g hg1 p.blk (p.base+0) q.blk es'.size D0 _ w (hwr.own l p hp).1 hcell d1 d3).mono fun e w' ⟨v1,ss,he,hperm,hrow,hnil,hbel⟩=>?_
          subst he;have hss:ss.mergeSort leI=ks:=(mergeSort_of_perm_i (hperm.trans d2)).trans (mJ r2);have hsl:ss.length=ks.length:=(hperm.trans d2).length_eq;rw[hss] at hrow;have hext:Ext w w':=⟨hbel.block,hbel.size,hbel.os,hbel.output,hbel.tape⟩
          cases ks with
          |nil=>
           simp only[Option.some.injEq,Prod.mk.injEq] at hh;obtain⟨rfl,rfl,rfl⟩:=hh;have hv:=hnil.2 (List.eq_nil_of_length_eq_zero hsl);subst hv;exact .ret ⟨_,E,rfl,Env.le.refl E,.nils,hwr.grow hext,am _,Keep.refl E H nx⟩
          |cons k0 kr=>
           simp only[bw,bO,Option.some.injEq,Prod.mk.injEq] at hh;obtain⟨rfl,rfl,rfl⟩:=hh;rcases hrow.2 with⟨_,hz⟩|⟨gb,cap,cur,rfl,hbase,hgb,q1,q2,q3,q4⟩
           ·rw[hsl] at hz;cases hz
           ·have hlen2:((k0::kr).map (V.int .i64)).length=ss.length:=by rw[List.length_map];exact hsl.symm
            obtain⟨E',e1,e2,e3,e4⟩:=hwr.newList hext (g:=gb) (cap:=cap) (vs:=(k0::kr).map (V.int .i64)) (xs:=(k0::kr).map encZ) hbase hgb (by rw[q3,Nat.mul_one]) (fun E'=>VRs.ints E' _) (by rw[hlen2];exact q1) (by rw[hlen2];rw[Nat.mul_one] at q4;exact q4);rw[hlen2] at e2;have hn:Nat.succ kr.length=ss.length:=by rw[hsl];rfl
            refine .ret ⟨_,E',rfl,e1,?_,?_,Nat.le_succ _,?_⟩
            ·rw[hn];exact e2
            ·rw[hlen2,<- hn] at e3;exact e3
            ·rw[hlen2,<- hn] at e4;exact e4
       ·cases hh
      ·cases hh
    ·cases hh
  ·cases hh
end Go.Exo
end

noncomputable section
namespace Go.Proofs
open Go.Shelf
def Tryz.sorted54_ren:Go.Shelf.Ren:=⟨fun|6=>96|8=>146|9=>147|11=>225|13=>227|12=>226|23=>315|24=>316|14=>307|15=>308|16=>309|17=>310|18=>311|19=>312|20=>74|21=>313|22=>314|25=>380|26=>381|27=>382|28=>383|29=>384|30=>129|31=>433|n=>n,fun|26=>2|28=>127|24=>113|0=>0|3=>3|37=>145|48=>382|50=>201|4=>4|40=>376|39=>375|45=>114|5=>5|9=>9|51=>429|55=>433|57=>465|58=>359|33=>147|n=>n,fun|n=>n⟩
theorem Tryz.sorted54:Go.Proofs.SlLaysZI.n6 Tryz.prog Tryz.sorted54_ren:={
 mixed:=by kernel_rfl
 f6:=⟨Tryz.f96.name,by decide,Tryz.func96.trans (congrArg some (by kernel_rfl))⟩
 f8:=⟨Tryz.f146.name,by decide,Tryz.func146.trans (congrArg some (by kernel_rfl))⟩
 f11:=⟨Tryz.f225.name,by decide,Tryz.func225.trans (congrArg some (by kernel_rfl))⟩
 t0:=Tryz.underlying0
 a0:=Tryz.isAgg0
 z0:=Tryz.sizeOf0
 v0:=Tryz.zeroValue0
 t24:=Tryz.underlying113
 a24:=Tryz.isAgg113
 z24:=Tryz.sizeOf113
 v24:=Tryz.zeroValue113
 t26:=Tryz.underlying2
 a26:=Tryz.isAgg2
 z26:=Tryz.sizeOf2
 v26:=Tryz.zeroValue2
 t28:=Tryz.underlying127
 a28:=Tryz.isAgg127
 z28:=Tryz.sizeOf127
 v28:=Tryz.zeroValue127
 i26:=by kernel_rfl }
def Tryz.sort98_ren:Go.Shelf.Ren:=⟨fun|5=>147|8=>227|7=>226|19=>315|20=>316|10=>307|11=>308|12=>309|13=>310|14=>311|15=>312|16=>74|17=>313|18=>314|30=>380|31=>381|32=>382|33=>383|34=>384|35=>129|40=>433|n=>n,fun|23=>113|25=>2|3=>3|32=>145|22=>113|0=>0|44=>382|46=>201|4=>4|36=>376|35=>375|41=>114|5=>5|9=>9|53=>429|57=>433|63=>465|64=>359|n=>n,fun|n=>n⟩
theorem Tryz.sort98:Go.Proofs.SlLaysM.n5 Tryz.prog Tryz.sort98_ren:={
 mixed:=by kernel_rfl
 f5:=⟨Tryz.f147.name,by decide,Tryz.func147.trans (congrArg some (by kernel_rfl))⟩
 f7:=⟨Tryz.f226.name,by decide,Tryz.func226.trans (congrArg some (by kernel_rfl))⟩
 f8:=Tryz.func227.trans (congrArg some (by kernel_rfl))
 f10:=⟨Tryz.f307.name,by decide,Tryz.func307.trans (congrArg some (by kernel_rfl))⟩
 f11:=⟨Tryz.f308.name,by decide,Tryz.func308.trans (congrArg some (by kernel_rfl))⟩
 f12:=⟨Tryz.f309.name,by decide,Tryz.func309.trans (congrArg some (by kernel_rfl))⟩
 f13:=⟨Tryz.f310.name,by decide,Tryz.func310.trans (congrArg some (by kernel_rfl))⟩
 f14:=⟨Tryz.f311.name,by decide,Tryz.func311.trans (congrArg some (by kernel_rfl))⟩
 f15:=⟨Tryz.f312.name,by decide,Tryz.func312.trans (congrArg some (by kernel_rfl))⟩
 f16:=⟨Tryz.f74.name,by decide,Tryz.func74.trans (congrArg some (by kernel_rfl))⟩
 f17:=⟨Tryz.f313.name,by decide,Tryz.func313.trans (congrArg some (by kernel_rfl))⟩
 f18:=⟨Tryz.f314.name,by decide,Tryz.func314.trans (congrArg some (by kernel_rfl))⟩
 f19:=Tryz.func315.trans (congrArg some (by kernel_rfl))
 f20:=Tryz.func316.trans (congrArg some (by kernel_rfl))
 f30:=⟨Tryz.f380.name,by decide,Tryz.func380.trans (congrArg some (by kernel_rfl))⟩
 f31:=Tryz.func381.trans (congrArg some (by kernel_rfl))
 f32:=Tryz.func382.trans (congrArg some (by kernel_rfl))
 f33:=⟨Tryz.f383.name,by decide,Tryz.func383.trans (congrArg some (by kernel_rfl))⟩
 f34:=⟨Tryz.f384.name,by decide,Tryz.func384.trans (congrArg some (by kernel_rfl))⟩
 f35:=⟨Tryz.f129.name,by decide,Tryz.func129.trans (congrArg some (by kernel_rfl))⟩
 f40:=⟨Tryz.f433.name,by decide,Tryz.func433.trans (congrArg some (by kernel_rfl))⟩
 t0:=Tryz.underlying0
 a0:=Tryz.isAgg0
 z0:=Tryz.sizeOf0
 v0:=Tryz.zeroValue0
 t3:=Tryz.underlying3
 a3:=Tryz.isAgg3
 z3:=Tryz.sizeOf3
 v3:=Tryz.zeroValue3
 t4:=Tryz.underlying4
 a4:=Tryz.isAgg4
 z4:=Tryz.sizeOf4
 v4:=Tryz.zeroValue4
 t5:=Tryz.underlying5
 a5:=Tryz.isAgg5
 z5:=Tryz.sizeOf5
 v5:=Tryz.zeroValue5
 t9:=Tryz.underlying9
 a9:=Tryz.isAgg9
 z9:=Tryz.sizeOf9
 v9:=Tryz.zeroValue9
 t22:=Tryz.underlying113
 a22:=Tryz.isAgg113
 z22:=Tryz.sizeOf113
 v22:=Tryz.zeroValue113
 t23:=Tryz.underlying113
 a23:=Tryz.isAgg113
 z23:=Tryz.sizeOf113
 v23:=Tryz.zeroValue113
 t25:=Tryz.underlying2
 a25:=Tryz.isAgg2
 z25:=Tryz.sizeOf2
 v25:=Tryz.zeroValue2
 t32:=Tryz.underlying145
 a32:=Tryz.isAgg145
 z32:=Tryz.sizeOf145
 v32:=Tryz.zeroValue145
 t35:=Tryz.underlying375
 a35:=Tryz.isAgg375
 z35:=Tryz.sizeOf375
 v35:=Tryz.zeroValue375
 t36:=Tryz.underlying376
 a36:=Tryz.isAgg376
 z36:=Tryz.sizeOf376
 v36:=Tryz.zeroValue376
 t41:=Tryz.underlying114
 a41:=Tryz.isAgg114
 z41:=Tryz.sizeOf114
 v41:=Tryz.zeroValue114
 t44:=Tryz.underlying382
 a44:=Tryz.isAgg382
 z44:=Tryz.sizeOf382
 v44:=Tryz.zeroValue382
 t46:=Tryz.underlying201
 a46:=Tryz.isAgg201
 z46:=Tryz.sizeOf201
 v46:=Tryz.zeroValue201
 t53:=Tryz.underlying429
 a53:=Tryz.isAgg429
 z53:=Tryz.sizeOf429
 v53:=Tryz.zeroValue429
 t57:=Tryz.underlying433
 a57:=Tryz.isAgg433
 z57:=Tryz.sizeOf433
 v57:=Tryz.zeroValue433
 t63:=Tryz.underlying465
 a63:=Tryz.isAgg465
 z63:=Tryz.sizeOf465
 v63:=Tryz.zeroValue465
 t64:=Tryz.underlying359
 a64:=Tryz.isAgg359
 z64:=Tryz.sizeOf359
 v64:=Tryz.zeroValue359 }
end Go.Proofs
end

noncomputable section
namespace Go.Proofs.Sk
open Go.Exo Go.RowKit Go.Maps Go.Sort Go.Shelf
theorem sorts54 (m:Nat):AnyZI.SortsIn Tryz.prog Tryz.sorted54_ren Fence.wide m:=
 ⟨fun blk off cap ss W hH hblk hsz=>callsIn_wide.2 (AnyM.slices_Sort_int Tryz.sort98 blk off cap ss W hH hblk hsz),
  fun p cap W=>callsIn_wide.2 (AnyM.slices_Sort_int_none Tryz.sort98 p cap W)⟩
theorem hm1000:(1000:Nat)<=maxLen:=by unfold maxLen;omega
theorem sorted99:pL Tryz.prog 96 148 2:=fun Bm off b nn D0 R w hlt hm hown hsz=>by
 have hseq:SeqGives Fence.wide 2 Tryz.prog 148 #[.pointer (some ⟨Bm,off,none⟩)] encZ (fun ss=>ss.Perm (intKeys D0)) (Maps.size D0) w:=fun l J W hW hJ hY h0=>by
  have hown':W.ownsMap Tryz.prog 2 R b nn D0:=by
   have hbl:=hown.lt;obtain⟨es,clock,hb,Ft,hs,hD⟩:=hown;exact⟨es,clock,(hW.block b hbl).trans hb,Ft,hs,hD⟩
  exact keys99 2 (by omega) l Bm off b nn D0 J hY W hJ ((hW.cell (p:=⟨Bm,off,none⟩) hlt).trans hm) hown' h0
 exact (callsIn_wide (n:=5)).1 (AnyZI.sorted_in Tryz.sorted54 Fence.wide 5 trivial trivial trivial trivial rfl (by omega) (sorts54 _) (enters_of Tryz.func147 (by kernel_rfl) rfl) 148 _ trivial (enters_of Tryz.func148 (by kernel_rfl) rfl) _ _ (Nat.le_trans hsz hm1000) (by omega) w hseq)
end Go.Proofs.Sk
end

noncomputable section
namespace Go.Exo
theorem zT {x:Nat}(hx:x<256):∀ (l n:Nat),cntS x l n=(sB l n).count (UInt8.ofNat x)
 |0,_=>rfl
 |l+1,n=>by
  have ih:=zT hx l (n / 256);simp only[cntS,sB,List.count_cons,ih]
  have e:Nat.beq (n % 256) x=(UInt8.ofNat (n % 256)==UInt8.ofNat x):=by
   rw[Bool.eq_iff_iff,Nat.beq_eq,beq_iff_eq];constructor
   ·intro h;rw[h]
   ·intro h
    have:=congrArg UInt8.toNat h;simp at this;omega
  rw[e];cases (UInt8.ofNat (n % 256)==UInt8.ofNat x)<;>simp
variable [Sx] [Dc] [Tb]
theorem aq.count {P:Program}{k:Nat}{G:World->Prop}{fn:Nat}(h:∀ (s:ByteArray)(c:UInt8)(w:World),Calls P fn #[.string s,.string ⟨#[c]⟩] w fun e w'=>e=.returned (.int .i64 (s.data.toList.count c))/\w'=w):aq P k G (ub fn):=by
 intro w0 hw0 E H nx w f args xs v H' nx' hwr hgl hxs hh;unfold ub at hh;cases hf:Nat.beq f fn with
 |false=>rw[hf] at hh;cases hh
 |true=>
  rw[hf] at hh;have e:=aa hf;subst e;simp only[cond_true] at hh;split at hh
  ·rename_i l n x
   simp only[Option.some.injEq,Prod.mk.injEq] at hh;obtain⟨rfl,rfl,rfl⟩:=hh;cases hxs with
   |cons _ X _ _ hX h2=>
   cases h2 with
   |cons _ Y _ _ hY h3=>
   cases h3;cases hX with
   |str _ _ s hs1 hs2=>
   cases hY with
   |str _ _ t ht1 ht2=>
   have hx:x<256:=by simpa using ht2
   have ht:t=⟨#[UInt8.ofNat x]⟩:=by
    apply ByteArray.ext;apply Array.ext';rw[ht1];simp[sB,Nat.mod_eq_of_lt hx]
   subst ht;refine (h s (UInt8.ofNat x) w).mono fun e w' ⟨h1,h2⟩=>?_
   subst h2;refine .ret ⟨_,E,h1,Env.le.refl E,?_,hwr,am _,Keep.refl E H nx⟩;rw[hs1,<- zT hx];exact .int .i64 _
  ·cases hh
end Go.Exo
end

noncomputable section
namespace Go.Proofs
open Go.Shelf
def Tryz.lays138_ren:Go.Shelf.Ren:=⟨fun|138=>516|195=>530|218=>531|143=>375|219=>431|217=>247|225=>461|224=>462|267=>463|266=>339|314=>486|n=>n,fun|9=>9|3=>3|4=>4|5=>5|0=>0|46=>145|146=>508|51=>382|n=>n,fun|1=>0|n=>n⟩
theorem Tryz.lays138:Go.Proofs.Lays.n138 Tryz.prog Tryz.lays138_ren:={
 mixed:=by kernel_rfl
 f138:=Tryz.func516.trans (congrArg some (by kernel_rfl))
 f143:=Tryz.func375.trans (congrArg some (by kernel_rfl))
 f195:=Tryz.func530.trans (congrArg some (by kernel_rfl))
 f217:=Tryz.func247.trans (congrArg some (by kernel_rfl))
 f218:=Tryz.func531.trans (congrArg some (by kernel_rfl))
 f219:=Tryz.func431.trans (congrArg some (by kernel_rfl))
 f224:=Tryz.func462.trans (congrArg some (by kernel_rfl))
 f225:=Tryz.func461.trans (congrArg some (by kernel_rfl))
 f266:=Tryz.func339.trans (congrArg some (by kernel_rfl))
 f267:=Tryz.func463.trans (congrArg some (by kernel_rfl))
 f314:=Tryz.func486.trans (congrArg some (by kernel_rfl))
 t0:=Tryz.underlying0
 a0:=Tryz.isAgg0
 z0:=Tryz.sizeOf0
 v0:=Tryz.zeroValue0
 t3:=Tryz.underlying3
 a3:=Tryz.isAgg3
 z3:=Tryz.sizeOf3
 v3:=Tryz.zeroValue3
 t4:=Tryz.underlying4
 a4:=Tryz.isAgg4
 z4:=Tryz.sizeOf4
 v4:=Tryz.zeroValue4
 t5:=Tryz.underlying5
 a5:=Tryz.isAgg5
 z5:=Tryz.sizeOf5
 v5:=Tryz.zeroValue5
 t9:=Tryz.underlying9
 a9:=Tryz.isAgg9
 z9:=Tryz.sizeOf9
 v9:=Tryz.zeroValue9
 t46:=Tryz.underlying145
 a46:=Tryz.isAgg145
 z46:=Tryz.sizeOf145
 v46:=Tryz.zeroValue145
 t51:=Tryz.underlying382
 a51:=Tryz.isAgg382
 z51:=Tryz.sizeOf382
 v51:=Tryz.zeroValue382
 t146:=Tryz.underlying508
 a146:=Tryz.isAgg508
 z146:=Tryz.sizeOf508
 v146:=Tryz.zeroValue508
 g1:=by kernel_rfl }
end Go.Proofs
end

noncomputable section
namespace Go.Proofs.K9
open Go.Exo
theorem eg:aq Tryz.prog 9 Base hkI:=aq.or hooksI0 (aq.or (aq.sorted Tryz.underlying2 fun g hg=>by
 simp only[List.mem_cons,List.mem_nil_iff,or_false] at hg
 subst hg
 exact Sk.sorted99) (aq.count fun s c w=>Any.strings_Count_one Tryz.lays138 s c w))
end Go.Proofs.K9
end

noncomputable section
namespace Go.Proofs.K9
open Go.Exo
set_option maxRecDepth 1000000
theorem hook_t1 {R:Hook}(h:aq Tryz.prog 9 Base R):aq Tryz.prog 9 Base (bS t1 R):=aq.cut cm eg h ok_t1 run_t1
theorem hook_f1 {R:Hook}(h:aq Tryz.prog 9 Base R):aq Tryz.prog 9 Base (bS f1 R):=aq.cut cm eg h ok_f1 run_f1
theorem hook_t2 {R:Hook}(h:aq Tryz.prog 9 Base R):aq Tryz.prog 9 Base (bS t2 R):=aq.cut cm eg h ok_t2 run_t2
theorem hook_f2 {R:Hook}(h:aq Tryz.prog 9 Base R):aq Tryz.prog 9 Base (bS f2 R):=aq.cut cm eg h ok_f2 run_f2
theorem hook_t3 {R:Hook}(h:aq Tryz.prog 9 Base R):aq Tryz.prog 9 Base (bS t3 R):=aq.cut cm eg h ok_t3 run_t3
theorem hook_f3 {R:Hook}(h:aq Tryz.prog 9 Base R):aq Tryz.prog 9 Base (bS f3 R):=aq.cut cm eg h ok_f3 run_f3
theorem hook_t4 {R:Hook}(h:aq Tryz.prog 9 Base R):aq Tryz.prog 9 Base (bS t4 R):=aq.cut cm eg h ok_t4 run_t4
theorem hook_w4 {R:Hook}(h:aq Tryz.prog 9 Base R):aq Tryz.prog 9 Base (bS w4 R):=aq.cut cm eg h ok_w4 run_w4
theorem hook_t5 {R:Hook}(h:aq Tryz.prog 9 Base R):aq Tryz.prog 9 Base (bS t5 R):=aq.cut cm eg h ok_t5 run_t5
theorem hook_f5 {R:Hook}(h:aq Tryz.prog 9 Base R):aq Tryz.prog 9 Base (bS f5 R):=aq.cut cm eg h ok_f5 run_f5
theorem Bt:sL Tryz.prog (bS f5 (bS t5 (bS w4 (bS t4 (bS f3 (bS t3 (bS f2 (bS t2 (bS f1 (bS t1 hkI)))))))))) 4 [] 16 1000000 (.bool true)=true:=by kernel_rfl
theorem known:yW Tryz.prog Base 4 [] (.bool true):=
 answers Bt (hook_f5 (hook_t5 (hook_w4 (hook_t4 (hook_f3 (hook_t3 (hook_f2 (hook_t2 (hook_f1 (hook_t1 eg)))))))))) cm (by rw[bF];decide) (by rw[bF];decide) (by kernel_rfl) (by kernel_rfl) (fun _=>rfl) rfl
end Go.Proofs.K9
end
