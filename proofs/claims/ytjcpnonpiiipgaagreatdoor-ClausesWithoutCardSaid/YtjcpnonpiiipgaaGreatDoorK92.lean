/-
  A map's keys, handed on one by one: the two iterators that known() meets, whatever the box's place. Own text.
-/
import Derived.Shelf.SlIterI.Sorted
import Derived.Test.YtjcpnonpiiipgaaGreatDoorProg
import Derived.KernelRfl
import Derived.Test.YtjcpnonpiiipgaaGreatDoorK91
import Derived.Lib.SlKeysI
import Derived.Below
import Derived.Shelf.SortM.Plain
import Derived.Shelf.SortM.SortNone
import Derived.Ground.GgzProg
import Derived.Ground.SlgmProg
import Derived.WalkKit
import Derived.Shelf.Abstract
import Derived.Shelf.SlicesG.Delete
import Derived.Laws.Entries
import Derived.Shelf.Strings.Count
import Derived.Ground.NamesProg
set_option linter.all false
namespace Go.Proofs.Sk
open Go.RowKit Go.Maps Go.Sort Go.Shelf
set_option maxRecDepth 100000 in
set_option maxHeartbeats 1000000 in
theorem keys99 {H:Type}(n:Nat)(hn:1≤n)(l Bm off b nn:Nat)(D0:DataW H){R:Value→Option (DataW H×List MemPlace)}(J:List Int→World→Prop)
  (hY:∀ pre x W,J pre W→pre.length<Maps.size D0→YieldAt Fence.wide (n-1) Tryz.prog l #[encZ x] W fun e W'=>e=.returned (.bool true)∧J (pre++[x]) W'∧KeepsWalks W W')
  (W:World)(hJ:AbidesFrom W.heap.size J)(hm:W.cell? ⟨Bm,off,none⟩=some (.map (some b)))(hown:W.ownsMap Tryz.prog 2 R b nn D0)(h0:J [] W) :
  CallsIn Fence.wide n Tryz.prog 99 #[.func (.yield l) #[] #[],.pointer (some ⟨Bm,off,none⟩)] W fun e W'=>(∃ v,e=.returned v)∧∃ ss:List Int,ss.Perm (intKeys D0)∧J ss W':=by
 have t2:=Tryz.underlying2
 refine callsIn_of_wp Tryz.func99 rfl trivial ?_ rfl
 simp only[Tryz.ntmps99,List.size_toArray,List.length_cons,List.length_nil,Nat.reduceAdd,Nat.reduceSub,Array.replicate_succ,Array.replicate_zero,List.push_toArray,List.append_toArray,List.nil_append,List.cons_append]
 gi_wp2_with (first
  |(gi_at_range;refine wpListIn_range_own _ rfl _ 94 rfl 2 101 (int_keyed t2) Tryz.underlying94 _ b nn _ rfl hown ?_;intro w0 hrg0 hg0 hs0)
  |gi_in)
 go_frame
 gi_loopw [3] (fun _ wr=>∃ (left:Lit→Bool)(cnt:Nat)(ss:List Int),wr.ranges Tryz.prog 2 R b W.heap.size nn D0 left cnt∧ss.length+cnt≤Maps.size D0∧CollectedI D0 left ss∧J ss wr)
  (fun _ wr=>wr.rangeLeft b W.heap.size)
 case atStart=>exact⟨_,_,[],hrg0,by simp,CollectedI.start D0,hJ [] W w0 none h0 hg0 (fun r e=>by cases e)⟩
 case round=>
  obtain⟨left,cnt,ss,hrg,hcs,hC,hJs⟩:=hrel
  gi_wp2_with (first
   |(gi_at_next;refine wpListIn_next_ranges _ rfl _ rfl 2 (int_keyed t2) R encZ id (fun key kl hk=>by obtain⟨x,hx,_⟩:=Maps.keyOf_i64 t2 hk;exact⟨x,hx⟩) (fun v _ _=>⟨v,rfl⟩) b W.heap.size nn _ _ _ rfl hrg ?_ ?_)
   |gi_in)
  ·intro hc0 hl0
   gi_wp2
   go_end0
   exact⟨⟨_,rfl⟩,ss,hC.perm hown (int_keyed t2) t2 hl0,hJs⟩
  ·intro x c kl yd yp w2 cnt2 hkey hlk hv hat hrg2 hlt hg2 hs2 hen
   obtain⟨x',ex,rfl,_⟩:=Maps.keyOf_i64 t2 hkey
   obtain rfl:x=x':=encZ_inj ex
   have hJ2:J ss w2:=hJ ss wr w2 (some W.heap.size) hJs hg2 (fun r e=>by cases e;exact⟨Nat.le_refl _,hrg.iter_walk⟩)
   obtain⟨fn,tmps,assign,body,hy,hR⟩:=hY ss x w2 hJ2 (by omega)
   clear hs2
   gi_wp2
   refine hR.mono ?_
   rintro e W3 ⟨rfl,hJ3,hk3⟩
   gi_wp2
   have hrg3:=hrg2.of_walks hk3
   go_roundw
   case rel=>exact⟨_,cnt2,ss++[x],hrg3,by simp;omega,hC.step hlk hat,hJ3⟩
   case measure=>rw[hrg3.left_eq,hrg.left_eq];exact hlt
set_option maxRecDepth 100000 in
set_option maxHeartbeats 1000000 in
theorem keys100 {H:Type}(n:Nat)(hn:1≤n)(l Bm off b nn:Nat)(D0:DataW H){R:Value→Option (DataW H×List MemPlace)}(J:List Int→World→Prop)
  (hY:∀ pre x W,J pre W→pre.length<Maps.size D0→YieldAt Fence.wide (n-1) Tryz.prog l #[encZ x] W fun e W'=>e=.returned (.bool true)∧J (pre++[x]) W'∧KeepsWalks W W')
  (W:World)(hJ:AbidesFrom W.heap.size J)(hm:W.cell? ⟨Bm,off,none⟩=some (.map (some b)))(hown:W.ownsMap Tryz.prog 2 R b nn D0)(h0:J [] W) :
  CallsIn Fence.wide n Tryz.prog 100 #[.func (.yield l) #[] #[],.pointer (some ⟨Bm,off,none⟩)] W fun e W'=>(∃ v,e=.returned v)∧∃ ss:List Int,ss.Perm (intKeys D0)∧J ss W':=by
 have t2:=Tryz.underlying2
 refine callsIn_of_wp Tryz.func100 rfl trivial ?_ rfl
 simp only[Tryz.ntmps100,List.size_toArray,List.length_cons,List.length_nil,Nat.reduceAdd,Nat.reduceSub,Array.replicate_succ,Array.replicate_zero,List.push_toArray,List.append_toArray,List.nil_append,List.cons_append]
 gi_wp2_with (first
  |(gi_at_range;refine wpListIn_range_own _ rfl _ 95 rfl 2 104 (int_keyed t2) Tryz.underlying95 _ b nn _ rfl hown ?_;intro w0 hrg0 hg0 hs0)
  |gi_in)
 go_frame
 gi_loopw [3] (fun _ wr=>∃ (left:Lit→Bool)(cnt:Nat)(ss:List Int),wr.ranges Tryz.prog 2 R b W.heap.size nn D0 left cnt∧ss.length+cnt≤Maps.size D0∧CollectedI D0 left ss∧J ss wr)
  (fun _ wr=>wr.rangeLeft b W.heap.size)
 case atStart=>exact⟨_,_,[],hrg0,by simp,CollectedI.start D0,hJ [] W w0 none h0 hg0 (fun r e=>by cases e)⟩
 case round=>
  obtain⟨left,cnt,ss,hrg,hcs,hC,hJs⟩:=hrel
  gi_wp2_with (first
   |(gi_at_next;refine wpListIn_next_ranges _ rfl _ rfl 2 (int_keyed t2) R encZ id (fun key kl hk=>by obtain⟨x,hx,_⟩:=Maps.keyOf_i64 t2 hk;exact⟨x,hx⟩) (fun v _ _=>⟨v,rfl⟩) b W.heap.size nn _ _ _ rfl hrg ?_ ?_)
   |gi_in)
  ·intro hc0 hl0
   gi_wp2
   go_end0
   exact⟨⟨_,rfl⟩,ss,hC.perm hown (int_keyed t2) t2 hl0,hJs⟩
  ·intro x c kl yd yp w2 cnt2 hkey hlk hv hat hrg2 hlt hg2 hs2 hen
   obtain⟨x',ex,rfl,_⟩:=Maps.keyOf_i64 t2 hkey
   obtain rfl:x=x':=encZ_inj ex
   have hJ2:J ss w2:=hJ ss wr w2 (some W.heap.size) hJs hg2 (fun r e=>by cases e;exact⟨Nat.le_refl _,hrg.iter_walk⟩)
   obtain⟨fn,tmps,assign,body,hy,hR⟩:=hY ss x w2 hJ2 (by omega)
   clear hs2
   gi_wp2
   refine hR.mono ?_
   rintro e W3 ⟨rfl,hJ3,hk3⟩
   gi_wp2
   have hrg3:=hrg2.of_walks hk3
   go_roundw
   case rel=>exact⟨_,cnt2,ss++[x],hrg3,by simp;omega,hC.step hlk hat,hJ3⟩
   case measure=>rw[hrg3.left_eq,hrg.left_eq];exact hlt
end Go.Proofs.Sk

namespace Go.Exo
section
variable [Sx] [Dc]{w0:Bs}{E:Env}{H:T AObj}{nx:Nat}{w:World}
theorem WR.madeAt (h:WR w0 E H nx w){l:Nat}(hl:E l=none)(hlt:l<nx){g:Nat}(hg:g<w.heap.size)(hno:∀ k p,E k=some p→p.blk≠g)(hfz:∀ k p,E k=some p→∀ o v,p.ob.fz g o≠some v)(hold:¬ w0.old g)
  (size:Nat)(hc:clsOf (getH H l)=0)(hk:isCls (getH H l)=false)(hor:OR (E.set l ⟨g,0,size,undef,noOb,[]⟩) H l ⟨g,0,size,undef,noOb,[]⟩ w.heap[g]? (getH H l)) :
  WR w0 (E.set l ⟨g,0,size,undef,noOb,[]⟩) H nx w:=by
 have hle:E.le (E.set l ⟨g,0,size,undef,noOb,[]⟩):=Env.le_set _ hl
 have hcn:∀ k,clsOf (getH H k)≠0→clsOf (getH H k)≠l:=fun k hc0 e=>by
  obtain⟨a,b,m,h1,_⟩:=h.cls k hc0
  rw[e] at h1;rw[h1] at hk;cases hk
 have hE:∀ k p,(E.set l ⟨g,0,size,undef,noOb,[]⟩) k=some p→(k=l∧p=⟨g,0,size,undef,noOb,[]⟩)∨(k≠l∧E k=some p):=by
  intro k p hp
  by_cases e:k=l
  ·subst e;rw[Env.set_self] at hp;cases hp;exact .inl ⟨rfl,rfl⟩
  ·rw[Env.set_other _ _ _ _ e] at hp;exact .inr ⟨e,hp⟩
 refine⟨?_,?_,?_,?_,?_,h.old,h.size,h.os,h.output,h.tape,h.le.trans hle,?_,h.dec,fun l p hl b o v hf ho=>?_⟩
 ·intro k p hp
  rcases hE k p hp with⟨rfl,rfl⟩|⟨hne,hp⟩
  ·exact hor
  ·exact (h.objs k p hp).trans hle fun _ ho=>ho
 ·intro k hkx
  have:=h.fresh k hkx
  exact⟨by rw[Env.set_other _ _ _ _ (by omega)];exact this.1,this.2⟩
 ·intro k k' p p' hne hp hp' hb
  rcases hE k p hp with⟨e1,e2⟩|⟨hn1,g1⟩<;>rcases hE k' p' hp' with⟨e3,e4⟩|⟨hn2,g2⟩
  ·exact absurd (e1.trans e3.symm) hne
  ·rw[e2] at hb;exact absurd hb.symm (hno k' p' g2)
  ·rw[e4] at hb;exact absurd hb (hno k p g1)
  ·exact h.sep k k' p p' hne g1 g2 hb
 ·intro k hc0
  obtain⟨a,b,m,h1,h2,h3⟩:=h.cls k hc0
  exact⟨a,b,m,h1,h2,by rw[Env.set_other _ _ _ _ (hcn k hc0)];exact h3⟩
 ·intro k p hp
  rcases hE k p hp with⟨rfl,rfl⟩|⟨hne,hp⟩
  ·exact⟨hg,.inr (.inr hold)⟩
  ·exact h.own k p hp
 ·intro k p hp b off v hf
  rcases hE k p hp with⟨rfl,rfl⟩|⟨hne,hp2⟩
  ·cases hf
  ·
   obtain⟨h1,h2⟩:=h.dat k p hp2 b off v hf
   refine⟨h1,fun l' p' hl' hb'=>?_⟩
   rcases hE l' p' hl' with⟨_,e2⟩|⟨hne',hl'⟩
   ·rw[e2] at hb';simp only at hb';subst hb';exact absurd hf (hfz k p hp2 off v)
   ·exact h2 l' p' hl' hb'
 ·rcases hE l p hl with⟨rfl,rfl⟩|⟨_,hl⟩
  ·cases hf
  ·exact h.fzo l p hl b o v hf ho
theorem WR.newList (h:WR w0 E H nx w){w':World}(he:Ext w w'){g cap:Nat}{c:Array Value}{e:TypeId}(hg:w.heap.size≤g)(hgb:w'.heap[g]? = some (.cells c e (0,0)))(hcs:c.size=cap){vs:List V}{xs:List Value}(hvs:∀ E',VRs E' vs xs)
  (hlen:vs.length≤cap)(htk:c.toList.take vs.length=xs) :
  ∃ E',E.le E'∧VR E' (.slice nx 0 vs.length none 1) (.slice (some ⟨g,0,none⟩) vs.length cap)∧WR w0 E' (put .no H nx (.cells (putL .bad vs 0 .e) vs.length e 0 0 0 false)) (nx+1) w'∧
   Keep E E' H (put .no H nx (.cells (putL .bad vs 0 .e) vs.length e 0 0 0 false)) nx:=by
 have hno:=h.fresh nx (Nat.le_refl _)
 have hself:getH (put .no H nx (.cells (putL .bad vs 0 .e) vs.length e 0 0 0 false)) nx=.cells (putL .bad vs 0 .e) vs.length e 0 0 0 false:=by rw[getH_put,if_pos rfl]
 have h1:=(h.grow he).lazy (.cells (putL .bad vs 0 .e) vs.length e 0 0 0 false) rfl
 have hlt:g<w'.heap.size:=(Array.getElem?_eq_some_iff.1 hgb).1
 have hw:=h1.madeAt (l:=nx) (g:=g) hno.1 (Nat.lt_succ_self _) hlt (fun k p hp e=>by have:=(h.own k p hp).1;omega) (fun k p hp o v hv=>by have:=cell_lt (h.dat k p hp g o v hv).1;omega) (fun ho=>by have:=h.lt_old ho;omega)
  cap (by rw[hself];rfl) (by rw[hself];rfl) (by
   rw[hself,hgb]
   refine⟨c,(0,0),rfl,by rw[hcs];simp,hlen,rfl,fun i hi _=>?_⟩
   have hv:=hvs (E.set nx ⟨g,0,cap,undef,noOb,[]⟩)
   obtain⟨x,hx,hr⟩:=hv.get i vs[i] (List.getElem?_eq_getElem hi)
   refine⟨x,?_,?_⟩
   ·rw[← htk,List.getElem?_take_of_lt hi,Array.getElem?_toList] at hx
    simpa using hx
   ·rw[putL_get,if_pos (Nat.zero_le _),Nat.sub_zero,List.getElem?_eq_getElem hi];exact hr)
 refine⟨_,Env.le_set _ hno.1,?_,hw,fun l hl hEl _=>⟨by rw[Env.set_other _ _ _ _ (by omega)];exact hEl,by rw[getH_put,if_neg (by omega)]⟩⟩
 exact .slice nx 0 vs.length none 1 ⟨g,0,cap,undef,noOb,[]⟩ cap (Env.set_self _ _ _) hlen (by simp) (fun k hk=>by cases hk)
end
end Go.Exo

namespace Go.Exo
open Go.Maps Go.WideElems Go.RowKit Go.MapKept
variable [Sx] [Dc]
def SortedKeys (P:Program)(fn g:Nat)(et:TypeId):Prop:=
 ∀ (Bm off b nn:Nat)(D0:DataW Unit)(R:Value→Option (DataW Unit×List MemPlace))(w:World),Bm<w.heap.size→w.cell? ⟨Bm,off,none⟩=some (.map (some b))→w.ownsMap P et R b nn D0→Maps.size D0≤1000→
  Calls P fn #[.func (.func g) #[] #[.pointer (some ⟨Bm,off,none⟩)]] w fun e w'=>∃ (v:Value)(ss:List Int),e=.returned v∧ss.Perm (intKeys D0)∧w'.ownsRow w.heap.size et 1 v ss.length ((ss.mergeSort leI).map encZ)∧(v=.slice none 0 0↔ss=[])∧Below w.heap.size w w'
theorem keysI_ok {E:Env}:∀ {es:List (V×V×Nat)}{ks:List Int}{es':List MapEntry},keysI es=some ks→ERs E es es'→es'.map (·.key)=ks.map encZ
 |[],ks,es',h,he=>by
  cases es' with
  |nil=>simp only[keysI,Option.some.injEq] at h;subst h;rfl
  |cons _ _=>exact he.elim
 |(k,v,b)::r,ks,es',h,he=>by
  cases es' with
  |nil=>exact he.elim
  |cons e es'=>
   obtain⟨h1,_,_,h4⟩:=he
   unfold keysI at h
   split at h
   ·rename_i heq;cases heq
   ·rename_i n v' b' r' heq
    simp only[List.cons.injEq,Prod.mk.injEq] at heq
    obtain⟨⟨rfl,rfl,rfl⟩,rfl⟩:=heq
    cases hr:keysI r with
    |none=>rw[hr] at h;cases h
    |some l=>
     rw[hr] at h;simp only[Option.some.injEq] at h;subst h
     have ih:=keysI_ok hr h4
     have e1:e.key=encZ n:=by
      generalize e.key=x at h1
      cases h1;rfl
     simp only[List.map_cons,ih,e1]
   ·cases h
theorem bornsB_ok {E:Env}{clock:Nat}:∀ {es:List (V×V×Nat)}{lo:Nat}{es':List MapEntry},bornsB lo es clock=true→ERs E es es'→lo≤clock∧(∀ x∈es',lo≤x.born∧x.born<clock)∧(es'.map (·.born)).Nodup
 |[],lo,es',h,he=>by
  cases es' with
  |nil=>exact⟨Nat.le_of_ble_eq_true h,(fun _ h=>by cases h),List.nodup_nil⟩
  |cons _ _=>exact he.elim
 |(k,v,b)::r,lo,es',h,he=>by
  cases es' with
  |nil=>exact he.elim
  |cons e es'=>
   obtain⟨_,_,h3,h4⟩:=he
   simp only[bornsB,Bool.and_eq_true] at h
   have hlo:=Nat.le_of_ble_eq_true h.1
   obtain⟨i1,i2,i3⟩:=bornsB_ok h.2 h4
   refine⟨by omega,fun x hx=>?_,?_⟩
   ·cases hx with
    |head=>rw[h3];exact⟨hlo,i1⟩
    |tail _ hx=>have:=i2 x hx;omega
   ·rw[List.map_cons,List.nodup_cons]
    refine⟨fun hm=>?_,i3⟩
    obtain⟨x,hx,hxe⟩:=List.mem_map.1 hm
    have:=(i2 x hx).1
    rw[h3] at hxe;omega
theorem risesI_ok:∀ {ks:List Int}{lo:Int},risesI lo ks=true→(∀ n∈ks,lo<n∧n<9223372036854775808)∧ks.Pairwise (· < ·)
 |[],lo,_=>⟨(fun _ h=>by cases h),List.Pairwise.nil⟩
 |n::r,lo,h=>by
  simp only[risesI,Bool.and_eq_true] at h
  have h1:lo<n:=by simpa[ltF_eq] using h.1
  obtain⟨i1,i2⟩:=risesI_ok h.2
  have hn:n<9223372036854775808:=by
   clear i1 i2 h1
   have:∀ (r:List Int)(n:Int),risesI n r=true→n<9223372036854775808:=by
    intro r
    induction r with
    |nil=>intro n h;simpa[risesI,ltF_eq] using h
    |cons m r ih=>intro n h;simp only[risesI,Bool.and_eq_true] at h;have a:=ih m h.2;have b:n<m:=(by simpa[risesI,ltF_eq] using h.1);omega
   exact this r n h.2
  refine⟨fun x hx=>?_,List.pairwise_cons.2 ⟨fun x hx=>(i1 x hx).1,i2⟩⟩
  cases hx with
  |head=>exact⟨h1,hn⟩
  |tail _ hx=>have:=i1 x hx;omega
theorem insert_perm {H:Type}(x:Lit×DataW H):∀ (l:List (Lit×DataW H)),(DataW.insert x l).Perm (x::l)
 |[]=>List.Perm.refl _
 |y::r=>by
  unfold DataW.insert
  split
  ·exact List.Perm.refl _
  ·exact ((insert_perm x r).cons y).trans (List.Perm.swap x y r)
theorem inserts_perm {H:Type}:∀ (l:List (Lit×DataW H)),(l.foldr DataW.insert []).Perm l
 |[]=>List.Perm.refl _
 |x::r=>(insert_perm x _).trans ((inserts_perm r).cons x)
theorem ownsMap_of {P:Program}{et:TypeId}(ht:P.underlying et=some (.int .i64)){w:World}{b clock:Nat}{es':Array MapEntry}{ks:List Int}(hb:w.heap[b]? = some (.map es' clock))(hk:es'.toList.map (·.key)=ks.map encZ)
  (hst:(∀ x∈es'.toList,x.born<clock)∧(es'.toList.map (·.born)).Nodup)(hr:∀ n∈ks,-9223372036854775809<n∧n<9223372036854775808)(hp:ks.Pairwise (· < ·))(hl:ks.length≤1000) :
  ∃ D0:DataW Unit,w.ownsMap P et (fun _=>some (.nil,[])) b es'.size D0∧(intKeys D0).Perm ks∧Maps.size D0≤1000:=by
 have hlen:es'.size=ks.length:=by
  have:=congrArg List.length hk
  simpa using this
 have hkey:∀ n∈ks,keyOf P et (encZ n)=some (.int .i64 n):=fun n hn=>by
  have hw:(Lit.int .i64 n).wf=true:=by
   have:=hr n hn
   have h1:IntKind.i64.min = -9223372036854775808:=rfl
   have h2:IntKind.i64.max=9223372036854775807:=rfl
   simp only[Lit.wf,Bool.and_eq_true,decide_eq_true_eq]
   omega
  simp[keyOf,ht,mapKey,hw]
 have hkx:∀ x∈es'.toList,∃ n∈ks,x.key=encZ n:=fun x hx=>by
  have:x.key∈ks.map encZ:=by rw[← hk];exact List.mem_map.2 ⟨x,hx,rfl⟩
  obtain⟨n,h1,h2⟩:=List.mem_map.1 this
  exact⟨n,h1,h2.symm⟩
 have hrd:∀ x∈es'.toList,∀ n,n∈ks→x.key=encZ n→rd (H:=Unit) P et (fun _=>some (.nil,[])) x=some (.int .i64 n,.nil):=fun x hx n hn e=>by
  unfold rd
  rw[e,hkey n hn];rfl
 have hrg:∀ (es:List MapEntry)(l:List Int),(∀ x∈es,x∈es'.toList)→(∀ n∈l,n∈ks)→es.map (·.key)=l.map encZ→(es.map (rg (H:=Unit) P et (fun _=>some (.nil,[])))).map (fun p=>intOf p.1)=l:=by
  intro es
  induction es with
  |nil=>intro l _ _ h;cases l with|nil=>rfl|cons _ _=>cases h
  |cons x r ih=>
   intro l h1 h2 h
   cases l with
   |nil=>cases h
   |cons n l=>
    simp only[List.map_cons,List.cons.injEq] at h
    have e:=hrd x (h1 x (List.mem_cons_self ..)) n (h2 n (List.mem_cons_self ..)) h.1
    rw[List.map_cons,List.map_cons,ih l (fun y hy=>h1 y (List.mem_cons_of_mem _ hy)) (fun y hy=>h2 y (List.mem_cons_of_mem _ hy)) h.2]
    congr 1
    unfold rg;rw[e];rfl
 have hF:Fit P et (fun _=>some ((.nil:DataW Unit),[])) es' clock:=by
  refine⟨?_,⟨hst.1,hst.2,?_⟩,fun x hx=>?_⟩
  ·have:(1000:Nat)≤maxLen:=by unfold maxLen;omega
   omega
  ·rw[hk]
   exact List.Pairwise.map _ (fun a b hab e=>by have:=encZ_inj e;omega) hp
  ·obtain⟨n,h1,h2⟩:=hkx x hx
   exact⟨_,hrd x hx n h1 h2⟩
 refine⟨_,⟨es',clock,hb,hF,Nat.le_refl _,rfl⟩,?_,?_⟩
 ·have h1:=(inserts_perm (es'.toList.map (rg (H:=Unit) P et (fun _=>some (.nil,[]))))).map (fun p=>intOf p.1)
  rw[hrg es'.toList ks (fun _ h=>h) (fun _ h=>h) hk] at h1
  exact h1
 ·show (List.foldr DataW.insert [] _).length≤1000
  rw[(inserts_perm _).length_eq,List.length_map,Array.length_toList]
  omega
theorem mergeSort_rises {ks:List Int}(hp:ks.Pairwise (· < ·)):ks.mergeSort leI=ks:=by
 refine List.mergeSort_of_pairwise (hp.imp fun {a b} h=>?_)
 simp only[leI,decide_eq_true_eq];omega
theorem VRs.ints (E:Env):∀ (ks:List Int),VRs E (ks.map (V.int .i64)) (ks.map encZ)
 |[]=>.nil
 |n::r=>.cons _ _ _ _ (.int .i64 n) (VRs.ints E r)
variable [Tb]
theorem Hooks.sorted {P:Program}{k:Nat}{G:World→Prop}{fn:Nat}{its:List Nat}{et:TypeId}(ht:P.underlying et=some (.int .i64))(hS:∀ g∈its,SortedKeys P fn g et):Hooks P k G (hkSorted fn its et):=by
 intro w0 hw0 E H nx w f args xs v H' nx' hwr hgl hxs hh
 unfold hkSorted at hh
 cases hf:Nat.beq f fn with
 |false=>rw[hf] at hh;cases hh
 |true=>
  rw[hf] at hh
  have e:=Nat.eq_of_beq_eq_true hf
  subst e
  simp only[cond_true] at hh
  split at hh
  ·rename_i g l
   cases hg:its.any (Nat.beq g) with
   |false=>rw[hg] at hh;cases hh
   |true=>
    rw[hg] at hh;simp only[cond_true] at hh
    obtain⟨g',hg1,hg2⟩:=List.any_eq_true.1 hg
    have e:=Nat.eq_of_beq_eq_true hg2
    subst e
    split at hh
    ·rename_i vs len elem cls rel fz ro hob
     cases hc:(Nat.beq cls 0&&Nat.ble 1 len) with
     |false=>rw[hc] at hh;cases hh
     |true=>
      rw[hc] at hh;simp only[cond_true] at hh
      simp only[Bool.and_eq_true] at hc
      have hcls:=Nat.eq_of_beq_eq_true hc.1
      have hlen:=Nat.le_of_ble_eq_true hc.2
      subst hcls
      split at hh
      ·rename_i m hm
       split at hh
       ·rename_i es clock hmap
        cases hk:keysI es with
        |none=>rw[hk] at hh;cases hh
        |some ks=>
         rw[hk] at hh;simp only at hh
         cases hok:(risesI (-9223372036854775809) ks&&bornsB 0 es clock&&Nat.ble ks.length 1000) with
         |false=>rw[hok] at hh;cases hh
         |true=>
          rw[hok] at hh;simp only[cond_true] at hh
          simp only[Bool.and_eq_true] at hok
          obtain⟨r1,r2⟩:=risesI_ok hok.1.1
          have hl:=Nat.le_of_ble_eq_true hok.2
          cases hxs with
          |cons _ x _ ys h1 h2=>
          cases h2
          cases h1 with
          |func _ fn' _ _ a c hfn ha hcc=>
          cases ha
          cases hcc with
          |cons _ y _ zs h3 h4=>
          cases h4
          cases h3 with
          |ptr _ _ p hp=>
          have hfn2:fn'=.func g:=by
           cases fn'<;>first|exact hfn.elim|skip
           all_goals first|(have:=hfn;simp only[FnR] at this;rw[this])|exact (by simpa[FnR] using hfn)
          subst hfn2
          have hobj:=hwr.objs l p hp
          rw[hob] at hobj
          obtain⟨c,fr,hb1,hb2,_,_,hb5⟩:=hobj
          obtain⟨z,hz1,hz2⟩:=hb5 0 (by omega) (.inl rfl)
          rw[hm] at hz2
          cases hz2 with
          |map _ q hq=>
          have hobj2:=hwr.objs m q hq
          rw[hmap] at hobj2
          obtain⟨es',hm1,hm2⟩:=hobj2
          obtain⟨_,b2,b3⟩:=bornsB_ok hok.1.2 hm2
          obtain⟨D0,d1,d2,d3⟩:=ownsMap_of (P:=P) ht hm1 (keysI_ok hk hm2) ⟨fun x hx=>(b2 x hx).2,b3⟩ r1 r2 hl
          have hcell:w.cell? ⟨p.blk,p.base+0,none⟩=some (.map (some q.blk)):=by
           unfold World.cell?
           simp only[hb1]
           simpa using hz1
          refine (hS g hg1 p.blk (p.base+0) q.blk es'.size D0 _ w (hwr.own l p hp).1 hcell d1 d3).mono fun e w' ⟨v1,ss,he,hperm,hrow,hnil,hbel⟩=>?_
          subst he
          have hss:ss.mergeSort leI=ks:=(mergeSort_of_perm_i (hperm.trans d2)).trans (mergeSort_rises r2)
          have hsl:ss.length=ks.length:=(hperm.trans d2).length_eq
          rw[hss] at hrow
          have hext:Ext w w':=⟨hbel.block,hbel.size,hbel.os,hbel.output,hbel.tape⟩
          cases ks with
          |nil=>
           simp only[Option.some.injEq,Prod.mk.injEq] at hh
           obtain⟨rfl,rfl,rfl⟩:=hh
           have hv:=hnil.2 (List.eq_nil_of_length_eq_zero hsl)
           subst hv
           exact .ret ⟨_,E,rfl,Env.le.refl E,.nils,hwr.grow hext,Nat.le_refl _,Keep.refl E H nx⟩
          |cons k0 kr=>
           simp only[ofK_eq,setK_eq,Option.some.injEq,Prod.mk.injEq] at hh
           obtain⟨rfl,rfl,rfl⟩:=hh
           rcases hrow.2 with⟨_,hz⟩|⟨gb,cap,cur,rfl,hbase,hgb,q1,q2,q3,q4⟩
           ·rw[hsl] at hz;cases hz
           ·have hlen2:((k0::kr).map (V.int .i64)).length=ss.length:=by rw[List.length_map];exact hsl.symm
            obtain⟨E',e1,e2,e3,e4⟩:=hwr.newList hext (g:=gb) (cap:=cap) (vs:=(k0::kr).map (V.int .i64)) (xs:=(k0::kr).map encZ) hbase hgb (by rw[q3,Nat.mul_one]) (fun E'=>VRs.ints E' _) (by rw[hlen2];exact q1) (by rw[hlen2];rw[Nat.mul_one] at q4;exact q4)
            rw[hlen2] at e2
            have hn:Nat.succ kr.length=ss.length:=by rw[hsl];rfl
            refine .ret ⟨_,E',rfl,e1,?_,?_,Nat.le_succ _,?_⟩
            ·rw[hn];exact e2
            ·rw[hlen2,← hn] at e3;exact e3
            ·rw[hlen2,← hn] at e4;exact e4
       ·cases hh
      ·cases hh
    ·cases hh
  ·cases hh
end Go.Exo

namespace Go.Proofs
open Go.Shelf
def Tryz.sorted54_ren:Go.Shelf.Ren:=⟨fun|6=>54|8=>97|9=>98|11=>172|13=>174|12=>173|23=>266|24=>267|14=>258|15=>259|16=>260|17=>261|18=>262|19=>263|20=>137|21=>264|22=>265|25=>353|26=>354|27=>355|28=>356|29=>357|30=>181|31=>446|n=>n,fun|26=>2|28=>127|24=>27|0=>0|3=>3|37=>201|48=>376|50=>156|4=>4|40=>370|39=>369|45=>171|5=>5|9=>9|51=>445|55=>449|57=>512|58=>463|33=>184|n=>n,fun|n=>n⟩
theorem Tryz.sorted54:Go.Proofs.SlLaysZI.n6 Tryz.prog Tryz.sorted54_ren:={
 mixed:=by kernel_rfl
 f6:=⟨Tryz.f54.name,by decide,Tryz.func54.trans (congrArg some (by kernel_rfl))⟩
 f8:=⟨Tryz.f97.name,by decide,Tryz.func97.trans (congrArg some (by kernel_rfl))⟩
 f11:=⟨Tryz.f172.name,by decide,Tryz.func172.trans (congrArg some (by kernel_rfl))⟩
 t0:=Tryz.underlying0
 a0:=Tryz.isAgg0
 z0:=Tryz.sizeOf0
 v0:=Tryz.zeroValue0
 t24:=Tryz.underlying27
 a24:=Tryz.isAgg27
 z24:=Tryz.sizeOf27
 v24:=Tryz.zeroValue27
 t26:=Tryz.underlying2
 a26:=Tryz.isAgg2
 z26:=Tryz.sizeOf2
 v26:=Tryz.zeroValue2
 t28:=Tryz.underlying127
 a28:=Tryz.isAgg127
 z28:=Tryz.sizeOf127
 v28:=Tryz.zeroValue127
 i26:=by kernel_rfl }
def Tryz.sort98_ren:Go.Shelf.Ren:=⟨fun|5=>98|8=>174|7=>173|19=>266|20=>267|10=>258|11=>259|12=>260|13=>261|14=>262|15=>263|16=>137|17=>264|18=>265|30=>353|31=>354|32=>355|33=>356|34=>357|35=>181|40=>446|n=>n,fun|23=>27|25=>2|3=>3|32=>201|22=>27|0=>0|44=>376|46=>156|4=>4|36=>370|35=>369|41=>171|5=>5|9=>9|53=>445|57=>449|63=>512|64=>463|n=>n,fun|n=>n⟩
theorem Tryz.sort98:Go.Proofs.SlLaysM.n5 Tryz.prog Tryz.sort98_ren:={
 mixed:=by kernel_rfl
 f5:=⟨Tryz.f98.name,by decide,Tryz.func98.trans (congrArg some (by kernel_rfl))⟩
 f7:=⟨Tryz.f173.name,by decide,Tryz.func173.trans (congrArg some (by kernel_rfl))⟩
 f8:=Tryz.func174.trans (congrArg some (by kernel_rfl))
 f10:=⟨Tryz.f258.name,by decide,Tryz.func258.trans (congrArg some (by kernel_rfl))⟩
 f11:=⟨Tryz.f259.name,by decide,Tryz.func259.trans (congrArg some (by kernel_rfl))⟩
 f12:=⟨Tryz.f260.name,by decide,Tryz.func260.trans (congrArg some (by kernel_rfl))⟩
 f13:=⟨Tryz.f261.name,by decide,Tryz.func261.trans (congrArg some (by kernel_rfl))⟩
 f14:=⟨Tryz.f262.name,by decide,Tryz.func262.trans (congrArg some (by kernel_rfl))⟩
 f15:=⟨Tryz.f263.name,by decide,Tryz.func263.trans (congrArg some (by kernel_rfl))⟩
 f16:=⟨Tryz.f137.name,by decide,Tryz.func137.trans (congrArg some (by kernel_rfl))⟩
 f17:=⟨Tryz.f264.name,by decide,Tryz.func264.trans (congrArg some (by kernel_rfl))⟩
 f18:=⟨Tryz.f265.name,by decide,Tryz.func265.trans (congrArg some (by kernel_rfl))⟩
 f19:=Tryz.func266.trans (congrArg some (by kernel_rfl))
 f20:=Tryz.func267.trans (congrArg some (by kernel_rfl))
 f30:=⟨Tryz.f353.name,by decide,Tryz.func353.trans (congrArg some (by kernel_rfl))⟩
 f31:=Tryz.func354.trans (congrArg some (by kernel_rfl))
 f32:=Tryz.func355.trans (congrArg some (by kernel_rfl))
 f33:=⟨Tryz.f356.name,by decide,Tryz.func356.trans (congrArg some (by kernel_rfl))⟩
 f34:=⟨Tryz.f357.name,by decide,Tryz.func357.trans (congrArg some (by kernel_rfl))⟩
 f35:=⟨Tryz.f181.name,by decide,Tryz.func181.trans (congrArg some (by kernel_rfl))⟩
 f40:=⟨Tryz.f446.name,by decide,Tryz.func446.trans (congrArg some (by kernel_rfl))⟩
 t0:=Tryz.underlying0
 a0:=Tryz.isAgg0
 z0:=Tryz.sizeOf0
 v0:=Tryz.zeroValue0
 t3:=Tryz.underlying3
 a3:=Tryz.isAgg3
 z3:=Tryz.sizeOf3
 v3:=Tryz.zeroValue3
 t4:=Tryz.underlying4
 a4:=Tryz.isAgg4
 z4:=Tryz.sizeOf4
 v4:=Tryz.zeroValue4
 t5:=Tryz.underlying5
 a5:=Tryz.isAgg5
 z5:=Tryz.sizeOf5
 v5:=Tryz.zeroValue5
 t9:=Tryz.underlying9
 a9:=Tryz.isAgg9
 z9:=Tryz.sizeOf9
 v9:=Tryz.zeroValue9
 t22:=Tryz.underlying27
 a22:=Tryz.isAgg27
 z22:=Tryz.sizeOf27
 v22:=Tryz.zeroValue27
 t23:=Tryz.underlying27
 a23:=Tryz.isAgg27
 z23:=Tryz.sizeOf27
 v23:=Tryz.zeroValue27
 t25:=Tryz.underlying2
 a25:=Tryz.isAgg2
 z25:=Tryz.sizeOf2
 v25:=Tryz.zeroValue2
 t32:=Tryz.underlying201
 a32:=Tryz.isAgg201
 z32:=Tryz.sizeOf201
 v32:=Tryz.zeroValue201
 t35:=Tryz.underlying369
 a35:=Tryz.isAgg369
 z35:=Tryz.sizeOf369
 v35:=Tryz.zeroValue369
 t36:=Tryz.underlying370
 a36:=Tryz.isAgg370
 z36:=Tryz.sizeOf370
 v36:=Tryz.zeroValue370
 t41:=Tryz.underlying171
 a41:=Tryz.isAgg171
 z41:=Tryz.sizeOf171
 v41:=Tryz.zeroValue171
 t44:=Tryz.underlying376
 a44:=Tryz.isAgg376
 z44:=Tryz.sizeOf376
 v44:=Tryz.zeroValue376
 t46:=Tryz.underlying156
 a46:=Tryz.isAgg156
 z46:=Tryz.sizeOf156
 v46:=Tryz.zeroValue156
 t53:=Tryz.underlying445
 a53:=Tryz.isAgg445
 z53:=Tryz.sizeOf445
 v53:=Tryz.zeroValue445
 t57:=Tryz.underlying449
 a57:=Tryz.isAgg449
 z57:=Tryz.sizeOf449
 v57:=Tryz.zeroValue449
 t63:=Tryz.underlying512
 a63:=Tryz.isAgg512
 z63:=Tryz.sizeOf512
 v63:=Tryz.zeroValue512
 t64:=Tryz.underlying463
 a64:=Tryz.isAgg463
 z64:=Tryz.sizeOf463
 v64:=Tryz.zeroValue463 }
end Go.Proofs

namespace Go.Proofs.Sk
open Go.Exo Go.RowKit Go.Maps Go.Sort Go.Shelf
theorem sorts54 (m:Nat):AnyZI.SortsIn Tryz.prog Tryz.sorted54_ren Fence.wide m:=
 ⟨fun blk off cap ss W hH hblk hsz=>callsIn_wide.2 (AnyM.slices_Sort_int Tryz.sort98 blk off cap ss W hH hblk hsz),
  fun p cap W=>callsIn_wide.2 (AnyM.slices_Sort_int_none Tryz.sort98 p cap W)⟩
theorem hm1000:(1000:Nat)≤maxLen:=by unfold maxLen;omega
theorem sorted99:SortedKeys Tryz.prog 54 99 2:=fun Bm off b nn D0 R w hlt hm hown hsz=>by
 have hseq:SeqGives Fence.wide 2 Tryz.prog 99 #[.pointer (some ⟨Bm,off,none⟩)] encZ (fun ss=>ss.Perm (intKeys D0)) (Maps.size D0) w:=fun l J W hW hJ hY h0=>by
  have hown':W.ownsMap Tryz.prog 2 R b nn D0:=by
   have hbl:=hown.lt
   obtain⟨es,clock,hb,Ft,hs,hD⟩:=hown
   exact⟨es,clock,(hW.block b hbl).trans hb,Ft,hs,hD⟩
  exact keys99 2 (by omega) l Bm off b nn D0 J hY W hJ ((hW.cell (p:=⟨Bm,off,none⟩) hlt).trans hm) hown' h0
 exact (callsIn_wide (n:=5)).1 (AnyZI.sorted_in Tryz.sorted54 Fence.wide 5 trivial trivial trivial trivial rfl (by omega) (sorts54 _) (enters_of Tryz.func98 (by kernel_rfl) rfl) 99 _ trivial (enters_of Tryz.func99 (by kernel_rfl) rfl) _ _ (Nat.le_trans hsz hm1000) (by omega) w hseq)
theorem sorted100:SortedKeys Tryz.prog 54 100 2:=fun Bm off b nn D0 R w hlt hm hown hsz=>by
 have hseq:SeqGives Fence.wide 2 Tryz.prog 100 #[.pointer (some ⟨Bm,off,none⟩)] encZ (fun ss=>ss.Perm (intKeys D0)) (Maps.size D0) w:=fun l J W hW hJ hY h0=>by
  have hown':W.ownsMap Tryz.prog 2 R b nn D0:=by
   have hbl:=hown.lt
   obtain⟨es,clock,hb,Ft,hs,hD⟩:=hown
   exact⟨es,clock,(hW.block b hbl).trans hb,Ft,hs,hD⟩
  exact keys100 2 (by omega) l Bm off b nn D0 J hY W hJ ((hW.cell (p:=⟨Bm,off,none⟩) hlt).trans hm) hown' h0
 exact (callsIn_wide (n:=5)).1 (AnyZI.sorted_in Tryz.sorted54 Fence.wide 5 trivial trivial trivial trivial rfl (by omega) (sorts54 _) (enters_of Tryz.func98 (by kernel_rfl) rfl) 100 _ trivial (enters_of Tryz.func100 (by kernel_rfl) rfl) _ _ (Nat.le_trans hsz hm1000) (by omega) w hseq)
end Go.Proofs.Sk

namespace Go.Proofs.Sk
open Go.RowKit Go.Lib Go.Sort Go.Shelf
set_option maxRecDepth 100000
set_option maxHeartbeats 1000000 in
theorem del1 (b o c:Nat)(w:World)(hc:1≤c)(hcl0:(w.cell? ⟨b,o,none⟩).isSome=true)(hfz0:w.frozen? ⟨b,o,none⟩=false) :
  Calls Tryz.prog 257 #[.slice (some ⟨b,o,none⟩) 1 c,.int .i64 0,.int .i64 1] w fun e w'=>e=.returned (.slice (some ⟨b,o,none⟩) 0 c)∧w'=w.drew.setCell ⟨b,o,none⟩ (.int .i64 0):=by
 have mixed:Tryz.prog.follows .mixedOrders=true:=by kernel_rfl
 have t22:Tryz.prog.underlying 27=some (.slice 2):=Tryz.underlying27
 obtain⟨i0,hi0,hz0,hz1,hz2⟩:=info_parts (show (Tryz.prog.info? 2).map (fun i=>(i.zero,i.size,i.bytes))=some (some (.int .i64 0),1,8) by kernel_rfl)
 have v23:∀ w,(zeroValue 2).run Tryz.prog w=.ok (.int .i64 0) w:=Tryz.zeroValue2
 obtain⟨A,hA⟩:∃ A:Addr,(if c=1 then some (⟨b,o,none⟩:Addr) else some ⟨b,o+1,none⟩)=some A:=by
  by_cases h:c=1
  ·exact⟨_,by rw[if_pos h]⟩
  ·exact⟨_,by rw[if_neg h]⟩
 have s1:Hid (([]:List Value).length=0*1):=rfl
 have s2:Hid (∀ u∈([]:List Value),u.oneCell'=true):=by intro u hu;cases hu
 have hsrc:Hid (∀ t u,([]:List Value)[t]? = some u→w.drew.cell? (A.add t)=some u):=by intro t u hu;simp at hu
 have s3:Hid (∀ t,t<([]:List Value).length→(w.drew.cell? ⟨b,o+0*1+t,none⟩).isSome=true∧w.drew.frozen? ⟨b,o+0*1+t,none⟩=false):=by intro t ht;simp at ht
 obtain⟨W1,hW1⟩:∃ W1,W1=w.drew.setCells b (o+0*1) []:=⟨_,rfl⟩
 have hW1':W1=w.drew:=hW1
 have hcl:∀ ty,(Builtin.clear_ #[27] ty #[.slice (some ⟨b,o,none⟩) 1 c]).run Tryz.prog W1=.ok (.tuple #[]) (W1.setCells b o (List.replicate 1 (.int .i64 0))):=
  fun ty=>Lib.run_clear_slice W1 _ _ ty _ t22 v23 rfl rfl b o _ _ (by omega) (fun t ht=>by
   rw[hW1',show o+t=o by omega]
   exact hcl0) (fun t ht=>by
   rw[hW1',show o+t=o by omega]
   exact hfz0)
 have X:Aside (W1=w.drew):=hW1'
 have hW:Hid (W1=w.drew.setCells b (o+0*1) []):=hW1
 clear hW1 hW1' hcl0 hfz0
 go_enter Tryz.func257,Tryz.ntmps257
 go_wp2_with fail
 go_region_law_o (refine step_append_room rfl (.tmp 22) (.tmp 25) 27 rfl 2 i0 1 t22 hi0 hz1 b o 0 c (by simp[Act.eval,Act.put]) A 0 (c-1) [] (by simp[Act.eval,Act.put]) s1.out hsrc.out s2.out (by omega) s3.out ?_;rw[← hW.out])
 go_wp2
 go_ret
 exact⟨rfl,by rw[X.out];rfl⟩
end Go.Proofs.Sk

namespace Go.Exo
def Del1 (P:Program)(fn:Nat):Prop:=∀ (b o c:Nat)(w:World),1≤c→(w.cell? ⟨b,o,none⟩).isSome=true→w.frozen? ⟨b,o,none⟩=false→
 Calls P fn #[.slice (some ⟨b,o,none⟩) 1 c,.int .i64 0,.int .i64 1] w fun e w'=>e=.returned (.slice (some ⟨b,o,none⟩) 0 c)∧w'=w.drew.setCell ⟨b,o,none⟩ (.int .i64 0)
theorem storeCells_one {P:Program}{w w1:World}{b o:Nat}{n:Int}(c1:(w.cell? ⟨b,o,none⟩).isSome=true)(c2:w.frozen? ⟨b,o,none⟩=false)(h:(storeCells ⟨b,o,none⟩ [.int .i64 n]).run P w=.ok () w1):w1=w.setCell ⟨b,o,none⟩ (.int .i64 n):=by
 obtain⟨x,hx⟩:=Option.isSome_iff_exists.1 c1
 have e0:(⟨b,o,none⟩:Addr).add 0=⟨b,o,none⟩:=by unfold Addr.add;simp
 simp only[storeCells] at h
 rw[Sem.run_bind,e0,run_store_int] at h
 unfold stored at h
 rw[hx,c2] at h
 simp only[Bool.false_eq_true,if_false] at h
 injection h with _ h
 exact h.symm
theorem wr_len {l off:Nat}{vs:List V}{H:T AObj}{nx:Nat}{v v2:V}{H2:T AObj}{nx2:Nat}(h:wr l off vs H nx v=.valH v2 H2 nx2):∃ cs len elem cls rel fz,getH H l=.cells cs len elem cls rel fz false∧off+vs.length≤len∧fzOk fz off=true:=by
 unfold wr at h
 cases hobj:getH H l<;>rw[hobj] at h<;>simp only at h<;>try (cases h;done)
 rename_i cs len elem cls rel fz ro
 cases ro with
 |true=>cases h
 |false=>
  simp only[cond_false,wrCells] at h
  cases hb:(Nat.ble (Nat.add off vs.length) len&&fzOk fz off&&allOne vs) with
  |false=>rw[hb] at h;cases h
  |true=>
   simp only[Bool.and_eq_true] at hb
   exact⟨_,_,_,_,_,_,rfl,Nat.le_of_ble_eq_true hb.1.1,hb.1.2⟩
variable [Sx] [Dc] [Tb]
theorem Hooks.del1 {P:Program}{k:Nat}{G:World→Prop}{fn:Nat}(hS:Del1 P fn):Hooks P k G (hkDel1 fn):=by
 intro w0 hw0 E H nx w f args xs v H' nx' hwr hgl hxs hh
 unfold hkDel1 at hh
 cases hf:Nat.beq f fn with
 |false=>rw[hf] at hh;cases hh
 |true=>
  rw[hf] at hh
  have e:=Nat.eq_of_beq_eq_true hf
  subst e
  simp only[cond_true] at hh
  split at hh
  ·rename_i l off cap
   cases hxs with
   |cons _ x1 _ ys h1 h2=>
   cases h2 with
   |cons _ x2 _ ys h3 h4=>
   cases h4 with
   |cons _ x3 _ ys h5 h6=>
   cases h6
   cases h3
   cases h5
   cases h1 with
   |slice _ _ _ _ _ p c hp g1 g2 g3=>
   have hw:=wr_ok (P:=P) hwr hp (off:=off) (vs:=[.int .i64 0]) (xs:=[.int .i64 0]) (.cons _ _ _ _ (.int .i64 0) .nil) (v:=undefV) (nx':=nx) rfl
   generalize hwe:wr l off [.int .i64 0] H nx undefV=r at hh hw
   cases r<;>simp only at hh hw<;>first|(cases hh;done)|skip
   rename_i v2 H2 nx2
   simp only[Option.some.injEq,Prod.mk.injEq] at hh
   obtain⟨rfl,rfl,rfl⟩:=hh
   obtain⟨_,_,w1,hrun,hwr1,hkeep⟩:=hw
   obtain⟨cs,len,elem,cls,rel,fz,hob,hle,hfz⟩:=wr_len hwe
   have ho:=hwr.objs l p hp
   rw[hob] at ho
   obtain⟨ar,fr,q1,q2,q3,q4,_⟩:=ho
   have hlt:p.base+off<ar.size:=by simp only[List.length_cons,List.length_nil] at hle;omega
   have c1:(w.cell? ⟨p.blk,p.base+off,none⟩).isSome=true:=by
    unfold World.cell?
    simp only[q1]
    simp[hlt]
   have c2:w.frozen? ⟨p.blk,p.base+off,none⟩=false:=by
    have:=FzR.ok q4 hfz (Nat.le_refl _) hlt
    unfold World.frozen?
    simp only[q1]
    simp only[Bool.and_eq_false_imp,decide_eq_true_eq,decide_eq_false_iff_not]
    exact fun a b=>this ⟨a,b⟩
   have:=storeCells_one c1 c2 hrun
   subst this
   refine (hS p.blk (p.base+off) c w g1 c1 c2).mono fun e w' ⟨he,hw'⟩=>?_
   subst he hw'
   exact .ret ⟨_,E,rfl,Env.le.refl E,.slice _ _ _ _ _ p c hp (Nat.zero_le _) g2 g3,hwr1.draw _,Nat.le_refl _,hkeep⟩
  ·cases hh
end Go.Exo

namespace Go.Exo
theorem cntS_eq {x:Nat}(hx:x<256):∀ (l n:Nat),cntS x l n=(sB l n).count (UInt8.ofNat x)
 |0,_=>rfl
 |l+1,n=>by
  have ih:=cntS_eq hx l (n / 256)
  simp only[cntS,sB,List.count_cons,ih]
  have e:Nat.beq (n % 256) x=(UInt8.ofNat (n % 256)==UInt8.ofNat x):=by
   rw[Bool.eq_iff_iff,Nat.beq_eq,beq_iff_eq]
   constructor
   ·intro h;rw[h]
   ·intro h
    have:=congrArg UInt8.toNat h
    simp at this
    omega
  rw[e]
  cases (UInt8.ofNat (n % 256)==UInt8.ofNat x)<;>simp
variable [Sx] [Dc] [Tb]
theorem Hooks.count {P:Program}{k:Nat}{G:World→Prop}{fn:Nat}(h:∀ (s:ByteArray)(c:UInt8)(w:World),Calls P fn #[.string s,.string ⟨#[c]⟩] w fun e w'=>e=.returned (.int .i64 (s.data.toList.count c))∧w'=w):Hooks P k G (hkCount fn):=by
 intro w0 hw0 E H nx w f args xs v H' nx' hwr hgl hxs hh
 unfold hkCount at hh
 cases hf:Nat.beq f fn with
 |false=>rw[hf] at hh;cases hh
 |true=>
  rw[hf] at hh
  have e:=Nat.eq_of_beq_eq_true hf
  subst e
  simp only[cond_true] at hh
  split at hh
  ·rename_i l n x
   simp only[Option.some.injEq,Prod.mk.injEq] at hh
   obtain⟨rfl,rfl,rfl⟩:=hh
   cases hxs with
   |cons _ X _ _ hX h2=>
   cases h2 with
   |cons _ Y _ _ hY h3=>
   cases h3
   cases hX with
   |str _ _ s hs1 hs2=>
   cases hY with
   |str _ _ t ht1 ht2=>
   have hx:x<256:=by simpa using ht2
   have ht:t=⟨#[UInt8.ofNat x]⟩:=by
    apply ByteArray.ext
    apply Array.ext'
    rw[ht1]
    simp[sB,Nat.mod_eq_of_lt hx]
   subst ht
   refine (h s (UInt8.ofNat x) w).mono fun e w' ⟨h1,h2⟩=>?_
   subst h2
   refine .ret ⟨_,E,h1,Env.le.refl E,?_,hwr,Nat.le_refl _,Keep.refl E H nx⟩
   rw[hs1,← cntS_eq hx]
   exact .int .i64 _
  ·cases hh
end Go.Exo

namespace Go.Proofs
open Go.Shelf
def Tryz.lays138_ren:Go.Shelf.Ren:=⟨fun|138=>615|195=>623|218=>624|143=>448|219=>521|217=>372|225=>565|224=>566|267=>567|266=>462|314=>602|n=>n,fun|9=>9|3=>3|4=>4|5=>5|0=>0|46=>201|146=>615|51=>376|n=>n,fun|1=>2|n=>n⟩
theorem Tryz.lays138:Go.Proofs.Lays.n138 Tryz.prog Tryz.lays138_ren:={
 mixed:=by kernel_rfl
 f138:=Tryz.func615.trans (congrArg some (by kernel_rfl))
 f143:=Tryz.func448.trans (congrArg some (by kernel_rfl))
 f195:=Tryz.func623.trans (congrArg some (by kernel_rfl))
 f217:=Tryz.func372.trans (congrArg some (by kernel_rfl))
 f218:=Tryz.func624.trans (congrArg some (by kernel_rfl))
 f219:=Tryz.func521.trans (congrArg some (by kernel_rfl))
 f224:=Tryz.func566.trans (congrArg some (by kernel_rfl))
 f225:=Tryz.func565.trans (congrArg some (by kernel_rfl))
 f266:=Tryz.func462.trans (congrArg some (by kernel_rfl))
 f267:=Tryz.func567.trans (congrArg some (by kernel_rfl))
 f314:=Tryz.func602.trans (congrArg some (by kernel_rfl))
 t0:=Tryz.underlying0
 a0:=Tryz.isAgg0
 z0:=Tryz.sizeOf0
 v0:=Tryz.zeroValue0
 t3:=Tryz.underlying3
 a3:=Tryz.isAgg3
 z3:=Tryz.sizeOf3
 v3:=Tryz.zeroValue3
 t4:=Tryz.underlying4
 a4:=Tryz.isAgg4
 z4:=Tryz.sizeOf4
 v4:=Tryz.zeroValue4
 t5:=Tryz.underlying5
 a5:=Tryz.isAgg5
 z5:=Tryz.sizeOf5
 v5:=Tryz.zeroValue5
 t9:=Tryz.underlying9
 a9:=Tryz.isAgg9
 z9:=Tryz.sizeOf9
 v9:=Tryz.zeroValue9
 t46:=Tryz.underlying201
 a46:=Tryz.isAgg201
 z46:=Tryz.sizeOf201
 v46:=Tryz.zeroValue201
 t51:=Tryz.underlying376
 a51:=Tryz.isAgg376
 z51:=Tryz.sizeOf376
 v51:=Tryz.zeroValue376
 t146:=Tryz.underlying615
 a146:=Tryz.isAgg615
 z146:=Tryz.sizeOf615
 v146:=Tryz.zeroValue615
 g1:=by kernel_rfl }
end Go.Proofs

namespace Go.Proofs.K9
open Go.Exo
theorem hooksI:Hooks Tryz.prog 9 Base hkI:=Hooks.or hooksI0 (Hooks.or (Hooks.sorted Tryz.underlying2 fun g hg=>by
 simp only[List.mem_cons,List.mem_nil_iff,or_false] at hg
 rcases hg with rfl|rfl
 ·exact Sk.sorted99
 ·exact Sk.sorted100) (Hooks.or (Hooks.del1 fun b o c w h1 h2 h3=>Sk.del1 b o c w h1 h2 h3) (Hooks.count fun s c w=>Any.strings_Count_one Tryz.lays138 s c w)))
end Go.Proofs.K9
