/-
  MatchOrder: the document's rank, by hand. Own text.
-/
import Derived.Test.YtihaakenfdkgnaaGreatDoorPart21
import Derived.Test.YtihaakenfdkgnaaGreatDoorPart19
import Derived.Test.YtihaakenfdkgnaaGreatDoorPart20
import Derived.Maps.AppendAt
import Derived.Sort.LotA
import Derived.Shelf.RegionOpenPlain
import Derived.Deep.QuietTactic
import Derived.BigQuiet
import Derived.BigRegion
import Derived.Deep.LoopGhost
import Derived.Sort.WalkB2
import Derived.Sort.WalkB12
import Derived.Shelf.SlicesE.Kit
set_option linter.all false
noncomputable section
namespace Go.Proofs.Wo
open Go.Exo Go.Exo.Wo Go.RowKit
attribute [local go_sem] Oper.semAt_some
def rkL:List Int:=[5,6,7,4,3,1,2,0]
def rkR (k:Int):Int:=if k=5 then 0 else if k=6 then 1 else if k=7 then 2 else if k=4 then 3 else if k=3 then 4 else if k=1 then 5 else if k=2 then 6 else if k=0 then 7 else -1
theorem rkR_at:∀ (j:Nat)(c:Int),rkL[j]? = some c->rkR c=j
 |0,_,h|1,_,h|2,_,h|3,_,h|4,_,h|5,_,h|6,_,h|7,_,h=>by simp[rkL] at h;subst h;rfl
 |j+8,_,h=>by simp[rkL] at h
theorem rkR_no {k:Int}(h:∀ (m:Nat)(c:Int),rkL[m]? = some c->k≠c):rkR k = -1:=by
 simp only[rkR,h 0 5 rfl,h 1 6 rfl,h 2 7 rfl,h 3 4 rfl,h 4 3 rfl,h 5 1 rfl,h 6 2 rfl,h 7 0 rfl,if_false]
set_option maxHeartbeats 4000000 in
theorem xW (k:Int)(w:World):Calls Tryz.prog 45 #[.int .i64 k] w fun e w'=>e=.returned (.int .i64 (rkR k))/\Below w.heap.size w w':=by
 go_enter Tryz.func45,Tryz.ntmps45;go_wp2;go_loopw [4] (fun i wr=>∃ j:Nat,j<=8/\i=.int .i64 j/\Below w.heap.size w wr/\(∀ m c,rkL[m]? = some c->wr.cell? ⟨w.heap.size,m,none⟩=some (.int .i64 c))/\(∀ m c,m<j->rkL[m]? = some c->k≠c)) (fun i _=>8-(RowKit.intOf i).toNat)
 case atStart=>
  refine⟨0,by omega,rfl,(Below.refl _ _).alloc (am _) _,fun m c h=>?_,fun m c h=>by omega⟩;refine aA (cW w _ _) ?_;rcases m with _|_|_|_|_|_|_|_|m<;>first|(simp[rkL] at h;done)|(simp only[rkL] at h;cases h;rfl)
 case round=>
  obtain⟨j,hj,rfl,hB,hc,hk⟩:=hrel;by_cases hlt:j<8
  ·obtain⟨c,hcL⟩:∃ c,rkL[j]? = some c:=⟨rkL[j],by simp[rkL,hlt]⟩
   have hcj:=hc j c hcL;by_cases hkc:c=k
   ·have hr:=rkR_at j c hcL
    rw[hkc] at hr hcj;have HR:=Go.Lib.hid hr;clear hr hcL hc hk hkc;go_wp2;go_ret;refine⟨?_,hB⟩;show Ending.returned (.int .i64 (j:Int))=_;rw[HR.out]
   ·have HC:=Go.Lib.hid hc
    have HK:=Go.Lib.hid hk;have HL:=Go.Lib.hid hcL;clear hc hk hcL;go_wp2;go_roundw
    case rel=>
     refine⟨j+1,by omega,by go_num,hB,HC.out,fun m c' h e=>?_⟩;by_cases hm:m<j
     ·exact HK.out m c' hm e
     ·obtain rfl:m=j:=by omega
      rw[HL.out] at e;cases e;exact fun e=>hkc e.symm
    case measure=>simp[RowKit.intOf];omega
  ·have HK:Hid (rkR k = -1):=by
    unfold Hid;refine rkR_no fun m c e=>hk m c ?_ e
    have:=(ae.1 e).1;simp[rkL] at this;omega
   clear hk hc;go_wp2;go_ret;refine⟨?_,hB⟩;show Ending.returned (.int .i64 (-1))=_;rw[HK.out]
variable {G:World->Prop}
def rkRF:List Cl->List Cl|[.int k]=>[.int (rkR k)]|_=>[]
theorem rm (k:Int):IntKind.min .i64<=rkR k/\rkR k<=IntKind.max .i64:=by
 unfold rkR
 repeat' split
 all_goals decide
theorem xX:Go.Exo.Spec Tryz.prog G 45 [.one iK] (.one (.one iK)) (fun _=>True) rkRF:=by
 intro w φ args cls hGw hφ ha _;cases ha with
 |one h1 h2=>
  cases h2;cases h1 with
  |int k n g1 g2=>
  refine (xW n w).mono ?_;rintro e w' ⟨rfl,hb⟩;have hx:=fc hb;refine⟨_,φ,rfl,fun b o v h=>h,fun b o v h=>?_,fun b o v h _=>h,hx,?_⟩
  ·have h1:=hφ b o v h
   rw[<- h1];exact World.cell?_of_block (hx.old b (World.block_lt_of_cell? w ⟨b,o,none⟩ h1))
  ·exact .one (.int _ _ (rm _).1 (rm _).2) .nil
theorem rkR_rk {k:Int}(h1:0<=k)(h2:k<=7):rkR k=rk k:=by
 obtain rfl|rfl|rfl|rfl|rfl|rfl|rfl|rfl:k=0\/k=1\/k=2\/k=3\/k=4\/k=5\/k=6\/k=7:=by omega
 all_goals rfl
end Go.Proofs.Wo
end

noncomputable section
namespace Go.Proofs.Wo
open Go.Exo Go.Exo.Wo
theorem bE {a b:Int}:sgn a b=0<->a=b:=by
 unfold sgn;split
 ·constructor
  ·intro h;omega
  ·intro h;omega
 ·split
  ·constructor
   ·intro h;omega
   ·intro h;omega
  ·constructor
   ·intro _;omega
   ·intro _;rfl
theorem tru_zero {a b:Bool}:tru a b=0<->a=b:=by cases a<;>cases b<;>decide
theorem fh:∀ {a b:List UInt8},cmpB a b=0<->a=b
 |[],[]=>by simp[cmpB]
 |[],_::_=>by simp[cmpB]
 |_::_,[]=>by simp[cmpB]
 |a::r,b::s=>by
  have ih:=fh (a:=r) (b:=s);simp only[cmpB];cases h1:Nat.ble (Nat.succ a.toNat) b.toNat with
  |true=>
   have h:=ab h1;simp only[cond_true];constructor
   ·intro e;cases e
   ·intro e;cases e;omega
  |false=>
   simp only[cond_false];cases h2:Nat.ble (Nat.succ b.toNat) a.toNat with
   |true=>
    have h:=ab h2;simp only[cond_true];constructor
    ·intro e;cases e
    ·intro e;cases e;omega
   |false=>
    simp only[cond_false];have h3:¬ (Nat.succ a.toNat<=b.toNat):=fun h=>by rw[an h] at h1;cases h1
    have h4:¬ (Nat.succ b.toNat<=a.toNat):=fun h=>by rw[an h] at h2;cases h2
    have h5:a=b:=UInt8.toNat_inj.1 (by omega);rw[ih,h5];simp
theorem kX {o:List Cl->List Cl->Int}:∀ {A B:List (List Cl)},(∀ a∈A,∀ b∈B,(o a b=0<->nrmR a=nrmR b))->(lsC o A B=0<->az A=az B)
 |[],[],_=>by simp[lsC]
 |[],b::B,_=>by simp[lsC,az]
 |a::A,[],_=>by simp[lsC,az]
 |a::A,b::B,h=>by
  have ih:=kX (o:=o) (A:=A) (B:=B) fun x hx y hy=>h x (.tail _ hx) y (.tail _ hy)
  have h0:=h a (.head _) b (.head _);simp only[lsC,az,List.cons.injEq];split
  ·rename_i e;rw[ih];simp[h0.1 e]
  ·rename_i e;constructor
   ·intro q;exact absurd q e
   ·intro q;exact absurd (h0.2 q.1) e
theorem A2 {a b:List Cl}(ha:Wts [.str] a)(hb:Wts [.str] b):cmpR a b=0<->nrmR a=nrmR b:=by
 obtain⟨_,rfl,h1⟩:=ha.one;obtain⟨_,rfl,h2⟩:=hb.one;obtain⟨s,rfl,-⟩:=h1.str_inv;obtain⟨s',rfl,-⟩:=h2.str_inv;simp only[cmpR,fh,nrmR,nrm,List.cons.injEq,Cl.str.injEq,and_true]
theorem lQ {a b:Int}(h1:0<=a)(h2:a<=7)(h3:0<=b)(h4:b<=7):rk a=rk b<->a=b:=by
 have ha:a=0\/a=1\/a=2\/a=3\/a=4\/a=5\/a=6\/a=7:=by omega
 have hb:b=0\/b=1\/b=2\/b=3\/b=4\/b=5\/b=6\/b=7:=by omega
 rcases ha with rfl|rfl|rfl|rfl|rfl|rfl|rfl|rfl<;>rcases hb with rfl|rfl|rfl|rfl|rfl|rfl|rfl|rfl<;>decide
theorem A3 (u u':List UInt8->Bool):∀ (n:Nat)(a b:List Cl),SizeOf.sizeOf a<n->Wts vK a->Wts vK b->mayR u a=true->mayR u' b=true->(cmpN n a b=0<->nrmR a=nrmR b):=by
 intro n;induction n with
 |zero=>intro a b h;omega
 |succ n ih=>
  intro a b hs ha hb ma mb;obtain⟨k,b0,i,s,nl,ys,ml,rs,rfl,hl,-⟩:=row6 ha;obtain⟨k',b0',i',s',nl',ys',ml',rs',rfl,hl',-⟩:=row6 hb;obtain⟨-,q2,-,q4⟩:=ls2 hl;obtain⟨-,q2',-,q4'⟩:=ls2 hl';rw[dy] at ma mb;simp only[Bool.and_eq_true,decide_eq_true_eq] at ma mb;obtain⟨⟨⟨⟨⟨⟨⟨k1,k2⟩,hbare⟩,_⟩,_⟩,_⟩,_⟩,hkids⟩:=ma;obtain⟨⟨⟨⟨⟨⟨⟨k1',k2'⟩,hbare'⟩,_⟩,_⟩,_⟩,_⟩,hkids'⟩:=mb;have hy:lsC cmpR ys ys'=0<->az ys=az ys':=kX fun x hx y hy=>A2 (q2 x hx) (q2' y hy)
  have hr:lsC (cmpN n) rs rs'=0<->az rs=az rs':=kX fun x hx y hy=>ih x y (by
   have z:=List.sizeOf_lt_of_mem hx
   simp only[List.cons.sizeOf_spec,Cl.sl.sizeOf_spec] at hs
   omega) (q4 x hx) (q4' y hy) (List.all_eq_true.1 hkids x hx) (List.all_eq_true.1 hkids' y hy)
  rw[nrm6];simp only[cmpN];simp only[gm,Bool.and_eq_true,Bool.or_eq_true,beq_iff_eq,Bool.not_eq_true',List.isEmpty_iff] at hbare hbare';obtain⟨⟨⟨⟨c1,c2⟩,c3⟩,c4⟩,c5⟩:=hbare;obtain⟨⟨⟨⟨c1',c2'⟩,c3'⟩,c4'⟩,c5'⟩:=hbare';by_cases hk:k=k'
  ·subst hk
   rw[if_pos (bE.2 rfl)];by_cases h1:k=1
   ·subst h1
    rw[if_pos rfl,tru_zero];have e2:i=0:=by omega
    have e2':i'=0:=by omega
    have e3:s=[]:=by simpa using c3
    have e3':s'=[]:=by simpa using c3'
    have e4:ys=[]:=by simpa using c4
    have e4':ys'=[]:=by simpa using c4'
    have e5:rs=[]:=by simpa using c5
    have e5':rs'=[]:=by simpa using c5'
    simp[e2,e2',e3,e3',e4,e4',e5,e5']
   ·rw[if_neg h1]
    have e1:b0=false:=by simpa[h1] using c1
    have e1':b0'=false:=by simpa[h1] using c1'
    by_cases h3:k=3
    ·subst h3
     rw[if_pos rfl,fh];have e2:i=0:=by omega
     have e2':i'=0:=by omega
     have e4:ys=[]:=by simpa using c4
     have e4':ys'=[]:=by simpa using c4'
     have e5:rs=[]:=by simpa using c5
     have e5':rs'=[]:=by simpa using c5'
     simp[e1,e1',e2,e2',e4,e4',e5,e5']
    ·rw[if_neg h3]
     have e3:s=[]:=by simpa[h3] using c3
     have e3':s'=[]:=by simpa[h3] using c3'
     by_cases hyy:lsC cmpR ys ys'=0
     ·rw[if_pos hyy]
      by_cases hrr:lsC (cmpN n) rs rs'=0
      ·rw[if_pos hrr,bE]
       simp[e1,e1',e3,e3',hy.1 hyy,hr.1 hrr]
      ·rw[if_neg hrr]
       exact⟨fun h=>absurd h hrr,fun h=>absurd (hr.2 h.2.2.2.2.2) hrr⟩
     ·rw[if_neg hyy]
      exact⟨fun h=>absurd h hyy,fun h=>absurd (hy.2 h.2.2.2.2.1) hyy⟩
  ·have h0:¬ sgn (rk k) (rk k')=0:=fun h=>hk ((lQ k1 k2 k1' k2').1 (bE.1 h))
   rw[if_neg h0];simp[h0,hk]
end Go.Proofs.Wo
end

noncomputable section
namespace Go.Proofs.Wo
open Go.Exo Go.Exo.Wo
set_option maxRecDepth 100000
def pg:Ct:=(fun(b:X)(a c d:Kd)=>(⟨bf (outS Tryz.prog tj 9 oN [((.bin .neq b (.var 9 6 a)),false),((.bin .eql b (.int .i64 (1))),false),((.bin .eql b (.int .i64 (3))),false),((.bin .eql b (.int .i64 (5))),true)] 25),[.junk,.junk,.ptr 10 0,.ptr 11 0,.junk,.x b,.junk,.junk,.junk,.junk,.junk,.junk,.junk,.junk,.junk,.junk,.junk,.junk,.junk,.junk,.junk,.junk,.junk,.junk,.junk,.junk,.junk,.junk,.junk,.junk,.junk,.junk,.junk,.junk,.junk,.junk,.junk,.junk,.junk,.junk,.junk,.junk,.junk,.junk,.junk,.junk,.junk,.junk,.junk,.junk,.junk,.junk,.junk,.junk,.junk,.junk,.junk,.junk,.junk,.junk,.junk,.junk,.junk,.junk,.junk,.junk,.junk,.junk,.junk,.junk,.junk,.junk,.junk,.junk,.junk,.junk,.junk,.junk,.junk,.junk,.junk,.junk,.junk,.junk,.junk,.junk,.junk,.junk,.junk,.junk,.junk,.junk,.junk,.junk,.junk,.junk,.junk,.junk,.junk,.junk,.junk,.junk,.junk,.junk,.junk],[some (.cells 29 [.x (.var 9 1 a),.x (.var 9 2 .bool),.x (.var 9 3 a),.x (.var 9 4 .str),.x (.var 9 5 d),.x (.var 9 6 c)] 0 false),some (.cells 29 [.x (.var 9 7 a),.x (.var 9 8 .bool),.x (.var 9 9 a),.x (.var 9 10 .str),.x (.var 9 11 d),.x (.var 9 12 c)] 0 false)],[a,a,.bool,a,.str,d,c,a,.bool,a,.str,d,c]⟩:Ct)) (.var 9 0 (.int .i64)) (.int .i64) (.sl 29) (.sl 9)
def vV:List Ct:=[pg]
def rcmpt:Tr:=(fun(b c d e f g h i j:X)(a:Kd)=>.ask (.bin .neq b e) (.leaf 12 (.ret [] [(.app 9 1 (.cons (.app 9 0 (.cons b .nilA) a) (.cons (.app 9 0 (.cons e .nilA) a) .nilA)) a)])) (.ask (.bin .eql b g) (.ask (.bin .eql f d) (.leaf 21 (.ret [] [h])) (.ask d (.leaf 26 (.ret [] [(.int .i64 (-1))])) (.leaf 27 (.ret [] [g])))) (.ask (.bin .eql b (.int .i64 (3))) (.leaf 21 (.ret [] [(.app 9 2 (.cons i (.cons j .nilA)) a)])) (.ask (.bin .eql b (.int .i64 (5))) (.leaf 25 (.cut 0 [10,11] [h,b,f,(.var 9 2 a),i,(.var 9 4 (.sl 9)),(.var 9 5 (.sl 29)),e,d,(.var 9 8 a),j,(.var 9 10 (.sl 9)),(.var 9 11 (.sl 29))])) (.ask (.bin .eql b (.int .i64 (4))) (.must (.app 9 1000001 c .bool) true <| .leaf 27 (.ret [] [(.app 9 3 c a)])) (.leaf 29 (.ret [] [(.app 9 1 (.cons (.var 9 2 a) (.cons (.var 9 8 a) .nilA)) a)]))))))) (.var 9 0 (.int .i64)) (.cons (.var 9 5 (.sl 29)) (.cons (.var 9 11 (.sl 29)) .nilA)) (.var 9 7 .bool) (.var 9 6 (.int .i64)) (.var 9 1 .bool) (.int .i64 (1)) (.int .i64 (0)) (.var 9 3 .str) (.var 9 9 .str) (.int .i64)
def tI:Tr:=(fun(a c d e f g:X)(b:Kd)=>.ask (.bin .lss e f) (.ask (.bin .lss e g) (.must (.inr e f) true <| .must (.inr e g) true <| .ask (.bin .neq (.el d e 0 .str) (.el c e 0 .str)) (.leaf 14 (.ret [] [(.app 9 2 (.cons (.el d e 0 .str) (.cons (.el c e 0 .str) .nilA)) b)])) (.leaf 14 (.cut 0 [10,11] [(.bin .add e (.int .i64 (1))),(.var 9 1 b),(.var 9 2 .bool),(.var 9 3 b),(.var 9 4 .str),d,(.var 9 6 (.sl 29)),(.var 9 7 b),(.var 9 8 .bool),(.var 9 9 b),(.var 9 10 .str),c,(.var 9 12 (.sl 29))]))) (.ask (.bin .neq f g) (.leaf 13 (.ret [] [(.app 9 1 (.cons f (.cons g .nilA)) b)])) (.must (.app 9 1000001 a .bool) true <| .leaf 14 (.ret [] [(.app 9 3 a b)])))) (.ask (.bin .neq f g) (.leaf 13 (.ret [] [(.app 9 1 (.cons f (.cons g .nilA)) b)])) (.must (.app 9 1000001 a .bool) true <| .leaf 14 (.ret [] [(.app 9 3 a b)])))) (.cons (.var 9 6 (.sl 29)) (.cons (.var 9 12 (.sl 29)) .nilA)) (.var 9 11 (.sl 9)) (.var 9 5 (.sl 9)) (.var 9 0 (.int .i64)) (.len (.var 9 5 (.sl 9))) (.len (.var 9 11 (.sl 9))) (.int .i64)
theorem rcmpt_ok:Pth.allS Tryz.prog tj 9 oN vV (rcmpt.paths []):=
 ⟨Pth.rS,Pth.rS,Pth.rS,Pth.rS,Pth.rS,Pth.cS pg rfl,Pth.rS,Pth.rS,
  trivial⟩
theorem A4:Pth.allC Tryz.prog tj 9 oN vV pg (tI.paths []):=
 ⟨Pth.rC,Pth.cC pg rfl,Pth.rC,Pth.rC,Pth.rC,Pth.rC,
  trivial⟩
variable {k:Nat}{G:World->Prop}
def rcN:Nat->List Cl->List Cl->Int
 |n+1,[.int k,.bool b,.int i,.str s,.sl _ ys,.sl _ rs],[.int k',.bool b',.int i',.str s',.sl _ ys',.sl _ rs']=>
  if k=k' then if k=1 then (if b=b' then 0 else if b'=true then -1 else 1) else if k=3 then cmpB s s' else if k=5 then (if lsC cmpR ys ys'=0 then lsC (rcN n) rs rs' else lsC cmpR ys ys') else if k=4 then lsC (rcN n) rs rs' else sgn i i' else sgn (rkR k) (rkR k')
 |_,_,_=>0
def jc (n:Nat)(c:List Cl):List Cl:=[.int (rcN n (c.take 6) (c.drop 6))]
def tbRc (m n:Nat)(f:Nat)(c:List Cl):Cl:=if f=1000001 then .bool (decide (SizeOf.sizeOf c<m)) else if f=0 then (rkRF c).getD 0 .no else if f=1 then (bv c).getD 0 .no else if f=2 then (cC c).getD 0 .no else (bN (rcN n) c).getD 0 .no
def tJ (m:Nat)(_:Nat)(c0 c:List Cl):Prop:=∃ a b nl ys ml rs nl' ys' ml' rs' k b0 i0 s k' b0' i0' s' i,a=[Cl.int k,.bool b0,.int i0,.str s,.sl nl ys,.sl ml rs]/\b=[Cl.int k',.bool b0',.int i0',.str s',.sl nl' ys',.sl ml' rs']/\c0=a++b/\c=.int i::(a++b)/\k=5/\k'=5/\0<=i/\i<=ys.length/\i<=ys'.length/\lsC cmpR ys ys'=lsC cmpR (ys.drop i.toNat) (ys'.drop i.toNat)/\SizeOf.sizeOf c0<m+1
def rcmpM (_:Nat)(c:List Cl):Nat:=match c with|[.int i,_,_,_,_,.sl _ ys,_,_,_,_,_,_,_]=>(ys.length-i).toNat|_=>0
theorem rcmpV {m n:Nat}:Vc0 (tbRc m n) 9 oN.ks (fun c=>SizeOf.sizeOf c<m+1) (tJ m) (fun c r=>r=jc (n+1) c) rcmpt:=by
 intro cls E hE hw hm;have hw':Wts (vK++vK) cls:=hw;obtain⟨a,b,rfl,ha,hb⟩:=ck hw';obtain⟨k,b0,i,s,nl,ys,ml,rs,rfl,-⟩:=row6 ha;obtain⟨k',b0',i',s',nl',ys',ml',rs',rfl,-⟩:=row6 hb
 have h1:SizeOf.sizeOf [Cl.sl ml rs,.sl ml' rs']<m:=by
  simp only[List.cons_append,List.nil_append,List.cons.sizeOf_spec,List.nil.sizeOf_spec] at hm ⊢;omega
 have n1:tbRc m n 1000001 [.sl ml rs,.sl ml' rs']=.bool true:=by simp only[tbRc,if_true,h1,decide_true]
 have e0:∀ q,tbRc m n 0 [.int q]=.int (rkR q):=fun q=>by simp[tbRc,rkRF]
 have e1:∀ p q,tbRc m n 1 [.int p,.int q]=.int (sgn p q):=fun p q=>by simp[tbRc,bv]
 have e2:∀ p q,tbRc m n 2 [.str p,.str q]=.int (cmpB p q):=fun p q=>by simp[tbRc,cC]
 have e3:tbRc m n 3 [.sl ml rs,.sl ml' rs']=.int (lsC (rcN n) rs rs'):=by simp[tbRc,bN]
 have ef:jc (n+1) [.int k,.bool b0,.int i,.str s,.sl nl ys,.sl ml rs,.int k',.bool b0',.int i',.str s',.sl nl' ys',.sl ml' rs']=[.int (rcN (n+1) [.int k,.bool b0,.int i,.str s,.sl nl ys,.sl ml rs] [.int k',.bool b0',.int i',.str s',.sl nl' ys',.sl ml' rs'])]:=by simp[jc]
 simp only[rcmpt,Tr.vc,To.goodT,List.map_cons,List.map_nil,hE.v,hE.a,X.d_cons,X.d_nil,X.c_int,X.c_bool,X.c_bin,X.kd,aL,cond_true,cond_false,binD,intD,ak,al,List.cons_append,List.nil_append,n1,e0,e1,e2,e3,ef,Cl.bool.injEq,exists_eq',true_and,and_true,Bool.not_eq_true',Bool.not_eq_false',beq_iff_eq,beq_eq_false_iff_ne,ne_eq];refine⟨fun h=>?_,fun h=>⟨fun h1=>⟨fun h2=>?_,fun h2=>⟨fun h3=>?_,fun h3=>?_⟩⟩,fun h1=>⟨fun h2=>?_,fun h2=>⟨fun h3=>?_,fun h3=>⟨fun h4=>?_,fun h4=>?_⟩⟩⟩⟩⟩
 ·simp[rcN,h]
 ·subst h;simp[rcN,h1,h2]
 ·subst h;subst h1;cases b0<;>cases b0'<;>simp_all [rcN]
 ·subst h;subst h1;cases b0<;>cases b0'<;>simp_all [rcN]
 ·subst h;simp[rcN,h1,h2]
 ·subst h
  exact⟨_,_,nl,ys,ml,rs,nl',ys',ml',rs',k,b0,i,s,k,b0',i',s',0,rfl,rfl,rfl,rfl,h3,h3,by omega,by omega,by omega,by simp,hm⟩
 ·subst h;simp[rcN,h1,h2,h3,h4]
 ·subst h;simp[rcN,h1,h2,h3,h4]
theorem rcmpV0 {m n:Nat}:Vc (· < ·) rcmpM (tbRc m n) 9 pg.ks (tJ m) (fun c r=>r=jc (n+1) c) 0 tI:=by
 rintro c0 cls E hE hw ⟨a,b,nl,ys,ml,rs,nl',ys',ml',rs',k,b0,i0,s,k',b0',i0',s',i,rfl,rfl,rfl,rfl,hk,hk',h1,h2,h3,h4,hm⟩;have hw':Wts (.int .i64::(vK++vK)) (.int i::([Cl.int k,.bool b0,.int i0,.str s,.sl nl ys,.sl ml rs]++[Cl.int k',.bool b0',.int i0',.str s',.sl nl' ys',.sl ml' rs'])):=hw;obtain⟨_,_,e,-,hw'⟩:=hw'.cons_inv;cases e;obtain⟨a,b,e,ha,hb⟩:=ck hw';obtain⟨ka,ba,na,sa,nla,ya,mla,ra,rfl,hla,-⟩:=row6 ha;obtain⟨kb,bb,nb,sb,nlb,yb,mlb,rb,rfl,hlb,-⟩:=row6 hb;cases e;obtain⟨ly,q2,-,q4⟩:=ls2 hla;obtain⟨ly',q2',-,q4'⟩:=ls2 hlb
 have h0:SizeOf.sizeOf [Cl.sl ml rs,.sl ml' rs']<m:=by
  simp only[List.cons_append,List.nil_append,List.cons.sizeOf_spec,List.nil.sizeOf_spec] at hm ⊢;omega
 have n1:tbRc m n 1000001 [.sl ml rs,.sl ml' rs']=.bool true:=by simp only[tbRc,if_true,h0,decide_true]
 have e1:∀ p q,tbRc m n 1 [.int p,.int q]=.int (sgn p q):=fun p q=>by simp[tbRc,bv]
 have e2:∀ p q,tbRc m n 2 [.str p,.str q]=.int (cmpB p q):=fun p q=>by simp[tbRc,cC]
 have e3:tbRc m n 3 [.sl ml rs,.sl ml' rs']=.int (lsC (rcN n) rs rs'):=by simp[tbRc,bN]
 have ef:jc (n+1) [.int k,.bool b0,.int i0,.str s,.sl nl ys,.sl ml rs,.int k',.bool b0',.int i0',.str s',.sl nl' ys',.sl ml' rs']=[.int (if lsC cmpR ys ys'=0 then lsC (rcN n) rs rs' else lsC cmpR ys ys')]:=by simp[jc,rcN,hk,hk']
 simp only[tI,Tr.vc,To.goodT,List.map_cons,List.map_nil,hE.v,hE.a,X.d_cons,X.d_nil,X.c_int,X.c_len,X.c_inr,X.c_el,lenC,inrD,elD,X.c_bool,X.c_bin,X.kd,aL,cond_true,cond_false,binD,intD,ak,al,List.cons_append,List.nil_append,n1,e1,e3,ef,Cl.bool.injEq,exists_eq',true_and,and_true,Bool.not_eq_true',Bool.not_eq_false',beq_iff_eq,beq_eq_false_iff_ne,ne_eq,decide_eq_true_eq,decide_eq_false_iff_not,h1];have fin:∀ (hx:ys.length<=i.toNat\/ys'.length<=i.toNat),lsC cmpR ys ys'=sgn ys.length ys'.length:=fun hx=>by rw[h4];exact o8 (by omega) (by omega) hx
 have ends:∀ (hx:ys.length<=i.toNat\/ys'.length<=i.toNat),((ys.length:Int)≠ys'.length->[Cl.int (sgn ys.length ys'.length)]=[Cl.int (if lsC cmpR ys ys'=0 then lsC (rcN n) rs rs' else lsC cmpR ys ys')])/\((ys.length:Int)=ys'.length->[Cl.int (lsC (rcN n) rs rs')]=[Cl.int (if lsC cmpR ys ys'=0 then lsC (rcN n) rs rs' else lsC cmpR ys ys')]):=fun hx=>by
  rw[fin hx];refine⟨fun h=>?_,fun h=>?_⟩
  ·rw[if_neg (fun e=>h (bE.1 e))]
  ·rw[if_pos (bE.2 h)]
 refine⟨fun hlt=>⟨fun hge=>⟨hlt,hge,?_⟩,fun hge=>ends (.inr (by omega))⟩,fun hge=>ends (.inl (by omega))⟩;obtain⟨r,hr,hwr,hd,-⟩:=aE q2 (i:=i.toNat) (by omega);obtain⟨r',hr',hwr',hd',-⟩:=aE q2' (i:=i.toNat) (by omega);obtain⟨c,rfl,g⟩:=hwr.one;obtain⟨c',rfl,g'⟩:=hwr'.one;obtain⟨t,rfl,-⟩:=g.str_inv;obtain⟨t',rfl,-⟩:=g'.str_inv;have hly:(ys.length:Int)<=9223372036854775807:=by simp only[maxLen] at ly;omega
 have e9:(i+1).toNat=i.toNat+1:=by omega
 rw[hr,hr',aH (by omega) (by omega)];rw[hd,hd'] at h4;simp only[ak,strD,e2,Cl.bool.injEq,exists_eq',true_and,Bool.not_eq_true',Bool.not_eq_false',beq_iff_eq,beq_eq_false_iff_ne,ne_eq];refine⟨fun hne=>?_,fun he=>⟨⟨_,_,nl,ys,ml,rs,nl',ys',ml',rs',k,b0,i0,s,k',b0',i0',s',i+1,rfl,rfl,rfl,rfl,hk,hk',by omega,by omega,by omega,?_,hm⟩,by simp only[rcmpM];omega⟩⟩
 ·have hz:cmpB t t'≠0:=fun e=>hne (fh.1 e)
  have h5:lsC cmpR ys ys'=cmpB t t':=by rw[h4];simp[lsC,cmpR,hz]
  rw[h5,if_neg hz]
 ·rw[e9,h4];simp[lsC,cmpR,fh.2 he]
theorem zy (hG:Gd0 k G)(hsz:Tryz.prog.globals.size<=k):∃ tb,mD.Sound Tryz.prog k G tb (fun _=>True) bv:=by
 letI:Tb:=⟨some (9,fun _ _=>.no)⟩
 exact⟨_,vS hG hsz rfl⟩
theorem rn (c:List Cl):(bv c).length<=1:=by unfold bv;split<;>simp
theorem xY (o:List Cl->List Cl->Int)(c:List Cl):(bN o c).length<=1:=by unfold bN;split<;>simp
theorem zC (hG:Gd0 k G)(hk0:0<k)(hsz:Tryz.prog.globals.size<=k){m n:Nat}{tb:Nat->List Cl->Cl}(ih:oN.Sound Tryz.prog k G tb (fun c=>SizeOf.sizeOf c<m) (jc n)):∃ tb,kF.Sound Tryz.prog k G tb (fun c=>SizeOf.sizeOf c<m) (bN (rcN n)):=by
 obtain⟨tbi,hi⟩:=zy hG hsz
 letI:Tb:=⟨some (9,tbRr (rcN n) m)⟩
 exact⟨_,Ctr.ofT (hk:=th) Nat.lt_wfRel.wf xS (o9 (rcN n) m) hG (fun D=>@aq.or _ (dcOf D) _ _ _ _ _ _
   (@aq.ctr _ (dcOf D) _ _ _ _ 9 (by kernel_rfl) _ _ _ _ ih (by kernel_rfl) _ _ (bm (fun c=>by simp[jc]) (fun c=>by simp[tbRr,jc])) (some 1000000) (fun c h=>by simpa[tbRr] using h) hG hk0 hsz rfl)
   (@aq.ctr _ (dcOf D) _ _ _ _ 9 (by kernel_rfl) _ _ _ _ hi (by kernel_rfl) _ _ (bm rn (fun c=>by simp[tbRr])) none (fun _=>trivial) hG hk0 hsz rfl))
  hsz (L:=9) (by kernel_rfl) rfl (trs:=[m9]) (by kernel_rfl) AW rrowsV ⟨⟨xR,rrowsV0⟩,trivial⟩⟩
theorem rcmp_n (hG:Gd0 k G)(hk0:0<k)(hsz:Tryz.prog.globals.size<=k):∀ n,∃ tb,oN.Sound Tryz.prog k G tb (fun c=>SizeOf.sizeOf c<n) (jc n):=by
 intro n;induction n with
 |zero=>exact⟨fun _ _=>.no,fun w old hold φ pls cls xs _ _ _ _ _ _ _ hp=>absurd hp (by omega)⟩
 |succ m ih=>
  obtain⟨tb,ih⟩:=ih;obtain⟨tb3,h3⟩:=zC hG hk0 hsz ih;obtain⟨tb1,h1⟩:=zy (k:=k) (G:=G) hG hsz;obtain⟨tb2,h2⟩:=rtexts_x (k:=k) (G:=G) hG hk0 hsz
  letI:Tb:=⟨some (9,tbRc m m)⟩
  refine⟨tbRc m m,Ctr.ofT (hk:=tj) Nat.lt_wfRel.wf rcmpM (tJ m) hG (fun D=>?_) hsz (L:=9) (by kernel_rfl) rfl (trs:=[tI]) (by kernel_rfl) rcmpt_ok rcmpV ⟨⟨A4,rcmpV0⟩,trivial⟩⟩
  letI:=dcOf D
  refine aq.or (aq.spec xX ?_ hG hk0 rfl D) (aq.or (aq.ctr (by kernel_rfl) h1 (by kernel_rfl) ?_ none (fun _=>trivial) hG hk0 hsz rfl) (aq.or (aq.ctr (by kernel_rfl) h2 (by kernel_rfl) ?_ none (fun _=>trivial) hG hk0 hsz rfl) (aq.ctr (by kernel_rfl) h3 (by kernel_rfl) ?_ (some 1000001) ?_ hG hk0 hsz rfl)))
  ·exact bm (fun c=>by unfold rkRF;split<;>simp) fun c=>by simp[tbRc]
  ·exact bm rn fun c=>by simp[tbRc]
  ·exact bm (fun c=>by unfold cC;split<;>simp) fun c=>by simp[tbRc]
  ·exact bm (xY _) fun c=>by simp[tbRc]
  ·intro c h;simpa[tbRc] using h
theorem zD (hG:Gd0 k G)(hk0:0<k)(hsz:Tryz.prog.globals.size<=k)(n:Nat):∃ tb,kF.Sound Tryz.prog k G tb (fun c=>SizeOf.sizeOf c<n) (bN (rcN n)):=by
 obtain⟨tb,h⟩:=rcmp_n (k:=k) (G:=G) hG hk0 hsz n;exact zC hG hk0 hsz h
end Go.Proofs.Wo
end

noncomputable section
namespace Go.Proofs.Wo
open Go.Exo Go.Exo.Wo Go.RowKit
set_option maxRecDepth 100000
variable {k:Nat}{G:World->Prop}
theorem info29:(Tryz.prog.info? 29).map (fun i=>(i.zero,i.size,i.bytes))=some (some (.agg #[.int .i64 0,.bool false,.int .i64 0,.string { data:=#[] },.slice none 0 0,.slice none 0 0]),6,88):=by kernel_rfl
theorem rp {w w':World}{base sz:Nat}{e:TypeId}{v:Value}{n:Nat}{xs:List Value}(h:w.ownsRow base e sz v n xs)(hb:Below w.heap.size w w'):w'.ownsRow base e sz v n xs:=by
 refine⟨h.1,?_⟩;rcases h.2 with h0|⟨g,cap,cur,h1,h2,h3,h4⟩
 ·exact .inl h0
 ·exact .inr ⟨g,cap,cur,h1,h2,(hb.block g (ag.1 h3).1).trans h3,h4⟩
theorem tK {w:World}{base sz:Nat}{e:TypeId}{v:Value}{n:Nat}{xs:List Value}(h:w.ownsRow base e sz v n xs):∀ k,v.ownBlock=some k->base<=k:=by
 rcases h.2 with⟨rfl,_⟩|⟨g,cap,cur,rfl,hg,_⟩
 ·intro k hk;cases hk
 ·intro k hk;cases hk;exact hg
theorem rq {w:World}{cs:Array Value}{t:TypeId}:∀ (j:Nat)(u:Value),cs.toList[j]? = some u->(w.alloc (.cells cs t)).cell? ((⟨w.heap.size,0,none⟩:Addr).add j)=some u:=fun j u h=>by
 have:((⟨w.heap.size,0,none⟩:Addr).add j)=⟨w.heap.size,j,none⟩:=by
  cases j with
  |zero=>rfl
  |succ j=>simp[Addr.add]
 rw[this];exact aA (World.alloc_heap_new w _) (by simpa using h)
theorem bcell {W w1:World}(hb:Below W.heap.size W w1):(∀ b o,b<W.heap.size->w1.cell? ⟨b,o,none⟩=W.cell? ⟨b,o,none⟩)/\(∀ b o,b<W.heap.size->w1.frozen? ⟨b,o,none⟩=W.frozen? ⟨b,o,none⟩):=
 ⟨fun b o h=>hb.cell (p:=⟨b,o,none⟩) h,fun b o h=>hb.frozen (p:=⟨b,o,none⟩) h⟩
theorem fX {i:Option TypeInfo}{z:Value}{s b:Nat}(h:i.map (fun i=>(i.zero,i.size,i.bytes))=some (some z,s,b)):∃ i0,i=some i0/\i0.zero=some z/\i0.size=s/\i0.bytes=b:=by
 cases i with
 |none=>cases h
 |some i0=>simp at h;exact⟨i0,rfl,h.1,h.2.1,h.2.2⟩
theorem xZ {W0 wr w4 w5:World}{B:Nat}{o:Obj}{v:Value}(hB:Below B W0 wr)(hb4:Below wr.heap.size wr w4)(hs:B<=W0.heap.size)(hg:(w4.alloc o).grownBy w5 v.ownBlock)(hr:∀ k,v.ownBlock=some k->B<=k):Below B W0 w5:=by
 have h1:=hB.trans (hb4.mono (Nat.le_trans hs hB.size));exact (h1.alloc (Nat.le_trans hs h1.size) o).grown hg (by have:=h1.size;simp;omega) hr
def rt (F:List Cl->List Cl)(w:World)(φ:Nat->Nat->Option Value)(rows:List (List Cl))(v:Value)(k:Nat)(wr:World)(xs:List Value):Prop:=
 ∃ φk,Grows w wr φ φk/\fg (rel φk) xs ((rows.take k).map F)/\(∀ b o u,φk b o=some u->v.ownBlock≠some b)/\(v=.slice none 0 0<->k=0)
theorem jd {α β:Type}{f:α->β}{l:List α}{k:Nat}{r:α}(h:l[k]? = some r):(l.take (k+1)).map f=(l.take k).map f++[f r]:=by
 rw[List.take_add_one,h];simp
theorem rt.step {F:List Cl->List Cl}{w wr w4 w5:World}{φ φ4:Nat->Nat->Option Value}{rows:List (List Cl)}{v v':Value}{k:Nat}{xs:List Value}{o o':Obj}{z0 z1 z2 z3 z4 z5:Value}{r:List Cl}{φk:Nat->Nat->Option Value}
  (hws:w.heap.size<=wr.heap.size)(hg:Grows w wr φ φk)(hx:fg (rel φk) xs ((rows.take k).map F))(hn:∀ b o u,φk b o=some u->v.ownBlock≠some b)(hv:∀ g,v.ownBlock=some g->g<wr.heap.size)
  (hr:rows[k]? = some r)(h4:Grows (wr.alloc o) w4 φk φ4)(hc:CRs (rel φ4) vK [z0,z1,z2,z3,z4,z5] (F r))
  (hgr:(w4.alloc o').grownBy w5 v.ownBlock)(hat:v'.ownBlock=v.ownBlock\/v'.ownBlock=some (w4.alloc o').heap.size)(hv':v'=.slice none 0 0<->v=.slice none 0 0/\1=0):rt F w φ rows v' (k+1) w5 (xs++[z0,z1,z2,z3,z4,z5]):=by
 have hn4:∀ b o u,φ4 b o=some u->v.ownBlock≠some b:=fun b o u h e=>by
  have:=hv b e;exact hn b o u (h4.new b o u h (by simp;omega)) e
 have g1:Grows wr w4 φk φ4:=⟨h4.sub,h4.dat,fun b o u h hb=>h4.new b o u h (by simp;omega)⟩
 have g3:Grows w (w4.alloc o') φ φ4:=(hg.trans g1 hws).below ((Below.refl _ _).alloc (am _) _);refine⟨φ4,g3.but hgr hn4,?_,fun b o u h e=>?_,⟨fun h=>absurd (hv'.1 h).2 (by decide),fun h=>absurd h (by omega)⟩⟩
 ·rw[jd hr];exact (hx.mono h4.sub).snoc hc
 ·rcases hat with h1|h1
  ·rw[h1] at e;exact hn4 b o u h e
  ·rw[h1] at e
   have h2:=h4.dat.lt h;simp at e;omega
theorem x6 {w:World}{base:Nat}{v:Value}{xs:List Value}{out:List (List Cl)}{φ:Nat->Nat->Option Value}(ho:w.ownsRow base 29 6 v out.length xs)(hr:fg (rel φ) xs out)(hd:Dat φ w)(hn:∀ b o u,φ b o=some u->v.ownBlock≠some b)(hz:v=.slice none 0 0<->out.length=0) :
  ∃ φ',(∀ b o u,φ b o=some u->φ' b o=some u)/\Dat φ' w/\(∀ b o u,φ' b o=some u->b<base->φ b o=some u)/\CR (rel φ') (.sl 29) v (.sl out.isEmpty out):=by
 obtain⟨φ',nl,h1,h2,h3,h4⟩:=A1 ho hr hd hn;refine⟨φ',h1,h2,h3,?_⟩
 have:nl=out.isEmpty:=by
  cases out with
  |nil=>rw[hz.2 rfl] at h4;cases h4;rfl
  |cons a r=>
   cases h4 with
   |sl=>rfl
 rw[<- this];exact h4
end Go.Proofs.Wo
end

noncomputable section
namespace Go.Proofs.Wo
open Go.Sort
variable {α:Type} [Inhabited α]
def swpR (a b n:Nat)(i:Nat)(d:Array α):Array α:=if i<n then swpR a b n (i+1) (swp d (a+i) (b+i)) else d
termination_by n-i
theorem iG {a b n i:Nat}{d:Array α}(h:i<n):swpR a b n i d=swpR a b n (i+1) (swp d (a+i) (b+i)):=by rw[swpR,if_pos h]
theorem dG {a b n i:Nat}{d:Array α}(h:¬ i<n):swpR a b n i d=d:=by rw[swpR,if_neg h]
theorem iH {a b n lo hi:Nat}(h1:lo<=a)(h2:b+n<=hi)(h3:a+n<=b):∀ (m i:Nat)(d:Array α),n-i=m->hi<=d.size->PermIn lo hi d (swpR a b n i d)
 |0,i,d,hm,_=>by rw[dG (by omega)];exact permIn_refl _ _ _
 |m+1,i,d,hm,hs=>by
  rw[iG (by omega)];exact permIn_trans _ _ _ _ _ (swp_permIn d lo hi (a+i) (b+i) (by omega) (by omega) (by omega) (by omega) hs) (iH h1 h2 h3 m (i+1) _ (by omega) (by rw[size_swp];exact hs))
theorem nd {a b n:Nat}(h:a+n<=b):∀ (m i:Nat)(d:Array α),n-i=m->b+n<=d.size->∀ k,(swpR a b n i d)[k]! = if a+i<=k/\k<a+n then d[k-a+b]! else if b+i<=k/\k<b+n then d[k-b+a]! else d[k]!
 |0,i,d,hm,_,k=>by
  rw[dG (by omega),if_neg (by omega),if_neg (by omega)]
 |m+1,i,d,hm,hs,k=>by
  rw[iG (by omega),nd h m (i+1) _ (by omega) (by rw[size_swp];exact hs)];by_cases e1:k=a+i
  ·subst e1
   rw[if_neg (by omega),if_neg (by omega),if_pos (by omega),swp_left d _ _ (by omega) (by omega)];exact congrArg (fun x=>d[x]!) (by omega)
  ·by_cases e2:k=b+i
   ·subst e2
    rw[if_neg (by omega),if_neg (by omega),if_neg (by omega),if_pos (by omega),swp_right d _ _ (by omega)];exact congrArg (fun x=>d[x]!) (by omega)
   ·by_cases c1:a+i<=k/\k<a+n
    ·rw[if_pos (by omega),if_pos c1,swp_other d _ _ _ (by omega) (by omega)]
    ·rw[if_neg (by omega),if_neg c1]
     by_cases c2:b+i<=k/\k<b+n
     ·rw[if_pos (by omega),if_pos c2,swp_other d _ _ _ (by omega) (by omega)]
     ·rw[if_neg (by omega),if_neg c2,swp_other d _ _ _ e1 e2]
def rotL (m:Nat)(i j:Nat)(d:Array α):Array α:=
 if i=0\/j=0 then d else if i=j then swpR (m-i) m i 0 d else if j<i then rotL m (i-j) j (swpR (m-i) m j 0 d) else rotL m i (j-i) (swpR (m-i) (m+j-i) i 0 d)
termination_by i+j
decreasing_by all_goals omega
theorem iI {m i:Nat}{d:Array α}(h:0<i):rotL m i i d=swpR (m-i) m i 0 d:=by rw[rotL,if_neg (by omega),if_pos rfl]
theorem iJ {m i j:Nat}{d:Array α}(hj:0<j)(h:j<i):rotL m i j d=rotL m (i-j) j (swpR (m-i) m j 0 d):=by rw[rotL,if_neg (by omega),if_neg (by omega),if_pos h]
theorem iL {m i j:Nat}{d:Array α}(hi:0<i)(h:i<j):rotL m i j d=rotL m i (j-i) (swpR (m-i) (m+j-i) i 0 d):=by rw[rotL,if_neg (by omega),if_neg (by omega),if_neg (by omega)]
theorem bQ {a b n i:Nat}{d:Array α}:(swpR a b n i d).size=d.size:=by
 generalize hm:n-i=m;induction m generalizing i d with
 |zero=>rw[dG (by omega)]
 |succ m ih=>rw[iG (by omega),ih (by omega),size_swp]
theorem iM {m lo hi:Nat}:∀ (f i j:Nat)(d:Array α),i+j<=f->lo+i<=m->m+j<=hi->hi<=d.size->PermIn lo hi d (rotL m i j d)
 |f,i,j,d,hf,h1,h2,hs=>by
  by_cases h0:i=0\/j=0
  ·rw[rotL,if_pos h0];exact permIn_refl _ _ _
  ·by_cases he:i=j
   ·subst he
    rw[iI (by omega)];exact iH (by omega) (by omega) (by omega) _ 0 d rfl hs
   ·match f,hf with
    |0,hf=>omega
    |f+1,hf=>
     by_cases hg:j<i
     ·rw[iJ (by omega) hg]
      exact permIn_trans _ _ _ _ _ (iH (by omega) (by omega) (by omega) _ 0 d rfl hs) (iM f (i-j) j _ (by omega) (by omega) (by omega) (by rw[bQ];exact hs))
     ·rw[iL (by omega) (by omega)]
      exact permIn_trans _ _ _ _ _ (iH (by omega) (by omega) (by omega) _ 0 d rfl hs) (iM f i (j-i) _ (by omega) (by omega) (by omega) (by rw[bQ];exact hs))
theorem tL {m:Nat}:∀ (f i j:Nat)(d:Array α),i+j<=f->0<i->0<j->i<=m->m+j<=d.size->∀ k,(rotL m i j d)[k]! = if m-i<=k/\k<m-i+j then d[k+i]! else if m-i+j<=k/\k<m+j then d[k-j]! else d[k]!
 |f,i,j,d,hf,h0,h0',h1,hs,k=>by
  by_cases he:i=j
  ·subst he
   rw[iI h0,nd (by omega) _ 0 d rfl (by omega)];by_cases c1:m-i<=k/\k<m-i+i
   ·rw[if_pos (by omega),if_pos c1];exact congrArg (fun x=>d[x]!) (by omega)
   ·rw[if_neg (by omega),if_neg c1]
    by_cases c2:m-i+i<=k/\k<m+i
    ·rw[if_pos (by omega),if_pos c2];exact congrArg (fun x=>d[x]!) (by omega)
    ·rw[if_neg (by omega),if_neg c2]
  ·match f,hf with
   |0,hf=>omega
   |f+1,hf=>
    by_cases hg:j<i
    ·have A:=nd (a:=m-i) (b:=m) (n:=j) (by omega) _ 0 d rfl (by omega)
     rw[iJ h0' hg,tL f (i-j) j _ (by omega) (by omega) h0' (by omega) (by rw[bQ];exact hs)];by_cases c1:m-i<=k/\k<m-i+j
     ·rw[if_neg (by omega),if_neg (by omega),if_pos c1,A,if_pos (by omega)];exact congrArg (fun x=>d[x]!) (by omega)
     ·rw[if_neg c1]
      by_cases c2:m-i+j<=k/\k<m+j
      ·rw[if_pos c2]
       by_cases c3:k<m-i+j+j
       ·rw[if_pos (by omega),A,if_neg (by omega),if_pos (by omega)];exact congrArg (fun x=>d[x]!) (by omega)
       ·rw[if_neg (by omega),if_pos (by omega),A,if_neg (by omega),if_neg (by omega)]
      ·rw[if_neg c2,if_neg (by omega),if_neg (by omega),A,if_neg (by omega),if_neg (by omega)]
    ·have A:=nd (a:=m-i) (b:=m+j-i) (n:=i) (by omega) _ 0 d rfl (by omega)
     rw[iL h0 (by omega),tL f i (j-i) _ (by omega) h0 (by omega) h1 (by rw[bQ];omega)];by_cases c1:m-i<=k/\k<m-i+j
     ·rw[if_pos c1]
      by_cases c3:k<m-i+(j-i)
      ·rw[if_pos (by omega),A,if_neg (by omega),if_neg (by omega)]
      ·rw[if_neg (by omega),if_pos (by omega),A,if_pos (by omega)];exact congrArg (fun x=>d[x]!) (by omega)
     ·rw[if_neg c1]
      by_cases c2:m-i+j<=k/\k<m+j
      ·rw[if_pos c2,if_neg (by omega),if_neg (by omega),A,if_neg (by omega),if_pos (by omega)];exact congrArg (fun x=>d[x]!) (by omega)
      ·rw[if_neg c2,if_neg (by omega),if_neg (by omega),A,if_neg (by omega),if_neg (by omega)]
def bsr (p:Nat->Bool)(i j:Nat):Nat:=if i<j then (if p ((i+j) / 2) then bsr p ((i+j) / 2+1) j else bsr p i ((i+j) / 2)) else i
termination_by j-i
decreasing_by all_goals omega
theorem kY {p:Nat->Bool}{i j:Nat}(h:¬ i<j):bsr p i j=i:=by rw[bsr,if_neg h]
theorem bsr_t {p:Nat->Bool}{i j:Nat}(h:i<j)(hp:p ((i+j) / 2)=true):bsr p i j=bsr p ((i+j) / 2+1) j:=by rw[bsr,if_pos h,if_pos hp]
theorem bsr_f {p:Nat->Bool}{i j:Nat}(h:i<j)(hp:p ((i+j) / 2)=false):bsr p i j=bsr p i ((i+j) / 2):=by rw[bsr,if_pos h,if_neg (by simp[hp])]
theorem lR {p:Nat->Bool}{lo hi:Nat}:∀ (f i j:Nat),j-i<=f->lo<=i->i<=j->j<=hi->(lo<i->p (i-1)=true)->(j<hi->p j=false)->
  lo<=bsr p i j/\bsr p i j<=hi/\(lo<bsr p i j->p (bsr p i j-1)=true)/\(bsr p i j<hi->p (bsr p i j)=false)
 |f,i,j,hf,h1,h2,h3,h4,h5=>by
  by_cases h:i<j
  ·match f,hf with
   |0,hf=>omega
   |f+1,hf=>
    cases hp:p ((i+j) / 2) with
    |true=>rw[bsr_t h hp];exact lR f _ _ (by omega) (by omega) (by omega) h3 (fun _=>by rw[Nat.add_sub_cancel];exact hp) h5
    |false=>rw[bsr_f h hp];exact lR f _ _ (by omega) h1 (by omega) (by omega) h4 (fun _=>hp)
  ·rw[kY h]
   have:i=j:=by omega
   subst this;exact⟨h1,h3,h4,h5⟩
def shU (e:Nat)(k:Nat)(d:Array α):Array α:=if k<e then shU e (k+1) (swp d k (k+1)) else d
termination_by e-k
theorem lS {e k:Nat}{d:Array α}(h:k<e):shU e k d=shU e (k+1) (swp d k (k+1)):=by rw[shU,if_pos h]
theorem fj {e k:Nat}{d:Array α}(h:¬ k<e):shU e k d=d:=by rw[shU,if_neg h]
theorem shU_at {e:Nat}:∀ (f k:Nat)(d:Array α),e-k=f->k<=e->e<d.size->∀ t,(shU e k d)[t]! = if k<=t/\t<e then d[t+1]! else if t=e then d[k]! else d[t]!
 |0,k,d,hf,h1,hs,t=>by
  have:k=e:=by omega
  subst this;rw[fj (by omega),if_neg (by omega)];by_cases h:t=k
  ·rw[if_pos h,h]
  ·rw[if_neg h]
 |f+1,k,d,hf,h1,hs,t=>by
  rw[lS (by omega),shU_at f (k+1) _ (by omega) (by omega) (by rw[size_swp];exact hs)];by_cases e1:t=k
  ·subst e1
   rw[if_neg (by omega),if_neg (by omega),if_pos (by omega),swp_left d _ _ (by omega) (by omega)]
  ·by_cases c1:k<=t/\t<e
   ·rw[if_pos (by omega),if_pos c1,swp_other d _ _ _ (by omega) (by omega)]
   ·rw[if_neg (by omega),if_neg c1]
    by_cases e2:t=e
    ·rw[if_pos e2,if_pos e2,swp_right d _ _ (by omega)]
    ·rw[if_neg e2,if_neg e2,swp_other d _ _ _ e1 (by omega)]
theorem vW {e lo hi:Nat}(he:e<hi):∀ (f k:Nat)(d:Array α),e-k=f->lo<=k->hi<=d.size->PermIn lo hi d (shU e k d)
 |0,k,d,hf,_,_=>by rw[fj (by omega)];exact permIn_refl _ _ _
 |f+1,k,d,hf,h1,hs=>by
  rw[lS (by omega)];exact permIn_trans _ _ _ _ _ (swp_permIn d lo hi k (k+1) h1 (by omega) (by omega) (by omega) hs) (vW he f (k+1) _ (by omega) (by omega) (by rw[size_swp];exact hs))
def shD (i:Nat)(k:Nat)(d:Array α):Array α:=if i<k then shD i (k-1) (swp d k (k-1)) else d
termination_by k
theorem lT {i k:Nat}{d:Array α}(h:i<k):shD i k d=shD i (k-1) (swp d k (k-1)):=by rw[shD,if_pos h]
theorem fk {i k:Nat}{d:Array α}(h:¬ i<k):shD i k d=d:=by rw[shD,if_neg h]
theorem shD_at {i:Nat}:∀ (f k:Nat)(d:Array α),k-i=f->i<=k->k<d.size->∀ t,(shD i k d)[t]! = if i<t/\t<=k then d[t-1]! else if t=i then d[k]! else d[t]!
 |0,k,d,hf,h1,hs,t=>by
  have:k=i:=by omega
  subst this;rw[fk (by omega),if_neg (by omega)];by_cases h:t=k
  ·rw[if_pos h,h]
  ·rw[if_neg h]
 |f+1,k,d,hf,h1,hs,t=>by
  rw[lT (by omega),shD_at f (k-1) _ (by omega) (by omega) (by rw[size_swp];omega)];by_cases e1:t=k
  ·subst e1
   rw[if_neg (by omega),if_neg (by omega),if_pos (by omega),swp_left d _ _ hs (by omega)]
  ·by_cases c1:i<t/\t<=k
   ·rw[if_pos (by omega),if_pos c1,swp_other d _ _ _ (by omega) (by omega)]
   ·rw[if_neg (by omega),if_neg c1]
    by_cases e2:t=i
    ·rw[if_pos e2,if_pos e2,swp_right d _ _ (by omega)]
    ·rw[if_neg e2,if_neg e2,swp_other d _ _ _ e1 (by omega)]
theorem vX {i lo hi:Nat}(hi':lo<=i):∀ (f k:Nat)(d:Array α),k-i=f->k<hi->hi<=d.size->PermIn lo hi d (shD i k d)
 |0,k,d,hf,_,_=>by rw[fk (by omega)];exact permIn_refl _ _ _
 |f+1,k,d,hf,h1,hs=>by
  rw[lT (by omega)];exact permIn_trans _ _ _ _ _ (swp_permIn d lo hi k (k-1) (by omega) (by omega) (by omega) (by omega) hs) (vX hi' f (k-1) _ (by omega) (by omega) (by rw[size_swp];exact hs))
variable (lt:α->α->Bool)
def symS (d:Array α)(a m b:Nat):Nat:=if (a+b) / 2<m then bsr (fun c=>!lt d[(a+b) / 2+m-1-c]! d[c]!) ((a+b) / 2+m-b) ((a+b) / 2) else bsr (fun c=>!lt d[(a+b) / 2+m-1-c]! d[c]!) a m
def symM:Nat->Array α->Nat->Nat->Nat->Array α
 |0,d,_,_,_=>d
 |f+1,d,a,m,b=>
  if m-a=1 then shU (bsr (fun h=>lt d[h]! d[a]!) m b-1) a d
  else if b-m=1 then shD (bsr (fun h=>!lt d[m]! d[h]!) a m) m d
  else
   let mid:=(a+b) / 2
   let start:=symS lt d a m b
   let e:=mid+m-start
   let d1:=if start<m/\m<e then rotL m (m-start) (e-m) d else d
   let d2:=if a<start/\start<mid then symM f d1 a start mid else d1
   if mid<e/\e<b then symM f d2 mid e b else d2
theorem cE (S:SWO lt){a b:Nat}{d:Array α}(h:SortedIn lt a b d)(i j:Nat)(hi:a<=i)(hij:i<=j)(hj:j<b):lt d[j]! d[i]! = false:=by
 by_cases e:i=j
 ·subst e;exact S.irrefl _
 ·exact h i j hi (by omega) hj
theorem A5 (S:SWO lt){d:Array α}{a b:Nat}(hb:b<=d.size)(hab:a+1<b)(hs:SortedIn lt (a+1) b d) :
  PermIn a b d (shU (bsr (fun h=>lt d[h]! d[a]!) (a+1) b-1) a d)/\SortedIn lt a b (shU (bsr (fun h=>lt d[h]! d[a]!) (a+1) b-1) a d):=by
 obtain⟨h1,h2,h3,h4⟩:=lR (p:=fun h=>lt d[h]! d[a]!) (lo:=a+1) (hi:=b) _ (a+1) b (Nat.le_refl _) (Nat.le_refl _) (by omega) (Nat.le_refl _) (fun h=>by omega) (fun h=>by omega);generalize bsr (fun h=>lt d[h]! d[a]!) (a+1) b=i at h1 h2 h3 h4 ⊢;have A:=shU_at _ a d rfl (by omega) (by omega:i-1<d.size);refine⟨vW (by omega) _ a d rfl (Nat.le_refl _) hb,fun p q hp hpq hq=>?_⟩;rw[A,A];by_cases c1:q<i-1
 ·rw[if_pos (by omega),if_pos (by omega)]
  exact hs _ _ (by omega) (by omega) (by omega)
 ·by_cases c2:q=i-1
  ·rw[if_neg (by omega),if_pos c2,if_pos (by omega)]
   have hb1:=h3 (by omega);have hb2:=cE lt S hs (p+1) (i-1) (by omega) (by omega) (by omega);cases hc:lt d[a]! d[p+1]! with
   |false=>rfl
   |true=>rw[S.trans _ _ _ hb1 hc] at hb2;cases hb2
  ·rw[if_neg (by omega),if_neg c2]
   by_cases c3:p<i-1
   ·rw[if_pos (by omega)]
    exact hs _ _ (by omega) (by omega) hq
   ·rw[if_neg (by omega)]
    by_cases c4:p=i-1
    ·rw[if_pos c4]
     exact S.ntrans _ _ _ (cE lt S hs i q (by omega) (by omega) hq) (h4 (by omega))
    ·rw[if_neg c4]
     exact hs _ _ (by omega) hpq hq
theorem sym_last (S:SWO lt){d:Array α}{a m:Nat}(hb:m+1<=d.size)(hab:a<m)(hs:SortedIn lt a m d) :
  PermIn a (m+1) d (shD (bsr (fun h=>!lt d[m]! d[h]!) a m) m d)/\SortedIn lt a (m+1) (shD (bsr (fun h=>!lt d[m]! d[h]!) a m) m d):=by
 obtain⟨h1,h2,h3,h4⟩:=lR (p:=fun h=>!lt d[m]! d[h]!) (lo:=a) (hi:=m) _ a m (Nat.le_refl _) (Nat.le_refl _) (by omega) (Nat.le_refl _) (fun h=>by omega) (fun h=>by omega);generalize bsr (fun h=>!lt d[m]! d[h]!) a m=i at h1 h2 h3 h4 ⊢;simp only[Bool.not_eq_true',Bool.not_eq_false'] at h3 h4;have A:=shD_at _ m d rfl (by omega:i<=m) (by omega);refine⟨vX h1 _ m d rfl (by omega) hb,fun p q hp hpq hq=>?_⟩;rw[A,A];by_cases c1:q<i
 ·rw[if_neg (by omega),if_neg (by omega),if_neg (by omega),if_neg (by omega)]
  exact hs _ _ hp hpq (by omega)
 ·by_cases c2:q=i
  ·rw[if_neg (by omega),if_pos c2,if_neg (by omega),if_neg (by omega)]
   exact S.ntrans _ _ _ (h3 (by omega)) (cE lt S hs p (i-1) hp (by omega) (by omega))
  ·rw[if_pos (by omega)]
   by_cases c3:p<i
   ·rw[if_neg (by omega),if_neg (by omega)]
    exact hs _ _ hp (by omega) (by omega)
   ·by_cases c4:p=i
    ·rw[if_neg (by omega),if_pos c4]
     have hb1:=h4 (by omega);have hb2:=cE lt S hs i (q-1) (by omega) (by omega) (by omega);cases hc:lt d[q-1]! d[m]! with
     |false=>rfl
     |true=>rw[S.trans _ _ _ hc hb1] at hb2;cases hb2
    ·rw[if_pos (by omega)]
     exact hs _ _ (by omega) (by omega) (by omega)
theorem sym_mid {d:Array α}{a m b:Nat}(hb:b<=d.size)(ha:a<m)(hm:m<b) :
  a<=symS lt d a m b/\symS lt d a m b<=m/\symS lt d a m b<=(a+b) / 2/\(a+b) / 2+m-symS lt d a m b<=b/\
  ((a<symS lt d a m b/\(a+b) / 2+m-symS lt d a m b<b)->lt d[(a+b) / 2+m-symS lt d a m b]! d[symS lt d a m b-1]! = false)/\
  (symS lt d a m b<m->symS lt d a m b<(a+b) / 2->lt d[(a+b) / 2+m-symS lt d a m b-1]! d[symS lt d a m b]! = true):=by
 unfold symS;by_cases h:(a+b) / 2<m
 ·rw[if_pos h]
  obtain⟨h1,h2,h3,h4⟩:=lR (p:=fun c=>!lt d[(a+b) / 2+m-1-c]! d[c]!) (lo:=(a+b) / 2+m-b) (hi:=(a+b) / 2) _ ((a+b) / 2+m-b) ((a+b) / 2) (Nat.le_refl _) (Nat.le_refl _) (by omega) (Nat.le_refl _) (fun h=>by omega) (fun h=>by omega);generalize bsr (fun c=>!lt d[(a+b) / 2+m-1-c]! d[c]!) ((a+b) / 2+m-b) ((a+b) / 2)=s at h1 h2 h3 h4 ⊢;simp only[Bool.not_eq_true',Bool.not_eq_false'] at h3 h4;refine⟨by omega,by omega,h2,by omega,fun⟨c1,c2⟩=>?_,fun _ c2=>?_⟩
  ·have:=h3 (by omega)
   rwa [show (a+b) / 2+m-1-(s-1)=(a+b) / 2+m-s by omega] at this
  ·have:=h4 c2
   rwa [show (a+b) / 2+m-1-s=(a+b) / 2+m-s-1 by omega] at this
 ·rw[if_neg h]
  obtain⟨h1,h2,h3,h4⟩:=lR (p:=fun c=>!lt d[(a+b) / 2+m-1-c]! d[c]!) (lo:=a) (hi:=m) _ a m (Nat.le_refl _) (Nat.le_refl _) (by omega) (Nat.le_refl _) (fun h=>by omega) (fun h=>by omega);generalize bsr (fun c=>!lt d[(a+b) / 2+m-1-c]! d[c]!) a m=s at h1 h2 h3 h4 ⊢;simp only[Bool.not_eq_true',Bool.not_eq_false'] at h3 h4;refine⟨h1,h2,by omega,by omega,fun⟨c1,c2⟩=>?_,fun c2 _=>?_⟩
  ·have:=h3 (by omega)
   rwa [show (a+b) / 2+m-1-(s-1)=(a+b) / 2+m-s by omega] at this
  ·have:=h4 c2
   rwa [show (a+b) / 2+m-1-s=(a+b) / 2+m-s-1 by omega] at this
theorem x7 (S:SWO lt){a mid b:Nat}{d:Array α}(h1:SortedIn lt a mid d)(h2:SortedIn lt mid b d)(h:∀ i j,a<=i->i<mid->mid<=j->j<b->lt d[j]! d[i]! = false):SortedIn lt a b d:=fun i j hi hij hj=>by
 by_cases c:j<mid
 ·exact h1 i j hi hij c
 ·by_cases c':i<mid
  ·exact h i j hi c' (by omega) hj
  ·exact h2 i j (by omega) hij hj
theorem tM (S:SWO lt):∀ (f:Nat)(d:Array α)(a m b:Nat),b-a<=f->a<m->m<b->b<=d.size->SortedIn lt a m d->SortedIn lt m b d->PermIn a b d (symM lt f d a m b)/\SortedIn lt a b (symM lt f d a m b)
 |0,d,a,m,b,hf,ha,hm,_,_,_=>by omega
 |f+1,d,a,m,b,hf,ha,hm,hb,s1,s2=>by
  rw[symM];by_cases c1:m-a=1
  ·rw[if_pos c1]
   have:m=a+1:=by omega
   subst this;exact A5 lt S hb hm s2
  ·rw[if_neg c1]
   by_cases c2:b-m=1
   ·rw[if_pos c2]
    have:b=m+1:=by omega
    subst this;exact sym_last lt S hb ha s1
   ·rw[if_neg c2]
    dsimp only;obtain⟨q1,q2,q3,q4,q5,q6⟩:=sym_mid lt hb ha hm;generalize symS lt d a m b=s at q1 q2 q3 q4 q5 q6 ⊢;obtain⟨mid,hmid⟩:∃ x,x=(a+b) / 2:=⟨_,rfl⟩
    rw[<- hmid] at q3 q4 q5 q6 ⊢;obtain⟨e,he⟩:∃ x,x=mid+m-s:=⟨_,rfl⟩
    rw[<- he] at q4 q5 q6 ⊢
    have R:∀ d1,d1=(if s<m/\m<e then rotL m (m-s) (e-m) d else d)->PermIn a b d d1/\∀ k,d1[k]! = if s<=k/\k<mid then d[k-s+m]! else if mid<=k/\k<e then d[k-mid+s]! else d[k]! := by
     intro d1 h;by_cases c:s<m/\m<e
     ·rw[if_pos c] at h
      subst h;refine⟨iM _ _ _ d (Nat.le_refl _) (by omega) (by omega) hb,fun k=>?_⟩;rw[tL _ _ _ d (Nat.le_refl _) (by omega) (by omega) (by omega) (by omega)];by_cases k1:s<=k/\k<mid
      ·rw[if_pos (by omega),if_pos k1];exact congrArg (fun x=>d[x]!) (by omega)
      ·rw[if_neg (by omega),if_neg k1]
       by_cases k2:mid<=k/\k<e
       ·rw[if_pos (by omega),if_pos k2];exact congrArg (fun x=>d[x]!) (by omega)
       ·rw[if_neg (by omega),if_neg k2]
     ·rw[if_neg c] at h
      subst h;refine⟨permIn_refl _ _ _,fun k=>?_⟩;by_cases k1:s<=k/\k<mid
      ·rw[if_pos k1];exact congrArg (fun x=>d1[x]!) (by omega)
      ·rw[if_neg k1]
       by_cases k2:mid<=k/\k<e
       ·rw[if_pos k2];exact congrArg (fun x=>d1[x]!) (by omega)
       ·rw[if_neg k2]
    generalize hd1:(if s<m/\m<e then rotL m (m-s) (e-m) d else d)=d1;obtain⟨P1,A⟩:=R d1 hd1.symm;clear R hd1;have hb1:b<=d1.size:=by rw[P1.1];exact hb
    have a1:∀ k,k<s->d1[k]! = d[k]! := fun k h=>by rw[A,if_neg (by omega),if_neg (by omega)]
    have a2:∀ k,s<=k->k<mid->d1[k]! = d[k-s+m]! := fun k h h'=>by rw[A,if_pos (by omega)]
    have a3:∀ k,mid<=k->k<e->d1[k]! = d[k-mid+s]! := fun k h h'=>by rw[A,if_neg (by omega),if_pos (by omega)]
    have a4:∀ k,e<=k->mid<=k->d1[k]! = d[k]! := fun k h h'=>by rw[A,if_neg (by omega),if_neg (by omega)]
    have t1:SortedIn lt a s d1:=fun i j hi hij hj=>by rw[a1 i (by omega),a1 j hj];exact s1 i j hi hij (by omega)
    have t2:SortedIn lt s mid d1:=fun i j hi hij hj=>by rw[a2 i hi (by omega),a2 j (by omega) hj];exact s2 _ _ (by omega) (by omega) (by omega)
    have t3:SortedIn lt mid e d1:=fun i j hi hij hj=>by rw[a3 i hi (by omega),a3 j (by omega) hj];exact s1 _ _ (by omega) (by omega) (by omega)
    have t4:SortedIn lt e b d1:=fun i j hi hij hj=>by rw[a4 i hi (by omega),a4 j (by omega) (by omega)];exact s2 _ _ (by omega) hij hj
    have cross:∀ i j,a<=i->i<mid->mid<=j->j<b->lt d1[j]! d1[i]! = false:=fun i j hi hi' hj hj'=>by
     by_cases k1:i<s
     ·rw[a1 i k1]
      by_cases k2:j<e
      ·rw[a3 j hj k2];exact s1 _ _ hi (by omega) (by omega)
      ·rw[a4 j (by omega) hj]
       have x1:=cE lt S s1 i (s-1) hi (by omega) (by omega);have x2:=q5 ⟨by omega,by omega⟩;have x3:=cE lt S s2 e j (by omega) (by omega) hj';exact S.ntrans _ _ _ (S.ntrans _ _ _ x3 x2) x1
     ·rw[a2 i (by omega) hi']
      by_cases k2:j<e
      ·rw[a3 j hj k2]
       have x2:=q6 (by omega) (by omega);have x1:=cE lt S s2 (i-s+m) (e-1) (by omega) (by omega) (by omega);have x3:=cE lt S s1 s (j-mid+s) (by omega) (by omega) (by omega);cases hc:lt d[j-mid+s]! d[i-s+m]! with
       |false=>rfl
       |true=>
        have y:=S.trans _ _ _ x2 (show lt d[s]! d[i-s+m]! = true from by
         cases hq:lt d[s]! d[i-s+m]! with
         |true=>rfl
         |false=>rw[S.ntrans _ _ _ x3 hq] at hc;cases hc)
        rw[y] at x1;cases x1
      ·rw[a4 j (by omega) hj];exact s2 _ _ (by omega) (by omega) hj'
    have L:∀ d2,d2=(if a<s/\s<mid then symM lt f d1 a s mid else d1)->PermIn a mid d1 d2/\SortedIn lt a mid d2:=by
     intro d2 h;by_cases c:a<s/\s<mid
     ·rw[if_pos c] at h;subst h
      exact tM S f d1 a s mid (by omega) c.1 c.2 (by omega) t1 t2
     ·rw[if_neg c] at h;subst h
      refine⟨permIn_refl _ _ _,?_⟩;by_cases c':a<s
      ·have:s=mid:=by omega
       subst this;exact t1
      ·have:s=a:=by omega
       subst this;exact t2
    generalize hd2:(if a<s/\s<mid then symM lt f d1 a s mid else d1)=d2;obtain⟨P2,u1⟩:=L d2 hd2.symm;clear L hd2;have hb2:b<=d2.size:=by rw[P2.1];exact hb1
    have o2:∀ k,mid<=k->d2[k]! = d1[k]! := fun k h=>P2.2.1 k (.inr h)
    have t3':SortedIn lt mid e d2:=fun i j hi hij hj=>by rw[o2 i hi,o2 j (by omega)];exact t3 i j hi hij hj
    have t4':SortedIn lt e b d2:=fun i j hi hij hj=>by rw[o2 i (by omega),o2 j (by omega)];exact t4 i j hi hij hj
    have cross2:∀ i j,a<=i->i<mid->mid<=j->j<b->lt d2[j]! d2[i]! = false:=fun i j hi hi' hj hj'=>by
     rw[o2 j hj];exact permIn_all d1 d2 a mid (fun x=>lt d1[j]! x=false) (by omega) P2 (fun i hi hi'=>cross i j hi hi' hj hj') i hi hi'
    have Rr:∀ d3,d3=(if mid<e/\e<b then symM lt f d2 mid e b else d2)->PermIn mid b d2 d3/\SortedIn lt mid b d3:=by
     intro d3 h;by_cases c:mid<e/\e<b
     ·rw[if_pos c] at h;subst h
      exact tM S f d2 mid e b (by omega) c.1 c.2 hb2 t3' t4'
     ·rw[if_neg c] at h;subst h
      refine⟨permIn_refl _ _ _,?_⟩;by_cases c':mid<e
      ·have:e=b:=by omega
       subst this;exact t3'
      ·have:e=mid:=by omega
       rw[this] at t4';exact t4'
    generalize hd3:(if mid<e/\e<b then symM lt f d2 mid e b else d2)=d3;obtain⟨P3,u2⟩:=Rr d3 hd3.symm;clear Rr hd3;have o3:∀ k,k<mid->d3[k]! = d2[k]! := fun k h=>P3.2.1 k (.inl h)
    refine⟨permIn_trans _ _ _ _ _ (permIn_trans _ _ _ _ _ P1 (permIn_mono _ _ _ _ _ _ (Nat.le_refl _) (by omega) hb1 P2)) (permIn_mono _ _ _ _ _ _ (by omega) (Nat.le_refl _) hb2 P3),x7 lt S (fun i j hi hij hj=>by rw[o3 i (by omega),o3 j hj];exact u1 i j hi hij hj) u2 fun i j hi hi' hj hj'=>?_⟩;rw[o3 i hi'];exact permIn_all d2 d3 mid b (fun x=>lt x d2[i]! = false) (by omega) P3 (fun j hj hj'=>cross2 i j hi hi' hj hj') j hj hj'
end Go.Proofs.Wo
end

noncomputable section
namespace Go.Proofs.Wo
open Go.Exo Go.Exo.Wo Go.RowKit Go.Sort
variable {α:Type} [Inhabited α]
structure Spt where
 w0:World
 B:Nat
 φ:Nat->Nat->Option Value
 g:Nat
 rest:Array Value
 ty:TypeId
structure Sw (enc:α->Value)(s:Spt)(dk:Array α)(W:World):Prop where
 below:Below s.B s.w0 W
 dat:Dat s.φ W
 row:W.heap[s.g]? = some (.cells (dk.map enc++s.rest) s.ty (0,0))
 hg:s.B<=s.g
 hn:∀ b o u,s.φ b o=some u->b≠s.g
structure Wd (enc:α->Value)(s:Spt)(dk:Array α) where
 W:World
 h:Sw enc s dk W
variable {enc:α->Value}{s:Spt}{dk:Array α}{W:World}
theorem Sw.lt (h:Sw enc s dk W):s.g<W.heap.size:=(ag.1 h.row).1
theorem Sw.c1 (h:Sw enc s dk W)(i:Nat)(hi:i<dk.size):W.cell? ⟨s.g,i,none⟩=some (enc dk[i]!):=by
 refine aA h.row ?_;rw[Array.getElem?_append_left (by simpa using hi),Array.getElem?_map,Array.getElem?_eq_getElem hi,getElem!_pos dk i hi];rfl
theorem Sw.f1 (h:Sw enc s dk W)(i:Nat):W.frozen? ⟨s.g,i,none⟩=false:=kW h.row
theorem Sw.c2 (h:Sw enc s dk W)(i j:Nat)(hi:i<dk.size)(hj:j<dk.size)(v:Value):∃ u,(W.setCell ⟨s.g,i,none⟩ v).cell? ⟨s.g,j,none⟩=some u:=by
 by_cases e:i=j
 ·subst e;exact⟨v,World.cell?_setCell_same _ _ _ (h.c1 i hi)⟩
 ·exact⟨_,(World.cell?_setCell_other _ _ _ _ (by intro e';simp only[Addr.mk.injEq] at e';omega)).trans (h.c1 j hj)⟩
theorem st_set {W:World}{B:Nat}{c:Array Value}{t:TypeId}{fr:Nat×Nat}(o:Nat)(v:Value)(h:W.heap[B]? = some (.cells c t fr)):(W.setCell ⟨B,o,none⟩ v).heap[B]? = some (.cells (c.setIfInBounds o v) t fr):=by
 obtain⟨hlt,hk⟩:=ag.1 h;show (W.heap.modify B _)[B]? = _;rw[Array.getElem?_eq_getElem (by rw[Array.size_modify];exact hlt),Array.getElem_modify_self,hk];rfl
theorem st_dat {φ:Nat->Nat->Option Value}{w w':World}(h:Dat φ w)(hs:∀ b o v,φ b o=some v->w'.heap[b]? = w.heap[b]?):Dat φ w':=fun b o v hv=>by
 have h1:=hs b o v hv;have h2:=h b o v hv;unfold World.cell? at h2 ⊢;rw[h1];exact h2
theorem Sw.set (h:Sw enc s dk W)(i:Nat)(hi:i<dk.size)(x:α):Sw enc s (dk.setIfInBounds i x) (W.setCell ⟨s.g,i,none⟩ (enc x)):=
 ⟨h.below.setCell (p:=⟨s.g,i,none⟩) h.hg _,st_dat h.dat fun b o v hv=>Below.heap_setCell _ _ _ _ (h.hn b o v hv),by
  have:=st_set i (enc x) h.row
  rwa [Array.setIfInBounds_append_left (by simpa using hi),<- Array.map_setIfInBounds] at this,h.hg,h.hn⟩
theorem Sw.drew (h:Sw enc s dk W):Sw enc s dk W.drew:=⟨⟨h.below.os,h.below.tape,h.below.output,h.below.size,h.below.block⟩,h.dat,h.row,h.hg,h.hn⟩
theorem Sw.swapped (h:Sw enc s dk W)(i j:Nat)(hi:i<dk.size)(hj:j<dk.size) :
  Sw enc s (swp dk i j) ((W.setCell ⟨s.g,i,none⟩ (enc dk[j]!)).setCell ⟨s.g,j,none⟩ (enc dk[i]!)).drew:=((h.set i hi _).set j (by simpa using hj) _).drew
theorem Sw.call (h:Sw enc s dk W){w':World}(hb:Below W.heap.size W w'):Sw enc s dk w':=
 ⟨h.below.trans (hb.mono (by have:=h.lt;have:=h.hg;omega)),h.dat.below hb,(hb.block _ h.lt).trans h.row,h.hg,h.hn⟩
def Cmps (P:Program)(f:FuncId)(fp:Value)(enc:α->Value)(s:Spt)(cf:α->α->Int):Prop:=
 ∀ (dk:Array α)(W:World),Sw enc s dk W->∀ x y:α,Calls P f #[fp,enc x,enc y] W fun e w'=>e=.returned (.int .i64 (cf x y))/\Below W.heap.size W w'
theorem Cmps.wd {P:Program}{f:FuncId}{fp:Value}{cf:α->α->Int}(h:Cmps P f fp enc s cf)(p:Wd enc s dk)(x y:α) :
  Calls P f #[fp,enc x,enc y] p.W fun e w'=>e=.returned (.int .i64 (cf x y))/\∃ p':Wd enc s dk,w'=p'.W:=
 (h dk p.W p.h x y).mono fun _ _ ⟨he,hb⟩=>⟨he,⟨_,p.h.call hb⟩,rfl⟩
theorem bi {P:Program}{id:Nat}{Q:Exit->Act->World->Prop}{a:Act}{w:World}{l:List Oper}{C:World->Prop}(hm:P.follows .mixedOrders=true)(hB:Region.lexB .any l.toArray=true)(hC:C w.drew)
  (h:wpQuiet P l.toArray C (fun a'=>∀ w',C w'->Q .normal a' w') l a):(Code.region id l.toArray true).wp P Q a w:=wp_region_quiet (C:=C) hm hB hC (by simpa using h)
def ltC (cf:α->α->Int)(x y:α):Bool:=decide (cf x y<0)
end Go.Proofs.Wo
end

noncomputable section
namespace Go.Proofs.Wo
open Go.Exo Go.Exo.Wo Go.RowKit Go.Sort Go.Lib
set_option maxRecDepth 100000
variable {α:Type} [Inhabited α]{enc:α->Value}{s:Spt}
set_option maxHeartbeats 4000000 in
theorem lU (hO:OneCell enc){dk:Array α}{W:World}(S:Sw enc s dk W)(a b n cap:Nat)(f:Value)(hab:a+n<=b)(hb:b+n<=dk.size)(hsz:dk.size<1099511627776) :
  Calls Tryz.prog 168 #[.slice (some ⟨s.g,0,none⟩) dk.size cap,.int .i64 a,.int .i64 b,.int .i64 n,f] W fun e w'=>e=.returned (.tuple #[])/\Sw enc s (swpR a b n 0 dk) w':=by
 have hcl0:=hO.cells;simp only[Value.cells] at hcl0;have hst:=hO.store Tryz.prog;have S0:Aside (Sw enc s dk W):=S;clear S;go_enter Tryz.func168,Tryz.ntmps168;go_wp2;go_loopg [10] n (fun kx s10 wr=>∃ (i:Nat)(dj:Array α),s10=.int .i64 i/\i<=n/\n-i<=kx/\dj.size=dk.size/\Aside (Sw enc s dj wr)/\Hid (swpR a b n i dj=swpR a b n 0 dk))
 case atStart=>exact⟨0,dk,rfl,by omega,by omega,rfl,S0,rfl⟩
 case round=>
  clear S0;obtain⟨i,dj,rfl,h1,hkx,hds,S1,HO⟩:=hrel;by_cases hlt:i<n
  ·have hltz:(i:Int)<(n:Int):=by omega
   go_wp2_with fail;obtain⟨iN,hiN⟩:∃ q,q=a+i:=⟨_,rfl⟩
   obtain⟨jN,hjN⟩:∃ q,q=b+i:=⟨_,rfl⟩
   have ea:((a:Int)+(i:Int)).toNat=iN:=by omega
   have pa:(0:Int)<=(a:Int)+(i:Int):=by omega
   have ba:(a:Int)+(i:Int)<(dk.size:Int):=by omega
   have ra:IntKind.i64.wrap ((a:Int)+(i:Int))=(a:Int)+(i:Int):=by rw[IntKind.wrap_i64];omega
   have ec:((b:Int)+(i:Int)).toNat=jN:=by omega
   have pc:(0:Int)<=(b:Int)+(i:Int):=by omega
   have bc:(b:Int)+(i:Int)<(dk.size:Int):=by omega
   have rc:IntKind.i64.wrap ((b:Int)+(i:Int))=(b:Int)+(i:Int):=by rw[IntKind.wrap_i64];omega
   obtain⟨x,hx⟩:∃ x,x=dj[a+i]! := ⟨_,rfl⟩
   obtain⟨y,hy⟩:∃ x,x=dj[b+i]! := ⟨_,rfl⟩
   have S2:Aside (Sw enc s (swp dj (a+i) (b+i)) ((wr.setCell ⟨s.g,iN,none⟩ (enc y)).setCell ⟨s.g,jN,none⟩ (enc x)).drew):=by rw[hiN,hjN,hx,hy];exact S1.out.swapped (a+i) (b+i) (by omega) (by omega)
   have ca:=S1.out.c1 (a+i) (by omega);have cb:=S1.out.c1 (b+i) (by omega);have fa:=S1.out.f1 (a+i);have fb:=S1.out.f1 (b+i);obtain⟨u,cc⟩:=S1.out.c2 (a+i) (b+i) (by omega) (by omega) (enc y);rw[<- hjN,<- hiN] at cc;rw[<- hx,<- hiN] at ca;rw[<- hy,<- hjN] at cb;rw[<- hiN] at fa;rw[<- hjN] at fb;clear S1 hx hy hiN hjN;have mixed:Tryz.prog.follows .mixedOrders=true:=by kernel_rfl
   go_wp2_with fail;go_big_region_o;clear ca cb cc fa fb;generalize ((wr.setCell ⟨s.g,iN,none⟩ (enc y)).setCell ⟨s.g,jN,none⟩ (enc x)).drew=w2 at S2 ⊢;clear ea ec;go_wp2;go_roundg (n-(i+1))
   case measure=>omega
   case rel=>exact⟨i+1,swp dj (a+i) (b+i),by first|rfl|go_num|(congr 1;omega),by omega,by omega,by rw[size_swp];exact hds,S2,(show _=_ from (iG hlt).symm.trans HO.out)⟩
  ·have hltz:¬ (i:Int)<(n:Int):=by omega
   go_wp2;go_end0;refine⟨rfl,?_⟩;rw[<- HO.out,dG hlt];exact S1.out
end Go.Proofs.Wo
end
