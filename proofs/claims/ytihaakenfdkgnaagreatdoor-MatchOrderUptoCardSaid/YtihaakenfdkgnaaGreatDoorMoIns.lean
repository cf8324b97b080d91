/-
  insertion sort: the walk. Own text; the course of the loops is that of the kit's walk of the same function at cells of its own.
-/
import Derived.Test.YtihaakenfdkgnaaGreatDoorPart22
import Derived.Sort.WalkA
set_option linter.all false
noncomputable section
namespace Go.Proofs.Wo
open Go.Exo Go.Exo.Wo Go.RowKit Go.Sort Go.Lib
set_option maxRecDepth 100000
variable {α:Type} [Inhabited α]{enc:α->Value}{s:Spt}
theorem Sw.cl1 {dk:Array α}{W:World}(_:Sw enc s dk W)(i:Nat)(hi:i<dk.size)(p:Wd enc s dk):p.W.cell? ⟨s.g,i,none⟩=some (enc dk[i]!):=p.h.c1 i hi
set_option maxHeartbeats 8000000 in
theorem ins_walk (hO:OneCell enc){cf:α->α->Int}{fp:Value}(hC:Cmps Tryz.prog 20 fp enc s cf){dk0:Array α}{W:World}(S:Sw enc s dk0 W)(a b cap:Nat)(hab:a<=b)(hb:b<=dk0.size)(hsz:dk0.size<1099511627776) :
  Calls Tryz.prog 67 #[.slice (some ⟨s.g,0,none⟩) dk0.size cap,.int .i64 a,.int .i64 b,.func (.func 20) #[fp] #[]] W fun e w'=>e=.returned (.tuple #[])/\Sw enc s (Sort.insertionSort (ltC cf) dk0 a b) w':=by
 have hcl0:=hO.cells;simp only[Value.cells] at hcl0;have hst:=hO.store Tryz.prog;have mixed:Tryz.prog.follows .mixedOrders=true:=by kernel_rfl
 have HC:Aside (Cmps Tryz.prog 20 fp enc s cf):=hC;have S0:Aside (Sw enc s dk0 W):=S;clear S hC;go_enter Tryz.func67,Tryz.ntmps67;go_wp2;go_loopg [8] (b-a) (fun g1 vi wr=>∃ (i:Nat)(dk:Array α),vi=.int .i64 i/\a<i/\i<=b+1/\b+1-i<=g1+1/\dk.size=dk0.size/\Aside (Sw enc s dk wr)/\Hid (insOuter (ltC cf) a b i dk=insOuter (ltC cf) a b (a+1) dk0))
 case atStart=>exact⟨a+1,dk0,by go_num,by omega,by omega,by omega,rfl,S0,rfl⟩
 case round=>
  clear S0;obtain⟨i,dk,rfl,hai,hib,hg1,hsk,S1,HO⟩:=hrel;by_cases hlt:i<b
  ·have hltz:(i:Int)<(b:Int):=by omega
   go_wp2;go_loopg [9] i (fun g2 vj wr2=>∃ (j:Nat)(dj:Array α),vj=.int .i64 j/\a<=j/\j<=i/\j<=g2/\dj.size=dk0.size/\Aside (Sw enc s dj wr2)/\Hid (insInner (ltC cf) a j dj=insInner (ltC cf) a i dk))
   case atStart=>exact⟨i,dk,rfl,by omega,am _,am _,hsk,S1,rfl⟩
   case round=>
    clear S1;obtain⟨j,dj,rfl,haj,hji,hg2,hsj,SJ,HI⟩:=hrel
    have out:(j<=a\/(ltC cf) dj[j]! dj[j-1]! = false)->Hid (insOuter (ltC cf) a b (i+1) dj=insOuter (ltC cf) a b (a+1) dk0):=fun hs=>by
     show _=_;rw[<- HO.out,insOuter_go _ _ _ _ _ hlt,<- HI.out,insInner_stop _ _ _ _ hs]
    have OUT:Aside _:=out;clear out;by_cases hja:a<j
    ·have hjaz:(a:Int)<(j:Int):=by omega
     obtain⟨jp,hjp⟩:∃ q,q+1=j:=⟨j-1,by omega⟩
     have zjp:(j:Int)=(jp:Int)+1:=by omega
     have hjad:decide ((jp:Int)+1 > (a:Int))=true:=decide_eq_true (by omega);have hjaz':(a:Int)<(jp:Int)+1:=by omega
     cases hlv:(ltC cf) dj[j]! dj[j-1]! with
     |true=>
      obtain⟨iN1193,hiN1193⟩:∃ q,q=j:=⟨_,rfl⟩
      obtain⟨jN1193,hjN1193⟩:∃ q,q=j-1:=⟨_,rfl⟩
      have ea1193:((jp:Int)+1).toNat=iN1193:=by omega
      have pa1193:(0:Int)<=(jp:Int)+1:=by omega
      have ba1193:(jp:Int)+1<(dk0.size:Int):=by omega
      have ra1193:IntKind.i64.wrap ((jp:Int)+1)=(jp:Int)+1:=by rw[IntKind.wrap_i64];omega
      have ec1193:((jp:Int)).toNat=jN1193:=by omega
      have pc1193:(0:Int)<=(jp:Int):=by omega
      have bc1193:(jp:Int)<(dk0.size:Int):=by omega
      have rc1193:IntKind.i64.wrap ((jp:Int))=(jp:Int):=by rw[IntKind.wrap_i64];omega
      obtain⟨x1193,hx1193⟩:∃ x,x=dj[j]! := ⟨_,rfl⟩
      obtain⟨y1193,hy1193⟩:∃ x,x=dj[j-1]! := ⟨_,rfl⟩
      have l1193a:=SJ.out.cl1 (j) (by omega);have l1193b:=SJ.out.cl1 (j-1) (by omega);rw[<- hx1193,<- hiN1193] at l1193a;rw[<- hy1193,<- hjN1193] at l1193b;have hv1193:cf x1193 y1193<0:=by rw[hx1193,hy1193];exact of_decide_eq_true hlv
      have hd1193:decide (cf x1193 y1193<0)=true:=decide_eq_true hv1193;clear hx1193 hy1193 hiN1193 hjN1193;go_wp2_with fail;have hInh:Nonempty (Wd enc s dj):=⟨⟨_,SJ.out⟩⟩
      refine bi (C:=fun w'=>∃ p:Wd enc s dj,w'=p.W) mixed (by kernel_rfl) ⟨⟨_,SJ.out.drew⟩,rfl⟩ ?_
      repeat (quiet_step (exact Cmps.wd HC.out _ _ _))
      refine wpQuiet_nil ?_;intro _ hw';obtain⟨p,rfl⟩:=hw';have S2:Aside (Sw enc s dj p.W):=p.h;clear hInh l1193a l1193b SJ;generalize p.W=w2 at S2 ⊢;clear p;clear ea1193 ec1193;go_wp2_with fail;obtain⟨iN1194,hiN1194⟩:∃ q,q=j:=⟨_,rfl⟩
      obtain⟨jN1194,hjN1194⟩:∃ q,q=j-1:=⟨_,rfl⟩
      have ea1194:((jp:Int)+1).toNat=iN1194:=by omega
      have pa1194:(0:Int)<=(jp:Int)+1:=by omega
      have ba1194:(jp:Int)+1<(dk0.size:Int):=by omega
      have ra1194:IntKind.i64.wrap ((jp:Int)+1)=(jp:Int)+1:=by rw[IntKind.wrap_i64];omega
      have ec1194:((jp:Int)).toNat=jN1194:=by omega
      have pc1194:(0:Int)<=(jp:Int):=by omega
      have bc1194:(jp:Int)<(dk0.size:Int):=by omega
      have rc1194:IntKind.i64.wrap ((jp:Int))=(jp:Int):=by rw[IntKind.wrap_i64];omega
      obtain⟨x1194,hx1194⟩:∃ x,x=dj[j]! := ⟨_,rfl⟩
      obtain⟨y1194,hy1194⟩:∃ x,x=dj[j-1]! := ⟨_,rfl⟩
      have S3:Aside (Sw enc s (swp dj (j) (j-1)) ((w2.setCell ⟨s.g,iN1194,none⟩ (enc y1194)).setCell ⟨s.g,jN1194,none⟩ (enc x1194)).drew):=by rw[hiN1194,hjN1194,hx1194,hy1194];exact S2.out.swapped (j) (j-1) (by omega) (by omega)
      have c1194a:=S2.out.c1 (j) (by omega);have c1194b:=S2.out.c1 (j-1) (by omega);have f1194a:=S2.out.f1 (j);have f1194b:=S2.out.f1 (j-1);obtain⟨u1194,c1194c⟩:=S2.out.c2 (j) (j-1) (by omega) (by omega) (enc y1194);rw[<- hjN1194,<- hiN1194] at c1194c;rw[<- hx1194,<- hiN1194] at c1194a;rw[<- hy1194,<- hjN1194] at c1194b;rw[<- hiN1194] at f1194a;rw[<- hjN1194] at f1194b;clear S2 hx1194 hy1194 hiN1194 hjN1194;go_wp2_with fail;go_big_region_o;clear c1194a c1194b c1194c f1194a f1194b;generalize ((w2.setCell ⟨s.g,iN1194,none⟩ (enc y1194)).setCell ⟨s.g,jN1194,none⟩ (enc x1194)).drew=w3 at S3 ⊢;clear ea1194 ec1194;go_wp2;go_roundg (j-1)
      case measure=>omega
      case rel=>exact⟨j-1,swp dj j (j-1),by first|rfl|go_num|(congr 1;omega),by omega,by omega,am _,by rw[size_swp];exact hsj,S3,(show Hid _ from by rw[<- HI.out,insInner_go (ltC cf) a j dj hja hlv];exact rfl)⟩
     |false=>
      obtain⟨iN1195,hiN1195⟩:∃ q,q=j:=⟨_,rfl⟩
      obtain⟨jN1195,hjN1195⟩:∃ q,q=j-1:=⟨_,rfl⟩
      have ea1195:((jp:Int)+1).toNat=iN1195:=by omega
      have pa1195:(0:Int)<=(jp:Int)+1:=by omega
      have ba1195:(jp:Int)+1<(dk0.size:Int):=by omega
      have ra1195:IntKind.i64.wrap ((jp:Int)+1)=(jp:Int)+1:=by rw[IntKind.wrap_i64];omega
      have ec1195:((jp:Int)).toNat=jN1195:=by omega
      have pc1195:(0:Int)<=(jp:Int):=by omega
      have bc1195:(jp:Int)<(dk0.size:Int):=by omega
      have rc1195:IntKind.i64.wrap ((jp:Int))=(jp:Int):=by rw[IntKind.wrap_i64];omega
      obtain⟨x1195,hx1195⟩:∃ x,x=dj[j]! := ⟨_,rfl⟩
      obtain⟨y1195,hy1195⟩:∃ x,x=dj[j-1]! := ⟨_,rfl⟩
      have l1195a:=SJ.out.cl1 (j) (by omega);have l1195b:=SJ.out.cl1 (j-1) (by omega);rw[<- hx1195,<- hiN1195] at l1195a;rw[<- hy1195,<- hjN1195] at l1195b;have hv1195:¬ cf x1195 y1195<0:=by rw[hx1195,hy1195];exact of_decide_eq_false hlv
      have hd1195:decide (cf x1195 y1195<0)=false:=decide_eq_false hv1195;clear hx1195 hy1195 hiN1195 hjN1195;go_wp2_with fail;have hInh:Nonempty (Wd enc s dj):=⟨⟨_,SJ.out⟩⟩
      refine bi (C:=fun w'=>∃ p:Wd enc s dj,w'=p.W) mixed (by kernel_rfl) ⟨⟨_,SJ.out.drew⟩,rfl⟩ ?_
      repeat (quiet_step (exact Cmps.wd HC.out _ _ _))
      refine wpQuiet_nil ?_;intro _ hw';obtain⟨p,rfl⟩:=hw';have S2:Aside (Sw enc s dj p.W):=p.h;clear hInh l1195a l1195b SJ;generalize p.W=w2 at S2 ⊢;clear p;clear ea1195 ec1195;go_wp2;go_roundg (b-(i+1))
      case measure=>omega
      case rel=>exact⟨i+1,dj,by go_num,by omega,by omega,by omega,hsj,S2,OUT.out (Or.inr hlv)⟩
    ·
     have hjaz:decide ((j:Int) > (a:Int))=false:=decide_eq_false (by omega);have hjaz':¬ (a:Int)<(j:Int):=by omega
     go_wp2_with fail;go_big_region_o;have S2:Aside (Sw enc s dj wr.drew):=SJ.out.drew;clear SJ;generalize wr.drew=w2 at S2 ⊢;go_wp2;go_roundg (b-(i+1))
     case measure=>omega
     case rel=>exact⟨i+1,dj,by go_num,by omega,by omega,by omega,hsj,S2,OUT.out (Or.inl (by omega))⟩
  ·
   have hltz:¬ (i:Int)<(b:Int):=by omega
   go_wp2;go_end0;exact⟨rfl,by unfold Sort.insertionSort;rw[<- HO.out,insOuter_stop _ _ _ _ _ hlt];exact S1.out⟩
end Go.Proofs.Wo
end
