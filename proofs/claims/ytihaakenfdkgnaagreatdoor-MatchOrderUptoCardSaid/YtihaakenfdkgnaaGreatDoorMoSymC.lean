/-
  symMerge: the walk: the rest. Own text, by a program of mine.
-/
import Derived.Test.YtihaakenfdkgnaaGreatDoorPart23
import Derived.Deep.CutRange
set_option linter.all false
noncomputable section
namespace Go.Proofs.Wo
open Go.Exo Go.Exo.Wo Go.RowKit Go.Sort Go.Lib
set_option maxRecDepth 100000
variable {α:Type} [Inhabited α]{enc:α->Value}{s:Spt}
theorem symS_lo {lt:α->α->Bool}{d:Array α}{a m b mid:Nat}(h:mid=(a+b) / 2)(hc:mid<m):bsr (fun c=>!lt d[mid+m-1-c]! d[c]!) (mid+m-b) mid=symS lt d a m b:=by subst h;rw[symS,if_pos hc]
theorem symS_hi {lt:α->α->Bool}{d:Array α}{a m b mid:Nat}(h:mid=(a+b) / 2)(hc:¬ mid<m):bsr (fun c=>!lt d[mid+m-1-c]! d[c]!) a m=symS lt d a m b:=by subst h;rw[symS,if_neg hc]
set_option maxHeartbeats 8000000 in
theorem A8 (hO:OneCell enc){cf:α->α->Int}{fp:Value}(hC:Cmps Tryz.prog 20 fp enc s cf){d:Array α}{W:World}(S:Sw enc s d W)(a m b f cap:Nat)(hma:¬ m-a=1)(hmb:¬ b-m=1)(ha:a<m)(hab:m<b)(hb:b<=d.size)(hsz:d.size<1099511627776)(hf:b-a<=f+1)
  (hR:∀ (d':Array α)(W':World)(a' m' b':Nat),Sw enc s d' W'->d'.size=d.size->a'<m'->m'<b'->b'<=d.size->b'-a'<=f-> Calls Tryz.prog 68 #[.slice (some ⟨s.g,0,none⟩) d.size cap,.int .i64 a',.int .i64 m',.int .i64 b',.func (.func 20) #[fp] #[]] W' fun e w'=>e=.returned (.tuple #[])/\Sw enc s (symM (ltC cf) f d' a' m' b') w'/\(symM (ltC cf) f d' a' m' b').size=d.size) :
  Calls Tryz.prog 68 #[.slice (some ⟨s.g,0,none⟩) d.size cap,.int .i64 a,.int .i64 m,.int .i64 b,.func (.func 20) #[fp] #[]] W fun e w'=>e=.returned (.tuple #[])/\Sw enc s (symM (ltC cf) (f+1) d a m b) w':=by
 have hcl0:=hO.cells;simp only[Value.cells] at hcl0;have hst:=hO.store Tryz.prog;have mixed:Tryz.prog.follows .mixedOrders=true:=by kernel_rfl
 have HC:Aside (Cmps Tryz.prog 20 fp enc s cf):=hC;have HO1:=Go.Lib.hid hO;have HR:=Go.Lib.hid hR;have S0:Aside (Sw enc s d W):=S;clear S hC hR;have hm0:¬ (m:Int)-(a:Int)=1:=by omega
 have hm0b:((m:Int)-(a:Int)==1)=false:=beq_eq_false_iff_ne.2 hm0;have hm1:¬ (b:Int)-(m:Int)=1:=by omega
 have hm1b:((b:Int)-(m:Int)==1)=false:=beq_eq_false_iff_ne.2 hm1;have HMA:=Go.Lib.hid hma;have HMB:=Go.Lib.hid hmb;clear hma hmb;obtain⟨mid,hmid⟩:∃ x,x=(a+b) / 2:=⟨_,rfl⟩
 have emid:((a:Int)+(b:Int)) / 2=(mid:Int):=by omega
 have k1:a<mid:=by have:=HMA.out;have:=HMB.out;omega
 have k2:mid<b:=by omega
 have k3:mid+mid<=a+b:=by omega
 have k4:a+b<=mid+mid+1:=by omega
 have HMID:=Go.Lib.hid hmid;clear hmid;go_enter Tryz.func68,Tryz.ntmps68;go_upto_if 140 with fail
 go_cut [20,21] from 138 to 146 (fun s20 s21 wx=>∃ (lo hi:Nat),s20=.int .i64 lo/\s21=.int .i64 hi/\a<=lo/\lo<=hi/\hi<=m/\hi<=mid/\mid+m<=lo+b/\Aside (Sw enc s d wx)/\Hid (bsr (fun c=>!ltC cf d[mid+m-1-c]! d[c]!) lo hi=symS (ltC cf) d a m b))
 case first=>
  by_cases hc:mid<m
  ·have hcz:(mid:Int)<(m:Int):=by omega
   go_wp2_with fail;go_meet;exact⟨mid+m-b,mid,by first|rfl|go_num|(congr 1;omega),rfl,by omega,by omega,by omega,am _,by omega,S0,symS_lo HMID.out hc⟩
  ·have hcz:¬ (mid:Int)<(m:Int):=by omega
   go_wp2_with fail;go_meet;exact⟨a,m,rfl,rfl,am _,by omega,am _,by omega,by omega,S0,symS_hi HMID.out hc⟩
 case rest=>
  clear S0;obtain⟨lo,hi,rfl,rfl,g1,g2,g3,g4,g5,S0,HB⟩:=hcut;go_wp2_with fail;go_loopg [20,21] (hi-lo) (fun kx si sj wr=>∃ (i j:Nat),si=.int .i64 i/\sj=.int .i64 j/\a<=i/\i<=j/\j<=m/\j<=mid/\mid+m<=i+b/\j-i<=kx/\Aside (Sw enc s d wr)/\Hid (bsr (fun c=>!ltC cf d[mid+m-1-c]! d[c]!) i j=symS (ltC cf) d a m b))
  case atStart=>exact⟨lo,hi,rfl,rfl,g1,g2,g3,g4,g5,am _,S0,HB⟩
  case round=>
   clear S0 HB g1 g2 g3 g4 g5;obtain⟨i,j,rfl,rfl,h1,h2,h3,h4,h5,hkx,S1,HO⟩:=hrel;by_cases hlt:i<j
   ·have hltz:(i:Int)<(j:Int):=by omega
    go_wp2_with fail;obtain⟨h,hh⟩:∃ h,h=(i+j) / 2:=⟨_,rfl⟩
    have eh:((i:Int)+(j:Int)) / 2=(h:Int):=by omega
    have hih:i<=h:=by omega
    have hhj:h<j:=by omega
    have HH:=Go.Lib.hid hh;clear hh;obtain⟨p0,hp0⟩:∃ q,q=mid+m-1-h:=⟨_,rfl⟩
    have ep0:(mid:Int)+(m:Int)-1-(h:Int)=(p0:Int):=by omega
    have hpb:p0<d.size:=by omega
    have HP:=Go.Lib.hid hp0;clear hp0;cases hlv:ltC cf d[p0]! d[h]! with
    |false=>
     obtain⟨iN1,hiN1⟩:∃ q,q=p0:=⟨_,rfl⟩
     obtain⟨jN1,hjN1⟩:∃ q,q=h:=⟨_,rfl⟩
     have ea1:((p0:Int)).toNat=iN1:=by omega
     have pa1:(0:Int)<=(p0:Int):=by omega
     have ba1:(p0:Int)<(d.size:Int):=by omega
     have ra1:IntKind.i64.wrap ((p0:Int))=(p0:Int):=by rw[IntKind.wrap_i64];omega
     have ec1:((h:Int)).toNat=jN1:=by omega
     have pc1:(0:Int)<=(h:Int):=by omega
     have bc1:(h:Int)<(d.size:Int):=by omega
     have rc1:IntKind.i64.wrap ((h:Int))=(h:Int):=by rw[IntKind.wrap_i64];omega
     obtain⟨x1,hx1⟩:∃ x,x=d[p0]! := ⟨_,rfl⟩
     obtain⟨y1,hy1⟩:∃ x,x=d[h]! := ⟨_,rfl⟩
     have l1a:=S1.out.cl1 (p0) (by omega);have l1b:=S1.out.cl1 (h) (by omega);rw[<- hx1,<- hiN1] at l1a;rw[<- hy1,<- hjN1] at l1b;have hv1:¬ cf x1 y1<0:=by rw[hx1,hy1];exact of_decide_eq_false hlv
     have hd1:decide (cf x1 y1<0)=false:=decide_eq_false hv1;clear hx1 hy1 hiN1 hjN1;go_wp2_with fail;have hInh:Nonempty (Wd enc s d):=⟨⟨_,S1.out⟩⟩
     refine bi (C:=fun w'=>∃ p:Wd enc s d,w'=p.W) mixed (by kernel_rfl) ⟨⟨_,S1.out.drew⟩,rfl⟩ ?_
     repeat (quiet_step (exact Cmps.wd HC.out _ _ _))
     refine wpQuiet_nil ?_;intro _ hw';obtain⟨p,rfl⟩:=hw';have S2:Aside (Sw enc s d p.W):=p.h;clear hInh l1a l1b S1;generalize p.W=w2 at S2 ⊢;clear p;clear ea1 ec1;go_wp2;go_roundg (j-(h+1))
     case measure=>omega
     case rel=>exact⟨h+1,j,by first|rfl|go_num|(congr 1;omega),rfl,by omega,by omega,by omega,by omega,by omega,by omega,S2,(show _=_ from by rw[<- HO.out,bsr_t hlt (by rw[<- HH.out,<- HP.out,hlv];rfl),<- HH.out])⟩
    |true=>
     obtain⟨iN2,hiN2⟩:∃ q,q=p0:=⟨_,rfl⟩
     obtain⟨jN2,hjN2⟩:∃ q,q=h:=⟨_,rfl⟩
     have ea2:((p0:Int)).toNat=iN2:=by omega
     have pa2:(0:Int)<=(p0:Int):=by omega
     have ba2:(p0:Int)<(d.size:Int):=by omega
     have ra2:IntKind.i64.wrap ((p0:Int))=(p0:Int):=by rw[IntKind.wrap_i64];omega
     have ec2:((h:Int)).toNat=jN2:=by omega
     have pc2:(0:Int)<=(h:Int):=by omega
     have bc2:(h:Int)<(d.size:Int):=by omega
     have rc2:IntKind.i64.wrap ((h:Int))=(h:Int):=by rw[IntKind.wrap_i64];omega
     obtain⟨x2,hx2⟩:∃ x,x=d[p0]! := ⟨_,rfl⟩
     obtain⟨y2,hy2⟩:∃ x,x=d[h]! := ⟨_,rfl⟩
     have l2a:=S1.out.cl1 (p0) (by omega);have l2b:=S1.out.cl1 (h) (by omega);rw[<- hx2,<- hiN2] at l2a;rw[<- hy2,<- hjN2] at l2b;have hv2:cf x2 y2<0:=by rw[hx2,hy2];exact of_decide_eq_true hlv
     have hd2:decide (cf x2 y2<0)=true:=decide_eq_true hv2;clear hx2 hy2 hiN2 hjN2;go_wp2_with fail;have hInh:Nonempty (Wd enc s d):=⟨⟨_,S1.out⟩⟩
     refine bi (C:=fun w'=>∃ p:Wd enc s d,w'=p.W) mixed (by kernel_rfl) ⟨⟨_,S1.out.drew⟩,rfl⟩ ?_
     repeat (quiet_step (exact Cmps.wd HC.out _ _ _))
     refine wpQuiet_nil ?_;intro _ hw';obtain⟨p,rfl⟩:=hw';have S2:Aside (Sw enc s d p.W):=p.h;clear hInh l2a l2b S1;generalize p.W=w2 at S2 ⊢;clear p;clear ea2 ec2;go_wp2;go_roundg (h-i)
     case measure=>omega
     case rel=>exact⟨i,h,rfl,rfl,by omega,by omega,by omega,by omega,by omega,by omega,S2,(show _=_ from by rw[<- HO.out,bsr_f hlt (by rw[<- HH.out,<- HP.out,hlv];rfl),<- HH.out])⟩
   ·have hltz:¬ (i:Int)<(j:Int):=by omega
    have HI:Hid (symS (ltC cf) d a m b=i):=by rw[<- HO.out,kY hlt];rfl
    clear HO;have S2:Aside (Sw enc s d wr):=S1;clear S1;obtain⟨e,he⟩:∃ q,q=mid+m-i:=⟨_,rfl⟩
    have ee:(mid:Int)+(m:Int)-(i:Int)=(e:Int):=by omega
    have q1:m<=e:=by omega
    have q2:mid<=e:=by omega
    have q3:e<=b:=by omega
    have HE:=Go.Lib.hid he;clear he;go_upto_region 39 with fail
    go_cut [185] from 178 to 185 (fun s185 wx=>s185=.bool (decide (i<m/\m<e))/\Aside (Sw enc s d wx))
    case first=>
     by_cases c1:i<m
     ·have c1z:(i:Int)<(m:Int):=by omega
      by_cases c2:m<e
      ·have c2z:(m:Int)<(e:Int):=by omega
       go_wp2_with fail;go_meet;exact⟨congrArg Value.bool (decide_eq_true (p:=i<m/\m<e) ⟨c1,c2⟩).symm,S2⟩
      ·have c2z:¬ (m:Int)<(e:Int):=by omega
       go_wp2_with fail;go_meet;exact⟨congrArg Value.bool (decide_eq_false (p:=i<m/\m<e) (by omega)).symm,S2⟩
     ·have c1z:¬ (i:Int)<(m:Int):=by omega
      go_wp2_with fail;go_meet;exact⟨congrArg Value.bool (decide_eq_false (p:=i<m/\m<e) (by omega)).symm,S2⟩
    case rest=>
     clear S2;obtain⟨rfl,S2⟩:=hcut;go_upto_if 185 with fail
     go_cut [] from 178 to 191 (fun wx=>Aside (Sw enc s (if i<m/\m<e then rotL m (m-i) (e-m) d else d) wx))
     case first=>
      by_cases c:i<m/\m<e
      ·have cd:decide (i<m/\m<e)=true:=decide_eq_true c
       have C:=rot_walk HO1.out S2.out i m e cap (.func (.func 20) #[fp] #[]) c.1 c.2 (by omega) hsz;have HCC:=Go.Lib.hid C;have HC0:=Go.Lib.hid c;clear C S2 c;go_wp2_with (go_at_call 111;refine (HCC.out).mono ?_;rintro e w' ⟨rfl,S3⟩);go_meet;rw[if_pos HC0.out];exact S3
      ·have cd:decide (i<m/\m<e)=false:=decide_eq_false c
       have HC0:=Go.Lib.hid c;clear c;go_wp2_with fail;go_meet;rw[if_neg HC0.out];exact S2
     case rest=>
     clear S2
     have hs1:(if i<m/\m<e then rotL m (m-i) (e-m) d else d).size=d.size:=by
      split
      ·exact (iM (lo:=a) (hi:=b) _ _ _ d (am _) (by omega) (by omega) hb).1
      ·rfl
     obtain⟨d1,hd1⟩:∃ x,x=(if i<m/\m<e then rotL m (m-i) (e-m) d else d):=⟨_,rfl⟩
     rw[<- hd1] at hcut hs1;have HD1:=Go.Lib.hid hd1;clear hd1;go_upto_region 41 with fail
     go_cut [199] from 192 to 199 (fun s199 wx=>s199=.bool (decide (a<i/\i<mid))/\Aside (Sw enc s d1 wx))
     case first=>
      by_cases c1:a<i
      ·have c1z:(a:Int)<(i:Int):=by omega
       by_cases c2:i<mid
       ·have c2z:(i:Int)<(mid:Int):=by omega
        go_wp2_with fail;go_meet;exact⟨congrArg Value.bool (decide_eq_true (p:=a<i/\i<mid) ⟨c1,c2⟩).symm,hcut⟩
       ·have c2z:¬ (i:Int)<(mid:Int):=by omega
        go_wp2_with fail;go_meet;exact⟨congrArg Value.bool (decide_eq_false (p:=a<i/\i<mid) (by omega)).symm,hcut⟩
      ·have c1z:¬ (a:Int)<(i:Int):=by omega
       go_wp2_with fail;go_meet;exact⟨congrArg Value.bool (decide_eq_false (p:=a<i/\i<mid) (by omega)).symm,hcut⟩
     case rest=>
     obtain⟨rfl,S2⟩:=hcut;go_upto_if 199 with fail
     go_cut [] from 192 to 205 (fun wx=>Aside (Sw enc s (if a<i/\i<mid then symM (ltC cf) f d1 a i mid else d1) wx)/\Hid ((if a<i/\i<mid then symM (ltC cf) f d1 a i mid else d1).size=d.size))
     case first=>
      by_cases c:a<i/\i<mid
      ·have cd:decide (a<i/\i<mid)=true:=decide_eq_true c
       have C:=HR.out d1 _ a i mid S2.out hs1 c.1 c.2 (by omega) (by omega);have HCC:=Go.Lib.hid C;have HC0:=Go.Lib.hid c;clear C S2 c;go_wp2_with (go_at_call 68;refine (HCC.out).mono ?_;rintro e w' ⟨rfl,S3,S4⟩);go_meet;rw[if_pos HC0.out];exact⟨S3,S4⟩
      ·have cd:decide (a<i/\i<mid)=false:=decide_eq_false c
       have HC0:=Go.Lib.hid c;clear c;go_wp2_with fail;go_meet;rw[if_neg HC0.out];exact⟨S2,hs1⟩
     case rest=>
      clear S2;obtain⟨S3,HS2⟩:=hcut;obtain⟨d2,hd2⟩:∃ x,x=(if a<i/\i<mid then symM (ltC cf) f d1 a i mid else d1):=⟨_,rfl⟩
      rw[<- hd2] at S3 HS2;have HD2:=Go.Lib.hid hd2;clear hd2
      have FIN:symM (ltC cf) (f+1) d a m b=if mid<e/\e<b then symM (ltC cf) f d2 mid e b else d2:=by
       rw[symM,if_neg HMA.out,if_neg HMB.out];dsimp only;rw[HI.out,<- HMID.out,<- HE.out,<- HD1.out,<- HD2.out]
      have HF:=Go.Lib.hid FIN;clear FIN;by_cases c1:mid<e
      ·have c1z:(mid:Int)<(e:Int):=by omega
       by_cases c2:e<b
       ·have c2z:(e:Int)<(b:Int):=by omega
        have C:=HR.out d2 _ mid e b S3.out HS2.out c1 c2 hb (by omega);have HCC:=Go.Lib.hid C;clear C S3;go_wp2_with (go_at_call 68;refine (HCC.out).mono ?_;rintro e w' ⟨rfl,S4,S5⟩);go_end0;refine⟨rfl,?_⟩;rw[HF.out,if_pos ⟨c1,c2⟩];exact S4
       ·have c2z:¬ (e:Int)<(b:Int):=by omega
        go_wp2_with fail;go_end0;refine⟨rfl,?_⟩;rw[HF.out,if_neg (by omega)];exact S3.out
      ·have c1z:¬ (mid:Int)<(e:Int):=by omega
       go_wp2_with fail;go_end0;refine⟨rfl,?_⟩;rw[HF.out,if_neg (by omega)];exact S3.out
end Go.Proofs.Wo
end
