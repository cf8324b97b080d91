/-
  rotate: the walk. Own text.
-/
import Derived.Test.YtihaakenfdkgnaaGreatDoorPart22
import Derived.Test.YtihaakenfdkgnaaGreatDoorMoIns
set_option linter.all false
noncomputable section
namespace Go.Proofs.Wo
open Go.Exo Go.Exo.Wo Go.RowKit Go.Sort Go.Lib
set_option maxRecDepth 100000
variable {α:Type} [Inhabited α]{enc:α->Value}{s:Spt}
set_option maxHeartbeats 4000000 in
theorem rot_walk (hO:OneCell enc){dk:Array α}{W:World}(S:Sw enc s dk W)(a m b cap:Nat)(f:Value)(h1:a<m)(h2:m<b)(hb:b<=dk.size)(hsz:dk.size<1099511627776) :
  Calls Tryz.prog 111 #[.slice (some ⟨s.g,0,none⟩) dk.size cap,.int .i64 a,.int .i64 m,.int .i64 b,f] W fun e w'=>e=.returned (.tuple #[])/\Sw enc s (rotL m (m-a) (b-m) dk) w':=by
 have S0:Aside (Sw enc s dk W):=S;clear S;go_enter Tryz.func111,Tryz.ntmps111;go_wp2;go_loopg [10,11] ((m-a)+(b-m)) (fun kx si sj wr=>∃ (i j:Nat)(dj:Array α),si=.int .i64 i/\sj=.int .i64 j/\0<i/\0<j/\a+i<=m/\m+j<=b/\i+j<=kx/\dj.size=dk.size/\Aside (Sw enc s dj wr)/\Hid (rotL m i j dj=rotL m (m-a) (b-m) dk))
 case atStart=>exact⟨m-a,b-m,dk,by first|rfl|go_num|(congr 1;omega),by first|rfl|go_num|(congr 1;omega),by omega,by omega,by omega,by omega,by omega,rfl,S0,rfl⟩
 case round=>
  clear S0;obtain⟨i,j,dj,rfl,rfl,hi,hj,hai,hjb,hkx,hds,S1,HO⟩:=hrel;have e1:((m:Int)-(i:Int))=((m-i:Nat):Int):=by omega
  have hb1:b<=dj.size:=by omega
  have hz1:dj.size<1099511627776:=by omega
  by_cases he:i=j
  ·subst he
   have C:=lU hO S1.out (m-i) m i cap f (by omega) (by omega) hz1;rw[hds] at C;have E0:Hid (swpR (m-i) m i 0 dj=rotL m (m-a) (b-m) dk):=by rw[<- HO.out];exact (iI hi).symm
   have HC:=Go.Lib.hid C;clear S1 C HO;go_wp2_with (go_at_call 168;refine (HC.out).mono ?_;rintro e w' ⟨rfl,S2⟩);go_end0;refine⟨rfl,?_⟩;rw[<- E0.out];exact S2
  ·have hez:¬ (i:Int)=(j:Int):=by omega
   by_cases hg:j<i
   ·have hgz:(j:Int)<(i:Int):=by omega
    have C:=lU hO S1.out (m-i) m j cap f (by omega) (by omega) hz1;rw[hds] at C;have HC:=Go.Lib.hid C;clear S1 C;go_wp2_with (go_at_call 168;refine (HC.out).mono ?_;rintro e w' ⟨rfl,S2⟩);have S3:Aside (Sw enc s (swpR (m-i) m j 0 dj) w'):=S2;clear S2;go_wp2;go_roundg ((i-j)+j)
    case measure=>omega
    case rel=>exact⟨i-j,j,_,by first|rfl|go_num|(congr 1;omega),rfl,by omega,hj,by omega,hjb,by omega,by rw[bQ];exact hds,S3,(show _=_ from (iJ hj hg).symm.trans HO.out)⟩
   ·have hgz:¬ (j:Int)<(i:Int):=by omega
    have e2:((m:Int)+(j:Int)-(i:Int))=((m+j-i:Nat):Int):=by omega
    have C:=lU hO S1.out (m-i) (m+j-i) i cap f (by omega) (by omega) hz1;rw[hds] at C;have HC:=Go.Lib.hid C;clear S1 C;go_wp2_with (go_at_call 168;refine (HC.out).mono ?_;rintro e w' ⟨rfl,S2⟩);have S3:Aside (Sw enc s (swpR (m-i) (m+j-i) i 0 dj) w'):=S2;clear S2;go_wp2;go_roundg (i+(j-i))
    case measure=>omega
    case rel=>exact⟨i,j-i,_,rfl,by first|rfl|go_num|(congr 1;omega),hi,by omega,hai,by omega,by omega,by rw[bQ];exact hds,S3,(show _=_ from (iL hi (by omega)).symm.trans HO.out)⟩
end Go.Proofs.Wo
end

noncomputable section
namespace Go.Proofs.Wo
open Go.Exo Go.Exo.Wo Go.RowKit Go.Sort Go.Lib
set_option maxRecDepth 100000
variable {α:Type} [Inhabited α]{enc:α->Value}{s:Spt}
theorem shU_size {e k:Nat}{d:Array α}:(shU e k d).size=d.size:=by
 generalize hm:e-k=m;induction m generalizing k d with
 |zero=>rw[fj (by omega)]
 |succ m ih=>rw[lS (by omega),ih (by omega),size_swp]
theorem shD_size {i k:Nat}{d:Array α}:(shD i k d).size=d.size:=by
 generalize hm:k-i=m;induction m generalizing k d with
 |zero=>rw[fk (by omega)]
 |succ m ih=>rw[lT (by omega),ih (by omega),size_swp]
set_option maxHeartbeats 8000000 in
theorem A6 (hO:OneCell enc){cf:α->α->Int}{fp:Value}(hC:Cmps Tryz.prog 20 fp enc s cf){d:Array α}{W:World}(S:Sw enc s d W)(a m b cap:Nat)(hma:m-a=1)(ha:a<m)(hab:m<b)(hb:b<=d.size)(hsz:d.size<1099511627776) :
  Calls Tryz.prog 68 #[.slice (some ⟨s.g,0,none⟩) d.size cap,.int .i64 a,.int .i64 m,.int .i64 b,.func (.func 20) #[fp] #[]] W fun e w'=>e=.returned (.tuple #[])/\Sw enc s (shU (bsr (fun h=>ltC cf d[h]! d[a]!) m b-1) a d) w':=by
 have hcl0:=hO.cells;simp only[Value.cells] at hcl0;have hst:=hO.store Tryz.prog;have mixed:Tryz.prog.follows .mixedOrders=true:=by kernel_rfl
 have HC:Aside (Cmps Tryz.prog 20 fp enc s cf):=hC;have S0:Aside (Sw enc s d W):=S;clear S hC;have hm1:(m:Int)-(a:Int)=1:=by omega
 have HM:=Go.Lib.hid hma;clear hma;go_enter Tryz.func68,Tryz.ntmps68;go_wp2_with fail;go_loopg [10,11] (b-m) (fun kx si sj wr=>∃ (i j:Nat),si=.int .i64 i/\sj=.int .i64 j/\m<=i/\i<=j/\j<=b/\j-i<=kx/\Aside (Sw enc s d wr)/\Hid (bsr (fun h=>ltC cf d[h]! d[a]!) i j=bsr (fun h=>ltC cf d[h]! d[a]!) m b))
 case atStart=>exact⟨m,b,rfl,rfl,by omega,by omega,by omega,by omega,S0,rfl⟩
 case round=>
  clear S0;obtain⟨i,j,rfl,rfl,h1,h2,h3,hkx,S1,HO⟩:=hrel;by_cases hlt:i<j
  ·have hltz:(i:Int)<(j:Int):=by omega
   go_wp2_with fail;obtain⟨h,hh⟩:∃ h,h=(i+j) / 2:=⟨_,rfl⟩
   have eh:((i:Int)+(j:Int)) / 2=(h:Int):=by omega
   have hih:i<=h:=by omega
   have hhj:h<j:=by omega
   have HH:=Go.Lib.hid hh;clear hh;cases hlv:ltC cf d[h]! d[a]! with
   |true=>
    obtain⟨iN1,hiN1⟩:∃ q,q=h:=⟨_,rfl⟩
    obtain⟨jN1,hjN1⟩:∃ q,q=a:=⟨_,rfl⟩
    have ea1:((h:Int)).toNat=iN1:=by omega
    have pa1:(0:Int)<=(h:Int):=by omega
    have ba1:(h:Int)<(d.size:Int):=by omega
    have ra1:IntKind.i64.wrap ((h:Int))=(h:Int):=by rw[IntKind.wrap_i64];omega
    have ec1:((a:Int)).toNat=jN1:=by omega
    have pc1:(0:Int)<=(a:Int):=by omega
    have bc1:(a:Int)<(d.size:Int):=by omega
    have rc1:IntKind.i64.wrap ((a:Int))=(a:Int):=by rw[IntKind.wrap_i64];omega
    obtain⟨x1,hx1⟩:∃ x,x=d[h]! := ⟨_,rfl⟩
    obtain⟨y1,hy1⟩:∃ x,x=d[a]! := ⟨_,rfl⟩
    have l1a:=S1.out.cl1 (h) (by omega);have l1b:=S1.out.cl1 (a) (by omega);rw[<- hx1,<- hiN1] at l1a;rw[<- hy1,<- hjN1] at l1b;have hv1:cf x1 y1<0:=by rw[hx1,hy1];exact of_decide_eq_true hlv
    have hd1:decide (cf x1 y1<0)=true:=decide_eq_true hv1;clear hx1 hy1 hiN1 hjN1;go_wp2_with fail;have hInh:Nonempty (Wd enc s d):=⟨⟨_,S1.out⟩⟩
    refine bi (C:=fun w'=>∃ p:Wd enc s d,w'=p.W) mixed (by kernel_rfl) ⟨⟨_,S1.out.drew⟩,rfl⟩ ?_
    repeat (quiet_step (exact Cmps.wd HC.out _ _ _))
    refine wpQuiet_nil ?_;intro _ hw';obtain⟨p,rfl⟩:=hw';have S2:Aside (Sw enc s d p.W):=p.h;clear hInh l1a l1b S1;generalize p.W=w2 at S2 ⊢;clear p;clear ea1 ec1;go_wp2;go_roundg (j-(h+1))
    case measure=>omega
    case rel=>exact⟨h+1,j,by first|rfl|go_num|(congr 1;omega),rfl,by omega,by omega,by omega,by omega,S2,(show _=_ from by rw[<- HO.out,bsr_t hlt (by rw[<- HH.out];exact hlv),<- HH.out])⟩
   |false=>
    obtain⟨iN2,hiN2⟩:∃ q,q=h:=⟨_,rfl⟩
    obtain⟨jN2,hjN2⟩:∃ q,q=a:=⟨_,rfl⟩
    have ea2:((h:Int)).toNat=iN2:=by omega
    have pa2:(0:Int)<=(h:Int):=by omega
    have ba2:(h:Int)<(d.size:Int):=by omega
    have ra2:IntKind.i64.wrap ((h:Int))=(h:Int):=by rw[IntKind.wrap_i64];omega
    have ec2:((a:Int)).toNat=jN2:=by omega
    have pc2:(0:Int)<=(a:Int):=by omega
    have bc2:(a:Int)<(d.size:Int):=by omega
    have rc2:IntKind.i64.wrap ((a:Int))=(a:Int):=by rw[IntKind.wrap_i64];omega
    obtain⟨x2,hx2⟩:∃ x,x=d[h]! := ⟨_,rfl⟩
    obtain⟨y2,hy2⟩:∃ x,x=d[a]! := ⟨_,rfl⟩
    have l2a:=S1.out.cl1 (h) (by omega);have l2b:=S1.out.cl1 (a) (by omega);rw[<- hx2,<- hiN2] at l2a;rw[<- hy2,<- hjN2] at l2b;have hv2:¬ cf x2 y2<0:=by rw[hx2,hy2];exact of_decide_eq_false hlv
    have hd2:decide (cf x2 y2<0)=false:=decide_eq_false hv2;clear hx2 hy2 hiN2 hjN2;go_wp2_with fail;have hInh:Nonempty (Wd enc s d):=⟨⟨_,S1.out⟩⟩
    refine bi (C:=fun w'=>∃ p:Wd enc s d,w'=p.W) mixed (by kernel_rfl) ⟨⟨_,S1.out.drew⟩,rfl⟩ ?_
    repeat (quiet_step (exact Cmps.wd HC.out _ _ _))
    refine wpQuiet_nil ?_;intro _ hw';obtain⟨p,rfl⟩:=hw';have S2:Aside (Sw enc s d p.W):=p.h;clear hInh l2a l2b S1;generalize p.W=w2 at S2 ⊢;clear p;clear ea2 ec2;go_wp2;go_roundg (h-i)
    case measure=>omega
    case rel=>exact⟨i,h,rfl,rfl,by omega,by omega,by omega,by omega,S2,(show _=_ from by rw[<- HO.out,bsr_f hlt (by rw[<- HH.out];exact hlv),<- HH.out])⟩
  ·have hltz:¬ (i:Int)<(j:Int):=by omega
   have HI:Hid (bsr (fun h=>ltC cf d[h]! d[a]!) m b=i):=by rw[<- HO.out,kY hlt];rfl
   clear HO;have S2:Aside (Sw enc s d wr):=S1;clear S1;obtain⟨e0,he0⟩:∃ q,q+1=i:=⟨i-1,by omega⟩
   have ze:(i:Int)-1=(e0:Int):=by omega
   go_wp2_with fail;go_loopg [13] e0 (fun kx sk wr=>∃ (k:Nat)(dj:Array α),sk=.int .i64 k/\a<=k/\k<=e0/\e0-k<=kx/\dj.size=d.size/\Aside (Sw enc s dj wr)/\Hid (shU e0 k dj=shU e0 a d))
   case atStart=>exact⟨a,d,rfl,by omega,by omega,by omega,rfl,S2,rfl⟩
   case round=>
    clear S2;obtain⟨k,dj,rfl,q1,q2,qx,hds,S1,HO⟩:=hrel;by_cases hke:k<e0
    ·have hkez:(k:Int)<(e0:Int):=by omega
     go_wp2_with fail;obtain⟨iN3,hiN3⟩:∃ q,q=k:=⟨_,rfl⟩
     obtain⟨jN3,hjN3⟩:∃ q,q=k+1:=⟨_,rfl⟩
     have ea3:((k:Int)).toNat=iN3:=by omega
     have pa3:(0:Int)<=(k:Int):=by omega
     have ba3:(k:Int)<(d.size:Int):=by omega
     have ra3:IntKind.i64.wrap ((k:Int))=(k:Int):=by rw[IntKind.wrap_i64];omega
     have ec3:((k:Int)+1).toNat=jN3:=by omega
     have pc3:(0:Int)<=(k:Int)+1:=by omega
     have bc3:(k:Int)+1<(d.size:Int):=by omega
     have rc3:IntKind.i64.wrap ((k:Int)+1)=(k:Int)+1:=by rw[IntKind.wrap_i64];omega
     obtain⟨x3,hx3⟩:∃ x,x=dj[k]! := ⟨_,rfl⟩
     obtain⟨y3,hy3⟩:∃ x,x=dj[k+1]! := ⟨_,rfl⟩
     have S3:Aside (Sw enc s (swp dj (k) (k+1)) ((wr.setCell ⟨s.g,iN3,none⟩ (enc y3)).setCell ⟨s.g,jN3,none⟩ (enc x3)).drew):=by rw[hiN3,hjN3,hx3,hy3];exact S1.out.swapped (k) (k+1) (by omega) (by omega)
     have c3a:=S1.out.c1 (k) (by omega);have c3b:=S1.out.c1 (k+1) (by omega);have f3a:=S1.out.f1 (k);have f3b:=S1.out.f1 (k+1);obtain⟨u3,c3c⟩:=S1.out.c2 (k) (k+1) (by omega) (by omega) (enc y3);rw[<- hjN3,<- hiN3] at c3c;rw[<- hx3,<- hiN3] at c3a;rw[<- hy3,<- hjN3] at c3b;rw[<- hiN3] at f3a;rw[<- hjN3] at f3b;clear S1 hx3 hy3 hiN3 hjN3;go_wp2_with fail;go_big_region_o;clear c3a c3b c3c f3a f3b;generalize ((wr.setCell ⟨s.g,iN3,none⟩ (enc y3)).setCell ⟨s.g,jN3,none⟩ (enc x3)).drew=w2 at S3 ⊢;clear ea3 ec3;go_wp2;go_roundg (e0-(k+1))
     case measure=>omega
     case rel=>exact⟨k+1,swp dj k (k+1),by first|rfl|go_num|(congr 1;omega),by omega,by omega,by omega,by rw[size_swp];exact hds,S3,(show _=_ from (lS hke).symm.trans HO.out)⟩
    ·have hkez:¬ (k:Int)<(e0:Int):=by omega
     go_wp2;refine bodyPost_ret (results_none rfl _ _ _) rfl ?_;refine⟨rfl,?_⟩;rw[HI.out,show i-1=e0 by omega,<- HO.out,fj hke];exact S1.out
end Go.Proofs.Wo
end

noncomputable section
namespace Go.Proofs.Wo
open Go.Exo Go.Exo.Wo Go.RowKit Go.Sort Go.Lib
set_option maxRecDepth 100000
variable {α:Type} [Inhabited α]{enc:α->Value}{s:Spt}
set_option maxHeartbeats 8000000 in
theorem A7 (hO:OneCell enc){cf:α->α->Int}{fp:Value}(hC:Cmps Tryz.prog 20 fp enc s cf){d:Array α}{W:World}(S:Sw enc s d W)(a m b cap:Nat)(hma:¬ m-a=1)(hmb:b-m=1)(ha:a<m)(hab:m<b)(hb:b<=d.size)(hsz:d.size<1099511627776) :
  Calls Tryz.prog 68 #[.slice (some ⟨s.g,0,none⟩) d.size cap,.int .i64 a,.int .i64 m,.int .i64 b,.func (.func 20) #[fp] #[]] W fun e w'=>e=.returned (.tuple #[])/\Sw enc s (shD (bsr (fun h=>!ltC cf d[m]! d[h]!) a m) m d) w':=by
 have hcl0:=hO.cells;simp only[Value.cells] at hcl0;have hst:=hO.store Tryz.prog;have mixed:Tryz.prog.follows .mixedOrders=true:=by kernel_rfl
 have HC:Aside (Cmps Tryz.prog 20 fp enc s cf):=hC;have S0:Aside (Sw enc s d W):=S;clear S hC;have hm0:¬ (m:Int)-(a:Int)=1:=by omega
 have hm0b:((m:Int)-(a:Int)==1)=false:=beq_eq_false_iff_ne.2 hm0;have hm1:(b:Int)-(m:Int)=1:=by omega
 have HM:=Go.Lib.hid hmb;clear hma hmb;go_enter Tryz.func68,Tryz.ntmps68;go_wp2_with fail;go_loopg [14,15] (m-a) (fun kx si sj wr=>∃ (i j:Nat),si=.int .i64 i/\sj=.int .i64 j/\a<=i/\i<=j/\j<=m/\j-i<=kx/\Aside (Sw enc s d wr)/\Hid (bsr (fun h=>!ltC cf d[m]! d[h]!) i j=bsr (fun h=>!ltC cf d[m]! d[h]!) a m))
 case atStart=>exact⟨a,m,rfl,rfl,by omega,by omega,by omega,by omega,S0,rfl⟩
 case round=>
  clear S0;obtain⟨i,j,rfl,rfl,h1,h2,h3,hkx,S1,HO⟩:=hrel;by_cases hlt:i<j
  ·have hltz:(i:Int)<(j:Int):=by omega
   go_wp2_with fail;obtain⟨h,hh⟩:∃ h,h=(i+j) / 2:=⟨_,rfl⟩
   have eh:((i:Int)+(j:Int)) / 2=(h:Int):=by omega
   have hih:i<=h:=by omega
   have hhj:h<j:=by omega
   have HH:=Go.Lib.hid hh;clear hh;cases hlv:ltC cf d[m]! d[h]! with
   |false=>
    obtain⟨iN1,hiN1⟩:∃ q,q=m:=⟨_,rfl⟩
    obtain⟨jN1,hjN1⟩:∃ q,q=h:=⟨_,rfl⟩
    have ea1:((m:Int)).toNat=iN1:=by omega
    have pa1:(0:Int)<=(m:Int):=by omega
    have ba1:(m:Int)<(d.size:Int):=by omega
    have ra1:IntKind.i64.wrap ((m:Int))=(m:Int):=by rw[IntKind.wrap_i64];omega
    have ec1:((h:Int)).toNat=jN1:=by omega
    have pc1:(0:Int)<=(h:Int):=by omega
    have bc1:(h:Int)<(d.size:Int):=by omega
    have rc1:IntKind.i64.wrap ((h:Int))=(h:Int):=by rw[IntKind.wrap_i64];omega
    obtain⟨x1,hx1⟩:∃ x,x=d[m]! := ⟨_,rfl⟩
    obtain⟨y1,hy1⟩:∃ x,x=d[h]! := ⟨_,rfl⟩
    have l1a:=S1.out.cl1 (m) (by omega);have l1b:=S1.out.cl1 (h) (by omega);rw[<- hx1,<- hiN1] at l1a;rw[<- hy1,<- hjN1] at l1b;have hv1:¬ cf x1 y1<0:=by rw[hx1,hy1];exact of_decide_eq_false hlv
    have hd1:decide (cf x1 y1<0)=false:=decide_eq_false hv1;clear hx1 hy1 hiN1 hjN1;go_wp2_with fail;have hInh:Nonempty (Wd enc s d):=⟨⟨_,S1.out⟩⟩
    refine bi (C:=fun w'=>∃ p:Wd enc s d,w'=p.W) mixed (by kernel_rfl) ⟨⟨_,S1.out.drew⟩,rfl⟩ ?_
    repeat (quiet_step (exact Cmps.wd HC.out _ _ _))
    refine wpQuiet_nil ?_;intro _ hw';obtain⟨p,rfl⟩:=hw';have S2:Aside (Sw enc s d p.W):=p.h;clear hInh l1a l1b S1;generalize p.W=w2 at S2 ⊢;clear p;clear ea1 ec1;go_wp2;go_roundg (j-(h+1))
    case measure=>omega
    case rel=>exact⟨h+1,j,by first|rfl|go_num|(congr 1;omega),rfl,by omega,by omega,by omega,by omega,S2,(show _=_ from by rw[<- HO.out,bsr_t hlt (by rw[<- HH.out,hlv];rfl),<- HH.out])⟩
   |true=>
    obtain⟨iN2,hiN2⟩:∃ q,q=m:=⟨_,rfl⟩
    obtain⟨jN2,hjN2⟩:∃ q,q=h:=⟨_,rfl⟩
    have ea2:((m:Int)).toNat=iN2:=by omega
    have pa2:(0:Int)<=(m:Int):=by omega
    have ba2:(m:Int)<(d.size:Int):=by omega
    have ra2:IntKind.i64.wrap ((m:Int))=(m:Int):=by rw[IntKind.wrap_i64];omega
    have ec2:((h:Int)).toNat=jN2:=by omega
    have pc2:(0:Int)<=(h:Int):=by omega
    have bc2:(h:Int)<(d.size:Int):=by omega
    have rc2:IntKind.i64.wrap ((h:Int))=(h:Int):=by rw[IntKind.wrap_i64];omega
    obtain⟨x2,hx2⟩:∃ x,x=d[m]! := ⟨_,rfl⟩
    obtain⟨y2,hy2⟩:∃ x,x=d[h]! := ⟨_,rfl⟩
    have l2a:=S1.out.cl1 (m) (by omega);have l2b:=S1.out.cl1 (h) (by omega);rw[<- hx2,<- hiN2] at l2a;rw[<- hy2,<- hjN2] at l2b;have hv2:cf x2 y2<0:=by rw[hx2,hy2];exact of_decide_eq_true hlv
    have hd2:decide (cf x2 y2<0)=true:=decide_eq_true hv2;clear hx2 hy2 hiN2 hjN2;go_wp2_with fail;have hInh:Nonempty (Wd enc s d):=⟨⟨_,S1.out⟩⟩
    refine bi (C:=fun w'=>∃ p:Wd enc s d,w'=p.W) mixed (by kernel_rfl) ⟨⟨_,S1.out.drew⟩,rfl⟩ ?_
    repeat (quiet_step (exact Cmps.wd HC.out _ _ _))
    refine wpQuiet_nil ?_;intro _ hw';obtain⟨p,rfl⟩:=hw';have S2:Aside (Sw enc s d p.W):=p.h;clear hInh l2a l2b S1;generalize p.W=w2 at S2 ⊢;clear p;clear ea2 ec2;go_wp2;go_roundg (h-i)
    case measure=>omega
    case rel=>exact⟨i,h,rfl,rfl,by omega,by omega,by omega,by omega,S2,(show _=_ from by rw[<- HO.out,bsr_f hlt (by rw[<- HH.out,hlv];rfl),<- HH.out])⟩
  ·have hltz:¬ (i:Int)<(j:Int):=by omega
   have HI:Hid (bsr (fun h=>!ltC cf d[m]! d[h]!) a m=i):=by rw[<- HO.out,kY hlt];rfl
   clear HO;have S2:Aside (Sw enc s d wr):=S1;clear S1;go_wp2_with fail;go_loopg [17] m (fun kx sk wr=>∃ (k:Nat)(dj:Array α),sk=.int .i64 k/\i<=k/\k<=m/\k<=kx/\dj.size=d.size/\Aside (Sw enc s dj wr)/\Hid (shD i k dj=shD i m d))
   case atStart=>exact⟨m,d,rfl,by omega,by omega,by omega,rfl,S2,rfl⟩
   case round=>
    clear S2;obtain⟨k,dj,rfl,q1,q2,qx,hds,S1,HO⟩:=hrel;by_cases hke:i<k
    ·obtain⟨kp,hkp⟩:∃ q,q+1=k:=⟨k-1,by omega⟩
     have zk:(k:Int)=(kp:Int)+1:=by omega
     have hkez:(i:Int)<(kp:Int)+1:=by omega
     go_wp2_with fail;obtain⟨iN3,hiN3⟩:∃ q,q=k:=⟨_,rfl⟩
     obtain⟨jN3,hjN3⟩:∃ q,q=k-1:=⟨_,rfl⟩
     have ea3:((kp:Int)+1).toNat=iN3:=by omega
     have pa3:(0:Int)<=(kp:Int)+1:=by omega
     have ba3:(kp:Int)+1<(d.size:Int):=by omega
     have ra3:IntKind.i64.wrap ((kp:Int)+1)=(kp:Int)+1:=by rw[IntKind.wrap_i64];omega
     have ec3:((kp:Int)).toNat=jN3:=by omega
     have pc3:(0:Int)<=(kp:Int):=by omega
     have bc3:(kp:Int)<(d.size:Int):=by omega
     have rc3:IntKind.i64.wrap ((kp:Int))=(kp:Int):=by rw[IntKind.wrap_i64];omega
     obtain⟨x3,hx3⟩:∃ x,x=dj[k]! := ⟨_,rfl⟩
     obtain⟨y3,hy3⟩:∃ x,x=dj[k-1]! := ⟨_,rfl⟩
     have S3:Aside (Sw enc s (swp dj (k) (k-1)) ((wr.setCell ⟨s.g,iN3,none⟩ (enc y3)).setCell ⟨s.g,jN3,none⟩ (enc x3)).drew):=by rw[hiN3,hjN3,hx3,hy3];exact S1.out.swapped (k) (k-1) (by omega) (by omega)
     have c3a:=S1.out.c1 (k) (by omega);have c3b:=S1.out.c1 (k-1) (by omega);have f3a:=S1.out.f1 (k);have f3b:=S1.out.f1 (k-1);obtain⟨u3,c3c⟩:=S1.out.c2 (k) (k-1) (by omega) (by omega) (enc y3);rw[<- hjN3,<- hiN3] at c3c;rw[<- hx3,<- hiN3] at c3a;rw[<- hy3,<- hjN3] at c3b;rw[<- hiN3] at f3a;rw[<- hjN3] at f3b;clear S1 hx3 hy3 hiN3 hjN3;go_wp2_with fail;go_big_region_o;clear c3a c3b c3c f3a f3b;generalize ((wr.setCell ⟨s.g,iN3,none⟩ (enc y3)).setCell ⟨s.g,jN3,none⟩ (enc x3)).drew=w2 at S3 ⊢;clear ea3 ec3;go_wp2;go_roundg (k-1)
     case measure=>omega
     case rel=>exact⟨k-1,swp dj k (k-1),by first|rfl|go_num|(congr 1;omega),by omega,by omega,by omega,by rw[size_swp];exact hds,S3,(show _=_ from (lT hke).symm.trans HO.out)⟩
    ·have hkez:¬ (i:Int)<(k:Int):=by omega
     go_wp2;refine bodyPost_ret (results_none rfl _ _ _) rfl ?_;refine⟨rfl,?_⟩;rw[HI.out,<- HO.out,fk hke];exact S1.out
end Go.Proofs.Wo
end
