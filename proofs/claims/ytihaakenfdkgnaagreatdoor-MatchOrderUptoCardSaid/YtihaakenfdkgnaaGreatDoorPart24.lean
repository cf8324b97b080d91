/-
  symMerge by induction; stable; SortStableFunc: the walk. Own text.
-/
import Derived.Test.YtihaakenfdkgnaaGreatDoorMoSymC
import Derived.Test.YtihaakenfdkgnaaGreatDoorPart22
import Derived.Test.YtihaakenfdkgnaaGreatDoorPart21
set_option linter.all false
noncomputable section
namespace Go.Proofs.Wo
open Go.Exo Go.Exo.Wo Go.RowKit Go.Sort Go.Lib
set_option maxRecDepth 100000
variable {α:Type} [Inhabited α]{enc:α->Value}{s:Spt}
theorem lV {m:Nat}:∀ (f i j:Nat)(d:Array α),i+j<=f->(rotL m i j d).size=d.size
 |f,i,j,d,hf=>by
  by_cases h0:i=0\/j=0
  ·rw[rotL,if_pos h0]
  ·by_cases he:i=j
   ·subst he;rw[iI (by omega),bQ]
   ·match f,hf with
    |0,hf=>omega
    |f+1,hf=>
     by_cases hg:j<i
     ·rw[iJ (by omega) hg,lV f _ _ _ (by omega),bQ]
     ·rw[iL (by omega) (by omega),lV f _ _ _ (by omega),bQ]
theorem tN {lt:α->α->Bool}:∀ (f:Nat)(d:Array α)(a m b:Nat),(symM lt f d a m b).size=d.size
 |0,d,a,m,b=>rfl
 |f+1,d,a,m,b=>by
  rw[symM];split
  ·exact shU_size
  ·split
   ·exact shD_size
   ·dsimp only
    have h1:(if symS lt d a m b<m/\m<(a+b) / 2+m-symS lt d a m b then rotL m (m-symS lt d a m b) ((a+b) / 2+m-symS lt d a m b-m) d else d).size=d.size:=by
     split
     ·exact lV _ _ _ _ (am _)
     ·rfl
    generalize (if symS lt d a m b<m/\m<(a+b) / 2+m-symS lt d a m b then rotL m (m-symS lt d a m b) ((a+b) / 2+m-symS lt d a m b-m) d else d)=d1 at h1 ⊢
    have h2:(if a<symS lt d a m b/\symS lt d a m b<(a+b) / 2 then symM lt f d1 a (symS lt d a m b) ((a+b) / 2) else d1).size=d.size:=by
     split
     ·rw[tN f,h1]
     ·exact h1
    generalize (if a<symS lt d a m b/\symS lt d a m b<(a+b) / 2 then symM lt f d1 a (symS lt d a m b) ((a+b) / 2) else d1)=d2 at h2 ⊢;split
    ·rw[tN f,h2]
    ·exact h2
theorem vY (hO:OneCell enc){cf:α->α->Int}{fp:Value}(hC:Cmps Tryz.prog 20 fp enc s cf)(N cap:Nat)(hsz:N<1099511627776):∀ (f:Nat)(d:Array α)(W:World)(a m b:Nat),Sw enc s d W->d.size=N->a<m->m<b->b<=N->b-a<=f->
  Calls Tryz.prog 68 #[.slice (some ⟨s.g,0,none⟩) N cap,.int .i64 a,.int .i64 m,.int .i64 b,.func (.func 20) #[fp] #[]] W fun e w'=>e=.returned (.tuple #[])/\Sw enc s (symM (ltC cf) f d a m b) w'/\(symM (ltC cf) f d a m b).size=N
 |0,d,W,a,m,b,S,hN,h1,h2,h3,h4=>by omega
 |f+1,d,W,a,m,b,S,hN,h1,h2,h3,h4=>by
  have hz:(symM (ltC cf) (f+1) d a m b).size=N:=by rw[tN,hN]
  have key:Calls Tryz.prog 68 #[.slice (some ⟨s.g,0,none⟩) d.size cap,.int .i64 a,.int .i64 m,.int .i64 b,.func (.func 20) #[fp] #[]] W fun e w'=>e=.returned (.tuple #[])/\Sw enc s (symM (ltC cf) (f+1) d a m b) w':=by
   by_cases c1:m-a=1
   ·rw[symM,if_pos c1]
    exact A6 hO hC S a m b cap c1 h1 h2 (by omega) (by omega)
   ·by_cases c2:b-m=1
    ·rw[symM,if_neg c1,if_pos c2]
     exact A7 hO hC S a m b cap c1 c2 h1 h2 (by omega) (by omega)
    ·refine A8 hO hC S a m b f cap c1 c2 h1 h2 (by omega) (by omega) h4 fun d' W' a' m' b' S' hd' q1 q2 q3 q4=>?_
     rw[hN];exact vY hO hC N cap hsz f d' W' a' m' b' S' (by omega) q1 q2 (by omega) q4
  rw[hN] at key;exact key.mono fun _ _ ⟨e,h⟩=>⟨e,h,hz⟩
variable (lt:α->α->Bool)
def stA (n a:Nat)(d:Array α):Array α:=if a+20<=n then stA n (a+20) (Sort.insertionSort lt d a (a+20)) else Sort.insertionSort lt d a n
termination_by n-a
def stP (n bs a:Nat)(d:Array α):Array α:=if 0<bs/\a+2*bs<=n then stP n bs (a+2*bs) (symM lt n d a (a+bs) (a+2*bs)) else if a+bs<n then symM lt n d a (a+bs) n else d
termination_by n-a
decreasing_by omega
def stM (n bs:Nat)(d:Array α):Array α:=if 0<bs/\bs<n then stM n (2*bs) (stP lt n bs 0 d) else d
termination_by n-bs
decreasing_by omega
def stab (d:Array α):Array α:=stM lt d.size 20 (stA lt d.size 0 d)
variable {lt}
theorem ph {n a:Nat}{d:Array α}(h:a+20<=n):stA lt n a d=stA lt n (a+20) (Sort.insertionSort lt d a (a+20)):=by rw[stA,if_pos h]
theorem d8 {n a:Nat}{d:Array α}(h:¬ a+20<=n):stA lt n a d=Sort.insertionSort lt d a n:=by rw[stA,if_neg h]
theorem tO {n bs a:Nat}{d:Array α}(h0:0<bs)(h:a+2*bs<=n):stP lt n bs a d=stP lt n bs (a+2*bs) (symM lt n d a (a+bs) (a+2*bs)):=by rw[stP,if_pos ⟨h0,h⟩]
theorem nf {n bs a:Nat}{d:Array α}(h:¬ a+2*bs<=n)(h':a+bs<n):stP lt n bs a d=symM lt n d a (a+bs) n:=by rw[stP,if_neg (by omega),if_pos h']
theorem kZ {n bs a:Nat}{d:Array α}(h:¬ a+2*bs<=n)(h':¬ a+bs<n):stP lt n bs a d=d:=by rw[stP,if_neg (by omega),if_neg h']
theorem pj {n bs:Nat}{d:Array α}(h0:0<bs)(h:bs<n):stM lt n bs d=stM lt n (2*bs) (stP lt n bs 0 d):=by rw[stM,if_pos ⟨h0,h⟩]
theorem d9 {n bs:Nat}{d:Array α}(h:¬ bs<n):stM lt n bs d=d:=by rw[stM,if_neg (by omega)]
theorem ins_size (hS:SWO lt){d:Array α}{a b:Nat}(h1:a<=b)(h2:b<=d.size):(Sort.insertionSort lt d a b).size=d.size:=(insertionSort_holds hS d a b h1 h2).1.1
set_option maxHeartbeats 2000000 in
theorem A9 (hO:OneCell enc){cf:α->α->Int}{fp:Value}(hS:SWO (ltC cf))(hC:Cmps Tryz.prog 20 fp enc s cf){d:Array α}{W:World}(S:Sw enc s d W)(cap n:Nat)(hn:d.size=n)(hsz:n<1099511627776) :
  Calls Tryz.prog 42 #[.slice (some ⟨s.g,0,none⟩) n cap,.int .i64 n,.func (.func 20) #[fp] #[]] W fun e w'=>e=.returned (.tuple #[])/\Sw enc s (stab (ltC cf) d) w':=by
 have INS:Hid (∀ (dk:Array α)(w:World)(a b:Nat),Sw enc s dk w->dk.size=n->a<=b->b<=n->Calls Tryz.prog 67 #[.slice (some ⟨s.g,0,none⟩) n cap,.int .i64 a,.int .i64 b,.func (.func 20) #[fp] #[]] w fun e w'=>e=.returned (.tuple #[])/\Sw enc s (Sort.insertionSort (ltC cf) dk a b) w'/\(Sort.insertionSort (ltC cf) dk a b).size=n):=
  fun dk w a b h hk h1 h2=>by
   have:=ins_walk hO hC h a b cap h1 (by omega) (by omega);rw[hk] at this;exact this.mono fun _ _ ⟨e,h⟩=>⟨e,h,by rw[ins_size hS h1 (by omega),hk]⟩
 have SYM:=Go.Lib.hid (vY (s:=s) hO hC n cap hsz n);have HN:=Go.Lib.hid hn;have S0:Aside (Sw enc s d W):=S;clear S hC hn;go_enter Tryz.func42,Tryz.ntmps42;go_wp2_with fail;go_loopg [7,8] n (fun kx sa sb wr=>∃ (a b:Nat)(dk:Array α),sa=.int .i64 a/\sb=.int .i64 b/\b=a+20/\a<=n/\n-a<=kx/\Aside (Sw enc s dk wr)/\Hid (dk.size=n)/\Hid (stA (ltC cf) n a dk=stA (ltC cf) n 0 d))
 case atStart=>exact⟨0,20,d,rfl,rfl,rfl,by omega,by omega,S0,HN,rfl⟩
 case round=>
  clear S0;obtain⟨a,b,dk,rfl,rfl,hab,han,hkx,S1,HZ,HO⟩:=hrel;have hab1:a+20<=b:=by omega
  have hab2:b<=a+20:=by omega
  have HAB:=Go.Lib.hid hab;clear hab;by_cases hlt:b<=n
  ·have hltz:(b:Int)<=(n:Int):=by omega
   have C:=INS.out dk wr a b S1.out HZ.out (by omega) hlt;have HCC:=Go.Lib.hid C;clear C S1;go_wp2_with (go_at_call 67;with_reducible refine (HCC.out).mono ?_;rintro e w' ⟨rfl,S3,S4⟩);have S5:Aside (Sw enc s (Sort.insertionSort (ltC cf) dk a b) w'):=S3;have S6:=Go.Lib.hid S4;clear S3 S4;go_wp2;go_roundg (n-b)
   case measure=>omega
   case rel=>exact⟨b,b+20,_,by first|rfl|go_num|(congr 1;omega),by first|rfl|go_num|(congr 1;omega),rfl,hlt,am _,S5,S6,(show _=_ from by rw[<- HO.out,HAB.out];exact (ph (by omega)).symm)⟩
  ·have hltz:¬ (b:Int)<=(n:Int):=by omega
   have C:=INS.out dk wr a n S1.out HZ.out han (am _);have HCC:=Go.Lib.hid C;have HA:Hid (Sort.insertionSort (ltC cf) dk a n=stA (ltC cf) n 0 d):=by rw[<- HO.out];exact (d8 (by omega)).symm
   clear C S1 HO HZ;go_wp2_with (go_at_call 67;with_reducible refine (HCC.out).mono ?_;rintro e w' ⟨rfl,S3,S4⟩);have S5:Aside (Sw enc s (stA (ltC cf) n 0 d) w'):=by rw[<- HA.out];exact S3
   have S6:Hid ((stA (ltC cf) n 0 d).size=n):=by rw[<- HA.out];exact S4
   clear S3 S4 HA HCC;obtain⟨d1,hd1⟩:∃ x,x=stA (ltC cf) n 0 d:=⟨_,rfl⟩
   rw[<- hd1] at S5 S6;have HD1:=Go.Lib.hid hd1;clear hd1;go_wp2_with fail;go_loopg [6] (n+40) (fun kx sb wr=>∃ (bs:Nat)(dk:Array α),sb=.int .i64 bs/\0<bs/\bs<2*n+40/\n+40-bs<=kx/\Aside (Sw enc s dk wr)/\Hid (dk.size=n)/\Hid (stM (ltC cf) n bs dk=stM (ltC cf) n 20 d1))
   case atStart=>exact⟨20,d1,rfl,by omega,by omega,by omega,S5,S6,rfl⟩
   case round=>
    clear S5 S6;obtain⟨bs,dk,rfl,hb0,hb1,hkx,S1,HZ,HO⟩:=hrel;by_cases hlt:bs<n
    ·have hltz:(bs:Int)<(n:Int):=by omega
     obtain⟨bb,hbb⟩:∃ q,q=2*bs:=⟨_,rfl⟩
     have e1:(2:Int)*(bs:Int)=(bb:Int):=by omega
     have e2:(bs:Int)*2=(bb:Int):=by omega
     have hbl:bb<2*n+40:=by omega
     have hb2:bs<bb:=by omega
     have HBB:=Go.Lib.hid hbb;clear hbb;go_wp2_with fail;go_loopg [7,8] n (fun kx sa sb wr=>∃ (a b:Nat)(dj:Array α),sa=.int .i64 a/\sb=.int .i64 b/\b=a+bb/\a<=n/\n-a<=kx/\Aside (Sw enc s dj wr)/\Hid (dj.size=n)/\Hid (stP (ltC cf) n bs a dj=stP (ltC cf) n bs 0 dk))
     case atStart=>exact⟨0,bb,dk,rfl,rfl,by omega,by omega,by omega,S1,HZ,rfl⟩
     case round=>
      clear S1 HZ;obtain⟨a,b,dj,rfl,rfl,hab,han,hky,S1,HZ,HP⟩:=hrel;have hab1:a+bb<=b:=by omega
      have hab2:b<=a+bb:=by omega
      have HAB:=Go.Lib.hid hab;clear hab;obtain⟨mm,hmm⟩:∃ q,q=a+bs:=⟨_,rfl⟩
      have em:(a:Int)+(bs:Int)=(mm:Int):=by omega
      have hm1:a<mm:=by omega
      have hm2:mm<b:=by omega
      have hm3:mm+bs=b:=by have:=HBB.out;omega
      have HMM:=Go.Lib.hid hmm;clear hmm;by_cases hbn:b<=n
      ·have hbnz:(b:Int)<=(n:Int):=by omega
       have C:=SYM.out dj wr a mm b S1.out HZ.out hm1 hm2 hbn (by omega);have HCC:=Go.Lib.hid C;clear C S1;go_wp2_with (go_at_call 68;with_reducible refine (HCC.out).mono ?_;rintro e w' ⟨rfl,S3,S4⟩);have S5:Aside (Sw enc s (symM (ltC cf) n dj a mm b) w'):=S3;have S6:=Go.Lib.hid S4;clear S3 S4;go_wp2;go_roundg (n-b)
       case measure=>omega
       case rel=>exact⟨b,b+bb,_,by first|rfl|go_num|(congr 1;omega),by first|rfl|go_num|(congr 1;omega),rfl,hbn,am _,S5,S6,(show _=_ from by
        have q:=HBB.out
        rw[<- HP.out,HAB.out,q,HMM.out];have q1:=HAB.out;exact (tO hb0 (by omega)).symm)⟩
      ·have hbnz:¬ (b:Int)<=(n:Int):=by omega
       have q0:¬ a+2*bs<=n:=by have:=HBB.out;omega
       have q0':=Go.Lib.hid q0;clear q0;by_cases hm:mm<n
       ·have hmz:(mm:Int)<(n:Int):=by omega
        have C:=SYM.out dj wr a mm n S1.out HZ.out hm1 hm (am _) (by omega);have HCC:=Go.Lib.hid C;clear C S1;go_wp2_with (go_at_call 68;with_reducible refine (HCC.out).mono ?_;rintro e w' ⟨rfl,S3,S4⟩);have S5:Aside (Sw enc s (symM (ltC cf) n dj a mm n) w'):=S3;have S6:=Go.Lib.hid S4;clear S3 S4;go_wp2;go_roundg (n+40-bb)
        case measure=>omega
        case rel=>exact⟨bb,_,by first|rfl|go_num|(congr 1;omega),by omega,hbl,am _,S5,S6,(show _=_ from by
         have q:=HBB.out
         rw[<- HO.out,pj hb0 hlt,<- HP.out,nf q0'.out (by rw[<- HMM.out];exact hm),<- HMM.out,q])⟩
       ·have hmz:¬ (mm:Int)<(n:Int):=by omega
        go_wp2;go_roundg (n+40-bb)
        case measure=>omega
        case rel=>exact⟨bb,_,by first|rfl|go_num|(congr 1;omega),by omega,hbl,am _,S1,HZ,(show _=_ from by
         have q:=HBB.out
         rw[<- HO.out,pj hb0 hlt,<- HP.out,kZ q0'.out (by rw[<- HMM.out];exact hm),q])⟩
    ·have hltz:¬ (bs:Int)<(n:Int):=by omega
     go_wp2;go_end0;refine⟨rfl,?_⟩;have q:=HO.out;rw[d9 hlt] at q;have q1:=HN.out;rw[stab,q1,<- HD1.out,<- q];exact S1.out
theorem x8 (hO:OneCell enc){cf:α->α->Int}{fp:Value}(hS:SWO (ltC cf))(hC:Cmps Tryz.prog 20 fp enc s cf){d:Array α}{W:World}(S:Sw enc s d W)(cap n:Nat)(hn:d.size=n)(hsz:n<1099511627776) :
  Calls Tryz.prog 19 #[.slice (some ⟨s.g,0,none⟩) n cap,.func (.func 20) #[fp] #[]] W fun e w'=>e=.returned (.tuple #[])/\Sw enc s (stab (ltC cf) d) w':=by
 have HCC:=Go.Lib.hid (A9 hO hS hC S cap n hn hsz);clear S hC;go_enter Tryz.func19,Tryz.ntmps19;go_wp2_with (go_at_call 42;with_reducible refine (HCC.out).mono ?_;rintro e w' ⟨rfl,S3⟩);go_end0;exact⟨rfl,S3⟩
end Go.Proofs.Wo
end

noncomputable section
namespace Go.Proofs.Wo
open Go.Sort
variable {α β:Type} [Inhabited α] [Inhabited β]{f:α->β}{lt:α->α->Bool}{lt':β->β->Bool}
theorem pk (hf:f default=default)(d:Array α)(i:Nat):(d.map f)[i]! = f d[i]! := by
 by_cases h:i<d.size
 ·rw[getElem!_pos d i h,getElem!_pos (d.map f) i (by simpa using h),Array.getElem_map]
 ·rw[getElem!_neg d i h,getElem!_neg (d.map f) i (by simpa using h),hf]
theorem ng (hf:f default=default)(d:Array α)(i j:Nat):(swp d i j).map f=swp (d.map f) i j:=by
 simp only[swp,Array.map_setIfInBounds,pk hf]
theorem k8 (hf:f default=default){a b n:Nat}:∀ (m i:Nat)(d:Array α),n-i=m->(swpR a b n i d).map f=swpR a b n i (d.map f)
 |0,i,d,hm=>by rw[dG (by omega),dG (by omega)]
 |m+1,i,d,hm=>by
  rw[iG (d:=d) (by omega),k8 hf m _ _ (by omega),ng hf];exact (iG (by omega)).symm
theorem pn (hf:f default=default){m:Nat}:∀ (g i j:Nat)(d:Array α),i+j<=g->(rotL m i j d).map f=rotL m i j (d.map f)
 |g,i,j,d,hg=>by
  by_cases h0:i=0\/j=0
  ·rw[rotL,if_pos h0,rotL,if_pos h0]
  ·by_cases he:i=j
   ·subst he;rw[iI (by omega),iI (by omega),k8 hf _ _ _ rfl]
   ·match g,hg with
    |0,hg=>omega
    |g+1,hg=>
     by_cases h:j<i
     ·rw[iJ (d:=d) (by omega) h,pn hf g _ _ _ (by omega),k8 hf _ _ _ rfl]
      exact (iJ (by omega) h).symm
     ·rw[iL (d:=d) (by omega) (by omega),pn hf g _ _ _ (by omega),k8 hf _ _ _ rfl]
      exact (iL (by omega) (by omega)).symm
theorem zE (hf:f default=default){e:Nat}:∀ (m k:Nat)(d:Array α),e-k=m->(shU e k d).map f=shU e k (d.map f)
 |0,k,d,hm=>by rw[fj (by omega),fj (by omega)]
 |m+1,k,d,hm=>by
  rw[lS (d:=d) (by omega),zE hf m _ _ (by omega),ng hf];exact (lS (by omega)).symm
theorem zF (hf:f default=default){i:Nat}:∀ (m k:Nat)(d:Array α),k-i=m->(shD i k d).map f=shD i k (d.map f)
 |0,k,d,hm=>by rw[fk (by omega),fk (by omega)]
 |m+1,k,d,hm=>by
  rw[lT (d:=d) (by omega),zF hf m _ _ (by omega),ng hf];exact (lT (by omega)).symm
section
variable (hf:f default=default)(hl:∀ x y,lt' (f x) (f y)=lt x y)
include hf hl
theorem k9 {a:Nat}:∀ (j:Nat)(d:Array α),(insInner lt a j d).map f=insInner lt' a j (d.map f)
 |0,d=>rfl
 |j+1,d=>by
  simp only[insInner,pk hf,hl];by_cases h:(decide (j+1 > a)&&lt d[j+1]! d[j]!)=true
  ·rw[if_pos h,if_pos h,k9 j,ng hf]
  ·rw[if_neg h,if_neg h]
theorem la {a b:Nat}:∀ (m i:Nat)(d:Array α),b-i=m->(insOuter lt a b i d).map f=insOuter lt' a b i (d.map f)
 |0,i,d,hm=>by rw[insOuter_stop _ _ _ _ _ (by omega),insOuter_stop _ _ _ _ _ (by omega)]
 |m+1,i,d,hm=>by
  rw[insOuter_go lt _ _ _ d (by omega),la m _ _ (by omega),k9 hf hl];exact (insOuter_go _ _ _ _ _ (by omega)).symm
theorem zG (d:Array α)(a b:Nat):(Sort.insertionSort lt d a b).map f=Sort.insertionSort lt' (d.map f) a b:=la hf hl _ _ _ rfl
theorem symS_map (d:Array α)(a m b:Nat):symS lt' (d.map f) a m b=symS lt d a m b:=by
 simp only[symS,pk hf,hl]
theorem lc:∀ (g:Nat)(d:Array α)(a m b:Nat),(symM lt g d a m b).map f=symM lt' g (d.map f) a m b
 |0,d,a,m,b=>rfl
 |g+1,d,a,m,b=>by
  rw[symM,symM];by_cases c1:m-a=1
  ·rw[if_pos c1,if_pos c1,zE hf _ _ _ rfl]
   simp only[pk hf,hl]
  ·rw[if_neg c1,if_neg c1]
   by_cases c2:b-m=1
   ·rw[if_pos c2,if_pos c2,zF hf _ _ _ rfl]
    simp only[pk hf,hl]
   ·rw[if_neg c2,if_neg c2]
    dsimp only;rw[symS_map hf hl];generalize symS lt d a m b=s
    have e1:(if s<m/\m<(a+b) / 2+m-s then rotL m (m-s) ((a+b) / 2+m-s-m) (d.map f) else d.map f)=(if s<m/\m<(a+b) / 2+m-s then rotL m (m-s) ((a+b) / 2+m-s-m) d else d).map f:=by
     split
     ·rw[pn hf _ _ _ _ (Nat.le_refl _)]
     ·rfl
    rw[e1];generalize (if s<m/\m<(a+b) / 2+m-s then rotL m (m-s) ((a+b) / 2+m-s-m) d else d)=d1
    have e2:(if a<s/\s<(a+b) / 2 then symM lt' g (d1.map f) a s ((a+b) / 2) else d1.map f)=(if a<s/\s<(a+b) / 2 then symM lt g d1 a s ((a+b) / 2) else d1).map f:=by
     split
     ·rw[lc g]
     ·rfl
    rw[e2];generalize (if a<s/\s<(a+b) / 2 then symM lt g d1 a s ((a+b) / 2) else d1)=d2;split
    ·rw[lc g]
    ·rfl
theorem zH {n:Nat}:∀ (m a:Nat)(d:Array α),n-a<=m->(stA lt n a d).map f=stA lt' n a (d.map f)
 |m,a,d,hm=>by
  by_cases h:a+20<=n
  ·match m,hm with
   |0,hm=>omega
   |m+1,hm=>rw[ph (d:=d) h,zH m _ _ (by omega),zG hf hl];exact (ph h).symm
  ·rw[d8 h,d8 h,zG hf hl]
theorem zI {n bs:Nat}(h0:0<bs):∀ (m a:Nat)(d:Array α),n-a<=m->(stP lt n bs a d).map f=stP lt' n bs a (d.map f)
 |m,a,d,hm=>by
  by_cases h:a+2*bs<=n
  ·match m,hm with
   |0,hm=>omega
   |m+1,hm=>rw[tO (d:=d) h0 h,zI h0 m _ _ (by omega),lc hf hl];exact (tO h0 h).symm
  ·by_cases h':a+bs<n
   ·rw[nf h h',nf h h',lc hf hl]
   ·rw[kZ h h',kZ h h']
theorem zJ {n:Nat}:∀ (m bs:Nat)(d:Array α),0<bs->n-bs<=m->(stM lt n bs d).map f=stM lt' n bs (d.map f)
 |m,bs,d,h0,hm=>by
  by_cases h:bs<n
  ·match m,hm with
   |0,hm=>omega
   |m+1,hm=>rw[pj (d:=d) h0 h,zJ m _ _ (by omega) (by omega),zI hf hl h0 _ _ _ (Nat.le_refl _)];exact (pj h0 h).symm
  ·rw[d9 h,d9 h]
theorem vZ (d:Array α):(stab lt d).map f=stab lt' (d.map f):=by
 rw[stab,stab,Array.size_map,zJ hf hl _ _ _ (by omega) (Nat.le_refl _),zH hf hl _ _ _ (Nat.le_refl _)]
end
theorem zK (S:SWO lt)(d:Array α)(h:d.size<=40):PermIn 0 d.size d (stab lt d)/\SortedIn lt 0 d.size (stab lt d):=by
 unfold stab;have INS:=fun (d:Array α)(a b:Nat) h1 h2=>insertionSort_holds S d a b h1 h2
 by_cases h20:d.size<20
 ·rw[d9 (by omega),d8 (by omega)]
  exact INS d 0 d.size (by omega) (Nat.le_refl _)
 ·obtain⟨n,hn⟩:∃ n,n=d.size:=⟨_,rfl⟩
  rw[<- hn] at h h20 ⊢;obtain⟨p1,s1⟩:=INS d 0 20 (by omega) (by omega);obtain⟨d1,hd1⟩:∃ x,x=Sort.insertionSort lt d 0 20:=⟨_,rfl⟩
  rw[<- hd1] at p1 s1;have z1:d1.size=n:=by rw[p1.1,hn]
  have key:∃ d2,stA lt n 0 d=d2/\PermIn 20 n d1 d2/\SortedIn lt 20 n d2:=by
   rw[ph (by omega),Nat.zero_add,<- hd1];by_cases h40:n=40
   ·rw[ph (by omega),d8 (by omega)]
    obtain⟨p2,s2⟩:=INS d1 20 40 (by omega) (by omega)
    have e:Sort.insertionSort lt (Sort.insertionSort lt d1 20 40) 40 n=Sort.insertionSort lt d1 20 40:=by
     show insOuter lt 40 n 41 _=_;rw[insOuter_stop _ _ _ _ _ (by omega)]
    rw[show 20+20=40 from rfl,e,h40];exact⟨_,rfl,p2,s2⟩
   ·rw[d8 (by omega)]
    obtain⟨p2,s2⟩:=INS d1 20 n (by omega) (by omega);exact⟨_,rfl,p2,s2⟩
  obtain⟨d2,e2,p2,s2⟩:=key;rw[e2];have z2:d2.size=n:=by rw[p2.1,z1]
  have s1':SortedIn lt 0 20 d2:=fun i j hi hij hj=>by
   rw[p2.2.1 i (.inl (by omega)),p2.2.1 j (.inl hj)];exact s1 i j hi hij hj
  have P12:PermIn 0 n d d2:=permIn_trans _ _ _ _ _ (permIn_mono _ _ _ _ _ _ (Nat.le_refl _) (by omega) (by omega) p1) (permIn_mono _ _ _ _ _ _ (by omega) (Nat.le_refl _) (by omega) p2);by_cases h1:n=20
  ·rw[d9 (by omega)]
   exact⟨P12,fun i j hi hij hj=>s1' i j hi hij (by omega)⟩
  ·rw[pj (by omega) (by omega),d9 (by omega)]
   obtain⟨p3,s3⟩:=tM lt S n d2 0 20 n (by omega) (by omega) (by omega) (by omega) s1' s2
   have e:stP lt n 20 0 d2=symM lt n d2 0 20 n:=by
    by_cases h40:n=40
    ·rw[tO (by omega) (by omega),kZ (by omega) (by omega),Nat.zero_add,Nat.zero_add,show 2*20=40 from rfl,h40]
    ·rw[nf (by omega) (by omega),Nat.zero_add]
   rw[e];exact⟨permIn_trans _ _ _ _ _ P12 p3,s3⟩
end Go.Proofs.Wo
end

noncomputable section
namespace Go.Proofs.Wo
open Go.Exo Go.Exo.Wo
theorem nh {o o':List Cl->List Cl->Int}:∀ {A B:List (List Cl)},(∀ a∈A,∀ b∈B,o a b=o' a b)->lsC o A B=lsC o' A B
 |[],[],_=>rfl
 |[],_::_,_=>rfl
 |_::_,[],_=>rfl
 |a::p,b::q,h=>by
  have e:=h a (.head _) b (.head _);have ih:=nh (A:=p) (B:=q) fun x hx y hy=>h x (.tail _ hx) y (.tail _ hy)
  simp only[lsC,e,ih]
theorem tru_b (b b':Bool):tru b b'=if b=b' then 0 else if b'=true then -1 else 1:=by cases b<;>cases b'<;>rfl
theorem rcN_cmpN (u u':List UInt8->Bool):∀ (n:Nat)(a b:List Cl),SizeOf.sizeOf a<n->Wts vK a->Wts vK b->mayR u a=true->mayR u' b=true->rcN n a b=cmpN n a b:=by
 intro n;induction n with
 |zero=>intro a b h;omega
 |succ n ih=>
  intro a b hs ha hb ma mb;obtain⟨k,b0,i,s,nl,ys,ml,rs,rfl,hl,-⟩:=row6 ha;obtain⟨k',b0',i',s',nl',ys',ml',rs',rfl,hl',-⟩:=row6 hb;obtain⟨-,q2,-,q4⟩:=ls2 hl;obtain⟨-,q2',-,q4'⟩:=ls2 hl';rw[dy] at ma mb;simp only[Bool.and_eq_true,decide_eq_true_eq] at ma mb;obtain⟨⟨⟨⟨⟨⟨⟨k1,k2⟩,hbare⟩,_⟩,_⟩,_⟩,_⟩,hkids⟩:=ma;obtain⟨⟨⟨⟨⟨⟨⟨k1',k2'⟩,hbare'⟩,_⟩,_⟩,_⟩,_⟩,hkids'⟩:=mb
  have hr:lsC (rcN n) rs rs'=lsC (cmpN n) rs rs':=nh fun x hx y hy=>ih x y (by
   have z:=List.sizeOf_lt_of_mem hx
   simp only[List.cons.sizeOf_spec,Cl.sl.sizeOf_spec] at hs
   omega) (q4 x hx) (q4' y hy) (List.all_eq_true.1 hkids x hx) (List.all_eq_true.1 hkids' y hy)
  simp only[rcN,cmpN,hr,rkR_rk k1 k2,rkR_rk k1' k2',tru_b];have e0:sgn (rk k) (rk k')=0<->k=k':=bE.trans (lQ k1 k2 k1' k2');simp only[gm,Bool.and_eq_true,Bool.or_eq_true,beq_iff_eq,Bool.not_eq_true',List.isEmpty_iff] at hbare hbare';by_cases hk:k=k'
  ·rw[if_pos hk,if_pos (e0.2 hk)]
   subst hk;obtain⟨⟨⟨⟨-,c2⟩,-⟩,c4⟩,c5⟩:=hbare;obtain⟨⟨⟨⟨-,c2'⟩,-⟩,c4'⟩,c5'⟩:=hbare';by_cases h1:k=1
   ·rw[if_pos h1,if_pos h1]
   ·rw[if_neg h1,if_neg h1]
    by_cases h3:k=3
    ·rw[if_pos h3,if_pos h3]
    ·rw[if_neg h3,if_neg h3]
     have hs0:sgn 0 0=0:=rfl;by_cases h5:k=5
     ·have e2:i=0:=by omega
      have e2':i'=0:=by omega
      rw[if_pos h5,e2,e2',hs0];split
      ·split<;>rename_i e<;>first|exact e|rfl
      ·rfl
     ·have e4:ys=[]:=by simpa[h5] using c4
      have e4':ys'=[]:=by simpa[h5] using c4'
      rw[if_neg h5,e4,e4',if_pos (show lsC cmpR [] []=0 from rfl)];by_cases h4:k=4
      ·have e2:i=0:=by omega
       have e2':i'=0:=by omega
       rw[if_pos h4,e2,e2',hs0];split<;>rename_i e<;>first|exact e|rfl
      ·have e5:rs=[]:=by simpa[h5,h4] using c5
       have e5':rs'=[]:=by simpa[h5,h4] using c5'
       rw[if_neg h4,e5,e5',if_pos (show lsC (cmpN n) [] []=0 from rfl)]
  ·rw[if_neg hk,if_neg (fun e=>hk (e0.1 e))]
end Go.Proofs.Wo
end

noncomputable section
namespace Go.Proofs.Wo
open Go.Exo Go.Exo.Wo
theorem ld (a b:Int):sgn b a = - sgn a b:=by unfold sgn;split<;>split<;>(try split)<;>omega
theorem tru_anti (a b:Bool):tru b a = - tru a b:=ld _ _
theorem lW:∀ (a b:List UInt8),cmpB b a = - cmpB a b
 |[],[]=>rfl
 |[],_::_=>rfl
 |_::_,[]=>rfl
 |a::r,b::s=>by
  rw[kQ,kQ];by_cases h:a=b
  ·subst h;rw[if_pos rfl,if_pos rfl];exact lW r s
  ·rw[if_neg h,if_neg (fun e=>h e.symm)];exact ld _ _
theorem lf {o o':List Cl->List Cl->Int}:∀ {A B:List (List Cl)},(∀ a∈A,∀ b∈B,o' b a = - o a b)->lsC o' B A = - lsC o A B
 |[],[],_=>rfl
 |[],_::_,_=>rfl
 |_::_,[],_=>rfl
 |a::p,b::q,h=>by
  have e:=h a (.head _) b (.head _);have ih:=lf (o:=o) (o':=o') (A:=p) (B:=q) fun x hx y hy=>h x (.tail _ hx) y (.tail _ hy)
  simp only[lsC,e,ih];by_cases h0:o a b=0
  ·rw[if_pos (by omega),if_pos h0]
  ·rw[if_neg (by omega),if_neg h0]
theorem Ba {a b:List Cl}(ha:Wts [.str] a)(hb:Wts [.str] b):cmpR b a = - cmpR a b:=by
 obtain⟨_,rfl,g⟩:=ha.one;obtain⟨_,rfl,g'⟩:=hb.one;obtain⟨s,rfl,-⟩:=g.str_inv;obtain⟨t,rfl,-⟩:=g'.str_inv;exact lW s t
theorem Bb (u u':List UInt8->Bool):∀ (n:Nat)(a b:List Cl),SizeOf.sizeOf a<n->Wts vK a->Wts vK b->mayR u a=true->mayR u' b=true->cmpN n b a = - cmpN n a b:=by
 intro n;induction n with
 |zero=>intro a b h;omega
 |succ n ih=>
  intro a b hs ha hb ma mb;obtain⟨k,b0,i,s,nl,ys,ml,rs,rfl,hl,-⟩:=row6 ha;obtain⟨k',b0',i',s',nl',ys',ml',rs',rfl,hl',-⟩:=row6 hb;obtain⟨-,q2,-,q4⟩:=ls2 hl;obtain⟨-,q2',-,q4'⟩:=ls2 hl';rw[dy] at ma mb;simp only[Bool.and_eq_true,decide_eq_true_eq] at ma mb;obtain⟨⟨⟨⟨⟨⟨⟨k1,k2⟩,-⟩,_⟩,_⟩,_⟩,_⟩,hkids⟩:=ma;obtain⟨⟨⟨⟨⟨⟨⟨k1',k2'⟩,-⟩,_⟩,_⟩,_⟩,_⟩,hkids'⟩:=mb
  have hr:lsC (cmpN n) rs' rs = - lsC (cmpN n) rs rs':=lf fun x hx y hy=>ih x y (by
   have z:=List.sizeOf_lt_of_mem hx
   simp only[List.cons.sizeOf_spec,Cl.sl.sizeOf_spec] at hs
   omega) (q4 x hx) (q4' y hy) (List.all_eq_true.1 hkids x hx) (List.all_eq_true.1 hkids' y hy)
  have hy:lsC cmpR ys' ys = - lsC cmpR ys ys':=lf fun x hx y hy=>Ba (q2 x hx) (q2' y hy)
  have e0:sgn (rk k) (rk k')=0<->k=k':=bE.trans (lQ k1 k2 k1' k2');have e0':sgn (rk k') (rk k)=0<->k'=k:=bE.trans (lQ k1' k2' k1 k2);simp only[cmpN,hr,hy,Int.neg_eq_zero];by_cases hk:k=k'
  ·rw[if_pos (e0'.2 hk.symm),if_pos (e0.2 hk)]
   subst hk;rw[tru_anti,lW,ld];split
   ·rfl
   ·split
    ·rfl
    ·split
     ·split
      ·rfl
      ·rfl
     ·rfl
  ·rw[if_neg (fun e=>hk (e0'.1 e).symm),if_neg (fun e=>hk (e0.1 e))];exact ld _ _
end Go.Proofs.Wo
end

noncomputable section
namespace Go.Proofs.Wo
open Go.Exo Go.Exo.Wo
def T3 (x y z:Int):Prop:=(x=0->z=y)/\(y=0->z=x)/\(x<0->y<0->z<0)
theorem T3.lex {x y z x' y' z':Int}(h:T3 x y z)(h':x=0->y=0->T3 x' y' z'):T3 (if x=0 then x' else x) (if y=0 then y' else y) (if z=0 then z' else z):=by
 obtain⟨h1,h2,h3⟩:=h;by_cases hx:x=0
 ·by_cases hy:y=0
  ·have hz:z=0:=by rw[h1 hx,hy]
   rw[if_pos hx,if_pos hy,if_pos hz];exact h' hx hy
  ·have hz:z=y:=h1 hx
   rw[if_pos hx,if_neg hy,if_neg (by omega)];exact⟨fun _=>hz,fun e=>absurd e hy,fun _ h=>by omega⟩
 ·by_cases hy:y=0
  ·have hz:z=x:=h2 hy
   rw[if_neg hx,if_pos hy,if_neg (by omega)];exact⟨fun e=>absurd e hx,fun _=>hz,fun h _=>by omega⟩
  ·rw[if_neg hx,if_neg hy]
   refine⟨fun e=>absurd e hx,fun e=>absurd e hy,fun a b=>?_⟩;have:=h3 a b;rw[if_neg (by omega)];exact this
theorem lY (a b:Int):(a<b/\sgn a b = -1)\/(a=b/\sgn a b=0)\/(b<a/\sgn a b=1):=by
 unfold sgn;by_cases h1:a<b
 ·rw[if_pos h1];exact .inl ⟨h1,rfl⟩
 ·by_cases h2:b<a
  ·rw[if_neg h1,if_pos h2];exact .inr (.inr ⟨h2,rfl⟩)
  ·rw[if_neg h1,if_neg h2];exact .inr (.inl ⟨by omega,rfl⟩)
theorem tP (a b c:Int):T3 (sgn a b) (sgn b c) (sgn a c):=by
 unfold T3;rcases lY a b with⟨h,e⟩|⟨h,e⟩|⟨h,e⟩<;>rcases lY b c with⟨h',e'⟩|⟨h',e'⟩|⟨h',e'⟩<;>rcases lY a c with⟨h'',e''⟩|⟨h'',e''⟩|⟨h'',e''⟩<;>omega
theorem tru_T3 (a b c:Bool):T3 (tru a b) (tru b c) (tru a c):=tP _ _ _
theorem po (a b:UInt8)(r s:List UInt8):cmpB (a::r) (b::s)=if sgn a.toNat b.toNat=0 then cmpB r s else sgn a.toNat b.toNat:=by
 rw[kQ];by_cases h:a=b
 ·subst h;rw[if_pos rfl,if_pos (bE.2 rfl)]
 ·rw[if_neg h,if_neg (fun e=>h (UInt8.toNat_inj.1 (by have:=bE.1 e;omega)))]
theorem tQ:∀ (a b c:List UInt8),T3 (cmpB a b) (cmpB b c) (cmpB a c)
 |[],[],_=>⟨fun _=>rfl,fun h=>h,fun h _=>absurd h (by simp[cmpB])⟩
 |[],_::_,[]=>⟨fun h=>absurd h (by simp[cmpB]),fun h=>absurd h (by simp[cmpB]),fun _ h=>absurd h (by simp[cmpB])⟩
 |[],_::_,_::_=>⟨fun h=>absurd h (by simp[cmpB]),fun _=>rfl,fun _ _=>by simp[cmpB]⟩
 |_::_,[],[]=>⟨fun h=>absurd h (by simp[cmpB]),fun _=>rfl,fun h=>absurd h (by simp[cmpB])⟩
 |_::_,[],_::_=>⟨fun h=>absurd h (by simp[cmpB]),fun h=>absurd h (by simp[cmpB]),fun h=>absurd h (by simp[cmpB])⟩
 |_::_,_::_,[]=>⟨fun _=>rfl,fun h=>absurd h (by simp[cmpB]),fun _ h=>absurd h (by simp[cmpB])⟩
 |a::r,b::s,c::t=>by
  rw[po,po,po];exact (tP _ _ _).lex fun _ _=>tQ r s t
theorem tR {o:List Cl->List Cl->Int}:∀ {A B C:List (List Cl)},(∀ a∈A,∀ b∈B,∀ c∈C,T3 (o a b) (o b c) (o a c))->T3 (lsC o A B) (lsC o B C) (lsC o A C)
 |[],[],_,_=>⟨fun _=>rfl,fun h=>h,fun h _=>absurd h (by simp[lsC])⟩
 |[],_::_,[],_=>⟨fun h=>absurd h (by simp[lsC]),fun h=>absurd h (by simp[lsC]),fun _ h=>absurd h (by simp[lsC])⟩
 |[],_::_,_::_,_=>⟨fun h=>absurd h (by simp[lsC]),fun _=>rfl,fun _ _=>by simp[lsC]⟩
 |_::_,[],[],_=>⟨fun h=>absurd h (by simp[lsC]),fun _=>rfl,fun h=>absurd h (by simp[lsC])⟩
 |_::_,[],_::_,_=>⟨fun h=>absurd h (by simp[lsC]),fun h=>absurd h (by simp[lsC]),fun h=>absurd h (by simp[lsC])⟩
 |_::_,_::_,[],_=>⟨fun _=>rfl,fun h=>absurd h (by simp[lsC]),fun _ h=>absurd h (by simp[lsC])⟩
 |a::r,b::s,c::t,h=>by
  simp only[lsC];exact (h a (.head _) b (.head _) c (.head _)).lex fun _ _=>tR fun x hx y hy z hz=>h x (.tail _ hx) y (.tail _ hy) z (.tail _ hz)
theorem cmpR_T3 {a b c:List Cl}(ha:Wts [.str] a)(hb:Wts [.str] b)(hc:Wts [.str] c):T3 (cmpR a b) (cmpR b c) (cmpR a c):=by
 obtain⟨_,rfl,g⟩:=ha.one;obtain⟨_,rfl,g'⟩:=hb.one;obtain⟨_,rfl,g''⟩:=hc.one;obtain⟨s,rfl,-⟩:=g.str_inv;obtain⟨t,rfl,-⟩:=g'.str_inv;obtain⟨u,rfl,-⟩:=g''.str_inv;exact tQ s t u
theorem cmpN_T3 (u:List UInt8->Bool):∀ (n:Nat)(a b c:List Cl),SizeOf.sizeOf a<n->SizeOf.sizeOf b<n->Wts vK a->Wts vK b->Wts vK c->mayR u a=true->mayR u b=true->mayR u c=true->T3 (cmpN n a b) (cmpN n b c) (cmpN n a c):=by
 intro n;induction n with
 |zero=>intro a b c h;omega
 |succ n ih=>
  intro a b c hs hs' ha hb hc ma mb mc;obtain⟨k,b0,i,s,nl,ys,ml,rs,rfl,hl,-⟩:=row6 ha;obtain⟨k',b0',i',s',nl',ys',ml',rs',rfl,hl',-⟩:=row6 hb;obtain⟨k'',b0'',i'',s'',nl'',ys'',ml'',rs'',rfl,hl'',-⟩:=row6 hc;obtain⟨-,q2,-,q4⟩:=ls2 hl;obtain⟨-,q2',-,q4'⟩:=ls2 hl';obtain⟨-,q2'',-,q4''⟩:=ls2 hl'';rw[dy] at ma mb mc;simp only[Bool.and_eq_true,decide_eq_true_eq] at ma mb mc;obtain⟨⟨⟨⟨⟨⟨⟨k1,k2⟩,-⟩,_⟩,_⟩,_⟩,_⟩,hkids⟩:=ma;obtain⟨⟨⟨⟨⟨⟨⟨k1',k2'⟩,-⟩,_⟩,_⟩,_⟩,_⟩,hkids'⟩:=mb;obtain⟨⟨⟨⟨⟨⟨⟨k1'',k2''⟩,-⟩,_⟩,_⟩,_⟩,_⟩,hkids''⟩:=mc
  have hr:T3 (lsC (cmpN n) rs rs') (lsC (cmpN n) rs' rs'') (lsC (cmpN n) rs rs''):=tR fun x hx y hy z hz=>ih x y z (by
   have z:=List.sizeOf_lt_of_mem hx
   simp only[List.cons.sizeOf_spec,Cl.sl.sizeOf_spec] at hs
   omega) (by
   have z:=List.sizeOf_lt_of_mem hy
   simp only[List.cons.sizeOf_spec,Cl.sl.sizeOf_spec] at hs'
   omega) (q4 x hx) (q4' y hy) (q4'' z hz) (List.all_eq_true.1 hkids x hx) (List.all_eq_true.1 hkids' y hy) (List.all_eq_true.1 hkids'' z hz)
  have hy:T3 (lsC cmpR ys ys') (lsC cmpR ys' ys'') (lsC cmpR ys ys''):=tR fun x hx y hy z hz=>cmpR_T3 (q2 x hx) (q2' y hy) (q2'' z hz)
  simp only[cmpN];refine (tP _ _ _).lex fun e e'=>?_
  have e1:=(lQ k1 k2 k1' k2').1 (bE.1 e);have e2:=(lQ k1' k2' k1'' k2'').1 (bE.1 e');subst e1;subst e2;by_cases h1:k=1
  ·simp only[if_pos h1];exact tru_T3 _ _ _
  ·simp only[if_neg h1]
   by_cases h3:k=3
   ·simp only[if_pos h3];exact tQ _ _ _
   ·simp only[if_neg h3]
    exact hy.lex fun _ _=>hr.lex fun _ _=>tP _ _ _
end Go.Proofs.Wo
end

noncomputable section
namespace Go.Proofs.Wo
open Go.Exo Go.Exo.Wo Go.RowKit Go.Sort Go.Lib
set_option maxRecDepth 100000
def eM:Cl->List (List Cl)|.sl _ d=>d|_=>[]
abbrev dp (M:Nat):Nat:=2*M+40
structure Good (C:List Cl->Int)(M:Nat)(c:Cl):Prop where
 sl:∃ nl d,c=.sl nl d
 all:∀ r∈eM c,mayR validD r=true/\C r=0
 sz:SizeOf.sizeOf c<=M+8
structure Ro (φ:Nat->Nat->Option Value)(C:List Cl->Int)(M:Nat) where
 v:Value
 c:Cl
 h:CR (rel φ) (.sl 29) v c
 q:Good C M c
instance {φ:Nat->Nat->Option Value}{C:List Cl->Int}{M:Nat}:Inhabited (Ro φ C M):=⟨⟨.slice none 0 0,.sl true [],.nil 29,⟨⟨_,_,rfl⟩,fun r h=>(by cases h),by simp⟩⟩⟩
def RowC:=Cl
instance:Inhabited RowC:=⟨(.sl true []:Cl)⟩
def RowC.cl (c:RowC):Cl:=c
def Ro.d {φ:Nat->Nat->Option Value}{C:List Cl->Int}{M:Nat}(x:Ro φ C M):RowC:=(x.c:Cl)
def cfD (C:List Cl->Int)(n:Nat)(a b:RowC):Int:=lsC (vcN C n) (eM a) (eM b)
def cfR {φ:Nat->Nat->Option Value}{C:List Cl->Int}{M:Nat}(a b:Ro φ C M):Int:=lsC (vcN C (dp M)) (eM a.c) (eM b.c)
structure Fine (C:List Cl->Int)(n:Nat)(l:List (List Cl)):Prop where
 w:∀ r∈l,Wts vK r
 m:∀ r∈l,mayR validD r=true
 c:∀ r∈l,C r=0
 z:∀ r∈l,SizeOf.sizeOf r<n
theorem jQ {C:List Cl->Int}{n:Nat}{A B:List (List Cl)}(ha:Fine C n A)(hb:Fine C n B):lsC (vcN C n) A B=lsC (cmpN n) A B:=nh fun a h b h'=>by rw[vcN,if_pos (ha.c a h),if_pos (hb.c b h')]
theorem dH {C:List Cl->Int}{n:Nat}{A B:List (List Cl)}(ha:Fine C n A)(hb:Fine C n B):lsC (vcN C n) B A = - lsC (vcN C n) A B:=by
 rw[jQ ha hb,jQ hb ha];exact lf fun a h b h'=>Bb validD validD n a b (ha.z a h) (ha.w a h) (hb.w b h') (ha.m a h) (hb.m b h')
theorem ni {C:List Cl->Int}{n:Nat}{A B D:List (List Cl)}(ha:Fine C n A)(hb:Fine C n B)(hd:Fine C n D):T3 (lsC (vcN C n) A B) (lsC (vcN C n) B D) (lsC (vcN C n) A D):=by
 rw[jQ ha hb,jQ hb hd,jQ ha hd];exact tR fun a h b h' d h''=>cmpN_T3 validD n a b d (ha.z a h) (hb.z b h') (ha.w a h) (hb.w b h') (hd.w d h'') (ha.m a h) (hb.m b h') (hd.m d h'')
theorem Bc {C:List Cl->Int}{n:Nat}{A B:List (List Cl)}(ha:Fine C n A)(hb:Fine C n B):lsC (vcN C n) A B=0<->az A=az B:=by
 rw[jQ ha hb];exact kX fun a h b h'=>A3 validD validD n a b (ha.z a h) (ha.w a h) (hb.w b h') (ha.m a h) (hb.m b h')
theorem Ro.fine {φ:Nat->Nat->Option Value}{C:List Cl->Int}{M:Nat}(x:Ro φ C M):Fine C (dp M) (eM x.c):=by
 obtain⟨nl,d,e⟩:=x.q.sl;have hw:=x.h.wt;have hs:=x.q.sz;have ha:=x.q.all;rw[e] at hw hs ha ⊢;obtain⟨_,_,e',-,-,hr⟩:=hw.sl_inv;cases e';refine⟨hr,fun r h=>(ha r h).1,fun r h=>(ha r h).2,fun r h=>?_⟩;have z:=List.sizeOf_lt_of_mem (show r∈d from h);simp only[Cl.sl.sizeOf_spec] at hs;show _<2*M+40;omega
theorem Ro.swo {φ:Nat->Nat->Option Value}{C:List Cl->Int}{M:Nat}:SWO (ltC (cfR (φ:=φ) (C:=C) (M:=M))) where
 irrefl x:=by
  have h:cfR x x = - cfR x x:=dH x.fine x.fine;unfold ltC;exact decide_eq_false (by omega)
 trans x y z h1 h2:=by
  have h1:cfR x y<0:=of_decide_eq_true h1;have h2:cfR y z<0:=of_decide_eq_true h2;exact decide_eq_true ((ni x.fine y.fine z.fine).2.2 h1 h2)
 ntrans x y z h1 h2:=by
  have h1:¬ cfR x y<0:=of_decide_eq_false h1;have h2:¬ cfR y z<0:=of_decide_eq_false h2;have a1:cfR y x = - cfR x y:=dH x.fine y.fine;have a2:cfR z y = - cfR y z:=dH y.fine z.fine;have a3:cfR z x = - cfR x z:=dH x.fine z.fine;obtain⟨t1,t2,t3⟩:T3 (cfR z y) (cfR y x) (cfR z x):=ni z.fine y.fine x.fine;refine decide_eq_false fun h3=>?_
  by_cases c1:cfR z y=0
  ·have:=t1 c1;omega
  ·by_cases c2:cfR y x=0
   ·have:=t2 c2;omega
   ·have:=t3 (by omega) (by omega);omega
variable {k:Nat}{G:World->Prop}
theorem ro_one {φ:Nat->Nat->Option Value}{C:List Cl->Int}{M:Nat}:OneCell (Ro.v (φ:=φ) (C:=C) (M:=M)):=fun x=>jO x.h
theorem cmp20 {C:List Cl->Int}{M:Nat}(hG:Gd0 k G)(hS:Go.Exo.Spec Tryz.prog G 22 [.one (.sl 29),.one (.sl 29)] (.one (.one iK)) (fun c=>SizeOf.sizeOf c<dp M) (cO C (dp M))){s:Spt}(hk:k<=s.B)(hw:G s.w0)(fp:Value) :
  Cmps Tryz.prog 20 fp (Ro.v (φ:=s.φ) (C:=C) (M:=M)) s cfR:=by
 intro dk W S x y
 have H:Calls Tryz.prog 22 #[x.v,y.v] W fun e w'=>e=.returned (.int .i64 (cfR x y))/\RowKit.Below W.heap.size W w':=by
  obtain⟨nl,d,e⟩:=x.q.sl;obtain⟨nl',d',e'⟩:=y.q.sl;have hx:=x.h;have hy:=y.h;have z1:=x.q.sz;have z2:=y.q.sz;unfold cfR;rw[e] at hx z1 ⊢;rw[e'] at hy z2 ⊢
  refine (hS W s.φ [x.v,y.v] [.sl nl d,.sl nl' d'] (kU hG hw hk S.below) S.dat (.one hx (.one hy .nil)) (by
   show _<2*M+40
   simp only[List.cons.sizeOf_spec,List.nil.sizeOf_spec] at z1 z2 ⊢;omega)).mono ?_
  rintro e w' ⟨r,φ',rfl,h1,h2,h3,h4,h5⟩;have h5':ArgR (rel φ') [.one iK] [r] [.int (lsC (vcN C (dp M)) d d')]:=h5;cases h5' with
  |one h6 _=>cases h6;exact⟨rfl,Below.ofExt h4⟩
 have HH:=Go.Lib.hid H;clear H S;go_enter Tryz.func20,Tryz.ntmps20;go_wp2_with (go_at_call 22;with_reducible refine (HH.out).mono ?_;rintro e w' ⟨rfl,hb⟩);go_ret;exact⟨rfl,hb⟩
end Go.Proofs.Wo
end

noncomputable section
namespace Go.Proofs.Wo
open Go.Exo Go.Exo.Wo Go.RowKit Go.Sort Go.Lib
set_option maxRecDepth 100000
variable {k:Nat}{G:World->Prop}
def je (Fc:List Cl->List Cl):Cl->Cl|.sl _ d=>.sl d.isEmpty (d.map Fc)|c=>c
def bq (Fc:List Cl->List Cl)(rows:List (List Cl)):List Cl:=rows.map fun r=>je Fc (r.getD 0 .no)
def ig (F:Nat->Nat->Value->Prop)(xs:List Value)(out:List Cl):Prop:=xs.length=out.length/\∀ (i:Nat)(x:Value)(c:Cl),xs[i]? = some x->out[i]? = some c->CR F (.sl 29) x c
theorem ig.mono {F F':Nat->Nat->Value->Prop}(hF:∀ b o v,F b o v->F' b o v){xs:List Value}{out:List Cl}(h:ig F xs out):ig F' xs out:=⟨h.1,fun i x c h1 h2=>(h.2 i x c h1 h2).mono hF⟩
theorem ig.snoc {F:Nat->Nat->Value->Prop}{xs:List Value}{out:List Cl}{x:Value}{c:Cl}(h:ig F xs out)(hc:CR F (.sl 29) x c):ig F (xs++[x]) (out++[c]):=by
 refine⟨by simp[h.1],fun i y d h1 h2=>?_⟩;by_cases hi:i<xs.length
 ·rw[List.getElem?_append_left hi] at h1
  rw[List.getElem?_append_left (by rw[<- h.1];exact hi)] at h2;exact h.2 i y d h1 h2
 ·have hz:=(ae.1 h1).1
  have:i=xs.length:=by simp at hz;omega
  subst this;rw[List.getElem?_append_right (am _)] at h1;rw[List.getElem?_append_right (by rw[h.1];exact am _)] at h2;simp at h1;simp[h.1] at h2;subst h1;subst h2;exact hc
theorem v6 {F:Nat->Nat->Value->Prop}{x:Value}{nl:Bool}{rows:List (List Cl)}(h:CR F (.sl 24) x (.sl nl rows)):∃ a cap,x=.slice a rows.length cap/\rows.length<=maxLen/\
  ∀ (i:Nat)(r:List Cl),rows[i]? = some r->∃ blk off y c,a=some ⟨blk,off,none⟩/\F blk (off+i) y/\r=[c]/\CR F (.sl 29) y c:=by
 cases h with
 |nil=>exact⟨none,0,rfl,Nat.zero_le _,fun i r h=>by simp at h⟩
 |e0 _ a=>exact⟨some a,0,rfl,Nat.zero_le _,fun i r h=>by simp at h⟩
 |sl _ blk off len cap _ vs a1 a2 a3 a4 a5 a6=>
  subst a1;refine⟨_,cap,rfl,by omega,fun i r hr=>?_⟩;have hl:r.length=1:=a4 i r hr
  obtain⟨c,rfl⟩:∃ c,r=[c]:=by
   match r,hl with
   |[c],_=>exact⟨_,rfl⟩
  have h5:=a5 i _ 0 _ hr rfl
  have e:off+i*(Sx.row 24).length+0=off+i:=by
   show off+i*1+0=off+i;omega
  rw[e] at h5;exact⟨blk,off,vs i 0,c,rfl,h5,rfl,a6 i _ 0 _ _ hr rfl rfl⟩
def OInv (Fc:List Cl->List Cl)(w:World)(φ:Nat->Nat->Option Value)(rows:List (List Cl))(k:Nat)(wr:World)(v:Value):Prop:=
 ∃ φk xs,Grows w wr φ φk/\wr.ownsRow (w.heap.size+1) 24 1 v k xs/\ig (rel φk) xs (bq Fc (rows.take k))/\(∀ b o u,φk b o=some u->v.ownBlock≠some b/\b≠w.heap.size)/\(v=.slice none 0 0<->k=0)/\
  Below w.heap.size w wr/\wr.heap[w.heap.size]? = some (.cells #[v] 72 (0,0))
theorem OInv.start {Fc:List Cl->List Cl}{w:World}{φ:Nat->Nat->Option Value}{rows:List (List Cl)}(hφ:Dat φ w):OInv Fc w φ rows 0 (w.alloc (.cells #[.slice none 0 0] 72)) (.slice none 0 0):=
 have hB:Below w.heap.size w (w.alloc (.cells #[.slice none 0 0] 72)):=(Below.refl _ _).alloc (am _) _
 ⟨φ,[],(Grows.refl hφ).below hB,World.ownsRow_nil _ _ _ _,⟨rfl,fun i x c h=>(by simp at h)⟩,fun b o u h=>⟨fun e=>(by cases e),fun e=>(by have:=hφ.lt h;omega)⟩,by simp,hB,cW w _ 72⟩
theorem v7 {Fc:List Cl->List Cl}{rows:List (List Cl)}{k:Nat}{c:Cl}(h:rows[k]? = some [c]):bq Fc (rows.take (k+1))=bq Fc (rows.take k)++[je Fc c]:=by
 rw[bq,jd h];rfl
theorem OInv.step {Fc:List Cl->List Cl}{w wr wi w5:World}{φ φk:Nat->Nat->Option Value}{rows:List (List Cl)}{k:Nat}{v v' u:Value}{xs ys:List Value}{nl:Bool}{d:List (List Cl)}{o':Obj}
  (hg:Grows w wr φ φk)(hown:wr.ownsRow (w.heap.size+1) 24 1 v k xs)(hrs:ig (rel φk) xs (bq Fc (rows.take k)))(hn:∀ b o u,φk b o=some u->v.ownBlock≠some b/\b≠w.heap.size)(hB:Below w.heap.size w wr)
  (hbox:wr.heap[w.heap.size]? = some (.cells #[v] 72 (0,0)))(hr:rows[k]? = some [.sl nl d])
  (hbi:Below wr.heap.size wr wi)(hoi:wi.ownsRow wr.heap.size 29 6 u d.length ys)(hci:rt Fc wr φk d u d.length wi ys)
  (hown5:w5.ownsRow (w.heap.size+1) 24 1 v' (k+1) (xs++[u]))(hgr:(wi.alloc o').grownBy w5 v.ownBlock)(hnil:v'=.slice none 0 0<->v=.slice none 0 0/\1=0)(hat:v'.ownBlock=v.ownBlock\/v'.ownBlock=some (wi.alloc o').heap.size) :
  w5.cell? ⟨w.heap.size,0,none⟩=some v/\w5.frozen? ⟨w.heap.size,0,none⟩=false/\OInv Fc w φ rows (k+1) (w5.setCell ⟨w.heap.size,0,none⟩ v') v':=by
 obtain⟨φi,hgi,hri,hni,hzi⟩:=hci;have htk:d.take d.length=d:=List.take_of_length_le (am _);rw[htk] at hri;obtain⟨φ',s1,s2,s3,s4⟩:=x6 (out:=d.map Fc) (by rw[List.length_map];exact hoi) hri hgi.dat hni (by rw[List.length_map];exact hzi);have hbl:w.heap.size<wr.heap.size:=(ag.1 hbox).1;have hvB:v.ownBlock≠some w.heap.size:=fun e=>by have:=tK hown _ e;omega
 have hvlt:∀ g,v.ownBlock=some g->g<wr.heap.size:=fun g e=>by
  rcases hown.2 with⟨rfl,_⟩|⟨g',cap',cur,rfl,h1,h2,h3⟩
  ·cases e
  ·cases e;exact (ag.1 h2).1
 have hi0:=hbi.size
 have b5:w5.heap[w.heap.size]? = some (.cells #[v] 72 (0,0)):=by
  rw[hgr.block _ (by simp;omega) (fun e=>hvB e.symm),Below.heap_alloc _ _ _ (by omega),hbi.block _ hbl];exact hbox
 have n1:∀ b o u,φ' b o=some u->b<wr.heap.size->φk b o=some u:=fun b o u h hb=>hgi.new b o u (s3 b o u h hb) hb
 have hn':∀ b o u,φ' b o=some u->v.ownBlock≠some b/\b≠w.heap.size:=fun b o u h=>by
  constructor
  ·intro e
   have:=hvlt b e;exact (hn b o u (n1 b o u h this)).1 e
  ·intro e
   exact (hn b o u (n1 b o u h (by omega))).2 e
 have g1:Grows wr wi φk φ':=⟨fun b o u h=>s1 _ _ _ (hgi.sub _ _ _ h),s2,n1⟩
 have g2:Grows w wi φ φ':=hg.trans g1 hB.size;have g3:Grows w (wi.alloc o') φ φ':=g2.below ((Below.refl _ _).alloc (am _) _);have g4:Grows w w5 φ φ':=g3.but hgr fun b o u h=>(hn' b o u h).1
 have hb5:Below w.heap.size w w5:=by
  have h1:=hB.trans (hbi.mono hB.size);exact (h1.alloc h1.size o').grown hgr (by have:=h1.size;simp;omega) (fun k hk=>by have:=tK hown _ hk;omega)
 have hv'B:v'.ownBlock≠some w.heap.size:=fun e=>by have:=tK hown5 _ e;omega
 refine⟨aA b5 rfl,kW b5,φ',xs++[u],⟨g4.sub,st_dat g4.dat fun b o v h=>Below.heap_setCell _ _ _ _ (hn' b o v h).2,g4.new⟩,⟨hown5.1,?_⟩,?_,fun b o z h=>⟨?_,(hn' b o z h).2⟩,⟨fun h=>absurd (hnil.1 h).2 (by decide),fun h=>absurd h (by omega)⟩,hb5.setCell (p:=⟨w.heap.size,0,none⟩) (am _) _,?_⟩
 ·rcases hown5.2 with h|⟨g,cap,cur,rfl,h2,h3,h4⟩
  ·exact .inl h
  ·exact .inr ⟨g,cap,cur,rfl,h2,(Below.heap_setCell _ _ _ _ (show g≠w.heap.size by omega)).trans h3,h4⟩
 ·rw[v7 hr]
  have e:je Fc (.sl nl d)=.sl (d.map Fc).isEmpty (d.map Fc):=by cases d<;>rfl
  rw[e];exact (hrs.mono fun b o u h=>s1 _ _ _ (hgi.sub _ _ _ h)).snoc s4
 ·intro e
  rcases hat with h1|h1
  ·rw[h1] at e;exact (hn' b o z h).1 e
  ·rw[h1] at e
   have h2:=s2.lt h;simp at e;omega
 ·have:=st_set 0 v' b5
  simpa using this
def arrC (l:List Cl):Array RowC:=List.toArray (α:=RowC) l
def ordF (Fc:List Cl->List Cl)(C:List Cl->Int)(M:Nat):List Cl->List Cl
 |[.sl _ rows]=>[.sl rows.isEmpty ((stab (ltC (cfD C (dp M))) (arrC (bq Fc rows))).toList.map fun c=>[RowC.cl c])]
 |_=>[]
structure OrdP (Fc:List Cl->List Cl)(C:List Cl->Int)(M n:Nat)(rows:List (List Cl)):Prop where
 few:rows.length<=40
 row:∀ r∈rows,∃ nl d,r=[.sl nl d]/\d.length<=10/\(∀ x∈d,eJ n x)/\Good C M (je Fc (.sl nl d))
end Go.Proofs.Wo
end

noncomputable section
namespace Go.Proofs.Wo
open Go.Exo Go.Exo.Wo Go.RowKit Go.Sort Go.Lib
set_option maxRecDepth 100000
variable {k:Nat}{G:World->Prop}
theorem ins0 (f:Value)(w:World):Calls Tryz.prog 67 #[.slice none 0 0,.int .i64 0,.int .i64 0,f] w fun e w'=>e=.returned (.tuple #[])/\w'=w:=by
 go_enter Tryz.func67,Tryz.ntmps67;go_wp2;go_loopg [8] 0 (fun kx s8 wr=>s8=.int .i64 1/\wr=w)
 case atStart=>exact⟨rfl,rfl⟩
 case round=>
  obtain⟨rfl,rfl⟩:=hrel;go_wp2;go_end0;exact⟨rfl,rfl⟩
theorem stab0 (f:Value)(w:World):Calls Tryz.prog 42 #[.slice none 0 0,.int .i64 0,f] w fun e w'=>e=.returned (.tuple #[])/\w'=w:=by
 have HI:=Go.Lib.hid (ins0 f w);go_enter Tryz.func42,Tryz.ntmps42;go_wp2;go_loopg [7,8] 0 (fun kx s7 s8 wr=>s7=.int .i64 0/\s8=.int .i64 20/\wr=w)
 case atStart=>exact⟨rfl,rfl,rfl⟩
 case round=>
  obtain⟨rfl,rfl,rfl⟩:=hrel;go_wp2_with (go_at_call 67;with_reducible refine (HI.out).mono ?_;rintro e w' ⟨rfl,rfl⟩);go_loopg [6] 0 (fun kx s6 wr=>s6=.int .i64 20/\wr=w')
  case atStart=>exact⟨rfl,rfl⟩
  case round=>
   obtain⟨rfl,rfl⟩:=hrel;go_wp2;go_end0;exact⟨rfl,rfl⟩
theorem sort0 (f:Value)(w:World):Calls Tryz.prog 19 #[.slice none 0 0,f] w fun e w'=>e=.returned (.tuple #[])/\w'=w:=by
 have HI:=Go.Lib.hid (stab0 f w);go_enter Tryz.func19,Tryz.ntmps19;go_wp2_with (go_at_call 42;with_reducible refine (HI.out).mono ?_;rintro e w' ⟨rfl,rfl⟩);go_end0;exact⟨rfl,rfl⟩
theorem zL {φ:Nat->Nat->Option Value}{C:List Cl->Int}{M:Nat}:∀ (xs:List Value)(out:List Cl),ig (rel φ) xs out->(∀ c∈out,Good C M c)->∃ l:List (Ro φ C M),l.map Ro.v=xs/\l.map Ro.c=out
 |[],[],_,_=>⟨[],rfl,rfl⟩
 |[],_::_,h,_=>by have:=h.1;simp at this
 |_::_,[],h,_=>by have:=h.1;simp at this
 |x::xs,c::out,h,hg=>by
  obtain⟨l,e1,e2⟩:=zL xs out ⟨by have:=h.1;simpa using this,fun i y d h1 h2=>h.2 (i+1) y d (by simpa using h1) (by simpa using h2)⟩ fun c hc=>hg c (.tail _ hc)
  exact⟨⟨x,c,h.2 0 x c rfl rfl,hg c (.head _)⟩::l,by simp[e1],by simp[e2]⟩
theorem OInv.fin {Fc:List Cl->List Cl}{C:List Cl->Int}{M:Nat}{w wr:World}{φ:Nat->Nat->Option Value}{rows:List (List Cl)}{v:Value}(h:OInv Fc w φ rows rows.length wr v)(h0:0<rows.length)(hg:∀ c∈bq Fc rows,Good C M c) :
  ∃ (φk:Nat->Nat->Option Value)(g cap:Nat)(rest:Array Value)(dk:Array (Ro φk C M)),v=.slice (some ⟨g,0,none⟩) rows.length cap/\rows.length<=cap/\cap<=maxLen/\Grows w wr φ φk/\dk.size=rows.length/\dk.toList.map Ro.c=bq Fc rows/\w.heap.size+1<=g/\
   Sw Ro.v ⟨wr,w.heap.size+1,φk,g,rest,24⟩ dk wr/\Below w.heap.size w wr/\wr.heap[w.heap.size]? = some (.cells #[v] 72 (0,0)):=by
 obtain⟨φk,xs,h1,h2,h3,h4,h5,h6,h7⟩:=h;rw[List.take_of_length_le (am _)] at h3;obtain⟨l,e1,e2⟩:=zL (C:=C) (M:=M) xs _ h3 hg
 have hlen:l.length=rows.length:=by
  have:=congrArg List.length e2;simpa[bq] using this
 rcases h2.2 with⟨_,h0'⟩|⟨g,cap,cur,rfl,a1,a2,a3,a4,a5,a6⟩
 ·omega
 ·refine⟨φk,g,cap,(cur.toList.drop rows.length).toArray,l.toArray,rfl,a3,a4,h1,by simpa using hlen,by simpa using e2,a1,⟨Below.refl _ _,h1.dat,?_,a1,fun b o u h e=>(h4 b o u h).1 (by rw[e];rfl)⟩,h6,h7⟩
  rw[a2];congr 2;apply Array.toList_inj.1;simp only[Array.toList_append,Array.toList_map,List.toList_toArray];rw[e1,<- a6,Nat.mul_one,List.take_append_drop]
theorem sort_fin {C:List Cl->Int}{M:Nat}{w wr w':World}{φ φk:Nat->Nat->Option Value}{g cap n:Nat}{rest:Array Value}{dk:Array (Ro φk C M)}(hg1:Grows w wr φ φk)(hws:Below w.heap.size w wr)(hg:w.heap.size+1<=g)(hn:dk.size=n)(hc:n<=cap)(hm:cap<=maxLen)
  (S:Sw Ro.v ⟨wr,w.heap.size+1,φk,g,rest,24⟩ dk w') :
  ∃ φ',(∀ b o u,φ b o=some u->φ' b o=some u)/\Dat φ' w'/\(∀ b o u,φ' b o=some u->b<w.heap.size->φ b o=some u)/\Below w.heap.size w w'/\CR (rel φ') (.sl 24) (.slice (some ⟨g,0,none⟩) n cap) (.sl false (dk.toList.map fun x=>[x.c])):=by
 subst hn;have hb:=S.below;have hne:∀ b o u,φk b o=some u->b≠g:=S.hn
 have hsub:∀ b o u,φk b o=some u->(fun b o=>if b=g/\o<dk.size then some (Ro.v dk[o]!) else φk b o) b o=some u:=fun b o u h=>by
  show (if b=g/\o<dk.size then some (Ro.v dk[o]!) else φk b o)=some u;rw[if_neg (fun e=>hne b o u h e.1)];exact h
 refine⟨fun b o=>if b=g/\o<dk.size then some (Ro.v dk[o]!) else φk b o,fun b o u h=>hsub _ _ _ (hg1.sub _ _ _ h),fun b o u h=>?_,fun b o u h hlt=>?_,hws.trans (hb.mono (by show w.heap.size<=w.heap.size+1;omega)),?_⟩
 ·simp only at h
  split at h
  ·rename_i e
   obtain⟨rfl,h3⟩:=e;rw[<- h];exact S.c1 o h3
  ·exact S.dat b o u h
 ·simp only at h
  split at h
  ·rename_i e;omega
  ·exact hg1.new _ _ _ h hlt
 ·have row:∀ (i:Nat)(r:List Cl),(dk.toList.map fun x=>[x.c])[i]? = some r->i<dk.size/\r=[(dk[i]!).c]:=fun i r h=>by
   have hi:=(ae.1 h).1;simp only[List.length_map,Array.length_toList] at hi;refine⟨hi,?_⟩;rw[List.getElem?_map,Array.getElem?_toList,Array.getElem?_eq_getElem hi] at h;rw[getElem!_pos dk i hi];simpa using h.symm
  refine .sl 24 g 0 dk.size cap _ (fun i _=>Ro.v dk[i]!) (by simp) hc hm (fun i r h=>by rw[(row i r h).2];rfl) (fun i r j c h1 h2=>?_) (fun i r j c kd h1 h2 h3=>?_)
  ·obtain⟨hi,e⟩:=row i r h1
   subst e
   match j,h2 with
   |0,h2=>
    show (if g=g/\0+i*1+0<dk.size then some (Ro.v dk[0+i*1+0]!) else φk g (0+i*1+0))=some (Ro.v dk[i]!);rw[if_pos ⟨rfl,by omega⟩,show 0+i*1+0=i by omega]
   |j+1,h2=>simp at h2
  ·obtain⟨hi,e⟩:=row i r h1
   subst e
   match j,h2,h3 with
   |0,h2,h3=>
    have e1:c=(dk[i]!).c:=by simpa using h2.symm
    have e2:kd=.sl 29:=by
     have:some (Kd.sl 29)=some kd:=h3;exact (Option.some.inj this).symm
    subst e1;subst e2;exact (dk[i]!).h.mono hsub
   |j+1,h2,_=>simp at h2
end Go.Proofs.Wo
end

noncomputable section
namespace Go.Proofs.Wo
open Go.Exo Go.Exo.Wo Go.RowKit Go.Sort Go.Lib
set_option maxRecDepth 100000
variable {k:Nat}{G:World->Prop}
theorem x9:(Tryz.prog.info? 24).map (fun i=>(i.zero,i.size,i.bytes))=some (some (.slice none 0 0),1,24):=by kernel_rfl
theorem pq {w:World}{base sz:Nat}{e:TypeId}{v:Value}{n:Nat}{xs:List Value}(h:w.ownsRow base e sz v n xs):∃ a l c,v=.slice a l c:=by
 rcases h.2 with⟨rfl,_⟩|⟨g,cap,cur,rfl,_⟩
 ·exact⟨_,_,_,rfl⟩
 ·exact⟨_,_,_,rfl⟩
theorem own_one {w:World}{base sz:Nat}{e:TypeId}{v:Value}{n:Nat}{xs:List Value}(h:w.ownsRow base e sz v n xs):∀ u∈[v],u.oneCell'=true:=fun u hu=>by
 have:u=v:=by simpa using hu
 subst this;rcases h.2 with⟨rfl,_⟩|⟨g,cap,cur,rfl,_⟩<;>rfl
def OrdC (w:World)(φ:Nat->Nat->Option Value)(c:Cl)(e:Ending)(w':World):Prop:=
 ∃ y φ',e=.returned y/\Hid ((∀ b o u,φ b o=some u->φ' b o=some u)/\Dat φ' w'/\(∀ b o u,φ' b o=some u->b<w.heap.size->φ b o=some u)/\Below w.heap.size w w'/\CR (rel φ') (.sl 24) y c)
theorem Bd {Fc:List Cl->List Cl}{C:List Cl->Int}{M:Nat}(hG:Gd0 k G)(hS:Go.Exo.Spec Tryz.prog G 22 [.one (.sl 29),.one (.sl 29)] (.one (.one iK)) (fun c=>SizeOf.sizeOf c<dp M) (cO C (dp M))){w:World}{φ:Nat->Nat->Option Value}(hGw:G w){rows:List (List Cl)}{nl:Bool}{wr:World}{v:Value}
  (hfew:rows.length<=40)(hg:∀ c∈bq Fc rows,Good C M c)(h:OInv Fc w φ rows rows.length wr v)(fp:Value) :
  Calls Tryz.prog 19 #[v,.func (.func 20) #[fp] #[]] wr fun e w'=>e=.returned (.tuple #[])/\w'.cell? ⟨w.heap.size,0,none⟩=some v/\OrdC w φ ((ordF Fc C M [.sl nl rows]).getD 0 .no) (.returned v) w':=by
 by_cases h0:0<rows.length
 ·obtain⟨φk,g,cap,rest,dk,rfl,hc,hm,hgr,hdk,hdat,hbg,S,hB,hbox⟩:=h.fin h0 hg
  have hkB:k<=w.heap.size+1:=by have:=hG.size w hGw;omega
  have hGr:G wr:=kU hG hGw (hG.size w hGw) hB;have hcmp:=cmp20 (C:=C) (M:=M) (s:=⟨wr,w.heap.size+1,φk,g,rest,24⟩) hG hS hkB hGr fp;refine (x8 ro_one Ro.swo hcmp S cap rows.length hdk (by omega)).mono ?_;rintro e w' ⟨rfl,S'⟩
  have hz:(stab (ltC (cfR (φ:=φk) (C:=C) (M:=M))) dk).size=rows.length:=by
   have:=(zK (Ro.swo (φ:=φk) (C:=C) (M:=M)) dk (by omega)).1.1;rw[this,hdk]
  obtain⟨φ',s1,s2,s3,s4,s5⟩:=sort_fin hgr hB hbg hz hc hm S';have hbl:w.heap.size<wr.heap.size:=(ag.1 hbox).1;refine⟨rfl,aA ((S'.below.block w.heap.size (by show w.heap.size<w.heap.size+1;omega)).trans hbox) rfl,_,φ',rfl,s1,s2,s3,s4,?_⟩
  have e1:(ordF Fc C M [.sl nl rows]).getD 0 .no=.sl false ((stab (ltC (cfR (φ:=φk) (C:=C) (M:=M))) dk).toList.map fun x=>[x.c]):=by
   have hne:rows.isEmpty=false:=by
    cases rows with
    |nil=>simp at h0
    |cons=>rfl
   have nat:=vZ (α:=Ro φk C M) (β:=RowC) (f:=Ro.d) (lt:=ltC (cfR (φ:=φk) (C:=C) (M:=M))) (lt':=ltC (cfD C (dp M))) rfl (fun x y=>rfl) dk
   have ed:dk.map Ro.d=arrC (bq Fc rows):=by
    apply Array.toList_inj.1;rw[Array.toList_map];exact hdat
   rw[ed] at nat;show Cl.sl rows.isEmpty ((stab (ltC (cfD C (dp M))) (arrC (bq Fc rows))).toList.map fun c=>[RowC.cl c])=_;rw[hne,<- nat,Array.toList_map,List.map_map];rfl
  rw[e1];exact s5
 ·have hl:rows.length=0:=by omega
  obtain⟨φk,xs,h1,h2,h3,h4,h5,h6,h7⟩:=h;have hv:=h5.2 hl;subst hv;refine (sort0 _ wr).mono ?_;rintro e w' ⟨rfl,rfl⟩;refine⟨rfl,aA h7 rfl,_,φk,rfl,h1.sub,h1.dat,h1.new,h6,?_⟩;have e0:rows=[]:=List.length_eq_zero_iff.1 hl;subst e0
  have e1:(ordF Fc C M [.sl nl []]).getD 0 .no=.sl true []:=by
   show Cl.sl true ((stab (ltC (cfD C (dp M))) (arrC (bq Fc []))).toList.map fun c=>[RowC.cl c])=_
   have:stab (ltC (cfD C (dp M))) (arrC (bq Fc []))=#[]:=by
    unfold stab;rw[d9 (by show ¬ 20<0;omega),d8 (by show ¬ 0+20<=0;omega)];show insOuter _ 0 _ 1 _=_;rw[insOuter_stop _ _ _ _ _ (by show ¬ 1<0;omega)];rfl
   rw[this];rfl
  rw[e1];exact .nil 24
set_option maxHeartbeats 4000000 in
theorem order7 {Fc:List Cl->List Cl}{C:List Cl->Int}{M n:Nat}(hG:Gd0 k G)(hS18:Go.Exo.Spec Tryz.prog G 18 [vA] (.one vA) (eJ n) Fc)
  (hS:Go.Exo.Spec Tryz.prog G 22 [.one (.sl 29),.one (.sl 29)] (.one (.one iK)) (fun c=>SizeOf.sizeOf c<dp M) (cO C (dp M))){w:World}{φ:Nat->Nat->Option Value}(hGw:G w)(hφ:Dat φ w){x:Value}{nl:Bool}{rows:List (List Cl)}
  (hx:CR (rel φ) (.sl 24) x (.sl nl rows))(hp:OrdP Fc C M n rows):Calls Tryz.prog 7 #[x] w (OrdC w φ ((ordF Fc C M [.sl nl rows]).getD 0 .no)):=by
 obtain⟨a,cap,rfl,hmax,hrow⟩:=v6 hx;have hfew:rows.length<=40:=hp.few;have hkw:=hG.size w hGw;obtain⟨i0,hi,hz0,hz1,hz2⟩:=fX info29;obtain⟨i1,hi',hz0',hz1',hz2'⟩:=fX x9
 have hgood:∀ c∈bq Fc rows,Good C M c:=fun c hc=>by
  obtain⟨r,hr,rfl⟩:=List.mem_map.1 hc;obtain⟨nl,d,rfl,-,-,hg⟩:=hp.row r hr;exact hg
 have hSC:=fun wr v fp h=>Bd (nl:=nl) (v:=v) (wr:=wr) (φ:=φ) hG hS hGw hfew hgood h fp
 have HSC:=Go.Lib.hid hSC
 have hC:∀ (W:World)(φ':Nat->Nat->Option Value)(y0 y1 y2 y3 y4 y5:Value)(r:List Cl),eJ n r->G W->Dat φ' W->CRs (rel φ') vK [y0,y1,y2,y3,y4,y5] r->Calls Tryz.prog 18 #[.agg #[y0,y1,y2,y3,y4,y5]] W (CopyC W φ' (Fc r)):=
  fun W φ' y0 y1 y2 y3 y4 y5 r hp hW hd hc=>spec_vA hS18 hW hd hc hp
 have HC:=Go.Lib.hid hC;have HR:=Go.Lib.hid hrow;have HP:=Go.Lib.hid hp;have HD:=Go.Lib.hid hφ;have HG:=Go.Lib.hid hG;have HGw:=Go.Lib.hid hGw;clear hSC hC hrow hp hS hS18 hφ hG hGw hx hgood;go_enter Tryz.func7,Tryz.ntmps7;go_wp2;go_loopw [13] (fun i wr=>∃ (j:Nat)(v:Value),j<=rows.length/\i=.int .i64 j/\wr.cell? ⟨w.heap.size,0,none⟩=some v/\Hid (OInv Fc w φ rows j wr v)) (fun i _=>rows.length-(intOf i).toNat)
 case atStart=>exact⟨0,_,Nat.zero_le _,rfl,by simp,OInv.start HD.out⟩
 case round=>
  rename World=>wo
  obtain⟨j,v,hj,rfl,hcv,HI⟩:=hrel;by_cases hlt:j<rows.length
  ·obtain⟨r,hr⟩:∃ r,rows[j]? = some r:=⟨rows[j],by simp[hlt]⟩
   obtain⟨blk,off,y,c,rfl,fy,rfl,hcy⟩:=HR.out j r hr;obtain⟨nl',d,ec,hd10,hpre,hgd⟩:=HP.out.row _ (List.mem_of_getElem? hr);cases ec;obtain⟨φk,xs,hg,hown,hrs,hn,hnil,hB,hbox⟩:=HI.out;have hdat:=hg.dat;have ey:=hdat _ _ _ (hg.sub _ _ _ fy);have hyk:=hcy.mono hg.sub;obtain⟨a2,cap2,rfl,hmax2,hrow2⟩:=jP hyk;have HR2:=Go.Lib.hid hrow2;have Hr:=Go.Lib.hid hr;have Hpre:=Go.Lib.hid hpre;have Hdat:=Go.Lib.hid hdat;have HBo:=Go.Lib.hid hB;have Hown:=Go.Lib.hid hown;have Hall:=Go.Lib.hid (And.intro hg (And.intro hrs (And.intro hn hbox)));have hwb:w.heap.size<wo.heap.size:=(ag.1 hbox).1;clear hrow2 hr hpre hgd hdat hg hown hrs hn hnil hB hbox hyk hcy fy HI;go_wp2_with fail;go_loopw [6,19] (fun u idx wi=>∃ (i:Nat)(ys:List Value),i<=d.length/\idx=.int .i64 i/\wi.ownsRow wo.heap.size 29 6 u i ys/\RowKit.Below wo.heap.size wo wi/\Hid (rt Fc wo φk d u i wi ys)) (fun _ idx _=>d.length-(intOf idx).toNat)
   case atStart=>exact⟨0,[],Nat.zero_le _,rfl,World.ownsRow_nil _ _ _ _,Below.refl _ _,⟨φk,Grows.refl Hdat.out,fg.nil,(fun b o u h e=>(by cases e)),by simp⟩⟩
   case round=>
    rename World=>wi
    obtain⟨i,ys,hij,rfl,hown2,hB2,HJ⟩:=hrel;have hsB:=hB2.size;by_cases hlt2:i<d.length
    ·obtain⟨r2,hr2⟩:∃ r,d[i]? = some r:=⟨d[i],by simp[hlt2]⟩
     obtain⟨φi,hgi,hrv,hni,hzi⟩:=HJ.out;obtain⟨blk2,off2,y0,y1,y2,y3,y4,y5,rfl,f0,f1,f2,f3,f4,f5,hcr⟩:=HR2.out i r2 hr2;obtain⟨ka,ba,na,sa,a4,l4,d4,a5,l5,d5,rfl,rfl,rfl,rfl,rfl,rfl⟩:=kV hcr;have e0:=hgi.dat _ _ _ (hgi.sub _ _ _ f0);have e1:=hgi.dat _ _ _ (hgi.sub _ _ _ f1);have e2:=hgi.dat _ _ _ (hgi.sub _ _ _ f2);have e3:=hgi.dat _ _ _ (hgi.sub _ _ _ f3);have e4:=hgi.dat _ _ _ (hgi.sub _ _ _ f4);have e5:=hgi.dat _ _ _ (hgi.sub _ _ _ f5)
     have hvlt:∀ g,u6.ownBlock=some g->g<wi.heap.size:=fun g e=>by
      rcases hown2.2 with⟨rfl,_⟩|⟨g',cap',cur,rfl,h1,h2,h3⟩
      ·cases e
      ·cases e;exact (ag.1 h2).1
     have hGi:G wi:=kU HG.out HGw.out hkw (HBo.out.trans (hB2.mono HBo.out.size))
     have hCC:∀ o,Calls Tryz.prog 18 #[.agg #[.int .i64 ka,.bool ba,.int .i64 na,.string sa,.slice a4 l4 d4,.slice a5 l5 d5]] (wi.alloc o) (CopyC (wi.alloc o) φi (Fc r2)):=fun o=>
      HC.out (wi.alloc o) _ _ _ _ _ _ _ _ (Hpre.out _ (List.mem_of_getElem? hr2)) (kU HG.out hGi (HG.out.size _ hGi) ((Below.refl _ _).alloc (am _) _)) (hgi.dat.below ((Below.refl _ _).alloc (am _) _)) (hcr.mono hgi.sub)
     have HCC:=Go.Lib.hid hCC;have HV:=Go.Lib.hid hvlt;have Hgi:=Go.Lib.hid hgi;have Hrv:=Go.Lib.hid hrv;have Hni:=Go.Lib.hid hni;have Hr2:=Go.Lib.hid hr2;clear hCC hvlt hgi hrv hni hzi hr2 hcr hGi f0 f1 f2 f3 f4 f5 HJ
     go_wp2_with (first
      |(go_at_call 18;(with_reducible refine (HCC.out _).mono ?_);rintro e w4 ⟨kz,bz,nz,sz,az4,lz4,cz4,az5,lz5,cz5,φ4,rfl,hb4,HG4⟩;obtain⟨hc4,hf4⟩:=bcell hb4;have hown4:=rp (hown2.alloc _) hb4;have hsz4:=hb4.size)
      |(at_builtin;refine wpList_append_own_at _ rfl _ _ 24 rfl wo.heap.size 29 i0 (.agg #[.int .i64 0,.bool false,.int .i64 0,.string { data:=#[] },.slice none 0 0,.slice none 0 0]) 6 88 Tryz.underlying24 hi hz0 hz1 hz2 rfl (by decide) _ _ _ rfl (hown4.alloc _) ⟨w4.heap.size,0,none⟩ 1 1 (c6 kz bz nz sz az4 lz4 cz4 az5 lz5 cz5) rfl rfl rq (crs_one HG4.out.2) (by unfold maxLen;omega) (by omega) (by simp at hsz4;simp;omega) ?_;intro v' w5 hown5 hgrow5 hnil5 hat5))
     have HJ':Hid (rt Fc wo φk d v' (i+1) w5 (ys++c6 kz bz nz sz az4 lz4 cz4 az5 lz5 cz5)):=rt.step hsB Hgi.out Hrv.out Hni.out HV.out Hr2.out HG4.out.1 HG4.out.2 hgrow5 hat5 hnil5;go_roundw
     case rel=>exact⟨i+1,_,by omega,by go_num,hown5,xZ (hB2.alloc hsB _) hb4 (am _) hgrow5 (tK hown4),HJ'⟩
     case measure=>simp[intOf];omega
    ·have hid:i=d.length:=by omega
     have Hid':=Go.Lib.hid hid;clear hid;have hown2':=hown2;rw[Hid'.out] at hown2';have HJ':=HJ.out;rw[Hid'.out] at HJ';have HJF:=Go.Lib.hid HJ';clear HJ HJ';have hb0:wi.cell? ⟨w.heap.size,0,none⟩=some v:=(hB2.cell (p:=⟨w.heap.size,0,none⟩) hwb).trans hcv;have hownv:=rp Hown.out hB2;obtain⟨ua,ul,uc,hu⟩:=pq hown2;subst hu
     go_wp2_with (first
      |(at_builtin;refine wpList_append_own_at _ rfl _ _ 22 rfl (w.heap.size+1) 24 i1 (.slice none 0 0) 1 24 Tryz.underlying22 hi' hz0' hz1' hz2' rfl (by decide) _ _ _ rfl (hownv.alloc _) ⟨wi.heap.size,0,none⟩ 1 1 [.slice ua ul uc] rfl rfl rq (own_one hown2') (by unfold maxLen;omega) (by omega) (by simp;omega) ?_;intro v' w5 hown5 hgrow5 hnil5 hat5;obtain⟨z1,z2,HZ⟩:=OInv.step Hall.out.1 Hown.out Hall.out.2.1 Hall.out.2.2.1 HBo.out Hall.out.2.2.2 Hr.out hB2 hown2' HJF.out hown5 hgrow5 hnil5 hat5;obtain⟨va,vl,vc,hv⟩:=pq hown5;subst hv))
     go_roundw
     case rel=>exact⟨j+1,_,by omega,by go_num,World.cell?_setCell_same _ _ _ z1,HZ⟩
     case measure=>simp[intOf];omega
  ·have hjn:j=rows.length:=by omega
   have HJN:=Go.Lib.hid hjn;have HI':=HI.out;rw[hjn] at HI';have HCC:=Go.Lib.hid (HSC.out _ _ (.pointer (some ⟨w.heap.size,0,none⟩)) HI');clear HI' HI hjn;go_wp2_with (go_at_call 19;(with_reducible refine (HCC.out).mono ?_);rintro e w' ⟨rfl,hbx,HE⟩);go_ret;exact HE
end Go.Proofs.Wo
end
