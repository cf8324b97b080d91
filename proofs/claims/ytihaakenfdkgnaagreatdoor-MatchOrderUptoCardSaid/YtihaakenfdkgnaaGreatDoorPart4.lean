/-
  EXO, part J: the operations on values alone, on. Own text.
-/
import Derived.Test.YtihaakenfdkgnaaGreatDoorPart3
import Derived.Lib.Strings
import Derived.Great.FillDense
import Derived.Laws.MakeOwn
set_option linter.all false
noncomputable section
namespace Go.Exo
variable [Sx] [Dc]
section
variable {P:Program}{w0:Bs}{E:Env}{H:T AObj}{nx:Nat}{w:World}
theorem xPick_ok {c a b:V}{C A B:Value}(hc:VR E c C)(ha:VR E a A)(hb:VR E b B) :
  VG w0 E H nx w ((do pure (if <- asBool C then A else B):Sem Value).run P w) (pR c a b):=by
 cases hc<;>simp only[pR]<;>try trivial
 rename_i t;cases t
 ·exact VG.val (by simp[asBool]) hb
 ·exact VG.val (by simp[asBool]) ha
theorem jl {E:Env}{v:V}{X:Value}(hv:VR E v X){d:Nat}{k:Nat->Res}{R:Result Value}(h:∀ (n:Nat) kk,X=.int kk (n:Int)->VG w0 E H nx w R (k n)):VG w0 E H nx w R (eO d (some v) k):=by
 cases hv<;>simp only[eO]<;>try trivial
 rename_i kk m;cases m with
 |ofNat m=>exact h m kk rfl
 |negSucc m=>trivial
theorem dQ {x:Option V}{X:Option Value}(hx:∀ v,x=some v->∃ Y,X=some Y/\VR E v Y)(hn:x=none->X=none){d:Nat}{k:Nat->Res}{R:Result Value}
  (h:∀ n:Nat,(X=none/\n=d\/∃ kk,X=some (.int kk (n:Int)))->VG w0 E H nx w R (k n)):VG w0 E H nx w R (eO d x k):=by
 cases x with
 |none=>exact h d (.inl ⟨hn rfl,rfl⟩)
 |some v=>
  obtain⟨Y,rfl,hv⟩:=hx v rfl;exact jl hv fun n kk e=>h n (.inr ⟨kk,by rw[e]⟩)
theorem gH {n y:Nat}(hle:n<=y)(k:IntKind)(code:BoundsCode):(Instr.sliceBound (.int k (n:Int)) y code).run P w=.ok n w:=by
 simp only[Instr.sliceBound,asIntOf,Sem.run_bind,Sem.run_pure,Result.andThen_ok];rw[if_pos ⟨by omega,by omega⟩];simp
theorem bA (isSl:Bool){len cap a h:Nat}{lo hi:Option Value}(hh:hi=none/\h=len\/∃ kk,hi=some (.int kk (h:Int)))(ha:lo=none/\a=0\/∃ kk,lo=some (.int kk (a:Int)))
  (h1:a<=h)(h2:h<=cap):(Instr.sliceBounds isSl len cap lo hi none).run P w=.ok (a,h,cap) w:=by
 rcases hh with⟨rfl,rfl⟩|⟨kk,rfl⟩<;>rcases ha with⟨rfl,rfl⟩|⟨kk',rfl⟩ <;>
  simp[Instr.sliceBounds,gH h1,gH h2]
theorem wM (isSl:Bool){len cap a h m:Nat}{lo:Option Value}{kh km:IntKind}(ha:lo=none/\a=0\/∃ kk,lo=some (.int kk (a:Int)))
  (h1:a<=h)(h2:h<=m)(h3:m<=cap):(Instr.sliceBounds isSl len cap lo (some (.int kh (h:Int))) (some (.int km (m:Int)))).run P w=.ok (a,h,m) w:=by
 rcases ha with⟨rfl,rfl⟩|⟨kk',rfl⟩ <;>
  simp[Instr.sliceBounds,gH h1,gH h2,gH h3]
def OVR (E:Env)(x:Option V)(X:Option Value):Prop:=(∀ v,x=some v->∃ Y,X=some Y/\VR E v Y)/\(x=none->X=none)
theorem zX {t:TypeId}(ht:P.underlying t=some .string){x:V}{X:Value}{lo hi:Option V}{LO HI:Option Value}(hx:VR E x X)(hlo:OVR E lo LO)(hhi:OVR E hi HI) :
  VG w0 E H nx w ((Instr.sliceAt t X LO HI none).run P w) (nr x lo hi):=by
 cases hx<;>simp only[nr]<;>try trivial
 rename_i l n s h1 h2;refine dQ hhi.1 hhi.2 fun h hh=>dQ hlo.1 hlo.2 fun a ha=>aN (fun hb=>?_) 32
 simp only[Bool.and_eq_true] at hb;have hah:=ab hb.1;have hhl:=ab hb.2;have hs:=cZ h1;refine VG.val (x:=.string (s.extract a h)) ?_ (.str _ _ _ ?_ (cutS_lt _ _ _))
 ·have hb:=bA (P:=P) (w:=w) false (len:=s.size) (cap:=s.size) (by rw[hs];exact hh) ha hah (by rw[hs];exact hhl)
  simp[Instr.sliceAt,Instr.slice,run_underlying ht,hb]
 ·show (s.extract a h).data.toList=_
  rw[Lib.extract_data,h1];exact sB_cut l n a h hah hhl
theorem bI (p:Pl)(off n:Nat):(⟨p.blk,p.base+off,none⟩:Addr).add n=⟨p.blk,p.base+(off+n),none⟩:=by
 unfold Addr.add;split
 ·rename_i h;subst h;simp
 ·simp[Nat.add_assoc]
theorem aK {t:TypeId}{i:TypeInfo}(h:P.info? t=some i):(sizeOf t).run P w=.ok i.size w:=by
 simp[sizeOf,Go.run_typeInfo w h]
theorem slK_ok {l off esz a h c cap:Nat}{p:Pl}(hp:E l=some p)(hah:a<=h)(hhc:h<=c)(hcap:c<=cap)(hfit:off+cap*esz<=p.size){R:Result Value}
  (hR:R=.ok (.slice (some (if c=a then ⟨p.blk,p.base+off,none⟩ else (⟨p.blk,p.base+off,none⟩:Addr).add (a*esz))) (h-a) (c-a)) w) :
  VG w0 E H nx w R (slK l off esz a h c):=by
 refine⟨_,hR,?_⟩;by_cases e:c=a
 ·subst e
  have e1:Nat.beq c c=true:=Nat.beq_refl c;rw[if_pos rfl,e1];refine .slice _ _ _ _ _ p _ hp (by show h-c<=c-c;omega) (by show off+(c-c)*esz<=_;rw[Nat.sub_self,Nat.zero_mul];omega) (fun k hk=>by cases hk;rfl)
 ·have e1:Nat.beq a c=false:=by
   cases hb:Nat.beq a c with
   |false=>rfl
   |true=>exact absurd (aa hb).symm e
  rw[if_neg e,e1,bI];refine .slice _ _ _ _ _ p _ hp (by show h-a<=c-a;omega) ?_ (fun k hk=>by cases hk;rfl);show off+a*esz+(c-a)*esz<=_;have:a*esz+(c-a)*esz=c*esz:=by rw[<- Nat.add_mul];congr 1;omega
  have h2:c*esz<=cap*esz:=Nat.mul_le_mul_right _ hcap;omega
theorem xSlSl_ok {t e:TypeId}{i:TypeInfo}(ht:P.underlying t=some (.slice e))(hi:P.info? e=some i){x:V}{X:Value}{lo hi' mx:Option V}{LO HI MX:Option Value}(hx:VR E x X)
  (hlo:OVR E lo LO)(hhi:OVR E hi' HI)(hmx:OVR E mx MX) :
  VG w0 E H nx w ((Instr.sliceAt t X LO HI MX).run P w) (ud i.size x lo hi' mx):=by
 have hsz:=fun w=>aK (P:=P) (w:=w) hi
 cases hx<;>simp only[ud]<;>try trivial
 case nils=>
  cases mx with
  |some m=>trivial
  |none=>
   obtain rfl:=hmx.2 rfl;refine dQ hhi.1 hhi.2 fun h hh=>dQ hlo.1 hlo.2 fun a ha=>aN (fun hb=>?_) 34
   simp only[Bool.and_eq_true] at hb;obtain⟨h1,h2⟩:=hb;obtain rfl:=aa h1;obtain rfl:=aa h2;refine VG.val ?_ .nils;have hb:=bA (P:=P) (w:=w) true (len:=0) (cap:=0) hh ha (am _) (am _);simp[Instr.sliceAt,Instr.slice,run_underlying ht,hb,hsz]
 case slice l off len cap esz p c hp h1 h2 h3=>
  refine aN (fun hes=>?_) 35;obtain rfl:=aa hes;cases mx with
  |none=>
   obtain rfl:=hmx.2 rfl;refine dQ hhi.1 hhi.2 fun h hh=>dQ hlo.1 hlo.2 fun a ha=>?_
   cases cap with
   |some k=>
    obtain rfl:=h3 k rfl;refine aN (fun hb=>?_) 36;simp only[Bool.and_eq_true] at hb;have hah:=ab hb.1;have hhc:=ab hb.2;refine slK_ok hp hah hhc (am _) h2 ?_;have hb:=bA (P:=P) (w:=w) true (len:=len) (cap:=k) hh ha hah hhc;simp[Instr.sliceAt,Instr.slice,run_underlying ht,hb,hsz];split<;>rfl
   |none=>
    show VG w0 E H nx w _ (cond _ _ _);cases hb:(Nat.ble a h&&Nat.ble h len&&(Nat.ble (Nat.succ a) len || Nat.beq a 0)) with
    |false=>
     simp only[cond_false];refine aN (fun hb=>?_) 37;simp only[Bool.and_eq_true] at hb;obtain rfl:=aa hb.1;obtain rfl:=aa hb.2;have hb2:=bA (P:=P) (w:=w) true (len:=a) (cap:=c) hh ha (am _) h1;have hm:a*i.size+(c-a)*i.size=c*i.size:=by rw[<- Nat.add_mul];congr 1;omega
     by_cases e:c=a
     ·refine VG.val (x:=.slice (some ⟨p.blk,p.base+off,none⟩) 0 (c-a)) ?_ (.emp _ _ p _ _ hp (by omega))
      simp only[Instr.sliceAt,Instr.slice,run_underlying ht,Sem.run_bind,Result.andThen_ok,hb2,hsz,Sem.run_pure];rw[if_pos e];simp
     ·refine VG.val (x:=.slice (some ⟨p.blk,p.base+(off+a*i.size),none⟩) 0 (c-a)) ?_ (.emp _ _ p _ _ hp (by omega))
      simp only[Instr.sliceAt,Instr.slice,run_underlying ht,Sem.run_bind,Result.andThen_ok,hb2,hsz,Sem.run_pure];rw[if_neg e];simp[bI]
    |true=>
    simp only[cond_true];simp only[Bool.and_eq_true,Bool.or_eq_true] at hb;have hah:=ab hb.1.1;have hhl:=ab hb.1.2;have hb2:=bA (P:=P) (w:=w) true (len:=len) (cap:=c) hh ha hah (by omega);refine VG.val (x:=.slice (some ⟨p.blk,p.base+(off+a*i.size),none⟩) (h-a) (c-a)) ?_ ?_
    ·simp only[Instr.sliceAt,Instr.slice,run_underlying ht,Sem.run_bind,Result.andThen_ok,hb2,hsz,Sem.run_pure]
     congr 2;rcases hb.2 with hlt|h0
     ·have:=ab hlt
      rw[if_neg (by omega)];simp[bI]
     ·obtain rfl:=aa h0
      split<;>simp[bI]
    ·refine .slice _ _ _ _ _ p _ hp (by show h-a<=c-a;omega) ?_ (fun k hk=>by cases hk)
     have:a*i.size+(c-a)*i.size=c*i.size:=by rw[<- Nat.add_mul];congr 1;omega
     show off+a*i.size+(c-a)*i.size<=_;omega
  |some m=>
   obtain⟨M,rfl,hM⟩:=hmx.1 m rfl;cases hi' with
   |none=>trivial
   |some hv=>
    obtain⟨HV,rfl,hHV⟩:=hhi.1 hv rfl;refine jl hM fun m km em=>jl hHV fun h kh eh=>dQ hlo.1 hlo.2 fun a ha=>aN (fun hb=>?_) 35
    subst em;subst eh;simp only[Bool.and_eq_true] at hb;have hah:=ab hb.1.1;have hhm:=ab hb.1.2
    have hmc:m<=c:=by
     have hb2:=hb.2;cases cap with
     |some k=>obtain rfl:=h3 k rfl;exact ab hb2
     |none=>exact Nat.le_trans (ab hb2) h1
    refine slK_ok hp hah hhm hmc h2 ?_;have hb:=wM (P:=P) (w:=w) true (len:=len) (cap:=c) (kh:=kh) (km:=km) ha hah hhm hmc;simp[Instr.sliceAt,Instr.slice,run_underlying ht,hb,hsz];split<;>rfl
theorem zY {t:TypeId}{fs:Array Field}{f:Nat}{fd:Field}{i:TypeInfo}(ht:P.underlying t=some (.struct fs))(hf:fs[f]? = some fd)(hi:P.info? fd.type=some i)(hz:i.size≠0)
  {x:V}{X:Value}(hx:VR E x X):VG w0 E H nx w ((Instr.fieldAt t X f).run P w) (ns fd.offset x):=by
 have hsz:=fun w=>aK (P:=P) (w:=w) hi
 cases hx<;>simp only[ns]<;>try trivial
 rename_i l off p hp;refine VG.val (x:=.pointer (some ⟨p.blk,p.base+(off+fd.offset),none⟩)) ?_ (.ptr _ _ _ hp);simp[Instr.fieldAt,Instr.sureAddr,fieldPlace,run_underlying ht,hf,hsz,hz,bI]
theorem uv:∀ (l:List V)(i:Nat),i<l.length->l[i]? = some (nthV l i)
 |[],_,h=>by simp at h
 |v::r,0,_=>rfl
 |v::r,i+1,h=>by simp only[List.getElem?_cons_succ,nthV];exact uv r i (by simpa using h)
theorem VRs.nth {vs:List V}{xs:List Value}(h:VRs E vs xs)(i:Nat)(hi:i<vs.length):∃ x,xs[i]? = some x/\VR E (nthV vs i) x:=h.get i _ (uv vs i hi)
theorem wN {t:TypeId}{fs:Array Field}{f:Nat}{fd:Field}{i:TypeInfo}(ht:P.underlying t=some (.struct fs))(hf:fs[f]? = some fd)(hi:P.info? fd.type=some i)
  (ha:∀ w,(isAgg fd.type).run P w=.ok true w){x:V}{X:Value}(hx:VR E x X):VG w0 E H nx w ((Instr.field t X f).run P w) (jh (some i.size) fd.offset x):=by
 have hsz:=fun w=>aK (P:=P) (w:=w) hi
 cases hx<;>simp only[jh]<;>try trivial
 rename_i cs xs h;refine aN (fun hb=>?_) 42;refine VG.val (x:=.agg ((xs.drop fd.offset).take i.size).toArray) ?_ (.agg _ _ ((h.drop _).take _));simp[Instr.field,asAgg,part,run_underlying ht,hf,hsz,ha,List.extract_toArray,List.take_drop,Nat.add_comm]
theorem wO {t:TypeId}{fs:Array Field}{f:Nat}{fd:Field}(ht:P.underlying t=some (.struct fs))(hf:fs[f]? = some fd)
  (ha:∀ w,(isAgg fd.type).run P w=.ok false w){x:V}{X:Value}(hx:VR E x X):VG w0 E H nx w ((Instr.field t X f).run P w) (jh none fd.offset x):=by
 cases hx<;>simp only[jh]<;>try trivial
 rename_i cs xs h;refine aN (fun hb=>?_) 43;have hb:=ab hb;obtain⟨y,hy,hv⟩:=h.nth fd.offset hb;refine VG.val (x:=y) ?_ hv;simp[Instr.field,asAgg,part,run_underlying ht,hf,ha,hy]
theorem zZ {t e:TypeId}{i:TypeInfo}(ht:P.underlying t=some (.slice e))(hi:P.info? e=some i){x y:V}{X Y:Value}(hx:VR E x X)(hy:VR E y Y) :
  VG w0 E H nx w ((Instr.indexAt t X Y).run P w) (nt i.size x y):=by
 have hsz:=fun w=>aK (P:=P) (w:=w) hi
 cases hx<;>simp only[nt]<;>try trivial
 rename_i l off len cap esz p c hp h1 h2 h3;cases hy<;>try trivial
 rename_i k m;cases m<;>try trivial
 rename_i m;refine aN (fun hb=>?_) 45;have hb:=ab hb;refine VG.val (x:=.pointer (some ⟨p.blk,p.base+(off+m*i.size),none⟩)) ?_ (.ptr _ _ _ hp);have hlt:m<len:=hb;simp[Instr.indexAt,asIntOf,run_underlying ht,hsz,hlt,bI]
theorem wP {t e:TypeId}{i:TypeInfo}{n:Nat}(ht:P.underlying t=some (.array n e))(hi:P.info? e=some i){x y:V}{X Y:Value}(hx:VR E x X)(hy:VR E y Y) :
  VG w0 E H nx w ((Instr.indexAt t X Y).run P w) (jS n i.size x y):=by
 have hsz:=fun w=>aK (P:=P) (w:=w) hi
 cases hx<;>simp only[jS]<;>try trivial
 rename_i l off p hp;cases hy<;>try trivial
 rename_i k m;cases m<;>try trivial
 rename_i m;refine aN (fun hb=>?_) 48;have hb:=ab hb;refine VG.val (x:=.pointer (some ⟨p.blk,p.base+(off+m*i.size),none⟩)) ?_ (.ptr _ _ _ hp);have hlt:m<n:=hb;simp[Instr.indexAt,asIntOf,Instr.sureAddr,run_underlying ht,hsz,hlt,bI]
theorem byteV {n i:Nat}:VR E (.int .u8 (.ofNat (jf n i))) (.int .u8 ((UInt8.ofNat (n / 256 ^ i % 256)).toNat:Nat)):=by
 have:(UInt8.ofNat (n / 256 ^ i % 256)).toNat=jf n i:=by rw[pY];simp
 rw[this];exact .int _ _
theorem wQ {t:TypeId}(ht:P.underlying t=some .string){x y:V}{X Y:Value}(hx:VR E x X)(hy:VR E y Y) :
  VG w0 E H nx w ((Instr.index t X Y).run P w) (jT x y):=by
 cases hx<;>simp only[jT]<;>try trivial
 rename_i l n s h1 h2;cases hy<;>try trivial
 rename_i k m;cases m<;>try trivial
 rename_i m;refine aN (fun hb=>?_) 51;have hb:m<l:=ab hb
 have hg:s[m]? = some (UInt8.ofNat (n / 256 ^ m % 256)):=by
  have e1:s.data.toList[m]? = some (UInt8.ofNat (n / 256 ^ m % 256)):=by rw[h1];exact wL l n m hb
  have hs:=cZ h1;rw[getElem?_pos s m (by rw[hs];exact hb)];rw[<- e1,Array.getElem?_toList,Array.getElem?_eq_getElem (by show m<s.data.size;have:s.data.size=l:=hs;omega)];rfl
 refine VG.val ?_ byteV;simp[Instr.index,asIntOf,run_underlying ht,hg]
theorem uw {t xt:TypeId}{d:TypeDesc}{i:TypeInfo}{z:Value}{ok:Bool}(ht:P.underlying t=some d)(hni:∀ ms,d≠.interface ms)(hi:P.info? t=some i)(hz:i.zero=some z){zero:V}(hzero:VR E zero z)
  {x:V}{X:Value}(hx:VR E x X):VG w0 E H nx w ((Instr.typeAssert X xt t ok).run P w) (gz t ok zero x):=by
 have hzr:∀ w,(zeroValue t).run P w=.ok z w:=fun w=>by simp[zeroValue,Go.run_typeInfo w hi,hz]
 have h0:VR E (.bool false) (.bool false):=.bool _;have h1:VR E (.bool true) (.bool true):=.bool _;cases hx<;>simp only[gz]<;>try trivial
 case iface u v y hv=>
  cases hb:Nat.beq u t with
  |true=>
   obtain rfl:=aa hb;simp only[cond_true];cases ok with
   |true=>
    refine VG.val (x:=.tuple #[y,.bool true]) ?_ (.tup _ [y,.bool true] (.cons _ _ _ _ hv (.cons _ _ _ _ h1 .nil)));cases d<;>first|(exact absurd rfl (hni _))|simp[Instr.typeAssert,run_underlying ht]
   |false=>
    refine VG.val (x:=y) ?_ hv;cases d<;>first|(exact absurd rfl (hni _))|simp[Instr.typeAssert,run_underlying ht]
  |false=>
   have hne:u≠t:=fun e=>by subst e;rw[Nat.beq_refl] at hb;cases hb
   simp only[cond_false];refine aN (fun hok=>?_) 64;subst hok;refine VG.val (x:=.tuple #[z,.bool false]) ?_ (.tup _ [z,.bool false] (.cons _ _ _ _ hzero (.cons _ _ _ _ h0 .nil)));cases d<;>first|(exact absurd rfl (hni _))|simp[Instr.typeAssert,run_underlying ht,hne,hzr]
 case nili=>
  refine aN (fun hok=>?_) 65;subst hok;refine VG.val (x:=.tuple #[z,.bool false]) ?_ (.tup _ [z,.bool false] (.cons _ _ _ _ hzero (.cons _ _ _ _ h0 .nil)));cases d<;>first|(exact absurd rfl (hni _))|simp[Instr.typeAssert,run_underlying ht,hzr]
theorem ux {x:V}{X:Value}{i:Nat}(hx:VR E x X):VG w0 E H nx w ((Instr.extract X i).run P w) (gA x i):=by
 cases hx<;>simp only[gA]<;>try trivial
 rename_i vs xs h;refine aN (fun hb=>?_) 67;obtain⟨y,hy,hv⟩:=h.nth i (ab hb);refine VG.val (x:=y) ?_ hv;simp[Instr.extract,hy]
theorem xMax_ok {x y:V}{X Y:Value}{ts:Array TypeId}{t:TypeId}(hx:VR E x X)(hy:VR E y Y):VG w0 E H nx w ((Builtin.max_ ts t #[X,Y]).run P w) (xMax x y):=by
 cases hx<;>simp only[xMax]<;>try trivial
 rename_i k a;cases hy<;>try trivial
 rename_i k' b;refine aN (fun hk=>?_) 83;obtain rfl:=(fx k k').1 hk;refine VG.val (x:=.int k (if b > a then b else a)) (by simp[Builtin.max_,Builtin.max2]) ?_;rw[fw];by_cases h:a<b
 ·rw[if_pos h];simp only[h,decide_true,cond_true];exact .int _ _
 ·rw[if_neg h];simp only[h,decide_false,cond_false];exact .int _ _
end
end Go.Exo
end

noncomputable section
namespace Go.Exo
variable [Sx] [Dc]
section
variable {P:Program}{w0:Bs}{E:Env}{H:T AObj}{nx:Nat}{w:World}
theorem bZ:∀ (vs:List V)(off:Nat)(cs:List V),(bU vs off cs).length=cs.length
 |_,_,[]=>by cases ‹Nat› <;> rfl
 |[],0,c::r=>rfl
 |v::vs,0,c::r=>by simp[bU,bZ vs 0 r]
 |vs,n+1,c::r=>by simp[bU,bZ vs n r]
theorem jm:∀ (vs:List V)(off:Nat)(cs:List V)(k:Nat),(bU vs off cs)[k]? = if off<=k/\k<off+vs.length/\k<cs.length then vs[k-off]? else cs[k]?
 |vs,off,[],k=>by
  have:bU vs off []=[]:=by cases off<;>rfl
  rw[this];simp
 |[],0,c::r,k=>by
  rw[if_neg (by simp)];rfl
 |v::vs,0,c::r,0=>by simp[bU]
 |v::vs,0,c::r,k+1=>by
  simp only[bU,List.getElem?_cons_succ,jm vs 0 r k,List.length_cons];by_cases h:0<=k/\k<0+vs.length/\k<r.length
  ·rw[if_pos h,if_pos (by omega)];simp
  ·rw[if_neg h,if_neg (by omega)]
 |vs,n+1,c::r,0=>by simp[bU]
 |vs,n+1,c::r,k+1=>by
  simp only[bU,List.getElem?_cons_succ,jm vs n r k,List.length_cons];by_cases h:n<=k/\k<n+vs.length/\k<r.length
  ·rw[if_pos h,if_pos (by omega)];congr 1;omega
  ·rw[if_neg h,if_neg (by omega)]
theorem p7 {cs vs:List V}{xs:Array Value}{ys:List Value}(h:VRs E cs xs.toList)(hv:VRs E vs ys)(off:Nat) :
  VRs E (bU vs off cs) ((ys.zipIdx 0).foldl (fun cs (x:Value×Nat)=>cs.setIfInBounds (off+x.2) x.1) xs).toList:=by
 obtain⟨h1,h2⟩:=Great.foldl_set off ys 0 xs;have hl:=h.length;have hlv:=hv.length;refine VRs.of_get ?_ fun k v hk=>?_
 ·rw[bZ,hl];simp[h1]
 ·rw[jm] at hk
  rw[Array.getElem?_toList,h2 k];simp only[Array.length_toList] at hl;by_cases c:off<=k/\k<off+vs.length/\k<cs.length
  ·rw[if_pos c] at hk
   rw[if_pos (by omega)];obtain⟨x,hx,hr⟩:=hv.get _ _ hk;exact⟨x,by simpa using hx,hr⟩
  ·rw[if_neg c] at hk
   rw[if_neg (by omega)];obtain⟨x,hx,hr⟩:=h.get _ _ hk;exact⟨x,by simpa using hx,hr⟩
theorem se {R:Result Value}{tm:T V}{ev:Operand->Value}(place:Nat->Option (Nat×Nat))(k:List V->Res) :
  ∀ (ps:List (Nat×Operand))(l:List (Nat×Nat×AO))(cs:List V)(xs:Array Value),aR place ps=some l->VRs E cs xs.toList->
   (∀ i x,(i,x)∈ps->VR E ((ap x).ev tm) (ev x))->
   (∀ cs' xs',Instr.fill place xs (ps.map fun (i,x)=>(i,ev x))=some xs'->VRs E cs' xs'.toList->cs'.length=cs.length->VG w0 E H nx w R (k cs'))->VG w0 E H nx w R (bD tm l cs k)
 |[],l,cs,xs,hl,hcs,_,hk=>by
  cases hl;exact hk cs xs rfl hcs rfl
 |(i,x)::r,l,cs,xs,hl,hcs,hev,hk=>by
  simp only[aR] at hl;cases hp:place i with
  |none=>rw[hp] at hl;simp at hl
  |some os=>
   obtain⟨off,size⟩:=os;rw[hp] at hl;cases hr:aR place r with
   |none=>rw[hr] at hl;simp at hl
   |some l'=>
    rw[hr] at hl;simp only[Option.some.injEq] at hl;subst hl;have hx:=hev i x (aj ..);simp only[bD];refine aN (fun hb=>?_) 21;simp only[Bool.and_eq_true] at hb;have hs:=aa hb.1.1;have hle:=ab hb.1.2;have hc:=hx.cells hb.2;have hcl:=hc.length;have hxl:=hcs.length;simp only[Array.length_toList] at hcl hxl;refine se place k r l' _ _ hr (p7 hcs hc off) (fun j y hj=>hev j y (ai _ hj)) fun cs' xs' hf hv hlen=>hk cs' xs' ?_ hv (by rw[hlen,bZ])
    rw[List.map_cons,Instr.fill];simp only[hp]
    rw[if_neg (by
     simp only[ne_eq,Bool.or_eq_true,decide_eq_true_eq,not_or,Decidable.not_not]
     have hle':off+size<=cs.length:=hle
     constructor<;>omega)]
    rw[<- hf];congr 1;rw[<- Array.foldl_toList,Array.toList_zipIdx]
theorem wR (fs:List Field)(hf:gq P fs=true)(w:World):(fs.mapM fun f=>(do pure (f.offset,<- sizeOf f.type):Sem (Nat×Nat))).run P w=.ok (fs.map fun f=>(f.offset,eN P f.type)) w:=by
 induction fs with
 |nil=>rfl
 |cons f r ih=>
  simp only[gq,List.all_cons,Bool.and_eq_true] at hf;cases hi:aT P f.type with
  |none=>rw[hi] at hf;simp at hf
  |some i=>
   have h1:=aK (w:=w) (aM P hi);simp only[List.mapM_cons,Sem.run_bind,h1,Result.andThen_ok,Sem.run_pure,ih hf.2,List.map_cons,eN,hi]
theorem bn {i:TypeInfo}{z:V}(h:aG i=some z):∃ x,i.zero=some x/\VR E z x/\z.real=true:=by
 unfold aG at h;cases hz:i.zero with
 |none=>rw[hz] at h;cases h
 |some x=>
  rw[hz] at h;simp only at h;cases hf:(ofVal 8 x).fine with
  |false=>rw[hf] at h;cases h
  |true=>rw[hf] at h;simp at h;subst h;exact⟨x,rfl,VR.ofVal E 8 x hf,V.fine_real hf⟩
theorem eu {t:TypeId}{d:TypeDesc}{i:TypeInfo}(h:tyOf P t=some (d,i)):undT P t=some d/\P.underlying t=some d/\P.info? t=some i/\aT P t=some i:=by
 unfold tyOf at h;cases hu:undT P t with
 |none=>rw[hu] at h;cases h
 |some d'=>
  rw[hu] at h;simp only at h;cases hi:aT P t with
  |none=>rw[hi] at h;cases h
  |some i'=>rw[hi] at h;simp at h;obtain⟨rfl,rfl⟩:=h;exact⟨rfl,av P hu,aM P hi,rfl⟩
theorem aP {t:TypeId}{i:TypeInfo}{x:Value}(hi:P.info? t=some i)(hz:i.zero=some x)(w:World):(zeroValue t).run P w=.ok x w:=by
 simp[zeroValue,Go.run_typeInfo w hi,hz]
theorem p8 {t:TypeId}{ps:Array (Nat×Operand)}{tm:T V}{ev:Operand->Value}{d:TypeDesc}{i:TypeInfo}{z:V}(ht:tyOf P t=some (d,i))(hz:aG i=some z)
  {place:Nat->Option (Nat×Nat)}{l:List (Nat×Nat×AO)}(hl:aR place ps.toList=some l)(hev:∀ i x,(i,x)∈ps.toList->VR E ((ap x).ev tm) (ev x))
  (hd:(∃ fs,d=.struct fs/\gq P fs.toList=true/\place=fun i=>(fs[i]?).map fun f=>(f.offset,eN P f.type))\/
   ∃ n e ie,d=.array n e/\aT P e=some ie/\place=fun i=>some (i*ie.size,ie.size)) :
  VG w0 E H nx w ((Instr.build t (ps.map fun (i,x)=>(i,ev x))).run P w) (bD tm l z.cells fun cs=>.val (.agg cs)):=by
 obtain⟨_,hu,hi,_⟩:=eu ht;obtain⟨x,hx,hv,hzr⟩:=bn (E:=E) hz;refine se place _ ps.toList l _ x.cells hl (hv.cells hzr) hev fun cs' xs' hf hr _=>?_
 refine VG.val (x:=.agg xs') ?_ (by have:=VR.agg _ _ hr;simpa using this);rcases hd with⟨fs,rfl,hfs,rfl⟩|⟨n,e,ie,rfl,hie,rfl⟩
 ·obtain⟨fs⟩:=fs
  have hm:(Array.mapM (fun (f:Field)=>(do pure (f.offset,<- sizeOf f.type):Sem (Nat×Nat))) (List.toArray fs)).run P w=.ok (fs.map fun f=>(f.offset,eN P f.type)).toArray w:=by
   simp only[List.mapM_toArray,Sem.run_map,wR _ hfs,Result.andThen_ok]
  have hp:(fun (i:Nat)=>((fs.map fun (f:Field)=>(f.offset,eN P f.type)).toArray)[i]?)=fun (i:Nat)=>((List.toArray fs)[i]?).map fun (f:Field)=>(f.offset,eN P f.type):=by
   funext i;simp
  simp only[Instr.build,Sem.run_bind,aP hi hx,Result.andThen_ok,run_underlying hu,hm,hp];have e1:(ps.map fun (i,x)=>(i,ev x)).toList=ps.toList.map fun (i,x)=>(i,ev x):=by simp
  rw[e1,hf];rfl
 ·simp only[Instr.build,Sem.run_bind,aP hi hx,Result.andThen_ok,run_underlying hu,aK (aM P hie)]
  have e1:(ps.map fun (i,x)=>(i,ev x)).toList=ps.toList.map fun (i,x)=>(i,ev x):=by simp
  rw[e1,hf];rfl
end
end Go.Exo
end

noncomputable section
namespace Go.Exo
variable [Sx] [Dc]
section
variable {P:Program}{w0:Bs}{E:Env}{H:T AObj}{nx:Nat}{w:World}
theorem equal_ok {t:TypeId}{d:TypeDesc}{cst:Bool}(ht:P.underlying t=some d){x y:V}{X Y:Value}(hx:VR E x X)(hy:VR E y Y){b:Bool}(h:eqV cst d x y=some b) :
  (Op.equal t X Y).run P w=.ok b w:=by
 have e:∃ n,Op.equal t X Y=Op.equalIn (n+1) t X Y:=⟨9999,rfl⟩
 obtain⟨n,e⟩:=e;rw[e]
 cases d<;>cases hx<;>(try (cases h;done))<;>cases hy<;>(try (cases h;done)) <;>
  first
  |(simp only[eqV,Option.some.injEq] at h;subst h;simp[Op.equalIn,run_underlying ht];done)
  |(cases cst<;>simp only[eqV,cond_true,cond_false,Option.some.injEq] at h<;>first|(cases h;done)|(subst h;simp[Op.equalIn,run_underlying ht]))
theorem guard_ok {op:BinOp}{t:TypeId}{d:TypeDesc}{cst:Bool}{ox oy:Operand}(hc:cst=(isC ox || isC oy)){x y:V}{X Y:Value}(hx:VR E x X)(hy:VR E y Y){b:Bool}
  (h:eqV cst d x y=some b):(eqGuard op t ox oy X Y).run P w=.ok () w:=by
 have hg:∀ X Y:Value,(∀ cs,X≠.agg cs)->X≠.nilIface->(eqGuard op t ox oy X Y).run P w=.ok () w:=by
  intro X Y h1 h2;cases op<;>simp only[eqGuard]<;>first|rfl|(cases X<;>first|rfl|exact absurd rfl (h1 _)|exact absurd rfl h2)
 cases hx
 case nili=>
  cases hy
  case nili=>
   cases cst with
   |false=>cases d<;>cases h
   |true=>cases ox<;>cases oy<;>simp[isC] at hc<;>(cases op<;>simp[eqGuard])
  case sym=>cases d<;>cases h
  case top=>cases d<;>cases h
  case x=>cases d<;>cases h
  case xa=>cases d<;>cases h
  case lst=>cases d<;>cases h
  case junk=>cases d<;>cases h
  all_goals (cases op<;>simp only[eqGuard]<;>rfl)
 case agg=>cases d<;>cases h
 case sym=>cases d<;>cases h
 case top=>cases d<;>cases h
 case x=>cases d<;>cases h
 case xa=>cases d<;>cases h
 case lst=>cases d<;>cases h
 case junk=>cases d<;>cases h
 all_goals exact hg _ _ (by intro _ h;cases h) (by intro h;cases h)
theorem yx {op:BinOp}{neg cst:Bool}(hop:op=cond neg .neq .eql){t:TypeId}{d:TypeDesc}{ox oy:Operand}(hc:cst=(isC ox || isC oy))(ht:P.underlying t=some d)
  {x y:V}{X Y:Value}(hx:VR E x X)(hy:VR E y Y):VG w0 E H nx w ((do eqGuard op t ox oy X Y;binOp op t X Y:Sem Value).run P w) (eqvR neg cst d x y):=by
 cases h:eqV cst d x y with
 |none=>simp only[eqvR,h];trivial
 |some b=>
  simp only[eqvR,h];have h1:=guard_ok (op:=op) (t:=t) (P:=P) (w:=w) hc hx hy h;have h2:=equal_ok (P:=P) (w:=w) ht hx hy h
  have key:(binOp op t X Y).run P w=.ok (.bool (cond neg (!b) b)) w:=by
   subst hop;cases neg with
   |false=>
    have:binOp .eql t X Y=(do pure (.bool (<- Op.equal t X Y)):Sem Value):=by
     cases d<;>cases hx<;>(try (cases h;done))<;>cases hy<;>(try (cases h;done))<;>rfl
    show (binOp .eql t X Y).run P w=_;rw[this];simp[h2]
   |true=>
    have:binOp .neq t X Y=(do pure (.bool (!(<- Op.equal t X Y))):Sem Value):=by
     cases d<;>cases hx<;>(try (cases h;done))<;>cases hy<;>(try (cases h;done))<;>rfl
    show (binOp .neq t X Y).run P w=_;rw[this];simp[h2]
  refine VG.val ?_ (.bool _);rw[Sem.run_bind,h1,Result.andThen_ok,key]
theorem xNil_ok {x:V}{X:Value}(hx:VR E x X)(o:Oper)(ox:Operand)(ev:Operand->Value)(ho:o.op=.nilCheck ox)(hev:ev ox=X):Good P w0 E H nx w ((execOp ev o).run P w) (xNil x):=by
 unfold execOp;simp only[ho,hev];cases hx<;>simp only[xNil]<;>try trivial
 case ptr l off p hp=>exact⟨_,_,rfl,rfl,.ptr _ _ _ hp⟩
 case map l p hp=>exact⟨_,_,rfl,rfl,.map _ _ hp⟩
 case func fn fn' a b c d hf h1 h2=>
  cases fn<;>try trivial
  ·obtain rfl:fn'=_:=hf
   exact⟨_,_,rfl,rfl,.func _ _ _ _ _ _ rfl h1 h2⟩
  ·obtain⟨p,hp,rfl⟩:=hf
   exact⟨_,_,rfl,rfl,.func _ _ _ _ _ _ ⟨p,hp,rfl⟩ h1 h2⟩
theorem uy (s:ByteArray)(l n b:Nat)(h:s.data.toList=sB l n)(hb:b<256):∀ (k i:Nat),i+k=l->
  VR E (findB n b k i) (match (List.range' i k).find? (fun j=>s[j]! == UInt8.ofNat b) with|some j=>goInt j|none=>goInt (-1))
 |0,i,_=>.int _ _
 |k+1,i,hi=>by
  have hs:=cZ h
  have hg:s[i]! = UInt8.ofNat (n / 256 ^ i % 256):=by
   have e1:s.data.toList[i]? = some (UInt8.ofNat (n / 256 ^ i % 256)):=by rw[h];exact wL l n i (by omega)
   rw[Array.getElem?_toList] at e1;have hlt:i<s.size:=by omega
   have:s[i]! = s[i]:=getElem!_pos s i hlt;rw[this];have h3:s.data[i]? = some s[i]:=Array.getElem?_eq_getElem hlt;rw[h3] at e1;exact Option.some.inj e1
  have hbe:(s[i]! == UInt8.ofNat b)=Nat.beq (jf n i) b:=by
   rw[hg,pY,Bool.eq_iff_iff,Nat.beq_eq,beq_iff_eq];constructor
   ·intro e
    have:=congrArg UInt8.toNat e;simp at this;omega
   ·intro e;rw[e]
  rw[List.range'_succ,List.find?_cons];simp only[findB];rw[hbe];cases hq:Nat.beq (jf n i) b with
  |true=>exact .int _ _
  |false=>exact uy s l n b h hb k (i+1) (by omega)
end
end Go.Exo
end

noncomputable section
namespace Go.Exo
variable [Sx] [Dc]
section
variable {P:Program}{w0:Bs}{E:Env}{H:T AObj}{nx:Nat}{w:World}
theorem bB (g o:Nat)(t:TypeId)(fr:Nat×Nat):∀ (vs:List Value)(i:Nat)(cur:Array Value)(w:World),w.heap[g]? = some (.cells cur t fr)->
  (∀ j,o+i<=j->j<o+i+vs.length->¬ (fr.1<=j/\j<fr.2))->o+i+vs.length<=cur.size->(∀ v∈vs,v.oneCell'=true)->
  (storeCells ⟨g,o,none⟩ vs i).run P w=.ok () (w.setRow g (cur.toList.take (o+i)++vs++cur.toList.drop (o+i+vs.length)).toArray)
 |[],i,cur,w,hg,_,_,_=>by
  simp only[storeCells,List.append_nil,List.length_nil,Nat.add_zero,List.take_append_drop,Array.toArray_toList];rw[setRow_self w g cur t fr hg];rfl
 |v::rest,i,cur,w,hg,hfz,hl,h1=>by
  have hi:o+i<cur.size:=by simp at hl;omega
  have hadd:(⟨g,o,none⟩:Addr).add i=⟨g,o+i,none⟩:=by unfold Addr.add;split<;>simp_all
  have hcell:w.cell? ⟨g,o+i,none⟩=some cur[o+i]:=by simp[World.cell?,hg,hi]
  have hfro:w.frozen? ⟨g,o+i,none⟩=false:=by
   obtain⟨lo,hi'⟩:=fr;have:=hfz (o+i) (am _) (by simp);simp only at this;simp only[World.frozen?,hg,Bool.and_eq_false_iff,decide_eq_false_iff_not];omega
  have hst:(store ((⟨g,o,none⟩:Addr).add i) v).run P w=.ok () (w.setRow g (cur.setIfInBounds (o+i) v)):=by
   rw[hadd,run_store P w _ v _ (h1 v (by simp)),hcell];simp[hfro,setCell_eq_setRow w g (o+i) cur t fr v hg]
  have ih:=bB g o t fr rest (i+1) (cur.setIfInBounds (o+i) v) (w.setRow g (cur.setIfInBounds (o+i) v)) (setRow_heap w g cur _ t _ hg)
   (fun j h2 h3=>hfz j (by omega) (by simp;omega)) (by simp at hl ⊢;omega) (fun x hx=>h1 x (by simp[hx]))
  simp only[storeCells,Sem.run_bind,hst,Result.andThen_ok,ih,setRow_setRow];congr 3;have e:=list_seg_step cur.toList (o+i) v rest (by simp at hl ⊢;omega);simpa[Array.toList_setIfInBounds,Nat.add_assoc] using e
theorem FzR.ok {fr:Nat×Nat}{fz base n off j:Nat}(h:FzR fr fz base n)(hfz:fzOk fz off=true)(h1:base+off<=j)(h2:j<n):¬ (fr.1<=j/\j<fr.2):=by
 cases fz with
 |zero=>simp only[FzR] at h;subst h;simp
 |succ k=>
  cases k with
  |zero=>simp only[FzR] at h;subst h;simp only;omega
  |succ k=>
   simp only[FzR] at h;have hfz:k<=off:=ab hfz;exact h j (by omega) h2
theorem z6 {l cls pos:Nat}(h:rdOk H l cls pos=true)(i:Nat)(hi:i<pos):okAt H l cls i:=by
 cases cls with
 |zero=>exact .inl rfl
 |succ c=>
  simp only[rdOk,clsOk] at h;split at h
  ·rename_i cur lim mk hc
   refine .inr ⟨cur,lim,mk,hc,?_⟩;cases lim with
   |none=>exact .inl rfl
   |some m=>
    simp only at h;cases hb:Nat.beq cur l with
    |true=>exact .inr (.inl (aa hb))
    |false=>rw[hb] at h;exact .inr (.inr ⟨m,rfl,by have:=ab h;omega⟩)
  ·cases h
theorem WR.cells (h:WR w0 E H nx w){l:Nat}{p:Pl}(hl:E l=some p){cs:T V}{len:Nat}{elem:TypeId}{cls rel fz:Nat}{ro:Bool}(hobj:getH H l=.cells cs len elem cls rel fz ro){e:Nat}(he:e<=len)
  (hrd:rdOk H l cls (rel+e)=true):∃ c fr,w.heap[p.blk]? = some (.cells c elem fr)/\c.size=p.base+p.size/\len<=p.size/\FzR fr fz p.base c.size/\∀ i,i<e->∃ x,c[p.base+i]? = some x/\VR E (getC cs i) x:=by
 have ho:=h.objs l p hl;rw[hobj] at ho;obtain⟨c,fr,h1,h2,h3,h4,h5⟩:=ho;exact⟨c,fr,h1,h2,h3,h4,fun i hi=>h5 i (by omega) (z6 hrd _ (by omega))⟩
theorem sf {c:Array Value}{elem:TypeId}{fr:Nat×Nat}{p:Pl}(hc:w.heap[p.blk]? = some (.cells c elem fr))(off:Nat):w.cell? ⟨p.blk,p.base+off,none⟩=c[p.base+off]? := by
 simp[World.cell?,hc]
theorem rd1_ok (h:WR w0 E H nx w){l off:Nat}{p:Pl}(hl:E l=some p):match rd1 l off H with
  |.val v=>∃ x,w.cell? ⟨p.blk,p.base+off,none⟩=some x/\VR E v x
  |.fail _=>True
  |_=>False:=by
 unfold rd1;cases hobj:getH H l with
 |cells cs len elem cls rel fz ro=>
  simp only;cases hb:(Nat.ble (Nat.succ off) len&&rdOk H l cls (Nat.add rel (Nat.succ off))) with
  |false=>trivial
  |true=>
   simp only[Bool.and_eq_true] at hb;obtain⟨c,fr,h1,_,_,_,h5⟩:=h.cells hl hobj (ab hb.1) hb.2;obtain⟨x,hx,hv⟩:=h5 off (by omega);exact⟨x,by rw[sf h1];exact hx,hv⟩
 |_=>trivial
theorem jn (h:WR w0 E H nx w){l off n:Nat}{p:Pl}(hl:E l=some p){k:List V->Res}{Q:Res->Prop}(hf:∀ m,Q (.fail m))
  (hk:∀ vs xs,vs.length=n->VRs E vs xs->(∀ j v,xs[j]? = some v->w.cell? ((⟨p.blk,p.base+off,none⟩:Addr).add j)=some v)->Q (k vs)):Q (rdN l off n H k):=by
 unfold rdN;cases hobj:getH H l with
 |cells cs len elem cls rel fz ro=>
  simp only;cases hb:(Nat.ble (Nat.add off n) len&&rdOk H l cls (Nat.add rel (Nat.add off n))) with
  |false=>exact hf _
  |true=>
   simp only[Bool.and_eq_true] at hb;have hle:off+n<=len:=ab hb.1;obtain⟨c,fr,h1,h2,h3,_,h5⟩:=h.cells hl hobj hle hb.2;refine hk _ ((c.toList.drop (p.base+off)).take n) (bp _ _ _ _) ?_ ?_
   ·refine VRs.of_get ?_ fun i v hv=>?_
    ·rw[bp];simp;omega
    ·have hi:i<n:=by
      have:=(ae.1 hv).1;rwa [bp] at this
     rw[bP _ _ _ _ _ hi] at hv;cases hv;obtain⟨x,hx,hr⟩:=h5 (off+i) (by omega);refine⟨x,?_,hr⟩;rw[List.getElem?_take,if_pos hi,List.getElem?_drop,Array.getElem?_toList,<- hx];congr 1;omega
   ·intro j v hv
    rw[List.getElem?_take] at hv;split at hv
    ·rw[List.getElem?_drop,Array.getElem?_toList] at hv
     rw[bI,sf h1,<- hv];congr 1;omega
    ·cases hv
 |_=>exact hf _
theorem WR.noTouch {l:Nat}{p:Pl}{ao:AObj}(hl:E l=some p):Keep E E H (put .no H l ao) nx:=by
 intro k _ hk _;refine⟨hk,?_⟩;rw[ar,if_neg (fun e=>by subst e;rw[hl] at hk;cases hk)]
theorem gI (vs:List V)(off:Nat)(cs:T V)(i:Nat):getC (putL .bad vs off cs) i=if off<=i then (vs[i-off]?).getD (getC cs i) else getC cs i:=bY _ _ _ _ _
theorem wr_ok (h:WR w0 E H nx w){l off:Nat}{p:Pl}(hl:E l=some p){vs:List V}{xs:List Value}(hv:VRs E vs xs){v:V}{nx':Nat}(hnx:nx'=nx):match wr l off vs H nx' v with
  |.valH v' H' nx2=>v'=v/\nx2=nx/\∃ w',(storeCells ⟨p.blk,p.base+off,none⟩ xs).run P w=.ok () w'/\WR w0 E H' nx w'/\Keep E E H H' nx
  |.fail _=>True
  |_=>False:=by
 subst hnx;unfold wr;cases hobj:getH H l with
 |cells cs len elem cls rel fz ro=>
  simp only;cases ro with
  |true=>trivial
  |false=>
   simp only[cond_false,ym];cases hb:(Nat.ble (Nat.add off vs.length) len&&fzOk fz off&&gu vs) with
   |false=>trivial
   |true=>
    simp only[Bool.and_eq_true] at hb;obtain⟨⟨hle,hfz⟩,hone⟩:=hb;have hle:off+vs.length<=len:=ab hle;have ho:=h.objs l p hl;rw[hobj] at ho;obtain⟨c,fr,h1,h2,h3,h4,h5⟩:=ho;have hlen:=hv.length
    have hrun:=bB (P:=P) p.blk (p.base+off) elem fr xs 0 c w h1
     (fun j hj1 hj2=>FzR.ok h4 hfz (by omega) (by omega))
     (by omega) (hv.one hone)
    simp only[Nat.add_zero] at hrun;generalize hc':(c.toList.take (p.base+off)++xs++c.toList.drop (p.base+off+xs.length)).toArray=c' at hrun;have hcsz:c'.size=c.size:=by rw[<- hc'];simp;omega
    have hcg:∀ i,c'[i]? = if p.base+off<=i/\i<p.base+off+xs.length then xs[i-(p.base+off)]? else c[i]? := by
     intro i;rw[<- hc'];simp only[List.getElem?_toArray];by_cases c1:i<p.base+off
     ·rw[if_neg (by omega),List.append_assoc,List.getElem?_append_left (by simp;omega),List.getElem?_take,if_pos c1,Array.getElem?_toList]
     ·by_cases c2:i<p.base+off+xs.length
      ·rw[if_pos (by omega),List.getElem?_append_left (by simp;omega),List.getElem?_append_right (by simp;omega)]
       congr 1;simp;omega
      ·rw[if_neg (by omega),List.getElem?_append_right (by simp;omega),List.getElem?_drop,Array.getElem?_toList]
       congr 1;simp;omega
    have hnewcell:∀ i,i<len->okAt H l cls (rel+i)->∃ x,c'[p.base+i]? = some x/\VR E (getC (putL .bad vs off cs) i) x:=by
     intro i hi hok;rw[gI,hcg];by_cases c1:off<=i
     ·by_cases c2:i<off+xs.length
      ·rw[if_pos (by omega),if_pos c1]
       have hiv:i-off<vs.length:=by omega
       rw[ah hiv];obtain⟨x,hx,hr⟩:=hv.get (i-off) _ (ah hiv);refine⟨x,?_,hr⟩;rw[<- hx];congr 1;omega
      ·rw[if_neg (by omega),if_pos c1,List.getElem?_eq_none (by omega)]
       exact h5 i hi hok
     ·rw[if_neg (by omega),if_neg c1]
      exact h5 i hi hok
    have hoth:∀ k,k≠p.blk->(w.setRow p.blk c').heap[k]? = w.heap[k]? := fun k hk=>setRow_other w p.blk k c' hk
    have hself:(w.setRow p.blk c').heap[p.blk]? = some (.cells c' elem fr):=setRow_heap w p.blk c c' elem fr h1;cases cls with
    |zero=>
     simp only[wrCls,mO,aJ];refine⟨rfl,rfl,w.setRow p.blk c',hrun,?_,WR.noTouch hl⟩;refine h.upd l p hl _ (by rw[hobj];intro hh;cases hh) (by rw[hobj];rfl) (by rw[hobj];rfl) (by rw[hobj];rfl) (by rw[hobj];rfl) rfl _ _ (setRow_size _ _ _) hoth hself rfl rfl rfl ?_;exact⟨c',fr,rfl,by rw[hcsz];exact h2,h3,by rw[hcsz];exact h4,fun i hi _=>hnewcell i hi (.inl rfl)⟩
    |succ c0=>
     simp only[wrCls];cases hcls:getH H (c0+1) with
     |cls cur lim mk=>
      simp only
      have main:(lim=none\/cur=l)->v=v/\nx'=nx'/\∃ w',(storeCells ⟨p.blk,p.base+off,none⟩ xs).run P w=.ok () w'/\
        WR w0 E (put .no (put .no H (c0+1) (.cls l (some (minO lim (rel+off))) mk)) l (.cells (putL .bad vs off cs) len elem (c0+1) rel fz false)) nx' w'/\
        Keep E E H (put .no (put .no H (c0+1) (.cls l (some (minO lim (rel+off))) mk)) l (.cells (putL .bad vs off cs) len elem (c0+1) rel fz false)) nx':=by
       intro hall;refine⟨rfl,rfl,w.setRow p.blk c',hrun,?_,?_⟩
       ·exact h.updC l p hl cs _ len elem (c0+1) rel fz (by omega) hobj cur lim mk hcls hall off _ c c' fr (setRow_size _ _ _) hoth h1 hself hcsz
         (fun i hi=>by rw[hcg,if_neg (by omega)]) rfl rfl rfl
         (fun i hi=>hnewcell i hi (.inr ⟨cur,lim,mk,hcls,hall.elim .inl fun e=>.inr (.inl e)⟩))
       ·intro k _ hk hkc
        refine⟨hk,?_⟩;rw[ar,if_neg (fun e=>by subst e;rw[hl] at hk;cases hk),ar,if_neg (fun e=>by subst e;rw[hcls] at hkc;cases hkc)]
      cases lim with
      |none=>
       simp only[aJ,mO];exact main (.inl rfl)
      |some m=>
       simp only;cases hcb:Nat.beq cur l with
       |false=>trivial
       |true=>
        simp only[cond_true,aJ,mO];have:=main (.inr (aa hcb));have e:∀ (k:T AObj->Res),T.setK .no (.cls l (some (minO (some m) (Nat.add rel off))) mk) H (c0+1) k=k (put .no H (c0+1) (.cls l (some (minO (some m) (rel+off))) mk)):=fun k=>bO _ _ _ _ _
        simp only[e];exact⟨trivial,trivial,this.2.2⟩
     |_=>trivial
 |_=>trivial
end
end Go.Exo
end

noncomputable section
namespace Go.Exo
variable [Sx] [Dc]
section
variable {P:Program}{w0:Bs}{E:Env}{H:T AObj}{nx:Nat}{w:World}
theorem jo (h:WR w0 E H nx w){vs:List V}{c:Array Value}(elem:TypeId)(fr:Nat×Nat)(fz d:Nat)(hv:∀ (i:Nat) v,vs[i]? = some v->∃ x,c[i]? = some x/\VR E v x)(hle:vs.length<=c.size)
  (hfz:FzR fr fz 0 c.size) :
  E.le (E.set nx ⟨w.heap.size,0,c.size,undef,noOb,[]⟩)/\WR w0 (E.set nx ⟨w.heap.size,0,c.size,undef,noOb,[]⟩) (put .no H nx (.cells (putL .bad vs 0 .e) vs.length elem 0 0 fz false)) (nx+1) { w with heap:=w.heap.push (.cells c elem fr),drawn:=d }/\
  Keep E (E.set nx ⟨w.heap.size,0,c.size,undef,noOb,[]⟩) H (put .no H nx (.cells (putL .bad vs 0 .e) vs.length elem 0 0 fz false)) nx:=by
 have hn:=h.fresh nx (am _);have hle':E.le (E.set nx ⟨w.heap.size,0,c.size,undef,noOb,[]⟩):=Env.le_set _ hn.1;refine⟨hle',h.new _ _ _ d rfl rfl ?_,?_⟩
 ·refine⟨c,fr,rfl,by simp,hle,hfz,fun i hi _=>?_⟩
  rw[gI,if_pos (Nat.zero_le _),Nat.sub_zero,ah hi];obtain⟨x,hx,hr⟩:=hv i _ (ah hi);exact⟨x,by simpa using hx,hr.mono hle'⟩
 ·intro l hl hE _
  have:l≠nx:=by omega
  exact⟨by rw[Env.set_other _ _ _ _ this];exact hE,by rw[ar,if_neg this]⟩
theorem aS (elem:TypeId)(vs:List V)(fz:Nat)(H:T AObj)(nx:Nat)(v:V):bV elem vs fz H nx v=.valH v (put .no H nx (.cells (putL .bad vs 0 .e) vs.length elem 0 0 fz false)) (nx+1):=by
 simp only[bV,cn,bw,aJ]
theorem io (elem:TypeId)(vs:List V):nj elem vs=.cells (putL .bad vs 0 .e) vs.length elem 0 0 0 false:=by
 simp only[nj,bw]
theorem sg (E:Env)(nx n s:Nat):VR (E.set nx ⟨n,0,s,undef,noOb,[]⟩) (.ptr nx 0) (.pointer (some ⟨n,0,none⟩)):=by
 have:=VR.ptr (E:=E.set nx ⟨n,0,s,undef,noOb,[]⟩) nx 0 ⟨n,0,s,undef,noOb,[]⟩ (Env.set_self _ _ _);simpa using this
theorem z7 (h:WR w0 E H nx w){t:TypeId}{i:TypeInfo}{z:V}(hi:P.info? t=some i)(hz:aG i=some z){old:Value} :
  VG w0 E H nx w ((Instr.alloc t true old).run P w) (jg (nj t z.cells) H nx):=by
 obtain⟨x,hx,hv,hzr⟩:=bn (E:=E) hz;simp only[jg,cn,aJ,io];have hc:=hv.cells hzr;obtain⟨h1,h2,h3⟩:=jo h t (0,0) 0 w.drawn (vs:=z.cells) (c:=x.cells) (fun i v hv=>by simpa using hc.get i v hv) (by rw[hc.length];simp) rfl;refine⟨.pointer (some ⟨w.heap.size,0,none⟩),_,_,?_,h1,sg E nx _ _,h2,by omega,h3⟩;simp[Instr.alloc,newVar,newRow,aP hi hx]
theorem xBox_ok (h:WR w0 E H nx w){t:TypeId}{v:V}{X:Value}(hv:VR E v X):VG w0 E H nx w ((Instr.box t X).run P w) (xBox t v H nx):=by
 simp only[xBox,aS];refine aN (fun hr=>?_) 301;have hc:=hv.cells hr;obtain⟨h1,h2,h3⟩:=jo h t (0,0) 0 w.drawn (vs:=v.cells) (c:=X.cells) (fun i v hv=>by simpa using hc.get i v hv) (by rw[hc.length];simp) rfl;refine⟨.pointer (some ⟨w.heap.size,0,none⟩),_,_,?_,h1,sg E nx _ _,h2,by omega,h3⟩;simp[Instr.box,newVar,newRow]
theorem eQ (E:Env)(nx n s len esz:Nat)(cap:Option Nat)(c:Nat)(h1:len<=c)(h2:c*esz<=s)(h3:∀ k,cap=some k->k=c) :
  VR (E.set nx ⟨n,0,s,undef,noOb,[]⟩) (.slice nx 0 len cap esz) (.slice (some ⟨n,0,none⟩) len c):=by
 have:=VR.slice (E:=E.set nx ⟨n,0,s,undef,noOb,[]⟩) nx 0 len cap esz ⟨n,0,s,undef,noOb,[]⟩ c (Env.set_self _ _ _) h1 (by simpa using h2) h3;simpa using this
theorem bL (l:List V):∀ n,(br l n).length=n*l.length
 |0=>by simp[br]
 |n+1=>by simp[br,bL l n,Nat.add_mul,Nat.add_comm]
theorem mh (l:List V):∀ n i,i<n*l.length->(br l n)[i]? = l[i % l.length]?
 |0,_,h=>absurd h (by simp)
 |n+1,i,h=>by
  simp only[br];by_cases c:i<l.length
  ·rw[List.getElem?_append_left c,Nat.mod_eq_of_lt c]
  ·rw[List.getElem?_append_right (by omega),mh l n (i-l.length) (by rw[Nat.add_mul] at h;omega)]
   congr 1;rw[<- Nat.mod_eq_sub_mod (by omega)]
theorem j7 {z:V}{x:Value}(hv:VR E z x)(hzr:z.real=true)(n:Nat):VRs E (br z.cells n) ((Array.range (n*x.cells.size)).map (x.cells[· % x.cells.size]!)).toList:=by
 have hc:=hv.cells hzr;have hl:=hc.length;simp only[Array.length_toList] at hl;refine VRs.of_get ?_ fun i v hi=>?_
 ·rw[bL,hl];simp
 ·have hlt:i<n*z.cells.length:=by
   have:=(ae.1 hi).1;rwa [bL] at this
  rw[mh _ _ _ hlt] at hi;obtain⟨y,hy,hr⟩:=hc.get _ _ hi;refine⟨y,?_,hr⟩;rw[hl] at hlt hy;rw[Array.getElem?_toList,Array.getElem?_map,Array.getElem?_range,if_pos hlt];rw[Array.getElem?_toList] at hy;simp only[Option.map_some];rw[getElem!_def,hy]
theorem wS (h:WR w0 E H nx w){t e:TypeId}{ps:Array (Nat×Operand)}{tm:T V}{ev:Operand->Value}{i:TypeInfo}{z:V}{len:Nat}(ht:P.underlying t=some (.slice e))(hi:P.info? e=some i)
  (hz:aG i=some z)(hsmall:len*i.size<=16777216)(hzl:z.cells.length=i.size){l:List (Nat×Nat×AO)}(hl:aR (fun j=>some (j*i.size,i.size)) ps.toList=some l)
  (hev:∀ i x,(i,x)∈ps.toList->VR E ((ap x).ev tm) (ev x)) :
  VG w0 E H nx w ((Instr.buildSlice t len (ps.map fun (i,x)=>(i,ev x))).run P w) (bD tm l (br z.cells len) fun cs=>bV e cs 0 H nx (.slice nx 0 len (some len) i.size)):=by
 obtain⟨x,hx,hv,hzr⟩:=bn (E:=E) hz;have hxs:x.cells.size=i.size:=by have:=(hv.cells hzr).length;simp only[Array.length_toList] at this;omega
 refine se _ _ ps.toList l _ _ hl (j7 hv hzr len) hev fun cs' xs' hf hr hlen=>?_
 rw[aS];have hrl:=hr.length;simp only[Array.length_toList] at hrl;obtain⟨h1,h2,h3⟩:=jo h e (0,0) 0 w.drawn (vs:=cs') (c:=xs') (fun i v hv=>by simpa using hr.get i v hv) (by omega) rfl;have hsz:xs'.size=len*i.size:=by rw[<- hrl,hlen,bL,hzl]
 refine⟨.slice (some ⟨w.heap.size,0,none⟩) len len,_,_,?_,h1,eQ E nx _ _ len i.size (some len) len (am _) (by omega) (fun k hk=>by cases hk;rfl),h2,by omega,h3⟩;have e1:(ps.map fun (i,x)=>(i,ev x)).toList=ps.toList.map fun (i,x)=>(i,ev x):=by simp
 rw[hxs] at hf;by_cases h0:len*i.size=0
 ·have hf':Instr.fill (fun j=>some (j*i.size,i.size)) ((Array.range (len*i.size)).map ((#[]:Array Value)[· % (#[]:Array Value).size]!)) (ps.toList.map fun (i,x)=>(i,ev x))=some xs':=by
   rw[<- hf];congr 1;rw[h0];simp
  simp only[Instr.buildSlice,Sem.run_bind,run_underlying ht,Result.andThen_ok,aK hi,Sem.run_ite,run_unsupported];rw[if_neg (by have:(2:Nat) ^ 24=16777216:=rfl;omega)];simp only[Sem.run_pure,Result.andThen_ok];rw[if_pos h0];simp only[Result.andThen_ok,e1,hf',newRow,Sem.run_bind,run_newObj,Sem.run_pure]
 ·simp only[Instr.buildSlice,Sem.run_bind,run_underlying ht,Result.andThen_ok,aK hi,Sem.run_ite,run_unsupported]
  rw[if_neg (by have:(2:Nat) ^ 24=16777216:=rfl;omega)];simp only[Sem.run_pure,Result.andThen_ok];rw[if_neg h0];simp only[Result.andThen_ok,aP hi hx,e1,hxs,hf,newRow,Sem.run_bind,run_newObj,Sem.run_pure]
theorem uz {t e:TypeId}{i:TypeInfo}{x:Value}{n:Nat}(ht:P.underlying t=some (.slice e))(hi:P.info? e=some i)(hx:i.zero=some x)(hxs:x.cells.size=i.size)(hb:n*i.bytes<=16777216)(hn:n<=16777216) :
  (Instr.makeSlice t (.int .i64 n) (.int .i64 n)).run P w=.ok (.slice (some ⟨w.heap.size,0,none⟩) n n) { w with heap:=w.heap.push (.cells ((Array.range (n*x.cells.size)).map (x.cells[· % x.cells.size]!)) e (0,0)) }:=by
 have h:=Go.run_make w t e i x ht hi hx .i64 .i64 n n (by omega) (Int.le_refl _) (by
  have:((i.bytes:Int)*(n:Int))=((n*i.bytes:Nat):Int):=by rw[Nat.mul_comm];simp
  omega) (by omega)
 simp only[Int.toNat_natCast] at h;rw[h];unfold World.alloc madeCells;rw[hxs]
theorem xMkSl_ok (h:WR w0 E H nx w){t e:TypeId}{i:TypeInfo}{z:V}(ht:P.underlying t=some (.slice e))(hi:P.info? e=some i)(hz:aG i=some z)(hzl:z.cells.length=i.size){l c:V}{L C:Value}(hl:VR E l L)(hc:VR E c C) :
  VG w0 E H nx w ((Instr.makeSlice t L C).run P w) (gx e i.size i.bytes z.cells l c H nx):=by
 cases hl<;>simp only[gx]<;>try trivial
 rename_i k n;cases k<;>try trivial
 cases n with
 |negSucc _=>trivial
 |ofNat n=>
  cases hc<;>simp only<;>try trivial
  rename_i k m;cases k<;>try trivial
  cases m with
  |negSucc _=>trivial
  |ofNat m=>
   simp only;cases hb:(Nat.beq n m&&Nat.ble (Nat.mul n i.bytes) 16777216&&Nat.ble n 16777216) with
   |false=>trivial
   |true=>
    simp only[Bool.and_eq_true] at hb;obtain rfl:=aa hb.1.1;have h1:n*i.bytes<=16777216:=ab hb.1.2;have h2:n<=16777216:=ab hb.2;obtain⟨x,hx,hv,hzr⟩:=bn (E:=E) hz;have hxs:x.cells.size=i.size:=by have:=(hv.cells hzr).length;simp only[Array.length_toList] at this;omega
    simp only[cond_true,aS];have hr:=j7 hv hzr n;have hrl:=hr.length;simp only[Array.length_toList] at hrl;obtain⟨g1,g2,g3⟩:=jo h e (0,0) 0 w.drawn (vs:=br z.cells n) (c:=(Array.range (n*x.cells.size)).map (x.cells[· % x.cells.size]!)) (fun i v hv=>by have:=hr.get i v hv;rwa [Array.getElem?_toList] at this) (by omega) rfl;refine⟨.slice (some ⟨w.heap.size,0,none⟩) n n,_,_,uz ht hi hx hxs h1 h2,g1,eQ E nx _ _ n i.size (some n) n (am _) (by simp[hxs]) (fun k hk=>by cases hk;rfl),g2,by omega,g3⟩
theorem p9 (h:WR w0 E H nx w){t:TypeId}(ha:∀ w,(isAgg t).run P w=.ok false w){a:V}{A:Value}(hv:VR E a A):VG w0 E H nx w ((Instr.loadAt t A).run P w) (dK a H):=by
 cases hv<;>simp only[dK]<;>try trivial
 rename_i l off p hp;have:=rd1_ok h (off:=off) hp;cases hr:rd1 l off H with
 |val v=>
  rw[hr] at this;obtain⟨x,hx,hvx⟩:=this;refine VG.val ?_ hvx;simp[Instr.loadAt,Instr.sureAddr,loadVar,ha,hx]
 |fail _=>trivial
 |_=>rw[hr] at this;exact this.elim
theorem qa (h:WR w0 E H nx w){t:TypeId}{i:TypeInfo}(ha:∀ w,(isAgg t).run P w=.ok true w)(hi:P.info? t=some i){a:V}{A:Value}(hv:VR E a A) :
  VG w0 E H nx w ((Instr.loadAt t A).run P w) (dL i.size a H):=by
 cases hv<;>simp only[dL]<;>try trivial
 rename_i l off p hp;refine jn h (n:=i.size) hp (fun m=>trivial) fun vs xs hlen hr hc=>?_
 refine VG.val (x:=.agg xs.toArray) ?_ (.agg _ _ hr);have hl:xs.length=i.size:=by rw[<- hr.length,hlen]
 have hld:=run_loadCells_list (P:=P) w ⟨p.blk,p.base+off,none⟩ xs hc;rw[hl] at hld;simp[Instr.loadAt,Instr.sureAddr,loadVar,ha,aK hi,hld]
theorem z8 (h:WR w0 E H nx w){t:TypeId}{i:TypeInfo}(hi:P.info? t=some i){a v:V}{A X:Value}(ha:VR E a A)(hv:VR E v X):match ws i.size a v H nx with
  |.valH v' H' nx2=>v'=au/\nx2=nx/\∃ w',(Instr.storeAt t A X).run P w=.ok () w'/\WR w0 E H' nx w'/\Keep E E H H' nx
  |.fail _=>True
  |_=>False:=by
 cases ha<;>simp only[ws]<;>try trivial
 rename_i l off p hp;cases hb:(Nat.beq v.cells.length i.size&&v.real) with
 |false=>trivial
 |true=>
  simp only[Bool.and_eq_true] at hb;have hr:=hb.2;have hb:=aa hb.1;have hc:=hv.cells hr;have:=wr_ok (P:=P) h (off:=off) hp hc (v:=au) (nx':=nx) rfl;simp only[cond_true];cases hr:wr l off v.cells H nx au with
  |valH v' H' nx2=>
   rw[hr] at this;obtain⟨h1,h2,w',h3,h4,h5⟩:=this;refine⟨h1,h2,w',?_,h4,h5⟩;have hsz:X.cells.size=i.size:=by have:=hc.length;simp only[Array.length_toList] at this;omega
   simp[Instr.storeAt,Instr.sureAddr,storeVar,aK hi,hsz,h3]
  |fail _=>trivial
  |_=>rw[hr] at this;exact this.elim
theorem jq:∀ (l n:Nat),VRs E (dM l n) ((sB l n).map fun b=>Value.int .u8 (b.toNat:Int))
 |0,_=>.nil
 |k+1,n=>by
  simp only[dM,sB,List.map_cons];refine .cons _ _ _ _ ?_ (jq k (n / 256))
  have:((UInt8.ofNat (n % 256)).toNat:Int)=Int.ofNat (Nat.mod n 256):=by
   have h:(UInt8.ofNat (n % 256)).toNat=n % 256:=by simp
   rw[h];rfl
  rw[this];exact .int _ _
theorem b9:∀ l n,(dM l n).length=l
 |0,_=>rfl
 |k+1,n=>by simp[dM,b9 k]
end
end Go.Exo
end

noncomputable section
namespace Go.Exo
variable [Sx] [Dc]
section
variable {P:Program}{w0:Bs}{E:Env}{H:T AObj}{nx:Nat}{w:World}
theorem ew (W:World)(b n:Nat)(c:Array Value)(elem:TypeId)(hb:W.heap[b]? = some (.cells c elem (0,0)))(hn:c.size=n) :
  (markStringish ⟨b,0,none⟩).run P W=.ok () (W.freeze ⟨b,n,none⟩ 1):=by
 simp[markStringish,World.shape?,hb,hn]
theorem mi (h:Array Obj)(c:Array Value)(elem:TypeId)(n:Nat)(tape:Nat->Question->Nat)(d:Nat)(os:Os)(out:Array (Nat×ByteArray)) :
  World.freeze { heap:=h.push (.cells c elem (0,0)),tape:=tape,drawn:=d,os:=os,output:=out } ⟨h.size,n,none⟩ 1={ heap:=h.push (.cells c elem (n,n+1)),tape:=tape,drawn:=d,os:=os,output:=out }:=by
 simp only[World.freeze];rw[if_neg (by omega)];congr 1;apply Array.ext
 ·simp
 ·intro i h1 h2
  rw[Array.getElem_modify];simp only[Array.getElem_push];by_cases c1:h.size=i
  ·subst c1;simp
  ·rw[if_neg c1]
   have:i<h.size:=by simp at h2;omega
   simp[this]
theorem wT (h:WR w0 E H nx w){a b e:TypeId}(ha:P.underlying a=some .string)(hb:P.underlying b=some (.slice e))(he:P.underlying e=some (.int .u8)){x:V}{X:Value}(hx:VR E x X) :
  VG w0 E H nx w ((convert a b X).run P w) (fl e x H nx):=by
 cases hx<;>simp only[fl]<;>try trivial
 rename_i l n s h1 h2;rw[aS];have hs:=cZ h1;have hq:(Question.appendCap s.size 0 e).forced=false:=rfl;generalize hcap:(Question.appendCap s.size 0 e).cut (w.tape w.drawn (.appendCap s.size 0 e))=cap;have hge:s.size<=cap:=by rw[<- hcap];simp[Question.cut]
 let c:Array Value:=(s.data.map fun b=>Value.int .u8 b.toNat)++Array.replicate (cap-s.size) (.int .u8 0)
 have hcs:c.size=cap:=by
  have:s.data.size=s.size:=rfl;simp only[c,Array.size_append,Array.size_map,Array.size_replicate];omega
 have hrel:∀ (i:Nat) v,(dM l n)[i]? = some v->∃ x,c[i]? = some x/\VR E v x:=by
  intro i v hv;obtain⟨x,hx,hr⟩:=(jq (E:=E) l n).get i v hv;refine⟨x,?_,hr⟩
  have hil:i<l:=by
   have:=(ae.1 hv).1;rwa [b9] at this
  have hsz:s.data.size=s.size:=rfl;simp only[c];rw[Array.getElem?_append_left (by simp;omega),Array.getElem?_map,<- hx,List.getElem?_map,<- h1,Array.getElem?_toList]
 obtain⟨g1,g2,g3⟩:=jo h e (cap,cap+1) 1 (w.drawn+1) (vs:=dM l n) (c:=c) hrel (by rw[b9];omega) (by show (cap,cap+1)=(c.size,c.size+1);rw[hcs]);refine⟨.slice (some ⟨w.heap.size,0,none⟩) s.size cap,_,_,?_,g1,?_,g2,by omega,g3⟩
 ·simp only[convert,Sem.run_bind,run_underlying ha,run_underlying hb,run_underlying he,Result.andThen_ok,Conv.stringToBytes,run_choose,hq,Bool.false_eq_true,if_false,hcap,newRow,run_newObj,Sem.run_pure]
  rw[ew _ w.heap.size cap c e (by simp[c]) hcs];simp only[Result.andThen_ok];congr 1;exact mi w.heap c e cap w.tape (w.drawn+1) w.os w.output
 ·rw[hs]
  exact eQ E nx _ _ l 1 none cap (by omega) (by omega) (fun k hk=>by cases hk)
theorem uA {R:Result Value}{k:Nat->Res}:∀ (vs:List V)(xs:List Value),VRs E vs xs->
  (∀ (bs:List UInt8),bs.length=vs.length->(∀ (i:Nat) b,bs[i]? = some b->∃ n:Nat,xs[i]? = some (Value.int .u8 n)/\b=UInt8.ofNat n)->VG w0 E H nx w R (k (cG bs)))->VG w0 E H nx w R (nq vs k)
 |[],xs,h,hk=>by cases h;exact hk [] rfl (by simp)
 |v::r,xs,h,hk=>by
  cases h with
  |cons _ x _ ys h1 h2=>
   simp only[nq];cases h1<;>try trivial
   rename_i kk m;cases kk<;>try trivial
   cases m<;>try trivial
   rename_i m;refine uA r ys h2 fun bs hlen hbs=>?_
   have:=hk (UInt8.ofNat m::bs) (by simp[hlen]) (by
    intro i b hb
    cases i with
    |zero=>simp at hb;exact⟨m,rfl,hb.symm⟩
    |succ i=>simpa using hbs i b (by simpa using hb))
   have e:cG (UInt8.ofNat m::bs)=Nat.add (Nat.mod m 256) (Nat.mul 256 (cG bs)):=by
    simp only[cG];have:(UInt8.ofNat m).toNat=m % 256:=by simp
    rw[this];rfl
   rw[e] at this;exact this
theorem wU (h:WR w0 E H nx w){a b e:TypeId}(ha:P.underlying a=some (.slice e))(hb:P.underlying b=some .string)(he:P.underlying e=some (.int .u8)){x:V}{X:Value}(hx:VR E x X) :
  VG w0 E H nx w ((convert a b X).run P w) (fm x H):=by
 cases hx<;>simp only[fm]<;>try trivial
 case nils=>
  refine VG.val (x:=.string .empty) ?_ (.str 0 0 _ rfl (by simp));simp[convert,run_underlying ha,run_underlying hb,run_underlying he,Conv.bytesToString]
 case slice l off n cap esz p c hp _ _ _=>
  refine jn h (n:=n) hp (fun m=>trivial) fun vs xs hlen hr hc=>?_
  refine uA vs xs hr fun bs hbl hbs=>?_
  have hxl:xs.length=n:=by rw[<- hr.length,hlen]
  have hld:=run_loadCells_list (P:=P) w ⟨p.blk,p.base+off,none⟩ xs hc;rw[hxl] at hld;refine VG.val (x:=.string ⟨bs.toArray⟩) ?_ ?_
  ·simp only[convert,Sem.run_bind,run_underlying ha,run_underlying hb,run_underlying he,Result.andThen_ok,Conv.bytesToString,hld]
   have key:∀ (f:Value->ByteArray->Sem (ForInStep ByteArray)),(∀ (m:Nat) r,f (.int .u8 (m:Int)) r=pure (.yield (r.push (UInt8.ofNat m))))->
     ∀ (l:List Value)(bl:List UInt8)(acc:ByteArray),bl.length=l.length->(∀ (i:Nat) b,bl[i]? = some b->∃ m:Nat,l[i]? = some (Value.int .u8 m)/\b=UInt8.ofNat m)->
     (forIn (m:=Sem) l acc f).run P w=.ok ⟨(acc.data.toList++bl).toArray⟩ w:=by
    intro f hf;intro l;induction l with
    |nil=>
     intro bl acc hl _;have:bl=[]:=List.eq_nil_of_length_eq_zero (by simpa using hl);subst this;simp[Sem.run_pure]
    |cons y ys ih=>
     intro bl acc hl hg;cases bl with
     |nil=>simp at hl
     |cons b bl=>
      obtain⟨m,hm,rfl⟩:=hg 0 b rfl;simp at hm;subst hm;simp only[List.forIn_cons,hf,Sem.run_bind,Sem.run_pure,Result.andThen_ok];rw[ih bl _ (by simpa using hl) (fun i b hb=>by simpa using hg (i+1) b (by simpa using hb))];simp
   simp only[List.forIn_toArray];rw[key _ ?hf xs bs ByteArray.empty (by omega) hbs]
   case hf=>intro m r;rfl
   simp
  ·have h1:(⟨bs.toArray⟩:ByteArray).data.toList=sB bs.length (cG bs):=by rw[nM]
   have:n=bs.length:=by omega
   rw[this];exact .str _ _ _ h1 (nL bs)
end
end Go.Exo
end
