/-
  EXO, part P1: operations on terms are the model's. Own text.
-/
import Derived.Test.YtihaakenfdkgnaaGreatDoorPart6
set_option linter.all false
noncomputable section
namespace Go.Exo
variable [Sx] [Dc]
section
variable {P:Program}{w0:Bs}{E:Env}{H:T AObj}{nx:Nat}{w:World}{tm:T V}{ev:Operand->Value}
theorem eqKd {a b:IntKind}(h:Nat.beq (kNum a) (kNum b)=true):a=b:=(fx a b).1 h
theorem cR (k:IntKind)(n:Int):k.min<=k.wrap n/\k.wrap n<=k.max:=by
 cases k<;>simp only[IntKind.min,IntKind.max,IntKind.wrap,IntKind.signed,IntKind.bits]<;>(simp;omega)
theorem CR.int_inv {F:Nat->Nat->Value->Prop}{k:IntKind}{X:Value}{c:Cl}(h:CR F (.int k) X c):∃ n,X=.int k n/\c=.int n/\k.min<=n/\n<=k.max:=by
 cases h with|int _ n h1 h2=>exact⟨n,rfl,rfl,h1,h2⟩
theorem CR.str_inv {F:Nat->Nat->Value->Prop}{X:Value}{c:Cl}(h:CR F .str X c):∃ s:ByteArray,X=.string s/\c=.str s.data.toList/\s.size<=maxLen:=by
 cases h with|str s h1=>exact⟨s,rfl,rfl,h1⟩
theorem CR.bool_inv {F:Nat->Nat->Value->Prop}{X:Value}{c:Cl}(h:CR F .bool X c):∃ b,X=.bool b/\c=.bool b:=by
 cases h with|bool b=>exact⟨b,rfl,rfl⟩
theorem VR.x_inv {t:X}{x:Value}(h:VR E (.x t) x):t.ok E/\CR E.fz t.kd x (Cl.hd (t.den E)):=by
 cases h with|x _ _ h1 h2=>exact⟨h1,h2⟩
theorem cI {v:V}{x:Value}(h:VR E v x){a:X}(ha:toX v=some a):a.ok E/\CR E.fz a.kd x (Cl.hd (a.den E)):=by
 cases h<;>simp only[toX] at ha<;>first|(cases ha;done)|skip
 ·cases ha;exact⟨trivial,.bool _⟩
 ·rename_i k n
  cases hb:eqF (gt k n) n with
  |false=>rw[hb] at ha;cases ha
  |true=>
   rw[hb] at ha;cases ha;rw[dO,gE,beq_iff_eq] at hb;have:=cR k n;rw[hb] at this;exact⟨trivial,.int _ _ this.1 this.2⟩
 ·rename_i l n s h1 h2
  cases hb:Nat.ble l 9223372036854775807 with
  |false=>rw[hb] at ha;cases ha
  |true=>
   rw[hb] at ha;cases ha;refine⟨trivial,?_⟩;show CR E.fz .str _ (.str (sB l n));rw[<- h1];exact .str s (by rw[cZ h1];exact ab hb)
 ·rename_i t h1 h2;cases ha;exact⟨h1,h2⟩
 ·rename_i l p t e off len cap h1 h2 h3 h4 h5 h6;cases ha;exact⟨h2,by rw[h3];exact h4⟩
theorem VR.ofAs {v:V}{x:Value}{t:X}(ha:asX v=some t)(h:VR E v x):VR E (.x t) x:=by
 have hx:toX v=some t:=by cases v<;>simp only[asX] at ha<;>first|(cases ha;done)|(cases ha;rfl)
 obtain⟨h1,h2⟩:=cI h hx;exact .x _ _ h1 h2
theorem dm {k:Kd}{i:IntKind}(h:kdI k=some i):k=.int i:=by cases k<;>simp[kdI] at h;rw[h]
theorem lu {k:Kd}{e:TypeId}(h:kdS k=some e):k=.sl e:=by cases k<;>simp[kdS] at h;rw[h]
theorem eR {k:Kd}(h:iR k=true):k=.str:=by cases k<;>simp[iR] at h;rfl
theorem ip {k:Kd}(h:fo k=true):k=.bool:=by cases k<;>simp[fo] at h;rfl
theorem sr (h:WR w0 E H nx w){t:X}{b:Bool}(hd:Dc.dec t=some b):t.ok E/\Cl.hd (t.den E)=.bool b:=by
 obtain⟨h1,h2⟩:=h.dec t b hd;exact⟨X.ok_mono h.le h1,by rw[X.den_mono h.le h1];exact h2⟩
def DecE (E:Env):Prop:=∀ t b,Dc.dec t=some b->t.ok E/\Cl.hd (t.den E)=.bool b
theorem WR.decE (h:WR w0 E H nx w):DecE E:=fun _ _ hd=>sr h hd
def gB:V->Option Bool
 |.bool b=>some b
 |.x t=>Dc.dec t
 |_=>none
theorem gB_ok (hd:DecE E){v:V}{x:Value}(hv:VR E v x){b:Bool}(h:gB v=some b):x=.bool b:=by
 cases hv<;>simp only[gB] at h<;>first|(cases h;done)|skip
 ·cases h;rfl
 ·rename_i t h1 h2
  rw[(hd t b h).2] at h2;generalize t.kd=k at h2;cases h2;rfl
theorem dv (h:WR w0 E H nx w){R:Result Value}{t:X}{r:Res}(hr:Cl.hd (t.den E)=.bool true->VG w0 E H nx w R r):VG w0 E H nx w R (yes t r):=by
 unfold yes;cases hd:Dc.dec t with
 |none=>trivial
 |some b=>cases b with
  |false=>trivial
  |true=>exact hr (sr h hd).2
theorem VG.x {R:Result Value}{t:X}{x:Value}(h1:R=.ok x w)(h2:t.ok E)(h3:CR E.fz t.kd x (Cl.hd (t.den E))):VG w0 E H nx w R (.val (.x t)):=⟨x,h1,.x _ _ h2 h3⟩
theorem nR (k:IntKind)(n m:Int)(h1:k.min<=n)(h2:n<=k.max):k.min<=n.tmod m/\n.tmod m<=k.max:=by
 have hmin:k.min<=0:=by cases k<;>decide
 have hmax:0<=k.max:=by cases k<;>decide
 by_cases hn:0<=n
 ·have a:=Int.tmod_nonneg m hn
  have b:n.tmod m<=n:=by
   have:=Int.natAbs_tmod n m;have:=Nat.mod_le n.natAbs m.natAbs;omega
  omega
 ·have a:n<=n.tmod m:=by
   have:=Int.natAbs_tmod n m;have:=Nat.mod_le n.natAbs m.natAbs;omega
  have b:n.tmod m<=0:=by
   have:=Int.tmod_nonneg m (a:=-n) (by omega);rw[Int.neg_tmod] at this;omega
  omega
theorem sxInt_ok (h:WR w0 E H nx w)(op:BinOp)(t:TypeId){k:IntKind}{a b:X}{vx vy:Value}(ha:a.ok E)(hb:b.ok E)(hak:a.kd=.int k)(hca:CR E.fz a.kd vx (Cl.hd (a.den E)))(hcb:CR E.fz b.kd vy (Cl.hd (b.den E))) :
  VG w0 E H nx w ((binOp op t vx vy).run P w) (sxInt op k a b):=by
 unfold sxInt;cases hkb:kdI b.kd with
 |none=>trivial
 |some k'=>
  simp only;refine aN (fun hk=>?_) 304;obtain rfl:=eqKd hk;rw[hak] at hca;rw[dm hkb] at hcb;obtain⟨n,rfl,e1,n1,n2⟩:=hca.int_inv;obtain⟨m,rfl,e2,m1,m2⟩:=hcb.int_inv
  have key:∀ {V:Value}(op':BinOp),(binOp op' t (.int k n) (.int k m)).run P w=.ok V w->CR E.fz (cond (aL op') .bool (.int k)) V (intD op' k n m)->VG w0 E H nx w ((binOp op' t (.int k n) (.int k m)).run P w) (.val (.x (.bin op' a b))):=by
   intro V op' h1 h2;refine VG.x h1 ⟨ha,hb⟩ ?_;show CR E.fz (cond (aL op') .bool a.kd) V (binD op' a.kd _ _);rw[hak,e1,e2];exact h2
  have hw:=cR k;cases op<;>simp only<;>try trivial
  case add=>exact key .add (by simp[binOp,Op.intArith]) (.int _ _ (hw _).1 (hw _).2)
  case sub=>exact key .sub (by simp[binOp,Op.intArith]) (.int _ _ (hw _).1 (hw _).2)
  case mul=>exact key .mul (by simp[binOp,Op.intArith]) (.int _ _ (hw _).1 (hw _).2)
  case quo=>
   refine dv h fun hz=>?_
   have hm:m≠0:=fun e=>by
    have hz':binD .neq b.kd (Cl.hd (b.den E)) (.int 0)=.bool true:=hz;rw[dm hkb,e2,e] at hz';simp[binD,intD] at hz'
   exact key .quo (by simp[binOp,Op.intDiv,hm]) (.int _ _ (hw _).1 (hw _).2)
  case rem=>
   refine dv h fun hz=>?_
   have hm:m≠0:=fun e=>by
    have hz':binD .neq b.kd (Cl.hd (b.den E)) (.int 0)=.bool true:=hz;rw[dm hkb,e2,e] at hz';simp[binD,intD] at hz'
   exact key .rem (by simp[binOp,Op.intDiv,hm]) (.int _ _ (nR k n m n1 n2).1 (nR k n m n1 n2).2)
  case and=>exact key .and (by simp[binOp,Op.intBits]) (.int _ _ (hw _).1 (hw _).2)
  case or=>exact key .or (by simp[binOp,Op.intBits]) (.int _ _ (hw _).1 (hw _).2)
  case xor=>exact key .xor (by simp[binOp,Op.intBits]) (.int _ _ (hw _).1 (hw _).2)
  case andNot=>exact key .andNot (by simp[binOp,Op.intBits]) (.int _ _ (hw _).1 (hw _).2)
  case eql=>exact key .eql (by simp[binOp,Op.intCmp]) (.bool _)
  case neq=>exact key .neq (by simp[binOp,Op.intCmp,bne]) (.bool _)
  case lss=>exact key .lss (by simp[binOp,Op.intCmp]) (.bool _)
  case leq=>exact key .leq (by simp[binOp,Op.intCmp]) (.bool _)
  case gtr=>exact key .gtr (by simp[binOp,Op.intCmp]) (.bool _)
  case geq=>exact key .geq (by simp[binOp,Op.intCmp]) (.bool _)
theorem sxStr_ok (h:WR w0 E H nx w)(op:BinOp)(t:TypeId){a b:X}{vx vy:Value}(ha:a.ok E)(hb:b.ok E)(hak:a.kd=.str)(hca:CR E.fz a.kd vx (Cl.hd (a.den E)))(hcb:CR E.fz b.kd vy (Cl.hd (b.den E))) :
  VG w0 E H nx w ((binOp op t vx vy).run P w) (sxStr op a b):=by
 unfold sxStr;refine aN (fun hk=>?_) 307;rw[hak] at hca;rw[eR hk] at hcb;obtain⟨s,rfl,e1,n1⟩:=hca.str_inv;obtain⟨s',rfl,e2,m1⟩:=hcb.str_inv
 have key:∀ {V:Value}(op':BinOp),(binOp op' t (.string s) (.string s')).run P w=.ok V w->CR E.fz (cond (aL op') .bool .str) V (strD op' s.data.toList s'.data.toList)->VG w0 E H nx w ((binOp op' t (.string s) (.string s')).run P w) (.val (.x (.bin op' a b))):=by
  intro V op' h1 h2;refine VG.x h1 ⟨ha,hb⟩ ?_;show CR E.fz (cond (aL op') .bool a.kd) V (binD op' a.kd _ _);rw[hak,e1,e2];exact h2
 have f1:=toL s;have f2:=toL s';cases op<;>simp only[aL,cond_true,cond_false]<;>try trivial
 case add=>
  refine dv h fun hz1=>dv h fun hz2=>?_
  have g1:(s.size:Int)<ny:=by
   have:inrD (lenC (Cl.hd (a.den E))) (.int ny)=.bool true:=hz1;rw[e1] at this;simp[lenC,inrD] at this;exact this
  have g2:(s'.size:Int)<ny:=by
   have:inrD (lenC (Cl.hd (b.den E))) (.int ny)=.bool true:=hz2;rw[e2] at this;simp[lenC,inrD] at this;exact this
  unfold ny at g1 g2;refine key .add (V:=.string (s++s')) ?_ ?_
  ·simp only[binOp,Op.stringOp]
   rw[if_neg (by simp only[IntKind.max,IntKind.signed,IntKind.bits,if_true];omega)];simp
  ·have:=CR.str (F:=E.fz) (s++s') (by rw[ByteArray.size_append];unfold maxLen;omega)
   simpa[strD,aL] using this
 case eql=>exact key .eql (by simp[binOp,Op.stringOp,f1,f2]) (.bool _)
 case neq=>exact key .neq (by simp[binOp,Op.stringOp,f1,f2]) (.bool _)
 case lss=>exact key .lss (by simp[binOp,Op.stringOp,f1,f2]) (.bool _)
 case leq=>exact key .leq (by simp[binOp,Op.stringOp,f1,f2]) (.bool _)
 case gtr=>exact key .gtr (by simp[binOp,Op.stringOp,f1,f2]) (.bool _)
 case geq=>exact key .geq (by simp[binOp,Op.stringOp,f1,f2]) (.bool _)
theorem sxBin_ok (h:WR w0 E H nx w)(op:BinOp)(t:TypeId)(ox oy:Operand){x y:V}{vx vy:Value}(hx:VR E x vx)(hy:VR E y vy) :
  VG w0 E H nx w ((do eqGuard op t ox oy vx vy;binOp op t vx vy:Sem Value).run P w) (sxBin op x y):=by
 have hg:∀ X Y:Value,(∀ cs,X≠.agg cs)->X≠.nilIface->(eqGuard op t ox oy X Y).run P w=.ok () w:=by
  intro X Y h1 h2;cases op<;>simp only[eqGuard]<;>first|rfl|(cases X<;>first|rfl|exact absurd rfl (h1 _)|exact absurd rfl h2)
 unfold sxBin;cases hax:toX x with
 |none=>trivial
 |some a=>
  cases hay:toX y with
  |none=>trivial
  |some b=>
   obtain⟨a1,a2⟩:=cI hx hax;obtain⟨b1,b2⟩:=cI hy hay;simp only;cases hk:kdI a.kd with
   |some k=>
    have hk:=dm hk;have ha2:=a2;rw[hk] at ha2;obtain⟨n,rfl,_⟩:=ha2.int_inv;rw[Sem.run_bind,hg _ _ (by intro _ h;cases h) (by intro h;cases h),Result.andThen_ok];exact sxInt_ok h op t a1 b1 hk a2 b2
   |none=>
    refine aN (fun hs=>?_) 308;have hs:=eR hs;have ha2:=a2;rw[hs] at ha2;obtain⟨s,rfl,_⟩:=ha2.str_inv;rw[Sem.run_bind,hg _ _ (by intro _ h;cases h) (by intro h;cases h),Result.andThen_ok];exact sxStr_ok h op t a1 b1 hs a2 b2
theorem jt {R:Result Value}{neg:Bool}{t:X}{b:Bool}(ht:t.ok E)(hk:t.kd=.bool)(hd:Cl.hd (t.den E)=.bool b)(hR:R=.ok (.bool (cond neg (!b) b)) w):VG w0 E H nx w R (.val (eqN neg t)):=by
 unfold eqN;cases neg with
 |false=>exact VG.x (t:=t) (x:=.bool b) hR ht (by rw[hk,hd];exact .bool b)
 |true=>exact VG.x (t:=.un .not t) (x:=.bool (!b)) hR ht (by show CR E.fz .bool _ (unD .not t.kd (Cl.hd (t.den E)));rw[hk,hd];exact .bool _)
theorem uH {op:BinOp}{neg:Bool}(hop:op=cond neg .neq .eql){t:TypeId}{d:TypeDesc}{ox oy:Operand}(ht:P.underlying t=some d)
  {x y:V}{vx vy:Value}(hx:VR E x vx)(hy:VR E y vy):VG w0 E H nx w ((do eqGuard op t ox oy vx vy;binOp op t vx vy:Sem Value).run P w) (sxEqv neg d x y):=by
 have hg:∀ X Y:Value,(∀ cs,X≠.agg cs)->X≠.nilIface->(eqGuard op t ox oy X Y).run P w=.ok () w:=by
  intro X Y h1 h2;cases op<;>simp only[eqGuard]<;>first|rfl|(cases X<;>first|rfl|exact absurd rfl (h1 _)|exact absurd rfl h2)
 have e:∃ n,∀ X Y,Op.equal t X Y=Op.equalIn (n+1) t X Y:=⟨9999,fun _ _=>rfl⟩
 obtain⟨n,e⟩:=e
 have key:∀ (X Y:Value)(b:Bool),(∀ cs,X≠.agg cs)->X≠.nilIface->(binOp op t X Y=(match neg with|false=>do pure (.bool (<- Op.equal t X Y))|true=>do pure (.bool (!(<- Op.equal t X Y))):Sem Value))->(Op.equal t X Y).run P w=.ok b w->
   ((do eqGuard op t ox oy X Y;binOp op t X Y:Sem Value).run P w)=.ok (.bool (cond neg (!b) b)) w:=by
  intro X Y b h1 h2 h3 h4;rw[Sem.run_bind,hg _ _ h1 h2,Result.andThen_ok,h3];cases neg<;>simp[h4]
 unfold sxEqv;cases d<;>simp only<;>try trivial
 case bool=>
  cases hax:toX x with
  |none=>trivial
  |some a=>
   cases hay:toX y with
   |none=>trivial
   |some b=>
    obtain⟨a1,a2⟩:=cI hx hax;obtain⟨b1,b2⟩:=cI hy hay;refine aN (fun hk=>?_) 310;simp only[Bool.and_eq_true] at hk;have ka:=ip hk.1;have kb:=ip hk.2;rw[ka] at a2;rw[kb] at b2;obtain⟨p,rfl,e1⟩:=a2.bool_inv;obtain⟨q,rfl,e2⟩:=b2.bool_inv;refine jt (b:=p==q) ⟨a1,b1⟩ rfl ?_ (key _ _ _ (by intro _ h;cases h) (by intro h;cases h) (by subst hop;cases neg<;>rfl) (by rw[e];simp[Op.equalIn,run_underlying ht]));show binD .eql a.kd _ _=_;rw[ka,e1,e2];rfl
 case slice el=>
  have one:∀ {s:X}{vs:Value},VR E (.x s) vs->((vs=vx/\vy=.slice none 0 0)\/(vs=vy/\vx=.slice none 0 0))->
    VG w0 E H nx w ((do eqGuard op t ox oy vx vy;binOp op t vx vy:Sem Value).run P w) (match kdS s.kd with|some _=>.val (eqN neg (.isnil s))|none=>.fail 311):=by
   intro s vs hs hor;obtain⟨h1,h2⟩:=hs.x_inv;cases hk:kdS s.kd with
   |none=>trivial
   |some e'=>
    simp only;have hk:=lu hk;rw[hk] at h2;generalize hc:Cl.hd (s.den E)=c at h2;cases h2 with
    |nil=>
     rcases hor with⟨rfl,rfl⟩|⟨rfl,rfl⟩
     ·exact jt (b:=true) h1 rfl (by show jk _=_;rw[hc];rfl) (key _ _ _ (by intro _ h;cases h) (by intro h;cases h) (by subst hop;cases neg<;>rfl) (by rw[e];simp[Op.equalIn,run_underlying ht]))
     ·exact jt (b:=true) h1 rfl (by show jk _=_;rw[hc];rfl) (key _ _ _ (by intro _ h;cases h) (by intro h;cases h) (by subst hop;cases neg<;>rfl) (by rw[e];simp[Op.equalIn,run_underlying ht]))
    |sl=>
     rcases hor with⟨rfl,rfl⟩|⟨rfl,rfl⟩
     ·exact jt (b:=false) h1 rfl (by show jk _=_;rw[hc];rfl) (key _ _ _ (by intro _ h;cases h) (by intro h;cases h) (by subst hop;cases neg<;>rfl) (by rw[e];simp[Op.equalIn,run_underlying ht]))
     ·exact jt (b:=false) h1 rfl (by show jk _=_;rw[hc];rfl) (key _ _ _ (by intro _ h;cases h) (by intro h;cases h) (by subst hop;cases neg<;>rfl) (by rw[e];simp[Op.equalIn,run_underlying ht]))
    |e0=>
     rcases hor with⟨rfl,rfl⟩|⟨rfl,rfl⟩
     ·exact jt (b:=false) h1 rfl (by show jk _=_;rw[hc];rfl) (key _ _ _ (by intro _ h;cases h) (by intro h;cases h) (by subst hop;cases neg<;>rfl) (by rw[e];simp[Op.equalIn,run_underlying ht]))
     ·exact jt (b:=false) h1 rfl (by show jk _=_;rw[hc];rfl) (key _ _ _ (by intro _ h;cases h) (by intro h;cases h) (by subst hop;cases neg<;>rfl) (by rw[e];simp[Op.equalIn,run_underlying ht]))
  cases hax:asX x with
  |some s=>
   cases y with
   |nils=>cases hy;exact one (VR.ofAs hax hx) (.inl ⟨rfl,rfl⟩)
   |_=>cases x<;>first|trivial|(cases hax;done)
  |none=>
   cases hay:asX y with
   |some s=>
    cases x with
    |nils=>cases hx;exact one (VR.ofAs hay hy) (.inr ⟨rfl,rfl⟩)
    |_=>trivial
   |none=>cases x<;>trivial
theorem sxUn_ok (op:UnOp){t:X}{vx:Value}(hx:VR E (.x t) vx):VG w0 E H nx w ((Op.unary op vx).run P w) (sxUn op t):=by
 obtain⟨h1,h2⟩:=hx.x_inv;unfold sxUn;cases op<;>simp only<;>try trivial
 case not=>
  refine aN (fun hk=>?_) 313;have hk:=ip hk;rw[hk] at h2;obtain⟨p,rfl,e1⟩:=h2.bool_inv;exact VG.x (t:=.un .not t) (x:=.bool (!p)) rfl h1 (by show CR E.fz .bool _ (unD .not t.kd _);rw[hk,e1];exact .bool _)
 case neg=>
  cases hk:kdI t.kd with
  |none=>trivial
  |some k=>
   have hk:=dm hk;rw[hk] at h2;obtain⟨n,rfl,e1,_⟩:=h2.int_inv;refine VG.x (t:=.un .neg t) (x:=.int k (k.wrap (-n))) (by simp[Op.unary,Op.intArith]) h1 ?_;show CR E.fz t.kd _ (unD .neg t.kd _);rw[hk,e1];exact .int _ _ (cR _ _).1 (cR _ _).2
theorem Ai {a b:TypeId}{k:IntKind}{k0:IntKind}(ha:P.underlying a=some (.int k0))(hb:P.underlying b=some (.int k)){t:X}{vx:Value}(hx:VR E (.x t) vx) :
  VG w0 E H nx w ((convert a b vx).run P w) (rL k t):=by
 obtain⟨h1,h2⟩:=hx.x_inv;unfold rL;cases hk:kdI t.kd with
 |none=>trivial
 |some k'=>
  have hk:=dm hk;rw[hk] at h2;obtain⟨n,rfl,e1,_⟩:=h2.int_inv;refine VG.x (t:=.conv k t) (x:=.int k (k.wrap n)) (by simp[convert,run_underlying ha,run_underlying hb,Conv.intToInt]) h1 ?_;show CR E.fz (.int k) _ (convD k _);rw[e1];exact .int _ _ (cR _ _).1 (cR _ _).2
theorem nS {t ty:TypeId}{d:TypeDesc}{sh:Nat}(ht:P.underlying t=some d)(hd:lenD sh d){u:X}{vx:Value}(hx:VR E (.x u) vx) :
  VG w0 E H nx w ((Builtin.len_ #[t] ty #[vx]).run P w) (sxLen sh u):=by
 obtain⟨h1,h2⟩:=hx.x_inv;unfold sxLen;cases hk:u.kd<;>simp only<;>try trivial
 ·refine aN (fun hb=>?_) 315
  have e:=aa hb;subst e;simp only[lenD] at hd;subst hd;rw[hk] at h2;obtain⟨s,rfl,e1,hs⟩:=h2.str_inv;refine VG.x (t:=.len u) (x:=.int .i64 (s.size:Int)) (by simp[Builtin.len_,run_underlying ht,goInt]) h1 ?_;show CR E.fz (.int .i64) _ (lenC _);rw[e1];have hs':s.size<=9223372036854775807:=hs;have:=CR.int (F:=E.fz) .i64 (s.size:Int) (by simp[IntKind.min,IntKind.signed,IntKind.bits]<;>omega) (by simp[IntKind.max,IntKind.signed,IntKind.bits]<;>omega);exact this
 ·refine aN (fun hb=>?_) 315
  have e:=aa hb;subst e;obtain⟨e,rfl⟩:=hd;rw[hk] at h2;generalize hc:Cl.hd (u.den E)=c at h2;cases h2 with
  |nil=>
   refine VG.x (t:=.len u) (x:=.int .i64 (0:Int)) (by simp[Builtin.len_,run_underlying ht,goInt]) h1 ?_;show CR E.fz (.int .i64) _ (lenC _);rw[hc];exact .int _ _ (by decide) (by decide)
  |e0 _ a=>
   refine VG.x (t:=.len u) (x:=.int .i64 (0:Int)) (by simp[Builtin.len_,run_underlying ht,goInt]) h1 ?_;show CR E.fz (.int .i64) _ (lenC _);rw[hc];exact .int _ _ (by decide) (by decide)
  |sl _ blk off len cap rows vs a1 a2 a3=>
   refine VG.x (t:=.len u) (x:=.int .i64 (len:Int)) (by simp[Builtin.len_,run_underlying ht,goInt]) h1 ?_;show CR E.fz (.int .i64) _ (lenC _);rw[hc];show CR E.fz (.int .i64) _ (.int rows.length);rw[a1];have a3':cap<=9223372036854775807:=a3;exact CR.int (F:=E.fz) .i64 (len:Int) (by simp[IntKind.min,IntKind.signed,IntKind.bits]<;>omega) (by simp[IntKind.max,IntKind.signed,IntKind.bits]<;>omega)
theorem kc (h:WR w0 E H nx w){b o:Nat}{v:Value}(hf:E.fz b o v):w.cell? ⟨b,o,none⟩=some v:=by
 obtain⟨l,p,hp,hv⟩:=hf;exact (h.dat l p hp b o v hv).1
theorem mS {d:X}{x:Option V}{vx:Option Value}(hx:OVR E x vx)(hd:d.ok E){k0:IntKind}{m:Int}(_:d.kd=.int k0)(hm:Cl.hd (d.den E)=.int m){t:X}(h:bndX d x=some t) :
  t.ok E/\∃ n,Cl.hd (t.den E)=.int n/\((vx=none/\n=m)\/∃ kk,vx=some (.int kk n)):=by
 cases x with
 |none=>simp only[bndX,Option.some.injEq] at h;subst h;exact⟨hd,m,hm,.inl ⟨hx.2 rfl,rfl⟩⟩
 |some v=>
  obtain⟨Y,rfl,hy⟩:=hx.1 v rfl;simp only[bndX] at h;cases ht:toX v with
  |none=>rw[ht] at h;cases h
  |some u=>
   rw[ht] at h;simp only at h;obtain⟨h1,h2⟩:=cI hy ht;cases hk:kdI u.kd with
   |none=>rw[hk] at h;cases h
   |some k=>
    rw[hk] at h;simp only[Option.some.injEq] at h;subst h;rw[dm hk] at h2;obtain⟨n,rfl,e1,_⟩:=h2.int_inv;exact⟨h1,n,e1,.inr ⟨k,rfl⟩⟩
theorem yF {a b c:Cl}(h:rngD a b c=.bool true):∃ lo hi n,a=.int lo/\b=.int hi/\c=.int n/\0<=lo/\lo<=hi/\hi<=n:=by
 cases a<;>cases b<;>cases c<;>simp[rngD] at h
 exact⟨_,_,_,rfl,rfl,rfl,h.1,h.2.1,h.2.2⟩
theorem yG {a b:Cl}(h:inrD a b=.bool true):∃ i n,a=.int i/\b=.int n/\0<=i/\i<n:=by
 cases a<;>cases b<;>simp[inrD] at h
 exact⟨_,_,rfl,rfl,h.1,h.2⟩
theorem lw {n:Int}(h:0<=n):∃ m:Nat,n=m:=⟨n.toNat,by omega⟩
theorem xe (h:WR w0 E H nx w){t:TypeId}(ht:P.underlying t=some .string){s:X}{vx:Value}{lo hi:Option V}{LO HI:Option Value}(hx:VR E (.x s) vx)(hlo:OVR E lo LO)(hhi:OVR E hi HI) :
  VG w0 E H nx w ((Instr.sliceAt t vx LO HI none).run P w) (mM s lo hi):=by
 obtain⟨h1,h2⟩:=hx.x_inv;unfold mM;refine aN (fun hk=>?_) 316;have hk:=eR hk;rw[hk] at h2;obtain⟨sv,rfl,e1,hs⟩:=h2.str_inv;cases ha:bndX (.int .i64 0) lo with
 |none=>trivial
 |some a=>
  cases hb:bndX (.len s) hi with
  |none=>trivial
  |some b=>
   simp only;refine dv h fun hr=>?_
   obtain⟨a1,n,a2,a3⟩:=mS hlo (d:=.int .i64 0) trivial rfl (m:=0) rfl ha;have hl:Cl.hd ((X.len s).den E)=.int (sv.size:Int):=by show lenC _=_;rw[e1];rfl
   obtain⟨b1,m,b2,b3⟩:=mS hhi (d:=.len s) h1 rfl hl hb;have hr':rngD (Cl.hd (a.den E)) (Cl.hd (b.den E)) (Cl.hd ((X.len s).den E))=.bool true:=hr;obtain⟨x1,x2,x3,y1,y2,y3,z1,z2,z3⟩:=yF hr';rw[a2] at y1;cases y1;rw[b2] at y2;cases y2;rw[hl] at y3;cases y3;obtain⟨n,rfl⟩:=lw z1;obtain⟨m,rfl⟩:=lw (Int.le_trans z1 z2);have hnm:n<=m:=by omega
   have hms:m<=sv.size:=by omega
   refine VG.x (t:=.sub s a b) (x:=.string (sv.extract n m)) ?_ ⟨h1,a1,b1⟩ ?_
   ·have hb:=bA (P:=P) (w:=w) false (len:=sv.size) (cap:=sv.size) (a:=n) (h:=m) (hi:=HI) (lo:=LO)
     (by rcases b3 with⟨q1,q2⟩|⟨kk,q⟩;exact .inl ⟨q1,by omega⟩;exact .inr ⟨kk,q⟩) (by rcases a3 with⟨q1,q2⟩|⟨kk,q⟩;exact .inl ⟨q1,by omega⟩;exact .inr ⟨kk,q⟩) hnm hms
    simp[Instr.sliceAt,Instr.slice,run_underlying ht,hb]
   ·show CR E.fz .str _ (subD (Cl.hd (s.den E)) (Cl.hd (a.den E)) (Cl.hd (b.den E)))
    rw[e1,a2,b2];have:=CR.str (F:=E.fz) (sv.extract n m) (Nat.le_trans (show (sv.extract n m).size<=sv.size by simp[ByteArray.size_extract];omega) hs);rw[Lib.extract_data] at this;simpa[subD] using this
theorem CR.sl_inv {F:Nat->Nat->Value->Prop}{e:TypeId}{vx:Value}{c:Cl}(h:CR F (.sl e) vx c):(vx=.slice none 0 0/\c=.sl true [])\/
  (∃ blk off cap rows,vx=.slice (some ⟨blk,off,none⟩) rows.length cap/\c=.sl false rows/\rows.length<=cap/\cap<=maxLen)\/∃ a,vx=.slice (some a) 0 0/\c=.sl false []:=by
 cases h with
 |nil=>exact .inl ⟨rfl,rfl⟩
 |e0 _ a=>exact .inr (.inr ⟨a,rfl,rfl⟩)
 |sl _ blk off len cap rows vs a1 a2 a3=>subst a1;exact .inr (.inl ⟨blk,off,cap,rows,rfl,rfl,a2,a3⟩)
theorem CR.sl_open {F:Nat->Nat->Value->Prop}{e:TypeId}{blk off len cap:Nat}{c:Cl}(h:CR F (.sl e) (.slice (some ⟨blk,off,none⟩) len cap) c):∃ rows,∃ vs:Nat->Nat->Value,c=.sl false rows/\rows.length=len/\len<=cap/\cap<=maxLen/\
  (∀ (i:Nat)(r:List Cl),rows[i]? = some r->r.length=(Sx.row e).length)/\(∀ (i:Nat)(r:List Cl)(j:Nat)(c:Cl),rows[i]? = some r->r[j]? = some c->F blk (off+i*(Sx.row e).length+j) (vs i j))/\
  ∀ (i:Nat)(r:List Cl)(j:Nat)(c:Cl)(k:Kd),rows[i]? = some r->r[j]? = some c->(Sx.row e)[j]? = some k->CR F k (vs i j) c:=by
 cases h with
 |sl _ _ _ _ _ rows vs a1 a2 a3 a4 a5 a6=>exact⟨rows,vs,rfl,a1,a2,a3,a4,a5,a6⟩
 |e0=>exact⟨[],fun _ _=>undef,rfl,rfl,am _,Nat.zero_le _,fun i r h=>by simp at h,fun i r j c h=>by simp at h,fun i r j c k h=>by simp at h⟩
theorem cut_cr {F:Nat->Nat->Value->Prop}{e:TypeId}{blk off cap:Nat}{rows:List (List Cl)}(h:CR F (.sl e) (.slice (some ⟨blk,off,none⟩) rows.length cap) (.sl false rows)){n m:Nat}(hnm:n<=m)(hm:m<=rows.length){off':Nat}
  (ho:n<m->off'=off+n*(Sx.row e).length):CR F (.sl e) (.slice (some ⟨blk,off',none⟩) (m-n) (cap-n)) (.sl false ((rows.drop n).take (m-n))):=by
 obtain⟨rows',vs,e1,a1,a2,a3,a4,a5,a6⟩:=h.sl_open;cases e1
 ·have hg:∀ (i:Nat)(r:List Cl),((rows.drop n).take (m-n))[i]? = some r->i<m-n/\rows[n+i]? = some r:=by
   intro i r hr;rw[List.getElem?_take] at hr;split at hr
   ·rename_i hi;rw[List.getElem?_drop] at hr;exact⟨hi,hr⟩
   ·cases hr
  refine .sl e blk off' (m-n) (cap-n) _ (fun i j=>vs (n+i) j) (by simp;omega) (by omega) (by omega) (fun i r hr=>a4 _ r (hg i r hr).2) (fun i r j c hr hc=>?_) (fun i r j c k hr hc hk=>a6 _ r j c k (hg i r hr).2 hc hk);obtain⟨hi,hr⟩:=hg i r hr;have:=a5 _ r j c hr hc;rw[ho (by omega)];rwa [Nat.add_mul,<- Nat.add_assoc] at this
theorem Aj (h:WR w0 E H nx w){t e:TypeId}{i:TypeInfo}(ht:P.underlying t=some (.slice e))(hi:P.info? e=some i){s:X}{vx:Value}{lo hi' mx:Option V}{LO HI MX:Option Value}(hx:VR E (.x s) vx)
  (hlo:OVR E lo LO)(hhi:OVR E hi' HI)(hmx:OVR E mx MX):VG w0 E H nx w ((Instr.sliceAt t vx LO HI MX).run P w) (rM i.size s lo hi' mx):=by
 have hsz:=fun w=>aK (P:=P) (w:=w) hi
 obtain⟨h1,h2⟩:=hx.x_inv;unfold rM;cases hk:kdS s.kd with
 |none=>trivial
 |some e'=>
  cases mx with
  |some m=>trivial
  |none=>
   obtain rfl:=hmx.2 rfl;simp only;refine aN (fun hes=>?_) 317;have hes:=aa hes;have hk:=lu hk;rw[hk] at h2;cases ha:bndX (.int .i64 0) lo with
   |none=>trivial
   |some a=>
    cases hb:bndX (.len s) hi' with
    |none=>trivial
    |some b=>
     simp only;refine dv h fun hr=>?_
     have hr':rngD (Cl.hd (a.den E)) (Cl.hd (b.den E)) (lenC (Cl.hd (s.den E)))=.bool true:=hr;obtain⟨a1,n,a2,a3⟩:=mS hlo (d:=.int .i64 0) trivial rfl (m:=0) rfl ha;obtain⟨x1,x2,x3,y1,y2,y3,z1,z2,z3⟩:=yF hr';have hl:Cl.hd ((X.len s).den E)=.int x3:=y3;obtain⟨b1,m,b2,b3⟩:=mS hhi (d:=.len s) h1 rfl hl hb;rw[a2] at y1;cases y1;rw[b2] at y2;cases y2;obtain⟨n,rfl⟩:=lw z1;obtain⟨m,rfl⟩:=lw (Int.le_trans z1 z2);have hnm:n<=m:=by omega
     rcases h2.sl_inv with⟨rfl,hc⟩|⟨blk,off,cap,rows,rfl,hc,r1,r2⟩|⟨ad,rfl,hc⟩
     ·rw[hc] at y3
      have hx3:x3=0:=by cases y3;rfl
      have hm0:m=0:=by omega
      have hn0:n=0:=by omega
      subst hm0;subst hn0;refine VG.x (t:=.cut s a b) (x:=.slice none 0 0) ?_ ⟨h1,a1,b1⟩ ?_
      ·have hb:=bA (P:=P) (w:=w) true (len:=0) (cap:=0) (a:=0) (h:=0) (hi:=HI) (lo:=LO)
        (by rcases b3 with⟨q1,q2⟩|⟨kk,q⟩;exact .inl ⟨q1,rfl⟩;exact .inr ⟨kk,q⟩) (by rcases a3 with⟨q1,q2⟩|⟨kk,q⟩;exact .inl ⟨q1,rfl⟩;exact .inr ⟨kk,q⟩) (am _) (am _)
       simp[Instr.sliceAt,Instr.slice,run_underlying ht,hb,hsz]
      ·show CR E.fz s.kd _ (cutD (Cl.hd (s.den E)) (Cl.hd (a.den E)) (Cl.hd (b.den E)))
       rw[hc,a2,b2,hk];exact .nil e'
     ·have hx3:x3=rows.length:=by rw[hc] at y3;cases y3;rfl
      have hmr:m<=rows.length:=by omega
      have hb:=bA (P:=P) (w:=w) true (len:=rows.length) (cap:=cap) (a:=n) (h:=m) (hi:=HI) (lo:=LO)
       (by rcases b3 with⟨q1,q2⟩|⟨kk,q⟩;exact .inl ⟨q1,by omega⟩;exact .inr ⟨kk,q⟩) (by rcases a3 with⟨q1,q2⟩|⟨kk,q⟩;exact .inl ⟨q1,by omega⟩;exact .inr ⟨kk,q⟩) hnm (Nat.le_trans hmr r1)
      rw[hc] at h2;refine VG.x (t:=.cut s a b) (x:=.slice (some ⟨blk,if cap=n then off else off+n*i.size,none⟩) (m-n) (cap-n)) ?_ ⟨h1,a1,b1⟩ ?_
      ·simp[Instr.sliceAt,Instr.slice,run_underlying ht,hb,hsz]
       have hadd:=bI ⟨blk,off,0,undef,noOb,[]⟩ 0 (n*i.size);simp only[Nat.add_zero,Nat.zero_add] at hadd;split<;>simp_all
      ·show CR E.fz s.kd _ (cutD (Cl.hd (s.den E)) (Cl.hd (a.den E)) (Cl.hd (b.den E)))
       rw[hc,a2,b2,hk];have:=cut_cr h2 hnm hmr (off':=if cap=n then off else off+n*i.size) (fun hlt=>by rw[if_neg (by omega),hes]);simpa[cutD] using this
     ·rw[hc] at y3
      have hx3:x3=0:=by cases y3;rfl
      have hm0:m=0:=by omega
      have hn0:n=0:=by omega
      subst hm0;subst hn0;refine VG.x (t:=.cut s a b) (x:=.slice (some ad) 0 0) ?_ ⟨h1,a1,b1⟩ ?_
      ·have hb:=bA (P:=P) (w:=w) true (len:=0) (cap:=0) (a:=0) (h:=0) (hi:=HI) (lo:=LO)
        (by rcases b3 with⟨q1,q2⟩|⟨kk,q⟩;exact .inl ⟨q1,rfl⟩;exact .inr ⟨kk,q⟩) (by rcases a3 with⟨q1,q2⟩|⟨kk,q⟩;exact .inl ⟨q1,rfl⟩;exact .inr ⟨kk,q⟩) (am _) (am _)
       simp[Instr.sliceAt,Instr.slice,run_underlying ht,hb,hsz]
      ·show CR E.fz s.kd _ (cutD (Cl.hd (s.den E)) (Cl.hd (a.den E)) (Cl.hd (b.den E)))
       rw[hc,a2,b2,hk];exact .e0 e' ad
theorem sxIdx_ok (h:WR w0 E H nx w){t e:TypeId}{ie:TypeInfo}(ht:P.underlying t=some (.slice e))(hi:P.info? e=some ie){s:X}{iv:V}{vx vy:Value}(hx:VR E (.x s) vx)(hy:VR E iv vy) :
  VG w0 E H nx w ((Instr.indexAt t vx vy).run P w) (sxIdx ie.size s iv):=by
 have hsz:=fun w=>aK (P:=P) (w:=w) hi
 obtain⟨h1,h2⟩:=hx.x_inv;unfold sxIdx;cases hk:kdS s.kd with
 |none=>trivial
 |some e'=>
  cases hti:toX iv with
  |none=>trivial
  |some u=>
   simp only;obtain⟨u1,u2⟩:=cI hy hti;cases hku:kdI u.kd with
   |none=>trivial
   |some ku=>
    simp only;refine aN (fun hes=>dv h fun hr=>?_) 318;have hes:=aa hes;have hk:=lu hk;rw[hk] at h2;rw[dm hku] at u2;obtain⟨n,rfl,e2,_⟩:=u2.int_inv;have hr':inrD (Cl.hd (u.den E)) (lenC (Cl.hd (s.den E)))=.bool true:=hr;obtain⟨i,m,y1,y2,z1,z2⟩:=yG hr';rw[e2] at y1;cases y1;obtain⟨n,rfl⟩:=lw z1;rcases h2.sl_inv with⟨rfl,hc⟩|⟨blk,off,cap,rows,rfl,hc,r1,r2⟩|⟨ad,rfl,hc⟩
    ·rw[hc] at y2;cases y2;simp at z2;omega
    rotate_left
    ·rw[hc] at y2;cases y2;simp at z2;omega
    ·rw[hc] at y2;cases y2
     have hlt:n<rows.length:=by omega
     rw[hc] at h2;refine⟨.pointer (some ⟨blk,off+n*ie.size,none⟩),?_,?_⟩
     ·have hadd:=bI ⟨blk,off,0,undef,noOb,[]⟩ 0 (n*ie.size)
      simp only[Nat.add_zero,Nat.zero_add] at hadd;simp[Instr.indexAt,asIntOf,run_underlying ht,hsz,hlt,hadd]
     ·have:=VR.xa (E:=E) s u 0 e' blk off rows.length cap n rows h1 u1 hk h2 hc e2 hlt
      rw[hes];simpa using this
theorem uI (h:WR w0 E H nx w){t:TypeId}(ht:P.underlying t=some .string){s:X}{iv:V}{vx vy:Value}(hx:VR E (.x s) vx)(hy:VR E iv vy) :
  VG w0 E H nx w ((Instr.index t vx vy).run P w) (jU s iv):=by
 obtain⟨h1,h2⟩:=hx.x_inv;unfold jU;cases hti:toX iv with
 |none=>trivial
 |some u=>
  simp only;obtain⟨u1,u2⟩:=cI hy hti;cases hku:kdI u.kd with
  |none=>trivial
  |some ku=>
   simp only;refine aN (fun hes=>dv h fun hr=>?_) 319;have hk:=eR hes;rw[hk] at h2;rw[dm hku] at u2;obtain⟨n,rfl,e2,_⟩:=u2.int_inv;obtain⟨sv,rfl,e1,hs⟩:=h2.str_inv;have hr':inrD (Cl.hd (u.den E)) (lenC (Cl.hd (s.den E)))=.bool true:=hr;obtain⟨i,m,y1,y2,z1,z2⟩:=yG hr';rw[e2] at y1;cases y1;obtain⟨n,rfl⟩:=lw z1;rw[e1] at y2;cases y2;have hlt:n<sv.size:=by simp at z2;exact z2
   have hg:sv[n]? = some sv.data.toList[n]:=by
    rw[getElem?_pos sv n hlt];rfl
   refine VG.x (t:=.atx s u) (x:=.int .u8 (sv.data.toList[n].toNat:Int)) ?_ ⟨h1,u1⟩ ?_
   ·simp[Instr.index,asIntOf,run_underlying ht,hg]
   ·show CR E.fz (.int .u8) _ (atD (Cl.hd (s.den E)) (Cl.hd (u.den E)))
    rw[e1,e2];have hb:=(sv.data.toList[n]).toNat_lt;generalize hq:sv.data.toList[n]=q at hb ⊢;have e3:atD (.str sv.data.toList) (.int (n:Int))=.int (q.toNat:Int):=by rw[<- hq];simp[atD,List.getD,hlt]
    rw[e3];exact .int _ _ (by simp[IntKind.min,IntKind.signed]) (by simp[IntKind.max,IntKind.signed,IntKind.bits];omega)
theorem nT:∀ (l:List Kd)(i:Nat)(k:Kd),nthK l i=some k->l[i]? = some k
 |[],_,_,h=>by cases h
 |_::_,0,_,h=>h
 |_::r,i+1,k,h=>nT r i k h
theorem el_ok {s i:X}{j:Nat}{blk off len cap n:Nat}{rows:List (List Cl)}{e:TypeId}(h1:s.ok E)(h2:i.ok E)(hc:CR E.fz (.sl e) (.slice (some ⟨blk,off,none⟩) len cap) (.sl false rows))
  (hs:Cl.hd (s.den E)=.sl false rows)(hi:Cl.hd (i.den E)=.int (n:Int))(hn:n<len){k:Kd}(hk:(Sx.row e)[j]? = some k):∃ v,E.fz blk (off+n*(Sx.row e).length+j) v/\VR E (.x (.el s i j k)) v:=by
 obtain⟨rows',vs,e1,a1,a2,a3,a4,a5,a6⟩:=hc.sl_open;cases e1
 ·have hr:rows[n]? = some rows[n]:=by simp[a1,hn]
  have hl:=a4 n _ hr;have hj:=(ae.1 hk).1;have hcj:rows[n][j]? = some rows[n][j]:=by simp[hl,hj]
  refine⟨vs n j,a5 n _ j _ hr hcj,.x _ _ ⟨h1,h2⟩ ?_⟩;show CR E.fz k _ (elD (Cl.hd (s.den E)) (Cl.hd (i.den E)) j);rw[hs,hi];have:=a6 n _ j _ k hr hcj hk;simpa[elD,List.getD,hr,hcj] using this
theorem sxLd1_ok (h:WR w0 E H nx w){t:TypeId}(ha:∀ w,(isAgg t).run P w=.ok false w){s i:X}{j:Nat}{vx:Value}(hv:VR E (.xa s i j) vx):VG w0 E H nx w ((Instr.loadAt t vx).run P w) (sxLd1 s i j):=by
 cases hv with
 |xa _ _ _ e blk off len cap n rows h1 h2 h3 h4 h5 h6 h7=>
  unfold sxLd1;rw[h3];simp only[kdS];cases hk:nthK (Sx.row e) j with
  |none=>trivial
  |some k=>
   obtain⟨v,hf,hv⟩:=el_ok h1 h2 h4 h5 h6 h7 (nT _ _ _ hk);refine⟨v,?_,hv⟩;simp[Instr.loadAt,Instr.sureAddr,loadVar,ha,kc h hf]
theorem yH {s i:X}{blk off len cap n:Nat}{rows:List (List Cl)}{e:TypeId}(h1:s.ok E)(h2:i.ok E)(hc:CR E.fz (.sl e) (.slice (some ⟨blk,off,none⟩) len cap) (.sl false rows))
  (hs:Cl.hd (s.den E)=.sl false rows)(hi:Cl.hd (i.den E)=.int (n:Int))(hn:n<len):∀ (m j:Nat)(l:List V),elsX s i j (Sx.row e) m=some l->∃ xs:List Value,xs.length=m/\VRs E l xs/\∀ (q:Nat) v,xs[q]? = some v->E.fz blk (off+n*(Sx.row e).length+(j+q)) v
 |0,j,l,h=>by simp only[elsX,Option.some.injEq] at h;subst h;exact⟨[],rfl,.nil,fun q v hq=>by simp at hq⟩
 |m+1,j,l,h=>by
  simp only[elsX] at h;cases hk:nthK (Sx.row e) j with
  |none=>rw[hk] at h;cases h
  |some k=>
   cases hr:elsX s i (Nat.succ j) (Sx.row e) m with
   |none=>rw[hk,hr] at h;cases h
   |some l'=>
    rw[hk,hr] at h;simp only[Option.some.injEq] at h;subst h;obtain⟨v,hf,hv⟩:=el_ok h1 h2 hc hs hi hn (nT _ _ _ hk);obtain⟨xs,x1,x2,x3⟩:=yH h1 h2 hc hs hi hn m (j+1) l' hr;refine⟨v::xs,by simp[x1],.cons _ _ _ _ hv x2,fun q u hq=>?_⟩;cases q with
    |zero=>simp at hq;subst hq;exact hf
    |succ q=>
     have:=x3 q u (by simpa using hq);rwa [show j+1+q=j+(q+1) from by omega] at this
theorem sxLdN_ok (h:WR w0 E H nx w){t:TypeId}{ti:TypeInfo}(ha:∀ w,(isAgg t).run P w=.ok true w)(hi:P.info? t=some ti){s i:X}{j:Nat}{vx:Value}(hv:VR E (.xa s i j) vx) :
  VG w0 E H nx w ((Instr.loadAt t vx).run P w) (sxLdN ti.size s i j):=by
 cases hv with
 |xa _ _ _ e blk off len cap n rows h1 h2 h3 h4 h5 h6 h7=>
  unfold sxLdN;rw[h3];simp only[kdS];cases hk:elsX s i j (Sx.row e) ti.size with
  |none=>trivial
  |some l=>
   obtain⟨xs,x1,x2,x3⟩:=yH h1 h2 h4 h5 h6 h7 _ _ _ hk;refine⟨.agg xs.toArray,?_,.agg _ _ x2⟩
   have hld:=run_loadCells_list (P:=P) w ⟨blk,off+n*(Sx.row e).length+j,none⟩ xs fun q v hq=>by
    have hadd:=bI ⟨blk,off+n*(Sx.row e).length+j,0,undef,noOb,[]⟩ 0 q;simp only[Nat.add_zero,Nat.zero_add] at hadd;rw[hadd,Nat.add_assoc];exact kc h (x3 q v hq)
   rw[x1] at hld;simp[Instr.loadAt,Instr.sureAddr,loadVar,ha,aK hi,hld]
theorem xf {t:TypeId}{fs:Array Field}{f:Nat}{fd:Field}{i:TypeInfo}(ht:P.underlying t=some (.struct fs))(hf:fs[f]? = some fd)(hi:P.info? fd.type=some i)(hz:i.size≠0)
  {s ix:X}{j:Nat}{vx:Value}(hx:VR E (.xa s ix j) vx):VG w0 E H nx w ((Instr.fieldAt t vx f).run P w) (.val (.xa s ix (Nat.add j fd.offset))):=by
 have hsz:=fun w=>aK (P:=P) (w:=w) hi
 cases hx with
 |xa _ _ _ e blk off len cap n rows h1 h2 h3 h4 h5 h6 h7=>
  refine⟨.pointer (some ⟨blk,off+n*(Sx.row e).length+(j+fd.offset),none⟩),?_,.xa _ _ _ e blk off len cap n rows h1 h2 h3 h4 h5 h6 h7⟩;have hadd:=bI ⟨blk,off+n*(Sx.row e).length+j,0,undef,noOb,[]⟩ 0 fd.offset;simp only[Nat.add_zero,Nat.zero_add] at hadd;simp[Instr.fieldAt,Instr.sureAddr,fieldPlace,run_underlying ht,hf,hsz,hz,hadd]
theorem sxMax_ok (h:WR w0 E H nx w){x y:V}{vx vy:Value}{ts:Array TypeId}{t:TypeId}(hx:VR E x vx)(hy:VR E y vy):VG w0 E H nx w ((Builtin.max_ ts t #[vx,vy]).run P w) (sxMax x y):=by
 unfold sxMax;cases hax:toX x with
 |none=>trivial
 |some a=>
  cases hay:toX y with
  |none=>trivial
  |some b=>
   obtain⟨a1,a2⟩:=cI hx hax;obtain⟨b1,b2⟩:=cI hy hay;simp only;cases hka:kdI a.kd with
   |none=>trivial
   |some k=>
    cases hkb:kdI b.kd with
    |none=>trivial
    |some k'=>
     simp only;refine aN (fun hk=>?_) 322;obtain rfl:=eqKd hk;cases hd:Dc.dec (.bin .lss a b) with
     |none=>trivial
     |some d=>
      simp only;obtain⟨_,hd⟩:=sr h hd;have hd':binD .lss a.kd (Cl.hd (a.den E)) (Cl.hd (b.den E))=.bool d:=hd;rw[dm hka] at a2;rw[dm hkb] at b2;obtain⟨n,rfl,e1,_⟩:=a2.int_inv;obtain⟨m,rfl,e2,_⟩:=b2.int_inv;rw[dm hka,e1,e2] at hd';simp only[binD,intD,Cl.bool.injEq] at hd';refine⟨.int k (if m > n then m else n),by simp[Builtin.max_,Builtin.max2],?_⟩;subst hd';by_cases hlt:n<m
      ·rw[if_pos hlt];simp only[hlt,decide_true,cond_true];exact hy
      ·rw[if_neg hlt];simp only[hlt,decide_false,cond_false];exact hx
theorem sxCmp_ok {f:FuncId}{fn:Func}(hf:P.funcs[f]? = some fn)(hb:fn.body=none)(hn:fn.name = "internal/bytealg.abigen_runtime_cmpstring")(ho:fn.origin = "" \/ fn.origin = "internal/bytealg.abigen_runtime_cmpstring")
  {x y:V}{vx vy:Value}(hx:VR E x vx)(hy:VR E y vy):Good P w0 E H nx w ((callFunc f #[vx,vy]).run P w) (sxCmp x y):=by
 have hrun:=fun args=>run_callFunc_extern (P:=P) hf (by rw[hn];rfl) (by rw[hb];rfl) (uE fn hn ho) (findCmp fn hn) args w
 rw[hrun];unfold sxCmp;cases hax:toX x with
 |none=>trivial
 |some a=>
  cases hay:toX y with
  |none=>trivial
  |some b=>
   obtain⟨a1,a2⟩:=cI hx hax;obtain⟨b1,b2⟩:=cI hy hay;simp only;cases hk:(iR a.kd&&iR b.kd) with
   |false=>trivial
   |true=>
    simp only[Bool.and_eq_true] at hk;rw[eR hk.1] at a2;rw[eR hk.2] at b2;obtain⟨s,rfl,e1,_⟩:=a2.str_inv;obtain⟨s',rfl,e2,_⟩:=b2.str_inv;refine⟨.value (.int .i64 (Lib.compareBytes s.data.toList s'.data.toList)),_,?_,rfl,?_⟩
    ·rw[Lib.run_compareString];rfl
    ·refine .x _ _ ⟨a1,b1⟩ ?_
     show CR E.fz (.int .i64) _ (cmpD (Cl.hd (a.den E)) (Cl.hd (b.den E)));rw[e1,e2,<- yD]
     have hb:∀ l l':List UInt8,cmpB l l' = -1\/cmpB l l'=0\/cmpB l l'=1:=by
      intro l;induction l with
      |nil=>intro l';cases l'<;>simp[cmpB]
      |cons a r ih=>
       intro l';cases l' with
       |nil=>exact .inr (.inr rfl)
       |cons b s=>
        simp only[cmpB];cases Nat.ble (Nat.succ a.toNat) b.toNat with
        |true=>exact .inl rfl
        |false=>cases Nat.ble (Nat.succ b.toNat) a.toNat with
         |true=>exact .inr (.inr rfl)
         |false=>exact ih s
     have:=hb s.data.toList s'.data.toList;exact .int _ _ (by simp[IntKind.min,IntKind.signed,IntKind.bits];omega) (by simp[IntKind.max,IntKind.signed,IntKind.bits];omega)
theorem Ak (h:WR w0 E H nx w){t:X}{a b:V}{vc va vb:Value}(hc:VR E (.x t) vc)(ha:VR E a va)(hb:VR E b vb):VG w0 E H nx w ((do pure (if <- asBool vc then va else vb):Sem Value).run P w) (rN t a b):=by
 unfold rN;obtain⟨h1,h2⟩:=hc.x_inv;cases hd:Dc.dec t with
 |none=>trivial
 |some d=>
  simp only;obtain⟨_,hd⟩:=sr h hd;rw[hd] at h2
  have hv:vc=.bool d:=by
   generalize t.kd=k at h2;cases h2;rfl
  subst hv;cases d
  ·exact VG.val (by simp[asBool]) hb
  ·exact VG.val (by simp[asBool]) ha
end
end Go.Exo
end
