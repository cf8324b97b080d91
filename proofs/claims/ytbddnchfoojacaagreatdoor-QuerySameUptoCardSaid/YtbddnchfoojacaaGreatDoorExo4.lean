/-
  EXO, part P1: operations on terms are the model's. Own text.
-/
import Derived.Test.YtbddnchfoojacaaGreatDoorExo3
import Derived.Defers
set_option linter.all false
namespace Go.Exo
set_option linter.unusedSectionVars false
variable [Sx] [Dc]
section
variable {P:Program}{w0:Bs}{E:Env}{H:T AObj}{nx:Nat}{w:World}{tm:T V}{ev:Operand→Value}
theorem eqKd {a b:IntKind}(h:Nat.beq (kNum a) (kNum b)=true):a=b:=(kNum_eq a b).1 h
theorem wrap_range (k:IntKind)(n:Int):k.min≤k.wrap n∧k.wrap n≤k.max:=by
 cases k<;>simp only[IntKind.min,IntKind.max,IntKind.wrap,IntKind.signed,IntKind.bits]<;>(simp;omega)
theorem CR.int_inv {F:Nat→Nat→Value→Prop}{k:IntKind}{X:Value}{c:Cl}(h:CR F (.int k) X c):∃ n,X=.int k n∧c=.int n∧k.min≤n∧n≤k.max:=by
 cases h with|int _ n h1 h2=>exact⟨n,rfl,rfl,h1,h2⟩
theorem CR.str_inv {F:Nat→Nat→Value→Prop}{X:Value}{c:Cl}(h:CR F .str X c):∃ s:ByteArray,X=.string s∧c=.str s.data.toList∧s.size≤maxLen:=by
 cases h with|str s h1=>exact⟨s,rfl,rfl,h1⟩
theorem CR.bool_inv {F:Nat→Nat→Value→Prop}{X:Value}{c:Cl}(h:CR F .bool X c):∃ b,X=.bool b∧c=.bool b:=by
 cases h with|bool b=>exact⟨b,rfl,rfl⟩
theorem VR.x_inv {t:X}{x:Value}(h:VR E (.x t) x):t.ok E∧CR E.fz t.kd x (Cl.hd (t.den E)):=by
 cases h with|x _ _ h1 h2=>exact⟨h1,h2⟩
theorem toX_ok {v:V}{x:Value}(h:VR E v x){a:X}(ha:toX v=some a):a.ok E∧CR E.fz a.kd x (Cl.hd (a.den E)):=by
 cases h<;>simp only[toX] at ha<;>first|(cases ha;done)|skip
 ·cases ha;exact⟨trivial,.bool _⟩
 ·rename_i k n
  cases hb:eqF (wrapF k n) n with
  |false=>rw[hb] at ha;cases ha
  |true=>
   rw[hb] at ha;cases ha
   rw[wrapF_eq,eqF_eq,beq_iff_eq] at hb
   have:=wrap_range k n
   rw[hb] at this
   exact⟨trivial,.int _ _ this.1 this.2⟩
 ·rename_i l n s h1 h2
  cases hb:Nat.ble l 9223372036854775807 with
  |false=>rw[hb] at ha;cases ha
  |true=>
   rw[hb] at ha;cases ha
   refine⟨trivial,?_⟩
   show CR E.fz .str _ (.str (sB l n))
   rw[← h1]
   exact .str s (by rw[size_sB h1];exact Nat.le_of_ble_eq_true hb)
 ·rename_i t h1 h2;cases ha;exact⟨h1,h2⟩
 ·rename_i l p t e off len cap h1 h2 h3 h4 h5 h6;cases ha;exact⟨h2,by rw[h3];exact h4⟩
theorem VR.ofAs {v:V}{x:Value}{t:X}(ha:asX v=some t)(h:VR E v x):VR E (.x t) x:=by
 have hx:toX v=some t:=by cases v<;>simp only[asX] at ha<;>first|(cases ha;done)|(cases ha;rfl)
 obtain⟨h1,h2⟩:=toX_ok h hx
 exact .x _ _ h1 h2
theorem kdI_eq {k:Kd}{i:IntKind}(h:kdI k=some i):k=.int i:=by cases k<;>simp[kdI] at h;rw[h]
theorem kdS_eq {k:Kd}{e:TypeId}(h:kdS k=some e):k=.sl e:=by cases k<;>simp[kdS] at h;rw[h]
theorem kdStr_eq {k:Kd}(h:kdStr k=true):k=.str:=by cases k<;>simp[kdStr] at h;rfl
theorem kdBool_eq {k:Kd}(h:kdBool k=true):k=.bool:=by cases k<;>simp[kdBool] at h;rfl
theorem dec_ok (h:WR w0 E H nx w){t:X}{b:Bool}(hd:Dc.dec t=some b):t.ok E∧Cl.hd (t.den E)=.bool b:=by
 obtain⟨h1,h2⟩:=h.dec t b hd
 exact⟨X.ok_mono h.le h1,by rw[X.den_mono h.le h1];exact h2⟩
def DecE (E:Env):Prop:=∀ t b,Dc.dec t=some b→t.ok E∧Cl.hd (t.den E)=.bool b
theorem WR.decE (h:WR w0 E H nx w):DecE E:=fun _ _ hd=>dec_ok h hd
def gB:V→Option Bool
 |.bool b=>some b
 |.x t=>Dc.dec t
 |_=>none
theorem gB_ok (hd:DecE E){v:V}{x:Value}(hv:VR E v x){b:Bool}(h:gB v=some b):x=.bool b:=by
 cases hv<;>simp only[gB] at h<;>first|(cases h;done)|skip
 ·cases h;rfl
 ·rename_i t h1 h2
  rw[(hd t b h).2] at h2
  generalize t.kd=k at h2
  cases h2;rfl
theorem yesX_ok (h:WR w0 E H nx w){R:Result Value}{t:X}{r:Res}(hr:Cl.hd (t.den E)=.bool true→VG w0 E H nx w R r):VG w0 E H nx w R (yes t r):=by
 unfold yes
 cases hd:Dc.dec t with
 |none=>trivial
 |some b=>cases b with
  |false=>trivial
  |true=>exact hr (dec_ok h hd).2
theorem VG.x {R:Result Value}{t:X}{x:Value}(h1:R=.ok x w)(h2:t.ok E)(h3:CR E.fz t.kd x (Cl.hd (t.den E))):VG w0 E H nx w R (.val (.x t)):=⟨x,h1,.x _ _ h2 h3⟩
theorem tmod_range (k:IntKind)(n m:Int)(h1:k.min≤n)(h2:n≤k.max):k.min≤n.tmod m∧n.tmod m≤k.max:=by
 have hmin:k.min≤0:=by cases k<;>decide
 have hmax:0≤k.max:=by cases k<;>decide
 by_cases hn:0≤n
 ·have a:=Int.tmod_nonneg m hn
  have b:n.tmod m≤n:=by
   have:=Int.natAbs_tmod n m
   have:=Nat.mod_le n.natAbs m.natAbs
   omega
  omega
 ·have a:n≤n.tmod m:=by
   have:=Int.natAbs_tmod n m
   have:=Nat.mod_le n.natAbs m.natAbs
   omega
  have b:n.tmod m≤0:=by
   have:=Int.tmod_nonneg m (a:=-n) (by omega)
   rw[Int.neg_tmod] at this;omega
  omega
theorem sxInt_ok (h:WR w0 E H nx w)(op:BinOp)(t:TypeId){k:IntKind}{a b:X}{vx vy:Value}(ha:a.ok E)(hb:b.ok E)(hak:a.kd=.int k)(hca:CR E.fz a.kd vx (Cl.hd (a.den E)))(hcb:CR E.fz b.kd vy (Cl.hd (b.den E))) :
  VG w0 E H nx w ((binOp op t vx vy).run P w) (sxInt op k a b):=by
 unfold sxInt
 cases hkb:kdI b.kd with
 |none=>trivial
 |some k'=>
  simp only
  refine cnd_VG (fun hk=>?_) 304
  obtain rfl:=eqKd hk
  rw[hak] at hca
  rw[kdI_eq hkb] at hcb
  obtain⟨n,rfl,e1,n1,n2⟩:=hca.int_inv
  obtain⟨m,rfl,e2,m1,m2⟩:=hcb.int_inv
  have key:∀ {V:Value}(op':BinOp),(binOp op' t (.int k n) (.int k m)).run P w=.ok V w→CR E.fz (cond (isCmp op') .bool (.int k)) V (intD op' k n m)→VG w0 E H nx w ((binOp op' t (.int k n) (.int k m)).run P w) (.val (.x (.bin op' a b))):=by
   intro V op' h1 h2
   refine VG.x h1 ⟨ha,hb⟩ ?_
   show CR E.fz (cond (isCmp op') .bool a.kd) V (binD op' a.kd _ _)
   rw[hak,e1,e2];exact h2
  have hw:=wrap_range k
  cases op<;>simp only<;>try trivial
  case add=>exact key .add (by simp[binOp,Op.intArith]) (.int _ _ (hw _).1 (hw _).2)
  case sub=>exact key .sub (by simp[binOp,Op.intArith]) (.int _ _ (hw _).1 (hw _).2)
  case mul=>exact key .mul (by simp[binOp,Op.intArith]) (.int _ _ (hw _).1 (hw _).2)
  case quo=>
   refine yesX_ok h fun hz=>?_
   have hm:m≠0:=fun e=>by
    have hz':binD .neq b.kd (Cl.hd (b.den E)) (.int 0)=.bool true:=hz
    rw[kdI_eq hkb,e2,e] at hz'
    simp[binD,intD] at hz'
   exact key .quo (by simp[binOp,Op.intDiv,hm]) (.int _ _ (hw _).1 (hw _).2)
  case rem=>
   refine yesX_ok h fun hz=>?_
   have hm:m≠0:=fun e=>by
    have hz':binD .neq b.kd (Cl.hd (b.den E)) (.int 0)=.bool true:=hz
    rw[kdI_eq hkb,e2,e] at hz'
    simp[binD,intD] at hz'
   exact key .rem (by simp[binOp,Op.intDiv,hm]) (.int _ _ (tmod_range k n m n1 n2).1 (tmod_range k n m n1 n2).2)
  case and=>exact key .and (by simp[binOp,Op.intBits]) (.int _ _ (hw _).1 (hw _).2)
  case or=>exact key .or (by simp[binOp,Op.intBits]) (.int _ _ (hw _).1 (hw _).2)
  case xor=>exact key .xor (by simp[binOp,Op.intBits]) (.int _ _ (hw _).1 (hw _).2)
  case andNot=>exact key .andNot (by simp[binOp,Op.intBits]) (.int _ _ (hw _).1 (hw _).2)
  case eql=>exact key .eql (by simp[binOp,Op.intCmp]) (.bool _)
  case neq=>exact key .neq (by simp[binOp,Op.intCmp,bne]) (.bool _)
  case lss=>exact key .lss (by simp[binOp,Op.intCmp]) (.bool _)
  case leq=>exact key .leq (by simp[binOp,Op.intCmp]) (.bool _)
  case gtr=>exact key .gtr (by simp[binOp,Op.intCmp]) (.bool _)
  case geq=>exact key .geq (by simp[binOp,Op.intCmp]) (.bool _)
theorem sxStr_ok (h:WR w0 E H nx w)(op:BinOp)(t:TypeId){a b:X}{vx vy:Value}(ha:a.ok E)(hb:b.ok E)(hak:a.kd=.str)(hca:CR E.fz a.kd vx (Cl.hd (a.den E)))(hcb:CR E.fz b.kd vy (Cl.hd (b.den E))) :
  VG w0 E H nx w ((binOp op t vx vy).run P w) (sxStr op a b):=by
 unfold sxStr
 refine cnd_VG (fun hk=>?_) 307
 rw[hak] at hca
 rw[kdStr_eq hk] at hcb
 obtain⟨s,rfl,e1,n1⟩:=hca.str_inv
 obtain⟨s',rfl,e2,m1⟩:=hcb.str_inv
 have key:∀ {V:Value}(op':BinOp),(binOp op' t (.string s) (.string s')).run P w=.ok V w→CR E.fz (cond (isCmp op') .bool .str) V (strD op' s.data.toList s'.data.toList)→VG w0 E H nx w ((binOp op' t (.string s) (.string s')).run P w) (.val (.x (.bin op' a b))):=by
  intro V op' h1 h2
  refine VG.x h1 ⟨ha,hb⟩ ?_
  show CR E.fz (cond (isCmp op') .bool a.kd) V (binD op' a.kd _ _)
  rw[hak,e1,e2];exact h2
 have f1:=toL s
 have f2:=toL s'
 cases op<;>simp only[isCmp,cond_true,cond_false]<;>try trivial
 case add=>
  refine yesX_ok h fun hz1=>yesX_ok h fun hz2=>?_
  have g1:(s.size:Int)<big62:=by
   have:inrD (lenC (Cl.hd (a.den E))) (.int big62)=.bool true:=hz1
   rw[e1] at this;simp[lenC,inrD] at this;exact this
  have g2:(s'.size:Int)<big62:=by
   have:inrD (lenC (Cl.hd (b.den E))) (.int big62)=.bool true:=hz2
   rw[e2] at this;simp[lenC,inrD] at this;exact this
  unfold big62 at g1 g2
  refine key .add (V:=.string (s++s')) ?_ ?_
  ·simp only[binOp,Op.stringOp]
   rw[if_neg (by simp only[IntKind.max,IntKind.signed,IntKind.bits,if_true];omega)]
   simp
  ·have:=CR.str (F:=E.fz) (s++s') (by rw[ByteArray.size_append];unfold maxLen;omega)
   simpa[strD,isCmp] using this
 case eql=>exact key .eql (by simp[binOp,Op.stringOp,f1,f2]) (.bool _)
 case neq=>exact key .neq (by simp[binOp,Op.stringOp,f1,f2]) (.bool _)
 case lss=>exact key .lss (by simp[binOp,Op.stringOp,f1,f2]) (.bool _)
 case leq=>exact key .leq (by simp[binOp,Op.stringOp,f1,f2]) (.bool _)
 case gtr=>exact key .gtr (by simp[binOp,Op.stringOp,f1,f2]) (.bool _)
 case geq=>exact key .geq (by simp[binOp,Op.stringOp,f1,f2]) (.bool _)
theorem sxBin_ok (h:WR w0 E H nx w)(op:BinOp)(t:TypeId)(ox oy:Operand){x y:V}{vx vy:Value}(hx:VR E x vx)(hy:VR E y vy) :
  VG w0 E H nx w ((do eqGuard op t ox oy vx vy;binOp op t vx vy:Sem Value).run P w) (sxBin op x y):=by
 have hg:∀ X Y:Value,(∀ cs,X≠.agg cs)→X≠.nilIface→(eqGuard op t ox oy X Y).run P w=.ok () w:=by
  intro X Y h1 h2
  cases op<;>simp only[eqGuard]<;>first|rfl|(cases X<;>first|rfl|exact absurd rfl (h1 _)|exact absurd rfl h2)
 unfold sxBin
 cases hax:toX x with
 |none=>trivial
 |some a=>
  cases hay:toX y with
  |none=>trivial
  |some b=>
   obtain⟨a1,a2⟩:=toX_ok hx hax
   obtain⟨b1,b2⟩:=toX_ok hy hay
   simp only
   cases hk:kdI a.kd with
   |some k=>
    have hk:=kdI_eq hk
    have ha2:=a2
    rw[hk] at ha2
    obtain⟨n,rfl,_⟩:=ha2.int_inv
    rw[Sem.run_bind,hg _ _ (by intro _ h;cases h) (by intro h;cases h),Result.andThen_ok]
    exact sxInt_ok h op t a1 b1 hk a2 b2
   |none=>
    refine cnd_VG (fun hs=>?_) 308
    have hs:=kdStr_eq hs
    have ha2:=a2
    rw[hs] at ha2
    obtain⟨s,rfl,_⟩:=ha2.str_inv
    rw[Sem.run_bind,hg _ _ (by intro _ h;cases h) (by intro h;cases h),Result.andThen_ok]
    exact sxStr_ok h op t a1 b1 hs a2 b2
theorem eqN_ok {R:Result Value}{neg:Bool}{t:X}{b:Bool}(ht:t.ok E)(hk:t.kd=.bool)(hd:Cl.hd (t.den E)=.bool b)(hR:R=.ok (.bool (cond neg (!b) b)) w):VG w0 E H nx w R (.val (eqN neg t)):=by
 unfold eqN
 cases neg with
 |false=>exact VG.x (t:=t) (x:=.bool b) hR ht (by rw[hk,hd];exact .bool b)
 |true=>exact VG.x (t:=.un .not t) (x:=.bool (!b)) hR ht (by show CR E.fz .bool _ (unD .not t.kd (Cl.hd (t.den E)));rw[hk,hd];exact .bool _)
theorem sxEqv_ok {op:BinOp}{neg:Bool}(hop:op=cond neg .neq .eql){t:TypeId}{d:TypeDesc}{ox oy:Operand}(ht:P.underlying t=some d)
  {x y:V}{vx vy:Value}(hx:VR E x vx)(hy:VR E y vy):VG w0 E H nx w ((do eqGuard op t ox oy vx vy;binOp op t vx vy:Sem Value).run P w) (sxEqv neg d x y):=by
 have hg:∀ X Y:Value,(∀ cs,X≠.agg cs)→X≠.nilIface→(eqGuard op t ox oy X Y).run P w=.ok () w:=by
  intro X Y h1 h2
  cases op<;>simp only[eqGuard]<;>first|rfl|(cases X<;>first|rfl|exact absurd rfl (h1 _)|exact absurd rfl h2)
 have e:∃ n,∀ X Y,Op.equal t X Y=Op.equalIn (n+1) t X Y:=⟨9999,fun _ _=>rfl⟩
 obtain⟨n,e⟩:=e
 have key:∀ (X Y:Value)(b:Bool),(∀ cs,X≠.agg cs)→X≠.nilIface→(binOp op t X Y=(match neg with|false=>do pure (.bool (← Op.equal t X Y))|true=>do pure (.bool (!(← Op.equal t X Y))):Sem Value))→(Op.equal t X Y).run P w=.ok b w→
   ((do eqGuard op t ox oy X Y;binOp op t X Y:Sem Value).run P w)=.ok (.bool (cond neg (!b) b)) w:=by
  intro X Y b h1 h2 h3 h4
  rw[Sem.run_bind,hg _ _ h1 h2,Result.andThen_ok,h3]
  cases neg<;>simp[h4]
 unfold sxEqv
 cases d<;>simp only<;>try trivial
 case bool=>
  cases hax:toX x with
  |none=>trivial
  |some a=>
   cases hay:toX y with
   |none=>trivial
   |some b=>
    obtain⟨a1,a2⟩:=toX_ok hx hax
    obtain⟨b1,b2⟩:=toX_ok hy hay
    refine cnd_VG (fun hk=>?_) 310
    simp only[Bool.and_eq_true] at hk
    have ka:=kdBool_eq hk.1
    have kb:=kdBool_eq hk.2
    rw[ka] at a2
    rw[kb] at b2
    obtain⟨p,rfl,e1⟩:=a2.bool_inv
    obtain⟨q,rfl,e2⟩:=b2.bool_inv
    refine eqN_ok (b:=p==q) ⟨a1,b1⟩ rfl ?_ (key _ _ _ (by intro _ h;cases h) (by intro h;cases h) (by subst hop;cases neg<;>rfl) (by rw[e];simp[Op.equalIn,run_underlying ht]))
    show binD .eql a.kd _ _=_
    rw[ka,e1,e2];rfl
 case slice el=>
  have one:∀ {s:X}{vs:Value},VR E (.x s) vs→((vs=vx∧vy=.slice none 0 0)∨(vs=vy∧vx=.slice none 0 0))→
    VG w0 E H nx w ((do eqGuard op t ox oy vx vy;binOp op t vx vy:Sem Value).run P w) (match kdS s.kd with|some _=>.val (eqN neg (.isnil s))|none=>.fail 311):=by
   intro s vs hs hor
   obtain⟨h1,h2⟩:=hs.x_inv
   cases hk:kdS s.kd with
   |none=>trivial
   |some e'=>
    simp only
    have hk:=kdS_eq hk
    rw[hk] at h2
    generalize hc:Cl.hd (s.den E)=c at h2
    cases h2 with
    |nil=>
     rcases hor with⟨rfl,rfl⟩|⟨rfl,rfl⟩
     ·exact eqN_ok (b:=true) h1 rfl (by show isnilD _=_;rw[hc];rfl) (key _ _ _ (by intro _ h;cases h) (by intro h;cases h) (by subst hop;cases neg<;>rfl) (by rw[e];simp[Op.equalIn,run_underlying ht]))
     ·exact eqN_ok (b:=true) h1 rfl (by show isnilD _=_;rw[hc];rfl) (key _ _ _ (by intro _ h;cases h) (by intro h;cases h) (by subst hop;cases neg<;>rfl) (by rw[e];simp[Op.equalIn,run_underlying ht]))
    |sl=>
     rcases hor with⟨rfl,rfl⟩|⟨rfl,rfl⟩
     ·exact eqN_ok (b:=false) h1 rfl (by show isnilD _=_;rw[hc];rfl) (key _ _ _ (by intro _ h;cases h) (by intro h;cases h) (by subst hop;cases neg<;>rfl) (by rw[e];simp[Op.equalIn,run_underlying ht]))
     ·exact eqN_ok (b:=false) h1 rfl (by show isnilD _=_;rw[hc];rfl) (key _ _ _ (by intro _ h;cases h) (by intro h;cases h) (by subst hop;cases neg<;>rfl) (by rw[e];simp[Op.equalIn,run_underlying ht]))
    |e0=>
     rcases hor with⟨rfl,rfl⟩|⟨rfl,rfl⟩
     ·exact eqN_ok (b:=false) h1 rfl (by show isnilD _=_;rw[hc];rfl) (key _ _ _ (by intro _ h;cases h) (by intro h;cases h) (by subst hop;cases neg<;>rfl) (by rw[e];simp[Op.equalIn,run_underlying ht]))
     ·exact eqN_ok (b:=false) h1 rfl (by show isnilD _=_;rw[hc];rfl) (key _ _ _ (by intro _ h;cases h) (by intro h;cases h) (by subst hop;cases neg<;>rfl) (by rw[e];simp[Op.equalIn,run_underlying ht]))
  cases hax:asX x with
  |some s=>
   cases y with
   |nils=>cases hy;exact one (VR.ofAs hax hx) (.inl ⟨rfl,rfl⟩)
   |_=>cases x<;>first|trivial|(cases hax;done)
  |none=>
   cases hay:asX y with
   |some s=>
    cases x with
    |nils=>cases hx;exact one (VR.ofAs hay hy) (.inr ⟨rfl,rfl⟩)
    |_=>trivial
   |none=>cases x<;>trivial
theorem sxUn_ok (op:UnOp){t:X}{vx:Value}(hx:VR E (.x t) vx):VG w0 E H nx w ((Op.unary op vx).run P w) (sxUn op t):=by
 obtain⟨h1,h2⟩:=hx.x_inv
 unfold sxUn
 cases op<;>simp only<;>try trivial
 case not=>
  refine cnd_VG (fun hk=>?_) 313
  have hk:=kdBool_eq hk
  rw[hk] at h2
  obtain⟨p,rfl,e1⟩:=h2.bool_inv
  exact VG.x (t:=.un .not t) (x:=.bool (!p)) rfl h1 (by show CR E.fz .bool _ (unD .not t.kd _);rw[hk,e1];exact .bool _)
 case neg=>
  cases hk:kdI t.kd with
  |none=>trivial
  |some k=>
   have hk:=kdI_eq hk
   rw[hk] at h2
   obtain⟨n,rfl,e1,_⟩:=h2.int_inv
   refine VG.x (t:=.un .neg t) (x:=.int k (k.wrap (-n))) (by simp[Op.unary,Op.intArith]) h1 ?_
   show CR E.fz t.kd _ (unD .neg t.kd _)
   rw[hk,e1];exact .int _ _ (wrap_range _ _).1 (wrap_range _ _).2
theorem sxConv_ok {a b:TypeId}{k:IntKind}{k0:IntKind}(ha:P.underlying a=some (.int k0))(hb:P.underlying b=some (.int k)){t:X}{vx:Value}(hx:VR E (.x t) vx) :
  VG w0 E H nx w ((convert a b vx).run P w) (sxConv k t):=by
 obtain⟨h1,h2⟩:=hx.x_inv
 unfold sxConv
 cases hk:kdI t.kd with
 |none=>trivial
 |some k'=>
  have hk:=kdI_eq hk
  rw[hk] at h2
  obtain⟨n,rfl,e1,_⟩:=h2.int_inv
  refine VG.x (t:=.conv k t) (x:=.int k (k.wrap n)) (by simp[convert,run_underlying ha,run_underlying hb,Conv.intToInt]) h1 ?_
  show CR E.fz (.int k) _ (convD k _)
  rw[e1];exact .int _ _ (wrap_range _ _).1 (wrap_range _ _).2
theorem sxLen_ok {t ty:TypeId}{d:TypeDesc}{sh:Nat}(ht:P.underlying t=some d)(hd:lenD sh d){u:X}{vx:Value}(hx:VR E (.x u) vx) :
  VG w0 E H nx w ((Builtin.len_ #[t] ty #[vx]).run P w) (sxLen sh u):=by
 obtain⟨h1,h2⟩:=hx.x_inv
 unfold sxLen
 cases hk:u.kd<;>simp only<;>try trivial
 ·refine cnd_VG (fun hb=>?_) 315
  have e:=Nat.eq_of_beq_eq_true hb;subst e
  simp only[lenD] at hd;subst hd
  rw[hk] at h2
  obtain⟨s,rfl,e1,hs⟩:=h2.str_inv
  refine VG.x (t:=.len u) (x:=.int .i64 (s.size:Int)) (by simp[Builtin.len_,run_underlying ht,goInt]) h1 ?_
  show CR E.fz (.int .i64) _ (lenC _)
  rw[e1]
  have hs':s.size≤9223372036854775807:=hs
  have:=CR.int (F:=E.fz) .i64 (s.size:Int) (by simp[IntKind.min,IntKind.signed,IntKind.bits]<;>omega) (by simp[IntKind.max,IntKind.signed,IntKind.bits]<;>omega)
  exact this
 ·refine cnd_VG (fun hb=>?_) 315
  have e:=Nat.eq_of_beq_eq_true hb;subst e
  obtain⟨e,rfl⟩:=hd
  rw[hk] at h2
  generalize hc:Cl.hd (u.den E)=c at h2
  cases h2 with
  |nil=>
   refine VG.x (t:=.len u) (x:=.int .i64 (0:Int)) (by simp[Builtin.len_,run_underlying ht,goInt]) h1 ?_
   show CR E.fz (.int .i64) _ (lenC _)
   rw[hc];exact .int _ _ (by decide) (by decide)
  |e0 _ a=>
   refine VG.x (t:=.len u) (x:=.int .i64 (0:Int)) (by simp[Builtin.len_,run_underlying ht,goInt]) h1 ?_
   show CR E.fz (.int .i64) _ (lenC _)
   rw[hc];exact .int _ _ (by decide) (by decide)
  |sl _ blk off len cap rows vs a1 a2 a3=>
   refine VG.x (t:=.len u) (x:=.int .i64 (len:Int)) (by simp[Builtin.len_,run_underlying ht,goInt]) h1 ?_
   show CR E.fz (.int .i64) _ (lenC _)
   rw[hc]
   show CR E.fz (.int .i64) _ (.int rows.length)
   rw[a1]
   have a3':cap≤9223372036854775807:=a3
   exact CR.int (F:=E.fz) .i64 (len:Int) (by simp[IntKind.min,IntKind.signed,IntKind.bits]<;>omega) (by simp[IntKind.max,IntKind.signed,IntKind.bits]<;>omega)
theorem fz_cell (h:WR w0 E H nx w){b o:Nat}{v:Value}(hf:E.fz b o v):w.cell? ⟨b,o,none⟩=some v:=by
 obtain⟨l,p,hp,hv⟩:=hf
 exact (h.dat l p hp b o v hv).1
theorem bndX_ok {d:X}{x:Option V}{vx:Option Value}(hx:OVR E x vx)(hd:d.ok E){k0:IntKind}{m:Int}(_:d.kd=.int k0)(hm:Cl.hd (d.den E)=.int m){t:X}(h:bndX d x=some t) :
  t.ok E∧∃ n,Cl.hd (t.den E)=.int n∧((vx=none∧n=m)∨∃ kk,vx=some (.int kk n)):=by
 cases x with
 |none=>simp only[bndX,Option.some.injEq] at h;subst h;exact⟨hd,m,hm,.inl ⟨hx.2 rfl,rfl⟩⟩
 |some v=>
  obtain⟨Y,rfl,hy⟩:=hx.1 v rfl
  simp only[bndX] at h
  cases ht:toX v with
  |none=>rw[ht] at h;cases h
  |some u=>
   rw[ht] at h;simp only at h
   obtain⟨h1,h2⟩:=toX_ok hy ht
   cases hk:kdI u.kd with
   |none=>rw[hk] at h;cases h
   |some k=>
    rw[hk] at h;simp only[Option.some.injEq] at h;subst h
    rw[kdI_eq hk] at h2
    obtain⟨n,rfl,e1,_⟩:=h2.int_inv
    exact⟨h1,n,e1,.inr ⟨k,rfl⟩⟩
theorem rng_inv {a b c:Cl}(h:rngD a b c=.bool true):∃ lo hi n,a=.int lo∧b=.int hi∧c=.int n∧0≤lo∧lo≤hi∧hi≤n:=by
 cases a<;>cases b<;>cases c<;>simp[rngD] at h
 exact⟨_,_,_,rfl,rfl,rfl,h.1,h.2.1,h.2.2⟩
theorem inr_inv {a b:Cl}(h:inrD a b=.bool true):∃ i n,a=.int i∧b=.int n∧0≤i∧i<n:=by
 cases a<;>cases b<;>simp[inrD] at h
 exact⟨_,_,rfl,rfl,h.1,h.2⟩
theorem nat_of {n:Int}(h:0≤n):∃ m:Nat,n=m:=⟨n.toNat,by omega⟩
theorem sxSlStr_ok (h:WR w0 E H nx w){t:TypeId}(ht:P.underlying t=some .string){s:X}{vx:Value}{lo hi:Option V}{LO HI:Option Value}(hx:VR E (.x s) vx)(hlo:OVR E lo LO)(hhi:OVR E hi HI) :
  VG w0 E H nx w ((Instr.sliceAt t vx LO HI none).run P w) (sxSlStr s lo hi):=by
 obtain⟨h1,h2⟩:=hx.x_inv
 unfold sxSlStr
 refine cnd_VG (fun hk=>?_) 316
 have hk:=kdStr_eq hk
 rw[hk] at h2
 obtain⟨sv,rfl,e1,hs⟩:=h2.str_inv
 cases ha:bndX (.int .i64 0) lo with
 |none=>trivial
 |some a=>
  cases hb:bndX (.len s) hi with
  |none=>trivial
  |some b=>
   simp only
   refine yesX_ok h fun hr=>?_
   obtain⟨a1,n,a2,a3⟩:=bndX_ok hlo (d:=.int .i64 0) trivial rfl (m:=0) rfl ha
   have hl:Cl.hd ((X.len s).den E)=.int (sv.size:Int):=by show lenC _=_;rw[e1];rfl
   obtain⟨b1,m,b2,b3⟩:=bndX_ok hhi (d:=.len s) h1 rfl hl hb
   have hr':rngD (Cl.hd (a.den E)) (Cl.hd (b.den E)) (Cl.hd ((X.len s).den E))=.bool true:=hr
   obtain⟨x1,x2,x3,y1,y2,y3,z1,z2,z3⟩:=rng_inv hr'
   rw[a2] at y1;cases y1
   rw[b2] at y2;cases y2
   rw[hl] at y3;cases y3
   obtain⟨n,rfl⟩:=nat_of z1
   obtain⟨m,rfl⟩:=nat_of (Int.le_trans z1 z2)
   have hnm:n≤m:=by omega
   have hms:m≤sv.size:=by omega
   refine VG.x (t:=.sub s a b) (x:=.string (sv.extract n m)) ?_ ⟨h1,a1,b1⟩ ?_
   ·have hb:=bounds2_ok (P:=P) (w:=w) false (len:=sv.size) (cap:=sv.size) (a:=n) (h:=m) (hi:=HI) (lo:=LO)
     (by rcases b3 with⟨q1,q2⟩|⟨kk,q⟩;exact .inl ⟨q1,by omega⟩;exact .inr ⟨kk,q⟩) (by rcases a3 with⟨q1,q2⟩|⟨kk,q⟩;exact .inl ⟨q1,by omega⟩;exact .inr ⟨kk,q⟩) hnm hms
    simp[Instr.sliceAt,Instr.slice,run_underlying ht,hb]
   ·show CR E.fz .str _ (subD (Cl.hd (s.den E)) (Cl.hd (a.den E)) (Cl.hd (b.den E)))
    rw[e1,a2,b2]
    have:=CR.str (F:=E.fz) (sv.extract n m) (Nat.le_trans (show (sv.extract n m).size≤sv.size by simp[ByteArray.size_extract];omega) hs)
    rw[Lib.extract_data] at this
    simpa[subD] using this
theorem CR.sl_inv {F:Nat→Nat→Value→Prop}{e:TypeId}{vx:Value}{c:Cl}(h:CR F (.sl e) vx c):(vx=.slice none 0 0∧c=.sl true [])∨
  (∃ blk off cap rows,vx=.slice (some ⟨blk,off,none⟩) rows.length cap∧c=.sl false rows∧rows.length≤cap∧cap≤maxLen)∨∃ a,vx=.slice (some a) 0 0∧c=.sl false []:=by
 cases h with
 |nil=>exact .inl ⟨rfl,rfl⟩
 |e0 _ a=>exact .inr (.inr ⟨a,rfl,rfl⟩)
 |sl _ blk off len cap rows vs a1 a2 a3=>subst a1;exact .inr (.inl ⟨blk,off,cap,rows,rfl,rfl,a2,a3⟩)
theorem CR.sl_open {F:Nat→Nat→Value→Prop}{e:TypeId}{blk off len cap:Nat}{c:Cl}(h:CR F (.sl e) (.slice (some ⟨blk,off,none⟩) len cap) c):∃ rows,∃ vs:Nat→Nat→Value,c=.sl false rows∧rows.length=len∧len≤cap∧cap≤maxLen∧
  (∀ (i:Nat)(r:List Cl),rows[i]? = some r→r.length=(Sx.row e).length)∧(∀ (i:Nat)(r:List Cl)(j:Nat)(c:Cl),rows[i]? = some r→r[j]? = some c→F blk (off+i*(Sx.row e).length+j) (vs i j))∧
  ∀ (i:Nat)(r:List Cl)(j:Nat)(c:Cl)(k:Kd),rows[i]? = some r→r[j]? = some c→(Sx.row e)[j]? = some k→CR F k (vs i j) c:=by
 cases h with
 |sl _ _ _ _ _ rows vs a1 a2 a3 a4 a5 a6=>exact⟨rows,vs,rfl,a1,a2,a3,a4,a5,a6⟩
 |e0=>exact⟨[],fun _ _=>undef,rfl,rfl,Nat.le_refl _,Nat.zero_le _,fun i r h=>by simp at h,fun i r j c h=>by simp at h,fun i r j c k h=>by simp at h⟩
theorem cut_cr {F:Nat→Nat→Value→Prop}{e:TypeId}{blk off cap:Nat}{rows:List (List Cl)}(h:CR F (.sl e) (.slice (some ⟨blk,off,none⟩) rows.length cap) (.sl false rows)){n m:Nat}(hnm:n≤m)(hm:m≤rows.length){off':Nat}
  (ho:n<m→off'=off+n*(Sx.row e).length):CR F (.sl e) (.slice (some ⟨blk,off',none⟩) (m-n) (cap-n)) (.sl false ((rows.drop n).take (m-n))):=by
 obtain⟨rows',vs,e1,a1,a2,a3,a4,a5,a6⟩:=h.sl_open
 cases e1
 ·have hg:∀ (i:Nat)(r:List Cl),((rows.drop n).take (m-n))[i]? = some r→i<m-n∧rows[n+i]? = some r:=by
   intro i r hr
   rw[List.getElem?_take] at hr
   split at hr
   ·rename_i hi;rw[List.getElem?_drop] at hr;exact⟨hi,hr⟩
   ·cases hr
  refine .sl e blk off' (m-n) (cap-n) _ (fun i j=>vs (n+i) j) (by simp;omega) (by omega) (by omega) (fun i r hr=>a4 _ r (hg i r hr).2) (fun i r j c hr hc=>?_) (fun i r j c k hr hc hk=>a6 _ r j c k (hg i r hr).2 hc hk)
  obtain⟨hi,hr⟩:=hg i r hr
  have:=a5 _ r j c hr hc
  rw[ho (by omega)]
  rwa [Nat.add_mul,← Nat.add_assoc] at this
theorem sxSlSl_ok (h:WR w0 E H nx w){t e:TypeId}{i:TypeInfo}(ht:P.underlying t=some (.slice e))(hi:P.info? e=some i){s:X}{vx:Value}{lo hi' mx:Option V}{LO HI MX:Option Value}(hx:VR E (.x s) vx)
  (hlo:OVR E lo LO)(hhi:OVR E hi' HI)(hmx:OVR E mx MX):VG w0 E H nx w ((Instr.sliceAt t vx LO HI MX).run P w) (sxSlSl i.size s lo hi' mx):=by
 have hsz:=fun w=>run_sizeOf (P:=P) (w:=w) hi
 obtain⟨h1,h2⟩:=hx.x_inv
 unfold sxSlSl
 cases hk:kdS s.kd with
 |none=>trivial
 |some e'=>
  cases mx with
  |some m=>trivial
  |none=>
   obtain rfl:=hmx.2 rfl
   simp only
   refine cnd_VG (fun hes=>?_) 317
   have hes:=Nat.eq_of_beq_eq_true hes
   have hk:=kdS_eq hk
   rw[hk] at h2
   cases ha:bndX (.int .i64 0) lo with
   |none=>trivial
   |some a=>
    cases hb:bndX (.len s) hi' with
    |none=>trivial
    |some b=>
     simp only
     refine yesX_ok h fun hr=>?_
     have hr':rngD (Cl.hd (a.den E)) (Cl.hd (b.den E)) (lenC (Cl.hd (s.den E)))=.bool true:=hr
     obtain⟨a1,n,a2,a3⟩:=bndX_ok hlo (d:=.int .i64 0) trivial rfl (m:=0) rfl ha
     obtain⟨x1,x2,x3,y1,y2,y3,z1,z2,z3⟩:=rng_inv hr'
     have hl:Cl.hd ((X.len s).den E)=.int x3:=y3
     obtain⟨b1,m,b2,b3⟩:=bndX_ok hhi (d:=.len s) h1 rfl hl hb
     rw[a2] at y1;cases y1
     rw[b2] at y2;cases y2
     obtain⟨n,rfl⟩:=nat_of z1
     obtain⟨m,rfl⟩:=nat_of (Int.le_trans z1 z2)
     have hnm:n≤m:=by omega
     rcases h2.sl_inv with⟨rfl,hc⟩|⟨blk,off,cap,rows,rfl,hc,r1,r2⟩|⟨ad,rfl,hc⟩
     ·rw[hc] at y3
      have hx3:x3=0:=by cases y3;rfl
      have hm0:m=0:=by omega
      have hn0:n=0:=by omega
      subst hm0;subst hn0
      refine VG.x (t:=.cut s a b) (x:=.slice none 0 0) ?_ ⟨h1,a1,b1⟩ ?_
      ·have hb:=bounds2_ok (P:=P) (w:=w) true (len:=0) (cap:=0) (a:=0) (h:=0) (hi:=HI) (lo:=LO)
        (by rcases b3 with⟨q1,q2⟩|⟨kk,q⟩;exact .inl ⟨q1,rfl⟩;exact .inr ⟨kk,q⟩) (by rcases a3 with⟨q1,q2⟩|⟨kk,q⟩;exact .inl ⟨q1,rfl⟩;exact .inr ⟨kk,q⟩) (Nat.le_refl _) (Nat.le_refl _)
       simp[Instr.sliceAt,Instr.slice,run_underlying ht,hb,hsz]
      ·show CR E.fz s.kd _ (cutD (Cl.hd (s.den E)) (Cl.hd (a.den E)) (Cl.hd (b.den E)))
       rw[hc,a2,b2,hk];exact .nil e'
     ·have hx3:x3=rows.length:=by rw[hc] at y3;cases y3;rfl
      have hmr:m≤rows.length:=by omega
      have hb:=bounds2_ok (P:=P) (w:=w) true (len:=rows.length) (cap:=cap) (a:=n) (h:=m) (hi:=HI) (lo:=LO)
       (by rcases b3 with⟨q1,q2⟩|⟨kk,q⟩;exact .inl ⟨q1,by omega⟩;exact .inr ⟨kk,q⟩) (by rcases a3 with⟨q1,q2⟩|⟨kk,q⟩;exact .inl ⟨q1,by omega⟩;exact .inr ⟨kk,q⟩) hnm (Nat.le_trans hmr r1)
      rw[hc] at h2
      refine VG.x (t:=.cut s a b) (x:=.slice (some ⟨blk,if cap=n then off else off+n*i.size,none⟩) (m-n) (cap-n)) ?_ ⟨h1,a1,b1⟩ ?_
      ·simp[Instr.sliceAt,Instr.slice,run_underlying ht,hb,hsz]
       have hadd:=add_add ⟨blk,off,0,undef,noOb,[]⟩ 0 (n*i.size)
       simp only[Nat.add_zero,Nat.zero_add] at hadd
       split<;>simp_all
      ·show CR E.fz s.kd _ (cutD (Cl.hd (s.den E)) (Cl.hd (a.den E)) (Cl.hd (b.den E)))
       rw[hc,a2,b2,hk]
       have:=cut_cr h2 hnm hmr (off':=if cap=n then off else off+n*i.size) (fun hlt=>by rw[if_neg (by omega),hes])
       simpa[cutD] using this
     ·rw[hc] at y3
      have hx3:x3=0:=by cases y3;rfl
      have hm0:m=0:=by omega
      have hn0:n=0:=by omega
      subst hm0;subst hn0
      refine VG.x (t:=.cut s a b) (x:=.slice (some ad) 0 0) ?_ ⟨h1,a1,b1⟩ ?_
      ·have hb:=bounds2_ok (P:=P) (w:=w) true (len:=0) (cap:=0) (a:=0) (h:=0) (hi:=HI) (lo:=LO)
        (by rcases b3 with⟨q1,q2⟩|⟨kk,q⟩;exact .inl ⟨q1,rfl⟩;exact .inr ⟨kk,q⟩) (by rcases a3 with⟨q1,q2⟩|⟨kk,q⟩;exact .inl ⟨q1,rfl⟩;exact .inr ⟨kk,q⟩) (Nat.le_refl _) (Nat.le_refl _)
       simp[Instr.sliceAt,Instr.slice,run_underlying ht,hb,hsz]
      ·show CR E.fz s.kd _ (cutD (Cl.hd (s.den E)) (Cl.hd (a.den E)) (Cl.hd (b.den E)))
       rw[hc,a2,b2,hk];exact .e0 e' ad
theorem sxIdx_ok (h:WR w0 E H nx w){t e:TypeId}{ie:TypeInfo}(ht:P.underlying t=some (.slice e))(hi:P.info? e=some ie){s:X}{iv:V}{vx vy:Value}(hx:VR E (.x s) vx)(hy:VR E iv vy) :
  VG w0 E H nx w ((Instr.indexAt t vx vy).run P w) (sxIdx ie.size s iv):=by
 have hsz:=fun w=>run_sizeOf (P:=P) (w:=w) hi
 obtain⟨h1,h2⟩:=hx.x_inv
 unfold sxIdx
 cases hk:kdS s.kd with
 |none=>trivial
 |some e'=>
  cases hti:toX iv with
  |none=>trivial
  |some u=>
   simp only
   obtain⟨u1,u2⟩:=toX_ok hy hti
   cases hku:kdI u.kd with
   |none=>trivial
   |some ku=>
    simp only
    refine cnd_VG (fun hes=>yesX_ok h fun hr=>?_) 318
    have hes:=Nat.eq_of_beq_eq_true hes
    have hk:=kdS_eq hk
    rw[hk] at h2
    rw[kdI_eq hku] at u2
    obtain⟨n,rfl,e2,_⟩:=u2.int_inv
    have hr':inrD (Cl.hd (u.den E)) (lenC (Cl.hd (s.den E)))=.bool true:=hr
    obtain⟨i,m,y1,y2,z1,z2⟩:=inr_inv hr'
    rw[e2] at y1;cases y1
    obtain⟨n,rfl⟩:=nat_of z1
    rcases h2.sl_inv with⟨rfl,hc⟩|⟨blk,off,cap,rows,rfl,hc,r1,r2⟩|⟨ad,rfl,hc⟩
    ·rw[hc] at y2;cases y2;simp at z2;omega
    rotate_left
    ·rw[hc] at y2;cases y2;simp at z2;omega
    ·rw[hc] at y2;cases y2
     have hlt:n<rows.length:=by omega
     rw[hc] at h2
     refine⟨.pointer (some ⟨blk,off+n*ie.size,none⟩),?_,?_⟩
     ·have hadd:=add_add ⟨blk,off,0,undef,noOb,[]⟩ 0 (n*ie.size)
      simp only[Nat.add_zero,Nat.zero_add] at hadd
      simp[Instr.indexAt,asIntOf,run_underlying ht,hsz,hlt,hadd]
     ·have:=VR.xa (E:=E) s u 0 e' blk off rows.length cap n rows h1 u1 hk h2 hc e2 hlt
      rw[hes];simpa using this
theorem sxIdxStr_ok (h:WR w0 E H nx w){t:TypeId}(ht:P.underlying t=some .string){s:X}{iv:V}{vx vy:Value}(hx:VR E (.x s) vx)(hy:VR E iv vy) :
  VG w0 E H nx w ((Instr.index t vx vy).run P w) (sxIdxStr s iv):=by
 obtain⟨h1,h2⟩:=hx.x_inv
 unfold sxIdxStr
 cases hti:toX iv with
 |none=>trivial
 |some u=>
  simp only
  obtain⟨u1,u2⟩:=toX_ok hy hti
  cases hku:kdI u.kd with
  |none=>trivial
  |some ku=>
   simp only
   refine cnd_VG (fun hes=>yesX_ok h fun hr=>?_) 319
   have hk:=kdStr_eq hes
   rw[hk] at h2
   rw[kdI_eq hku] at u2
   obtain⟨n,rfl,e2,_⟩:=u2.int_inv
   obtain⟨sv,rfl,e1,hs⟩:=h2.str_inv
   have hr':inrD (Cl.hd (u.den E)) (lenC (Cl.hd (s.den E)))=.bool true:=hr
   obtain⟨i,m,y1,y2,z1,z2⟩:=inr_inv hr'
   rw[e2] at y1;cases y1
   obtain⟨n,rfl⟩:=nat_of z1
   rw[e1] at y2;cases y2
   have hlt:n<sv.size:=by simp at z2;exact z2
   have hg:sv[n]? = some sv.data.toList[n]:=by
    rw[getElem?_pos sv n hlt];rfl
   refine VG.x (t:=.atx s u) (x:=.int .u8 (sv.data.toList[n].toNat:Int)) ?_ ⟨h1,u1⟩ ?_
   ·simp[Instr.index,asIntOf,run_underlying ht,hg]
   ·show CR E.fz (.int .u8) _ (atD (Cl.hd (s.den E)) (Cl.hd (u.den E)))
    rw[e1,e2]
    have hb:=(sv.data.toList[n]).toNat_lt
    generalize hq:sv.data.toList[n]=q at hb ⊢
    have e3:atD (.str sv.data.toList) (.int (n:Int))=.int (q.toNat:Int):=by rw[← hq];simp[atD,List.getD,hlt]
    rw[e3]
    exact .int _ _ (by simp[IntKind.min,IntKind.signed]) (by simp[IntKind.max,IntKind.signed,IntKind.bits];omega)
theorem nthK_get:∀ (l:List Kd)(i:Nat)(k:Kd),nthK l i=some k→l[i]? = some k
 |[],_,_,h=>by cases h
 |_::_,0,_,h=>h
 |_::r,i+1,k,h=>nthK_get r i k h
theorem el_ok {s i:X}{j:Nat}{blk off len cap n:Nat}{rows:List (List Cl)}{e:TypeId}(h1:s.ok E)(h2:i.ok E)(hc:CR E.fz (.sl e) (.slice (some ⟨blk,off,none⟩) len cap) (.sl false rows))
  (hs:Cl.hd (s.den E)=.sl false rows)(hi:Cl.hd (i.den E)=.int (n:Int))(hn:n<len){k:Kd}(hk:(Sx.row e)[j]? = some k):∃ v,E.fz blk (off+n*(Sx.row e).length+j) v∧VR E (.x (.el s i j k)) v:=by
 obtain⟨rows',vs,e1,a1,a2,a3,a4,a5,a6⟩:=hc.sl_open
 cases e1
 ·have hr:rows[n]? = some rows[n]:=by simp[a1,hn]
  have hl:=a4 n _ hr
  have hj:=(List.getElem?_eq_some_iff.1 hk).1
  have hcj:rows[n][j]? = some rows[n][j]:=by simp[hl,hj]
  refine⟨vs n j,a5 n _ j _ hr hcj,.x _ _ ⟨h1,h2⟩ ?_⟩
  show CR E.fz k _ (elD (Cl.hd (s.den E)) (Cl.hd (i.den E)) j)
  rw[hs,hi]
  have:=a6 n _ j _ k hr hcj hk
  simpa[elD,List.getD,hr,hcj] using this
theorem sxLd1_ok (h:WR w0 E H nx w){t:TypeId}(ha:∀ w,(isAgg t).run P w=.ok false w){s i:X}{j:Nat}{vx:Value}(hv:VR E (.xa s i j) vx):VG w0 E H nx w ((Instr.loadAt t vx).run P w) (sxLd1 s i j):=by
 cases hv with
 |xa _ _ _ e blk off len cap n rows h1 h2 h3 h4 h5 h6 h7=>
  unfold sxLd1
  rw[h3]
  simp only[kdS]
  cases hk:nthK (Sx.row e) j with
  |none=>trivial
  |some k=>
   obtain⟨v,hf,hv⟩:=el_ok h1 h2 h4 h5 h6 h7 (nthK_get _ _ _ hk)
   refine⟨v,?_,hv⟩
   simp[Instr.loadAt,Instr.sureAddr,loadVar,ha,fz_cell h hf]
theorem elsX_ok {s i:X}{blk off len cap n:Nat}{rows:List (List Cl)}{e:TypeId}(h1:s.ok E)(h2:i.ok E)(hc:CR E.fz (.sl e) (.slice (some ⟨blk,off,none⟩) len cap) (.sl false rows))
  (hs:Cl.hd (s.den E)=.sl false rows)(hi:Cl.hd (i.den E)=.int (n:Int))(hn:n<len):∀ (m j:Nat)(l:List V),elsX s i j (Sx.row e) m=some l→∃ xs:List Value,xs.length=m∧VRs E l xs∧∀ (q:Nat) v,xs[q]? = some v→E.fz blk (off+n*(Sx.row e).length+(j+q)) v
 |0,j,l,h=>by simp only[elsX,Option.some.injEq] at h;subst h;exact⟨[],rfl,.nil,fun q v hq=>by simp at hq⟩
 |m+1,j,l,h=>by
  simp only[elsX] at h
  cases hk:nthK (Sx.row e) j with
  |none=>rw[hk] at h;cases h
  |some k=>
   cases hr:elsX s i (Nat.succ j) (Sx.row e) m with
   |none=>rw[hk,hr] at h;cases h
   |some l'=>
    rw[hk,hr] at h;simp only[Option.some.injEq] at h;subst h
    obtain⟨v,hf,hv⟩:=el_ok h1 h2 hc hs hi hn (nthK_get _ _ _ hk)
    obtain⟨xs,x1,x2,x3⟩:=elsX_ok h1 h2 hc hs hi hn m (j+1) l' hr
    refine⟨v::xs,by simp[x1],.cons _ _ _ _ hv x2,fun q u hq=>?_⟩
    cases q with
    |zero=>simp at hq;subst hq;exact hf
    |succ q=>
     have:=x3 q u (by simpa using hq)
     rwa [show j+1+q=j+(q+1) from by omega] at this
theorem sxLdN_ok (h:WR w0 E H nx w){t:TypeId}{ti:TypeInfo}(ha:∀ w,(isAgg t).run P w=.ok true w)(hi:P.info? t=some ti){s i:X}{j:Nat}{vx:Value}(hv:VR E (.xa s i j) vx) :
  VG w0 E H nx w ((Instr.loadAt t vx).run P w) (sxLdN ti.size s i j):=by
 cases hv with
 |xa _ _ _ e blk off len cap n rows h1 h2 h3 h4 h5 h6 h7=>
  unfold sxLdN
  rw[h3]
  simp only[kdS]
  cases hk:elsX s i j (Sx.row e) ti.size with
  |none=>trivial
  |some l=>
   obtain⟨xs,x1,x2,x3⟩:=elsX_ok h1 h2 h4 h5 h6 h7 _ _ _ hk
   refine⟨.agg xs.toArray,?_,.agg _ _ x2⟩
   have hld:=run_loadCells_list (P:=P) w ⟨blk,off+n*(Sx.row e).length+j,none⟩ xs fun q v hq=>by
    have hadd:=add_add ⟨blk,off+n*(Sx.row e).length+j,0,undef,noOb,[]⟩ 0 q
    simp only[Nat.add_zero,Nat.zero_add] at hadd
    rw[hadd,Nat.add_assoc];exact fz_cell h (x3 q v hq)
   rw[x1] at hld
   simp[Instr.loadAt,Instr.sureAddr,loadVar,ha,run_sizeOf hi,hld]
theorem sxFaddr_ok {t:TypeId}{fs:Array Field}{f:Nat}{fd:Field}{i:TypeInfo}(ht:P.underlying t=some (.struct fs))(hf:fs[f]? = some fd)(hi:P.info? fd.type=some i)(hz:i.size≠0)
  {s ix:X}{j:Nat}{vx:Value}(hx:VR E (.xa s ix j) vx):VG w0 E H nx w ((Instr.fieldAt t vx f).run P w) (.val (.xa s ix (Nat.add j fd.offset))):=by
 have hsz:=fun w=>run_sizeOf (P:=P) (w:=w) hi
 cases hx with
 |xa _ _ _ e blk off len cap n rows h1 h2 h3 h4 h5 h6 h7=>
  refine⟨.pointer (some ⟨blk,off+n*(Sx.row e).length+(j+fd.offset),none⟩),?_,.xa _ _ _ e blk off len cap n rows h1 h2 h3 h4 h5 h6 h7⟩
  have hadd:=add_add ⟨blk,off+n*(Sx.row e).length+j,0,undef,noOb,[]⟩ 0 fd.offset
  simp only[Nat.add_zero,Nat.zero_add] at hadd
  simp[Instr.fieldAt,Instr.sureAddr,fieldPlace,run_underlying ht,hf,hsz,hz,hadd]
theorem sxMax_ok (h:WR w0 E H nx w){x y:V}{vx vy:Value}{ts:Array TypeId}{t:TypeId}(hx:VR E x vx)(hy:VR E y vy):VG w0 E H nx w ((Builtin.max_ ts t #[vx,vy]).run P w) (sxMax x y):=by
 unfold sxMax
 cases hax:toX x with
 |none=>trivial
 |some a=>
  cases hay:toX y with
  |none=>trivial
  |some b=>
   obtain⟨a1,a2⟩:=toX_ok hx hax
   obtain⟨b1,b2⟩:=toX_ok hy hay
   simp only
   cases hka:kdI a.kd with
   |none=>trivial
   |some k=>
    cases hkb:kdI b.kd with
    |none=>trivial
    |some k'=>
     simp only
     refine cnd_VG (fun hk=>?_) 322
     obtain rfl:=eqKd hk
     cases hd:Dc.dec (.bin .lss a b) with
     |none=>trivial
     |some d=>
      simp only
      obtain⟨_,hd⟩:=dec_ok h hd
      have hd':binD .lss a.kd (Cl.hd (a.den E)) (Cl.hd (b.den E))=.bool d:=hd
      rw[kdI_eq hka] at a2
      rw[kdI_eq hkb] at b2
      obtain⟨n,rfl,e1,_⟩:=a2.int_inv
      obtain⟨m,rfl,e2,_⟩:=b2.int_inv
      rw[kdI_eq hka,e1,e2] at hd'
      simp only[binD,intD,Cl.bool.injEq] at hd'
      refine⟨.int k (if m > n then m else n),by simp[Builtin.max_,Builtin.max2],?_⟩
      subst hd'
      by_cases hlt:n<m
      ·rw[if_pos hlt];simp only[hlt,decide_true,cond_true];exact hy
      ·rw[if_neg hlt];simp only[hlt,decide_false,cond_false];exact hx
theorem sxCmp_ok {f:FuncId}{fn:Func}(hf:P.funcs[f]? = some fn)(hb:fn.body=none)(hn:fn.name = "internal/bytealg.abigen_runtime_cmpstring")(ho:fn.origin = "" ∨ fn.origin = "internal/bytealg.abigen_runtime_cmpstring")
  {x y:V}{vx vy:Value}(hx:VR E x vx)(hy:VR E y vy):Good P w0 E H nx w ((callFunc f #[vx,vy]).run P w) (sxCmp x y):=by
 have hrun:=fun args=>run_callFunc_extern (P:=P) hf (by rw[hn];rfl) (by rw[hb];rfl) (findNextCmp fn hn ho) (findCmp fn hn) args w
 rw[hrun]
 unfold sxCmp
 cases hax:toX x with
 |none=>trivial
 |some a=>
  cases hay:toX y with
  |none=>trivial
  |some b=>
   obtain⟨a1,a2⟩:=toX_ok hx hax
   obtain⟨b1,b2⟩:=toX_ok hy hay
   simp only
   cases hk:(kdStr a.kd&&kdStr b.kd) with
   |false=>trivial
   |true=>
    simp only[Bool.and_eq_true] at hk
    rw[kdStr_eq hk.1] at a2
    rw[kdStr_eq hk.2] at b2
    obtain⟨s,rfl,e1,_⟩:=a2.str_inv
    obtain⟨s',rfl,e2,_⟩:=b2.str_inv
    refine⟨.value (.int .i64 (Lib.compareBytes s.data.toList s'.data.toList)),_,?_,rfl,?_⟩
    ·rw[Lib.run_compareString];rfl
    ·refine .x _ _ ⟨a1,b1⟩ ?_
     show CR E.fz (.int .i64) _ (cmpD (Cl.hd (a.den E)) (Cl.hd (b.den E)))
     rw[e1,e2,← cmpB_eq]
     have hb:∀ l l':List UInt8,cmpB l l' = -1∨cmpB l l'=0∨cmpB l l'=1:=by
      intro l
      induction l with
      |nil=>intro l';cases l'<;>simp[cmpB]
      |cons a r ih=>
       intro l'
       cases l' with
       |nil=>exact .inr (.inr rfl)
       |cons b s=>
        simp only[cmpB]
        cases Nat.ble (Nat.succ a.toNat) b.toNat with
        |true=>exact .inl rfl
        |false=>cases Nat.ble (Nat.succ b.toNat) a.toNat with
         |true=>exact .inr (.inr rfl)
         |false=>exact ih s
     have:=hb s.data.toList s'.data.toList
     exact .int _ _ (by simp[IntKind.min,IntKind.signed,IntKind.bits];omega) (by simp[IntKind.max,IntKind.signed,IntKind.bits];omega)
theorem sxPick_ok (h:WR w0 E H nx w){t:X}{a b:V}{vc va vb:Value}(hc:VR E (.x t) vc)(ha:VR E a va)(hb:VR E b vb):VG w0 E H nx w ((do pure (if ← asBool vc then va else vb):Sem Value).run P w) (sxPick t a b):=by
 unfold sxPick
 obtain⟨h1,h2⟩:=hc.x_inv
 cases hd:Dc.dec t with
 |none=>trivial
 |some d=>
  simp only
  obtain⟨_,hd⟩:=dec_ok h hd
  rw[hd] at h2
  have hv:vc=.bool d:=by
   generalize t.kd=k at h2
   cases h2;rfl
  subst hv
  cases d
  ·exact VG.val (by simp[asBool]) hb
  ·exact VG.val (by simp[asBool]) ha
end
end Go.Exo

namespace Go.Exo
set_option linter.unusedSectionVars false
variable [Sx] [Dc]
section
variable {P:Program}{w0:Bs}{E:Env}{H:T AObj}{nx:Nat}{w w':World}
theorem WR.grown (h:WR w0 E H nx w){l:Nat}{p:Pl}{e:TypeId}(hl:E l=some p)(hobj:getH H l=.own e)(q:Pl)(hsz:w.heap.size≤w'.heap.size)
  (hoth:∀ b,b<w.heap.size→b≠p.blk→w'.heap[b]? = w.heap[b]?)(hself:∀ o v,o<p.base→w.cell? ⟨p.blk,o,none⟩=some v→w'.cell? ⟨p.blk,o,none⟩=some v)
  (hos:w'.os=w.os)(hout:w'.output=w.output)(htape:w'.tape=w.tape)(hq:(q.blk=p.blk∧p.base≤q.base)∨(w.heap.size≤q.blk∧q.blk<w'.heap.size))
  (hobq:∃ c,w'.heap[q.blk]? = some (.cells c e (0,0))∧q.base+q.size≤c.size)(hfz:∀ b o v,q.ob.fz b o=some v→b=q.blk∧o<q.base∧w'.cell? ⟨b,o,none⟩=some v) :
  WR w0 (E.set nx q) (put .no (put .no H l .no) nx (.own e)) (nx+1) w':=by
 have hno:=h.fresh nx (Nat.le_refl _)
 have hlt:l<nx:=Nat.lt_of_not_le fun hh=>by rw[(h.fresh l hh).1] at hl;cases hl
 have hle:E.le (E.set nx q):=Env.le_set _ hno.1
 have hE:∀ k r,(E.set nx q) k=some r→(k=nx∧r=q)∨(k≠nx∧E k=some r):=by
  intro k r hk
  by_cases e:k=nx
  ·subst e;rw[Env.set_self] at hk;cases hk;exact .inl ⟨rfl,rfl⟩
  ·rw[Env.set_other _ _ _ _ e] at hk;exact .inr ⟨e,hk⟩
 have hnx:getH (put .no (put .no H l .no) nx (.own e)) nx=.own e:=by rw[getH_put,if_pos rfl]
 have hL:getH (put .no (put .no H l .no) nx (.own e)) l=.no:=by rw[getH_put,if_neg (by omega),getH_put,if_pos rfl]
 have hget:∀ k,k≠nx→k≠l→getH (put .no (put .no H l .no) nx (.own e)) k=getH H k:=fun k a b=>by rw[getH_put,if_neg a,getH_put,if_neg b]
 generalize put .no (put .no H l .no) nx (.own e)=H' at *
 have hpb:p.blk<w.heap.size:=(h.own l p hl).1
 have hpo:¬ w0.old p.blk:=by
  rcases (h.own l p hl).2 with g|g|g
  ·rw[hobj] at g;cases g
  ·rw[hobj] at g;cases g
  ·exact g
 have hqo:¬ w0.old q.blk:=by
  rcases hq with⟨e1,_⟩|⟨e1,_⟩
  ·rw[e1];exact hpo
  ·exact h.not_old e1
 have hal:∀ k r,k≠nx→E k=some r→r.blk=q.blk→getH H' k=.no:=by
  intro k r hk hr hb
  by_cases e2:k=l
  ·subst e2;exact hL
  rcases hq with⟨e1,_⟩|⟨e1,_⟩
  ·rw[hget k hk e2]
   rcases h.sep k l r p e2 hr hl (by rw[hb,e1]) with (g|g|g)|g
   ·exact g
   ·rw[hobj] at g;cases g
   ·rw[hobj] at g;exact absurd g.2.1 g.1
   ·rw[hobj] at g;cases g.2
  ·have:=(h.own k r hr).1;omega
 have hcl:∀ k,clsOf (getH H k)≠0→clsOf (getH H k)≠l∧clsOf (getH H k)≠nx:=fun k hk=>by
  obtain⟨a,b,c,h1,_⟩:=h.cls k hk
  exact⟨fun e=>(by rw[e,hobj] at h1;cases h1),fun e=>(by rw[e,hno.2] at h1;cases h1)⟩
 refine⟨fun k r hk=>?_,fun k hk=>?_,fun k k' r r' hne hk hk' hb=>?_,fun k hk=>?_,fun k r hk=>?_,fun b hb=>?_,Nat.le_trans h.size hsz,hos.trans h.os,hout.trans h.output,htape.trans h.tape,h.le.trans hle,fun k r hk b o v hf=>?_,h.dec,fun k r hk b o v hf ho=>?_⟩
 ·rcases hE k r hk with⟨rfl,rfl⟩|⟨hne,hk⟩
  ·rw[hnx];exact hobq
  ·by_cases e2:k=l
   ·subst e2;rw[hL];trivial
   ·rw[hget k hne e2]
    by_cases hb:r.blk=p.blk
    ·rcases h.sep k l r p e2 hk hl hb with (g|g|g)|g
     ·rw[g];trivial
     ·rw[hobj] at g;cases g
     ·rw[hobj] at g;exact absurd g.2.1 g.1
     ·rw[hobj] at g;cases g.2
    ·rw[hoth _ (h.own k r hk).1 hb]
     exact (h.objs k r hk).trans hle fun pos ho=>ho.same fun hc0=>by
      obtain⟨a,b⟩:=hcl k hc0
      exact hget _ b a
 ·have:=h.fresh k (by omega)
  exact⟨by rw[Env.set_other _ _ _ _ (by omega)];exact this.1,by rw[hget k (by omega) (by omega)];exact this.2⟩
 ·rcases hE k r hk with⟨e1,e1'⟩|⟨hn1,hk1⟩
  ·rcases hE k' r' hk' with⟨e2,_⟩|⟨hn2,hk2⟩
   ·exact absurd (e1.trans e2.symm) hne
   ·exact .inl (.inr (.inl (hal k' r' hn2 hk2 (by rw[← hb,e1']))))
  ·rcases hE k' r' hk' with⟨e2,e2'⟩|⟨hn2,hk2⟩
   ·exact .inl (.inl (hal k r hn1 hk1 (by rw[hb,e2'])))
   ·by_cases e1:k=l
    ·subst e1;exact .inl (.inl hL)
    by_cases e2:k'=l
    ·subst e2;exact .inl (.inr (.inl hL))
    rw[hget k hn1 e1,hget k' hn2 e2]
    exact h.sep k k' r r' hne hk1 hk2 hb
 ·by_cases e1:k=nx
  ·subst e1;rw[hnx] at hk;exact absurd rfl hk
  by_cases e2:k=l
  ·subst e2;rw[hL] at hk;exact absurd rfl hk
  rw[hget k e1 e2] at hk ⊢
  obtain⟨a,b,c,h1,h2,h3⟩:=h.cls k hk
  obtain⟨g1,g2⟩:=hcl k hk
  exact⟨a,b,c,by rw[hget _ g2 g1];exact h1,h2,by rw[Env.set_other _ _ _ _ g2];exact h3⟩
 ·rcases hE k r hk with⟨rfl,rfl⟩|⟨hne,hk⟩
  ·refine⟨?_,.inr (.inr hqo)⟩
   rcases hq with⟨e1,_⟩|⟨_,e1⟩
   ·rw[e1];omega
   ·exact e1
  ·have:=h.own k r hk
   refine⟨by omega,?_⟩
   by_cases e2:k=l
   ·subst e2;exact .inl hL
   ·rw[hget k hne e2];exact this.2
 ·have hlo:=h.lt_old hb
  rw[hoth b hlo fun e=>hpo (e ▸ hb)];exact h.old b hb
 ·rcases hE k r hk with⟨e1,e1'⟩|⟨hne,hk⟩
  ·subst e1'
   obtain⟨rfl,h2,h3⟩:=hfz b o v hf
   refine⟨h3,fun k' r' hk' hb'=>?_⟩
   rcases hE k' r' hk' with⟨e2,e2'⟩|⟨hn2,hk2⟩
   ·rw[e2,hnx,e2'];exact h2
   ·rw[hal k' r' hn2 hk2 hb'];exact .inl rfl
  ·obtain⟨h1,h2⟩:=h.dat k r hk b o v hf
   have hbl:=cell_lt h1
   have hown:b=p.blk→o<p.base:=fun e=>by
    have:=h2 l p hl e.symm
    rw[hobj] at this;exact this
   refine⟨?_,fun k' r' hk' hb'=>?_⟩
   ·by_cases e:b=p.blk
    ·have:=hown e
     subst e
     exact hself o v this h1
    ·exact (cell_heap (hoth b hbl e)).trans h1
   ·rcases hE k' r' hk' with⟨e2,e2'⟩|⟨hn2,hk2⟩
    ·rw[e2,hnx]
     show o<r'.base
     rw[e2'] at hb' ⊢
     rcases hq with⟨e1,e2⟩|⟨e1,_⟩
     ·have:=hown (by rw[← hb',e1]);omega
     ·omega
    ·by_cases e2:k'=l
     ·subst e2;rw[hL];exact .inl rfl
     ·rw[hget k' hn2 e2];exact h2 k' r' hk2 hb'
 ·rcases hE k r hk with⟨rfl,rfl⟩|⟨_,hk⟩
  ·obtain⟨rfl,_,_⟩:=hfz b o v hf
   exact absurd ho hqo
  ·exact h.fzo k r hk b o v hf ho
theorem Kd.beq_eq0 {a b:Kd}(h:Kd.beq a b=true):a=b:=by
 cases a<;>cases b<;>simp only[Kd.beq] at h<;>first|rfl|(cases h;done)|(rw[(kNum_eq _ _).1 h])|(rw[Nat.eq_of_beq_eq_true h])
theorem toXk_ok0 {k:Kd}{v:V}{x:Value}(h:VR E v x){t:X}(ht:toXk k v=some t):t.ok E∧CR E.fz k x (Cl.hd (t.den E)):=by
 have key:(match toX v with|some t=>cond (t.kd.beq k) (some t) none|none=>none)=some t→t.ok E∧CR E.fz k x (Cl.hd (t.den E)):=by
  intro ht
  cases hx:toX v with
  |none=>rw[hx] at ht;cases ht
  |some u=>
   rw[hx] at ht;simp only at ht
   cases hb:u.kd.beq k with
   |false=>rw[hb] at ht;cases ht
   |true=>
    rw[hb] at ht;simp only[cond_true,Option.some.injEq] at ht;subst ht
    obtain⟨h1,h2⟩:=toX_ok h hx
    rw[Kd.beq_eq0 hb] at h2
    exact⟨h1,h2⟩
 cases v<;>first|exact key ht|skip
 cases h
 simp only[toXk] at ht
 cases hk:kdS k with
 |none=>rw[hk] at ht;cases ht
 |some e=>rw[hk] at ht;cases ht;rw[kdS_eq hk];exact⟨trivial,.nil e⟩
def frzPl (w:World)(p:Pl)(m:Nat):Pl:=⟨p.blk,p.base+m,p.size-m,undef,{ noOb with fz:=fun b o=>if b=p.blk∧p.base≤o∧o<p.base+m then w.cell? ⟨b,o,none⟩ else none },[]⟩
theorem WR.freeze (h:WR w0 E H nx w){l:Nat}{p:Pl}(hl:E l=some p){vs:T V}{len:Nat}{e:TypeId}{rel:Nat}(hobj:getH H l=.cells vs len e 0 rel 0 false){m:Nat}(hm:m≤len) :
  WR w0 (E.set nx (frzPl w p m)) (put .no (put .no H l .no) nx (.own e)) (nx+1) w:=by
 have ho:=h.objs l p hl
 rw[hobj] at ho
 obtain⟨c,fr,h1,h2,h3,h4,h5⟩:=ho
 have hfr:fr=(0,0):=h4
 subst hfr
 have h':=h.upd l p hl (.own e) (by rw[hobj];intro hh;cases hh) (by rw[hobj];rfl) (by rw[hobj];rfl) (by rw[hobj];rfl) (by rw[hobj];rfl) rfl w (.cells c e (0,0)) rfl (fun _ _=>rfl) h1 rfl rfl rfl ⟨c,rfl,by omega⟩
 have hlt:l<nx:=Nat.lt_of_not_le fun hh=>by rw[(h.fresh l hh).1] at hl;cases hl
 have hg:=h'.grown hl (by rw[getH_put,if_pos rfl]) (frzPl w p m) (Nat.le_refl _) (fun _ _ _=>rfl) (fun _ _ _ hv=>hv) rfl rfl rfl (.inl ⟨rfl,Nat.le_add_right _ _⟩) ⟨c,h1,by show p.base+m+(p.size-m)≤c.size;omega⟩ fun b o v hf=>by
  simp only[frzPl] at hf
  split at hf
  ·rename_i hh;exact⟨hh.1,hh.2.2,hf⟩
  ·cases hf
 refine hg.congr fun k=>?_
 simp only[getH_put]
 by_cases c1:k=nx
 ·simp[c1]
 ·by_cases c2:k=l<;>simp[c1,c2]
theorem rowX_ok:∀ {ks:List Kd}{vs:List V}{xs:List Value}{a:X},VRs E vs xs→rowX ks vs=some a→a.ok E∧(a.den E).length=ks.length∧xs.length=ks.length∧
  ∀ (j:Nat) x c k,xs[j]? = some x→(a.den E)[j]? = some c→ks[j]? = some k→CR E.fz k x c
 |[],[],_,_,h,ha=>by cases h;cases ha;exact⟨trivial,rfl,rfl,fun j x c k h=>by simp at h⟩
 |[],_::_,_,_,_,ha=>by cases ha
 |_::_,[],_,_,_,ha=>by cases ha
 |k::ks,v::vs,_,a,h,ha=>by
  cases h with
  |cons _ x _ xs h1 h2=>
   simp only[rowX] at ha
   cases hb:toXk k v with
   |none=>rw[hb] at ha;cases ha
   |some t=>
    cases hc:rowX ks vs with
    |none=>rw[hb,hc] at ha;cases ha
    |some r=>
     rw[hb,hc] at ha;cases ha
     obtain⟨g1,g2,g3,g4⟩:=rowX_ok h2 hc
     obtain⟨f1,f2⟩:=toXk_ok0 h1 hb
     refine⟨⟨f1,g1⟩,by simp[X.den,g2],by simp[g3],fun j x' c k' a1 a2 a3=>?_⟩
     cases j with
     |zero=>simp[X.den] at a1 a2 a3;subst a1 a2 a3;exact f2
     |succ j=>simp[X.den] at a1 a2 a3;exact g4 j x' c k' a1 a2 a3
theorem sxAppL_ok (h:WR w0 E H nx w){t u ty e e':TypeId}{i:TypeInfo}{z:Value}(ht:P.underlying t=some (.slice e))(hu:P.underlying u=some (.slice e'))(hi:P.info? e=some i)(hz:i.zero=some z)(hzl:z.cells.size=i.size)
  {l:Nat}{tt:X}{x:V}{S X':Value}(hs:VR E (.lst l tt) S)(hx:VR E x X'):VG w0 E H nx w ((Builtin.append_ #[t,u] ty #[S,X']).run P w) (sxAppL e i.size i.bytes l tt x H nx):=by
 unfold sxAppL
 cases hobj:getH H l<;>try trivial
 rename_i e0
 cases hkd:kdS tt.kd with
 |none=>trivial
 |some e1=>
 simp only
 refine cnd_VG (fun hb=>?_) 333
 simp only[Bool.and_eq_true] at hb
 obtain⟨⟨b1,b2⟩,b3⟩:=hb
 have q1:=Nat.eq_of_beq_eq_true b1
 have q2:=Nat.eq_of_beq_eq_true b2
 have hes:=Nat.eq_of_beq_eq_true b3
 subst q1 q2
 have hkd:=kdS_eq hkd
 cases hx<;>try trivial
 rename_i k off n cp esz q c hq hn1 hn2 hn3
 by_cases hn:n=1
 case neg=>rcases n with _|_|n<;>first|trivial|exact absurd rfl hn
 subst hn
 simp only
 refine rdN_ok h hq (Q:=VG w0 E H nx w _) (fun _=>trivial) fun news xs hnl hnr hnc=>?_
 cases hrow:rowX (Sx.row e1) news with
 |none=>trivial
 |some a=>
 simp only
 refine yesX_ok h fun hroom=>?_
 simp only[setHR_eq]
 obtain⟨ra,rl,rxl,rc⟩:=rowX_ok hnr hrow
 cases hs with
 |lst _ p _ e2 o len cap hp hok hk2 hcr hbase hcap=>
 have he2:e1=e2:=by rw[hkd] at hk2;cases hk2;rfl
 subst he2
 have ho:=h.objs l p hp
 rw[hobj] at ho
 obtain⟨cc,hcc,hcs⟩:=ho
 generalize hrr:Cl.hd (tt.den E)=cr at hcr
 obtain⟨rows,vs,rfl,a1,a2,a3,a4,a5,a6⟩:=hcr.sl_open
 have hlen:len<140737488355328 / i.bytes:=by
  have h1:inrD (lenC (Cl.hd (tt.den E))) (.int (roomN i.bytes 1))=.bool true:=hroom
  rw[hrr] at h1
  simp only[lenC,inrD,roomN,Cl.bool.injEq,decide_eq_true_eq] at h1
  have h2:=h1.2
  simp only[Int.ofNat_eq_natCast] at h2
  have h3:(rows.length:Int)<((140737488355328 / i.bytes:Nat):Int):=h2
  omega
 have hlen2:140737488355328 / i.bytes≤140737488355328:=Nat.div_le_self _ _
 have hroom2:roomOk (len+1) i.bytes=true:=by
  have h9:(len+1)*i.bytes≤140737488355328:=Nat.le_trans (Nat.mul_le_mul_right _ hlen) (Nat.div_mul_le_self _ _)
  simp only[roomOk,Bool.and_eq_true,Nat.mul_eq]
  exact⟨Nat.ble_eq_true_of_le h9,Nat.ble_eq_true_of_le (by omega)⟩
 have hXR:XR P w (.slice (some ⟨q.blk,q.base+off,none⟩) 1 c) 1 i.size xs:=XR.slice (by rw[rxl,hes];omega) hnc
 have hcell:∀ (r:Nat)(rw':List Cl)(j:Nat)(d:Cl),rows[r]? = some rw'→rw'[j]? = some d→cc[o+r*(Sx.row e1).length+j]? = some (vs r j):=fun r rw' j d h1 h2=>by
  have:=fz_cell h (a5 r rw' j d h1 h2)
  simpa[World.cell?,hcc] using this
 have hno:=h.fresh nx (Nat.le_refl _)
 have hsum:(len+1)*i.size=len*i.size+i.size:=by rw[Nat.add_mul,Nat.one_mul]
 have hxl:xs.length=i.size:=by rw[rxl,hes]
 have hkeep:∀ qq:Pl,Keep E (E.set nx qq) H (put .no (put .no H l .no) nx (.own e1)) nx:=fun qq k' hk' hE' hcl'=>by
  have hne:k'≠l:=fun e=>by rw[e,hp] at hE';cases hE'
  exact⟨by rw[Env.set_other _ _ _ _ (by omega)];exact hE',by rw[getH_put,if_neg (by omega),getH_put,if_neg hne]⟩
 have hdn:Cl.hd ((X.snoc tt a).den E)=.sl false (rows++[a.den E]):=by
  show snocD (Cl.hd (tt.den E)) (a.den E)=_
  rw[hrr];rfl
 rw[hes] at hsum hxl
 by_cases hin:len+1≤cap
 ·
  have hst:=run_storeCells_any (P:=P) p.blk (o+len*(Sx.row e1).length) e1 (0,0) xs 0 cc w hcc (fun j _ h2 h3=>by simp at h3) (by rw[hxl,Nat.add_zero];have:(len+1)*(Sx.row e1).length≤cap*(Sx.row e1).length:=Nat.mul_le_mul_right _ hin;omega)
   (fun v hv=>by
    obtain⟨j,hj⟩:=List.getElem?_of_mem hv
    have hj2:j<(Sx.row e1).length:=by have:=(List.getElem?_eq_some_iff.1 hj).1;omega
    exact (rc j v _ _ hj (List.getElem?_eq_getElem (by rw[rl];exact hj2)) (List.getElem?_eq_getElem hj2)).one.2)
  simp only[Nat.add_zero] at hst
  generalize hc':(cc.toList.take (o+len*(Sx.row e1).length)++xs++cc.toList.drop (o+len*(Sx.row e1).length+xs.length)).toArray=c' at hst
  have hmul:(len+1)*(Sx.row e1).length≤cap*(Sx.row e1).length:=Nat.mul_le_mul_right _ hin
  have hcsz:c'.size=cc.size:=by rw[← hc'];simp;omega
  have hcg:∀ j,c'[j]? = if p.base≤j∧j<p.base+(Sx.row e1).length then xs[j-p.base]? else cc[j]? := by
   intro j
   rw[← hc']
   simp only[List.getElem?_toArray]
   by_cases c1:j<p.base
   ·rw[if_neg (by omega),List.append_assoc,List.getElem?_append_left (by simp;omega),List.getElem?_take,if_pos (by omega),Array.getElem?_toList]
   ·by_cases c2:j<p.base+(Sx.row e1).length
    ·rw[if_pos (by omega),List.getElem?_append_left (by simp;omega),List.getElem?_append_right (by simp;omega)]
     congr 1;simp;omega
    ·rw[if_neg (by omega),List.getElem?_append_right (by simp;omega),List.getElem?_drop,Array.getElem?_toList]
     congr 1;simp;omega
  have hself:(w.setRow p.blk c').heap[p.blk]? = some (.cells c' e1 (0,0)):=setRow_heap w p.blk cc c' e1 (0,0) hcc
  let φ:Nat→Nat→Option Value:=fun b oo=>if b=p.blk∧p.base≤oo∧oo<p.base+(Sx.row e1).length then c'[oo]? else none
  have hφ:∀ b oo v,φ b oo=some v→b=p.blk∧p.base≤oo∧oo<p.base+(Sx.row e1).length∧c'[oo]? = some v:=fun b oo v hv=>by
   simp only[φ] at hv
   split at hv
   ·rename_i hh;exact⟨hh.1,hh.2.1,hh.2.2,hv⟩
   ·cases hv
  have hle:E.le (E.set nx ⟨p.blk,p.base+(Sx.row e1).length,p.size-(Sx.row e1).length,undef,{ noOb with fz:=φ },[]⟩):=Env.le_set _ hno.1
  have hwr:=h.grown (w':=w.setRow p.blk c') hp hobj ⟨p.blk,p.base+(Sx.row e1).length,p.size-(Sx.row e1).length,undef,{ noOb with fz:=φ },[]⟩ (by rw[setRow_size];exact Nat.le_refl _)
   (fun b _ hne=>setRow_other w p.blk b c' hne) (fun oo v ho hv=>by
    have h1:cc[oo]? = some v:=by simpa[World.cell?,hcc] using hv
    have h2:c'[oo]? = some v:=by rw[hcg,if_neg (by omega)];exact h1
    simp[World.cell?,hself,h2]) rfl rfl rfl (.inl ⟨rfl,Nat.le_add_right _ _⟩) ⟨c',hself,by rw[hcsz];show p.base+(Sx.row e1).length+(p.size-(Sx.row e1).length)≤_;omega⟩ (fun b oo v hv=>by
    obtain⟨rfl,h2,h3,h4⟩:=hφ b oo v hv
    exact⟨rfl,h3,by simp[World.cell?,hself,h4]⟩)
  refine⟨_,_,_,run_app_in ht hu hi hXR hin (by rw[hes];exact hst),hle,?_,hwr,Nat.le_succ _,hkeep _⟩
  generalize hE':E.set nx ⟨p.blk,p.base+(Sx.row e1).length,p.size-(Sx.row e1).length,undef,{ noOb with fz:=φ },[]⟩=E' at *
  have hE'n:E' nx=some ⟨p.blk,p.base+(Sx.row e1).length,p.size-(Sx.row e1).length,undef,{ noOb with fz:=φ },[]⟩:=by rw[← hE'];exact Env.set_self _ _ _
  refine VR.lst nx ⟨p.blk,p.base+(Sx.row e1).length,p.size-(Sx.row e1).length,undef,{ noOb with fz:=φ },[]⟩ (.snoc tt a) e1 o (len+1) cap hE'n ⟨X.ok_mono hle hok,X.ok_mono hle ra⟩ hkd ?_ (by show o+(len+1)*(Sx.row e1).length=p.base+(Sx.row e1).length;omega) (by show _≤p.base+(Sx.row e1).length+(p.size-(Sx.row e1).length);omega)
  have hden:Cl.hd ((X.snoc tt a).den E')=.sl false (rows++[a.den E]):=by rw[X.den_mono (t:=X.snoc tt a) hle ⟨hok,ra⟩];exact hdn
  rw[hden]
  have hg:∀ (r:Nat)(rr:List Cl),(rows++[a.den E])[r]? = some rr→(r<len∧rows[r]? = some rr)∨(r=len∧rr=a.den E):=fun r rr hr=>by
   by_cases h1:r<rows.length
   ·rw[List.getElem?_append_left h1] at hr;exact .inl ⟨by omega,hr⟩
   ·rw[List.getElem?_append_right (by omega)] at hr
    have:r-rows.length=0:=by have:=(List.getElem?_eq_some_iff.1 hr).1;simp at this;omega
    rw[this] at hr;simp at hr
    exact .inr ⟨by omega,hr.symm⟩
  refine .sl e1 p.blk o (len+1) cap _ (fun r j=>if r<len then vs r j else (xs[j]?).getD undef) (by simp[a1]) hin a3 (fun r rr hr=>?_) (fun r rr j d hr hd=>?_) (fun r rr j d kk hr hd hk=>?_)
  ·rcases hg r rr hr with⟨_,h1⟩|⟨_,rfl⟩
   ·exact a4 r rr h1
   ·exact rl
  ·rcases hg r rr hr with⟨h0,h1⟩|⟨rfl,rfl⟩
   ·rw[if_pos h0];exact Env.fz_mono hle (a5 r rr j d h1 hd)
   ·rw[if_neg (Nat.lt_irrefl _)]
    have hj:j<(Sx.row e1).length:=by have:=(List.getElem?_eq_some_iff.1 hd).1;omega
    refine⟨nx,_,hE'n,?_⟩
    show φ p.blk _=_
    simp only[φ]
    rw[if_pos (by refine⟨?_,?_,?_⟩<;>first|trivial|omega),hcg,if_pos ⟨by omega,by omega⟩,hbase,Nat.add_sub_cancel_left,List.getElem?_eq_getElem (by omega)];rfl
  ·rcases hg r rr hr with⟨h0,h1⟩|⟨rfl,rfl⟩
   ·rw[if_pos h0];exact (a6 r rr j d kk h1 hd hk).mono fun _ _ _=>Env.fz_mono hle
   ·rw[if_neg (Nat.lt_irrefl _)]
    have hj:j<xs.length:=by have:=(List.getElem?_eq_some_iff.1 hd).1;omega
    rw[List.getElem?_eq_getElem hj]
    exact (rc j _ d kk (List.getElem?_eq_getElem hj) hd hk).mono fun _ _ _=>Env.fz_mono hle
 ·
  let olds:List Value:=(cc.toList.drop o).take (len*(Sx.row e1).length)
  have hfit:len*(Sx.row e1).length≤cap*(Sx.row e1).length:=Nat.mul_le_mul_right _ a2
  have hol:olds.length=len*(Sx.row e1).length:=by simp only[olds,List.length_take,List.length_drop,Array.length_toList];omega
  have hog:∀ j,j<len*(Sx.row e1).length→olds[j]? = cc[o+j]? := fun j hj=>by
   simp only[olds];rw[List.getElem?_take,if_pos hj,List.getElem?_drop,Array.getElem?_toList]
  have hcells:∀ j v,olds[j]? = some v→w.cell? ((⟨p.blk,o,none⟩:Addr).add j)=some v:=fun j v hv=>by
   have hj:j<len*(Sx.row e1).length:=by have:=(List.getElem?_eq_some_iff.1 hv).1;omega
   rw[hog j hj] at hv
   have hadd:=add_add ⟨p.blk,o,0,undef,noOb,[]⟩ 0 j
   simp only[Nat.add_zero,Nat.zero_add] at hadd
   rw[hadd];simp[World.cell?,hcc,hv]
  have hrun:=run_app_up (w:=w) (ty:=ty) ht hu hi hz (XR.slice (P:=P) (c:=cap) (by rw[hol,hes]) hcells) hXR (by omega) hroom2
  have hge:=grownCap_ge w (len+1) cap e1
  generalize hnc2:grownCap w (len+1) cap e1=nc at hrun hge
  generalize hrow2:(olds++xs++(Builtin.zeroCells z.cells (nc-(len+1))).toList).toArray=row at hrun
  have hrsz:row.size=nc*(Sx.row e1).length:=by
   rw[← hrow2,List.size_toArray,List.length_append,List.length_append,zeroCells_length,hzl,hol,hxl,hes]
   have:nc=(len+1)+(nc-(len+1)):=by omega
   generalize nc-(len+1)=d at this
   subst this
   rw[Nat.add_mul,Nat.add_mul,Nat.one_mul]
  have hrg:∀ j,j<(len+1)*(Sx.row e1).length→row[j]? = if j<len*(Sx.row e1).length then cc[o+j]? else xs[j-len*(Sx.row e1).length]? := fun j hj=>by
   rw[← hrow2,List.getElem?_toArray,List.getElem?_append_left (by simp[hol,hxl];omega)]
   split
   ·rename_i h1;rw[List.getElem?_append_left (by omega)];exact hog j h1
   ·rw[List.getElem?_append_right (by omega),hol]
  have hmul:(len+1)*(Sx.row e1).length≤nc*(Sx.row e1).length:=Nat.mul_le_mul_right _ hge
  let φ:Nat→Nat→Option Value:=fun b oo=>if b=w.heap.size∧oo<(len+1)*(Sx.row e1).length then row[oo]? else none
  have hφ:∀ b oo v,φ b oo=some v→b=w.heap.size∧oo<(len+1)*(Sx.row e1).length∧row[oo]? = some v:=fun b oo v hv=>by
   simp only[φ] at hv
   split at hv
   ·rename_i hh;exact⟨hh.1,hh.2,hv⟩
   ·cases hv
  have hle:E.le (E.set nx ⟨w.heap.size,(len+1)*(Sx.row e1).length,(nc-(len+1))*(Sx.row e1).length,undef,{ noOb with fz:=φ },[]⟩):=Env.le_set _ hno.1
  have hself:(w.heap.push (.cells row e1 (0,0)))[w.heap.size]? = some (.cells row e1 (0,0)):=by simp
  have hdiff:(len+1)*(Sx.row e1).length+(nc-(len+1))*(Sx.row e1).length=nc*(Sx.row e1).length:=by rw[← Nat.add_mul];congr 1;omega
  have hwr:=h.grown (w':={ w with heap:=w.heap.push (.cells row e1 (0,0)),drawn:=w.drawn+1 }) hp hobj ⟨w.heap.size,(len+1)*(Sx.row e1).length,(nc-(len+1))*(Sx.row e1).length,undef,{ noOb with fz:=φ },[]⟩ (by simp)
   (fun b hb _=>by show (w.heap.push _)[b]? = _;rw[Array.getElem?_push,if_neg (by omega)]) (fun oo v ho hv=>by
    have hpb:=(h.own l p hp).1
    rw[← hv];refine cell_heap ?_
    show (w.heap.push _)[p.blk]? = _;rw[Array.getElem?_push,if_neg (by omega)]) rfl rfl rfl (.inr ⟨Nat.le_refl _,by simp⟩) ⟨row,hself,by show (len+1)*(Sx.row e1).length+(nc-(len+1))*(Sx.row e1).length≤row.size;omega⟩ (fun b oo v hv=>by
    obtain⟨rfl,h3,h4⟩:=hφ b oo v hv
    exact⟨rfl,h3,by simp[World.cell?,h4]⟩)
  refine⟨_,_,_,hrun,hle,?_,hwr,Nat.le_succ _,hkeep _⟩
  generalize hE':E.set nx ⟨w.heap.size,(len+1)*(Sx.row e1).length,(nc-(len+1))*(Sx.row e1).length,undef,{ noOb with fz:=φ },[]⟩=E' at *
  have hE'n:E' nx=some ⟨w.heap.size,(len+1)*(Sx.row e1).length,(nc-(len+1))*(Sx.row e1).length,undef,{ noOb with fz:=φ },[]⟩:=by rw[← hE'];exact Env.set_self _ _ _
  refine VR.lst nx ⟨w.heap.size,(len+1)*(Sx.row e1).length,(nc-(len+1))*(Sx.row e1).length,undef,{ noOb with fz:=φ },[]⟩ (.snoc tt a) e1 0 (len+1) nc hE'n ⟨X.ok_mono hle hok,X.ok_mono hle ra⟩ hkd ?_ (by show 0+(len+1)*(Sx.row e1).length=(len+1)*(Sx.row e1).length;omega) (by show 0+nc*(Sx.row e1).length≤(len+1)*(Sx.row e1).length+(nc-(len+1))*(Sx.row e1).length;rw[hdiff];omega)
  have hncm:nc≤maxLen:=by
   rw[← hnc2]
   refine grownCap_le_maxLen w (len+1) cap e1 ?_
   have:=hlen2
   show len+1≤9223372036854775807
   omega
  have hden:Cl.hd ((X.snoc tt a).den E')=.sl false (rows++[a.den E]):=by rw[X.den_mono (t:=X.snoc tt a) hle ⟨hok,ra⟩];exact hdn
  rw[hden]
  have hg:∀ (r:Nat)(rr:List Cl),(rows++[a.den E])[r]? = some rr→(r<len∧rows[r]? = some rr)∨(r=len∧rr=a.den E):=fun r rr hr=>by
   by_cases h1:r<rows.length
   ·rw[List.getElem?_append_left h1] at hr;exact .inl ⟨by omega,hr⟩
   ·rw[List.getElem?_append_right (by omega)] at hr
    have:r-rows.length=0:=by have:=(List.getElem?_eq_some_iff.1 hr).1;simp at this;omega
    rw[this] at hr;simp at hr
    exact .inr ⟨by omega,hr.symm⟩
  refine .sl e1 w.heap.size 0 (len+1) nc _ (fun r j=>if r<len then vs r j else (xs[j]?).getD undef) (by simp[a1]) hge hncm (fun r rr hr=>?_) (fun r rr j d hr hd=>?_) (fun r rr j d kk hr hd hk=>?_)
  ·rcases hg r rr hr with⟨_,h1⟩|⟨_,rfl⟩
   ·exact a4 r rr h1
   ·exact rl
  ·rcases hg r rr hr with⟨h0,h1⟩|⟨rfl,rfl⟩
   ·rw[if_pos h0]
    have hj:j<(Sx.row e1).length:=by have h2:=(List.getElem?_eq_some_iff.1 hd).1;have h3:=a4 r rr h1;omega
    have hrl:r*(Sx.row e1).length+j<len*(Sx.row e1).length:=by
     have:(r+1)*(Sx.row e1).length≤len*(Sx.row e1).length:=Nat.mul_le_mul_right _ h0
     rw[Nat.add_mul,Nat.one_mul] at this;omega
    refine⟨nx,_,hE'n,?_⟩
    show φ w.heap.size _=_
    simp only[φ]
    rw[if_pos (by refine⟨?_,?_⟩<;>first|trivial|omega),Nat.zero_add,hrg _ (by omega),if_pos hrl,← Nat.add_assoc]
    exact hcell r rr j d h1 hd
   ·rw[if_neg (Nat.lt_irrefl _)]
    have hj:j<(Sx.row e1).length:=by have:=(List.getElem?_eq_some_iff.1 hd).1;omega
    refine⟨nx,_,hE'n,?_⟩
    show φ w.heap.size _=_
    simp only[φ]
    rw[if_pos (by refine⟨?_,?_⟩<;>first|trivial|omega),Nat.zero_add,hrg _ (by omega),if_neg (by omega),Nat.add_sub_cancel_left,List.getElem?_eq_getElem (by omega)];rfl
  ·rcases hg r rr hr with⟨h0,h1⟩|⟨rfl,rfl⟩
   ·rw[if_pos h0];exact (a6 r rr j d kk h1 hd hk).mono fun _ _ _=>Env.fz_mono hle
   ·rw[if_neg (Nat.lt_irrefl _)]
    have hj:j<xs.length:=by have:=(List.getElem?_eq_some_iff.1 hd).1;omega
    rw[List.getElem?_eq_getElem hj]
    exact (rc j _ d kk (List.getElem?_eq_getElem hj) hd hk).mono fun _ _ _=>Env.fz_mono hle
theorem sxAppN_ok (h:WR w0 E H nx w){t u ty e e':TypeId}{i:TypeInfo}{z:Value}(ht:P.underlying t=some (.slice e))(hu:P.underlying u=some (.slice e'))(hi:P.info? e=some i)(hz:i.zero=some z)(hzl:z.cells.size=i.size)
  {x:V}{X':Value}(hx:VR E x X'){alt:Res}(halt:VG w0 E H nx w ((Builtin.append_ #[t,u] ty #[.slice none 0 0,X']).run P w) alt):VG w0 E H nx w ((Builtin.append_ #[t,u] ty #[.slice none 0 0,X']).run P w) (sxAppN e i.size i.bytes x H nx alt):=by
 unfold sxAppN
 cases hx<;>try exact halt
 rename_i k off n cp esz q c hq hn1 hn2 hn3
 by_cases hn:n=1
 case neg=>rcases n with _|_|n<;>first|exact halt|exact absurd rfl hn
 subst hn
 simp only
 refine rdN_ok h hq (Q:=VG w0 E H nx w _) (fun _=>trivial) fun news xs hnl hnr hnc=>?_
 cases (V.fineL news && !ownM) with
 |true=>exact halt
 |false=>
 simp only[cond_false]
 cases hrow:rowX (Sx.row e) news with
 |none=>exact halt
 |some a=>
 simp only
 refine cnd_VG (fun hb=>?_) 335
 simp only[Bool.and_eq_true] at hb
 have hes:=Nat.eq_of_beq_eq_true hb.1
 have hroom:roomOk (0+1) i.bytes=true:=hb.2
 simp only[setHR_eq]
 obtain⟨ra,rl,rxl,rc⟩:=rowX_ok hnr hrow
 have hXR:XR P w (.slice (some ⟨q.blk,q.base+off,none⟩) 1 c) 1 i.size xs:=XR.slice (by rw[rxl,hes];omega) hnc
 have hrun:=run_app_up (w:=w) (ty:=ty) ht hu hi hz (base:=none) (len:=0) (c:=0) (XR.nils _) hXR (by omega) hroom
 have hge:=grownCap_ge w (0+1) 0 e
 have hncm:grownCap w (0+1) 0 e≤maxLen:=grownCap_le_maxLen w (0+1) 0 e (by decide)
 generalize grownCap w (0+1) 0 e=nc at hrun hge hncm
 generalize hrow2:(([]:List Value)++xs++(Builtin.zeroCells z.cells (nc-(0+1))).toList).toArray=row at hrun
 have hrsz:row.size=nc*(Sx.row e).length:=by
  rw[← hrow2,List.size_toArray,List.length_append,List.nil_append,zeroCells_length,hzl,rxl,hes]
  have:nc=1+(nc-(0+1)):=by omega
  generalize nc-(0+1)=d at this
  subst this
  rw[Nat.add_mul,Nat.one_mul]
 have hrg:∀ j,j<(Sx.row e).length→row[j]? = xs[j]? := fun j hj=>by
  rw[← hrow2,List.getElem?_toArray,List.nil_append,List.getElem?_append_left (by omega)]
 have hnlen:news.length=(Sx.row e).length:=by rw[hnl,hes]
 have hone:(Sx.row e).length≤nc*(Sx.row e).length:=Nat.le_mul_of_pos_left _ (by omega)
 obtain⟨h1,h2,h3⟩:=new_ok h e (0,0) 0 (w.drawn+1) (vs:=news) (c:=row) (fun j v hv=>by
  obtain⟨y,hy,hr⟩:=hnr.get j v hv
  have hj:j<(Sx.row e).length:=by have:=(List.getElem?_eq_some_iff.1 hv).1;omega
  exact⟨y,by rw[hrg j hj];exact hy,hr⟩) (by omega) rfl
 generalize hw1:({ w with heap:=w.heap.push (.cells row e (0,0)),drawn:=w.drawn+1 }:World)=w1 at *
 have hw1c:w1.heap[w.heap.size]? = some (.cells row e (0,0)):=by rw[← hw1];simp
 generalize hp:(⟨w.heap.size,0,row.size,undef,noOb,[]⟩:Pl)=p at *
 have hpb:p.blk=w.heap.size:=by rw[← hp]
 have hpz:p.base=0:=by rw[← hp]
 have hps:p.size=row.size:=by rw[← hp]
 have h4:=h2.freeze (l:=nx) (p:=p) (Env.set_self _ _ _) (vs:=putL .bad news 0 .e) (len:=news.length) (e:=e) (rel:=0) (by rw[getH_put,if_pos rfl]) (m:=(Sx.row e).length) (by omega)
 have hno:=h.fresh nx (Nat.le_refl _)
 have hno2:=h2.fresh (nx+1) (Nat.le_refl _)
 have hle2:(E.set nx p).le ((E.set nx p).set (nx+1) (frzPl w1 p (Sx.row e).length)):=Env.le_set _ hno2.1
 have hle:=h1.trans hle2
 refine⟨_,_,_,hrun,hle,?_,h4.congr fun k=>?_,by show nx≤nx+1+1;omega,fun k hk hE hcl=>⟨?_,?_⟩⟩
 ·have hden:Cl.hd ((X.snoc (.nil e) a).den ((E.set nx p).set (nx+1) (frzPl w1 p (Sx.row e).length)))=.sl false [a.den E]:=by
   show snocD (.sl true []) (a.den ((E.set nx p).set (nx+1) (frzPl w1 p (Sx.row e).length)))=_
   rw[X.den_mono hle ra];rfl
  have:=VR.lst (E:=(E.set nx p).set (nx+1) (frzPl w1 p (Sx.row e).length)) (nx+1) (frzPl w1 p (Sx.row e).length) (.snoc (.nil e) a) e 0 1 nc (Env.set_self _ _ _) ⟨trivial,X.ok_mono hle ra⟩ rfl ?_ (by show 0+1*_=p.base+_;omega) (by show 0+nc*_≤p.base+(Sx.row e).length+(p.size-(Sx.row e).length);omega)
  ·rw[← hpb];exact this
  rw[hden]
  refine .sl e p.blk 0 1 nc _ (fun _ j=>(xs[j]?).getD undef) rfl (by omega) hncm (fun r rr hr=>?_) (fun r rr j d hr hd=>?_) (fun r rr j d kk hr hd hk=>?_)
  ·obtain⟨rfl,rfl⟩:r=0∧rr=a.den E:=by cases r with|zero=>simp at hr;exact⟨rfl,hr.symm⟩|succ r=>simp at hr
   exact rl
  ·obtain⟨rfl,rfl⟩:r=0∧rr=a.den E:=by cases r with|zero=>simp at hr;exact⟨rfl,hr.symm⟩|succ r=>simp at hr
   have hj:j<(Sx.row e).length:=by have:=(List.getElem?_eq_some_iff.1 hd).1;omega
   refine⟨nx+1,_,Env.set_self _ _ _,?_⟩
   show (if p.blk=p.blk∧p.base≤0+0*_+j∧0+0*_+j<p.base+(Sx.row e).length then w1.cell? ⟨p.blk,0+0*_+j,none⟩ else none)=_
   rw[if_pos ⟨rfl,by omega,by omega⟩,hpb]
   have e0:0+0*(Sx.row e).length+j=j:=by omega
   rw[e0]
   simp only[World.cell?,hw1c]
   rw[hrg j hj,List.getElem?_eq_getElem (by omega)];rfl
  ·obtain⟨rfl,rfl⟩:r=0∧rr=a.den E:=by cases r with|zero=>simp at hr;exact⟨rfl,hr.symm⟩|succ r=>simp at hr
   have hj:j<xs.length:=by have:=(List.getElem?_eq_some_iff.1 hd).1;omega
   rw[List.getElem?_eq_getElem hj]
   exact (rc j _ d kk (List.getElem?_eq_getElem hj) hd hk).mono fun _ _ _=>Env.fz_mono hle
 ·simp only[getH_put]
  by_cases c1:k=nx+1
  ·simp[c1]
  ·by_cases c2:k=nx
   ·subst c2;simp[hno.2]
   ·simp[c1,c2]
 ·rw[Env.set_other _ _ _ _ (by omega),Env.set_other _ _ _ _ (by omega)];exact hE
 ·rw[getH_put,if_neg (by omega)]
theorem xAppendL_ok (h:WR w0 E H nx w){t u ty e e':TypeId}{i:TypeInfo}{z:V}(ht:P.underlying t=some (.slice e))(hu:P.underlying u=some (.slice e'))(hi:P.info? e=some i)(hz:zeroOf i=some z)(hzl:z.cells.length=i.size)
  {s x:V}{S X:Value}(hs:VR E s S)(hx:VR E x X):VG w0 E H nx w ((Builtin.append_ #[t,u] ty #[S,X]).run P w) (xAppendL e i.size i.bytes s x H nx):=by
 have key:=xAppend_ok (ty:=ty) h ht hu hi hz hzl hs hx
 obtain⟨zx,hz1,hz2,hzr⟩:=zeroOf_eq (E:=E) hz
 have hzl2:zx.cells.size=i.size:=by rw[← hzl,(hz2.cells hzr).length];simp
 cases s<;>first|exact key|exact sxAppL_ok h ht hu hi hz1 hzl2 hs hx|(cases hs;exact sxAppN_ok h ht hu hi hz1 hzl2 hx key)
end
end Go.Exo

namespace Go.Exo
set_option linter.unusedSectionVars false
variable [Sx] [Dc]
section
variable {P:Program}{w0:Bs}{E:Env}{H:T AObj}{nx:Nat}{w:World}{tm:T V}{ev:Operand→Value}
theorem cnd_Good {R:Result Next}{b:Bool}{r:Res}{n:Nat}(h:b=true→Good P w0 E H nx w R r):Good P w0 E H nx w R (cnd b r (.fail n)):=by
 cases b with
 |true=>exact h rfl
 |false=>trivial
theorem Good.bad {R:Result Next}:Good P w0 E H nx w R (exOp .bad tm H nx):=True.intro
theorem onEx {R:Result Next}{ao:AOp}(h0:Good P w0 E H nx w R (exOp0 ao tm H nx))(hs:∀ r,sxOp ao tm=some r→Good P w0 E H nx w R r):Good P w0 E H nx w R (exOp ao tm H nx):=by
 unfold exOp
 cases h:sxOp ao tm with
 |none=>exact h0
 |some r=>exact hs r h
theorem onX_inv {v:V}{r:X→Res}{r':Res}(h:onX v r=some r'):∃ t,asX v=some t∧r'=r t:=by
 unfold onX at h;split at h
 ·rename_i t ht;cases h;exact⟨t,ht,rfl⟩
 ·cases h
theorem onA_inv {v:V}{r:X→X→Nat→Res}{r':Res}(h:onA v r=some r'):∃ s i j,v=.xa s i j∧r'=r s i j:=by
 cases v<;>simp only[onA] at h<;>first|(cases h;done)|(cases h;exact⟨_,_,_,rfl,rfl⟩)
theorem onX2_inv {x y:V}{r r':Res}(h:onX2 x y r=some r'):r'=r:=by
 unfold onX2 at h;split at h
 ·cases h;rfl
 ·split at h<;>cases h;rfl
theorem call_ok (h:WR w0 E H nx w)(c:Call)(ty:TypeId)(hev:∀ x∈c.operands.toList,VR E ((compO x).ev tm) (ev x)) :
  Good P w0 E H nx w ((do let d ← resolve ev c ty;invoke d.target d.args:Sem Next).run P w) (exOp (compCall P c) tm H nx):=by
 have hargs:∀ x∈c.args.toList,VR E ((compO x).ev tm) (ev x):=fun x hx=>hev x (by unfold Call.operands;rw[Array.toList_append];exact List.mem_append.2 (.inr hx))
 have hA:c.args.map ev=(c.args.toList.map ev).toArray:=by apply Array.ext';simp
 unfold compCall
 cases hc:c.callee with
 |value x=>
  have hx:VR E ((compO x).ev tm) (ev x):=hev x (by unfold Call.operands;rw[Array.toList_append,hc];exact List.mem_append.2 (.inl (by simp)))
  have hcall:Good P w0 E H nx w ((do let d ← resolve ev c ty;invoke d.target d.args:Sem Next).run P w) (exOp (.call (compO x) (c.args.toList.map compO)) tm H nx):=by
   simp only[resolve,hc,hA]
   exact xCall_ok hx (evL_rel hargs)
  cases x with
  |func f=>
   simp only
   cases hf:funcT P f with
   |none=>exact Good.bad
   |some fn=>
    simp only
    cases hb:fn.body with
    |some b=>exact hcall
    |none=>
     simp only
     cases hl:c.args.toList with
     |nil=>exact Good.bad
     |cons y r=>
      cases r with
      |nil=>exact Good.bad
      |cons z r=>
       cases r with
       |cons _ _=>exact Good.bad
       |nil=>
        simp only
        cases hn:(fn.name == "internal/bytealg.IndexByteString" && (fn.origin == "" || fn.origin == "internal/bytealg.IndexByteString")) with
        |false=>
         simp only[cond_false]
         cases hn:(fn.name == "internal/bytealg.abigen_runtime_cmpstring" && (fn.origin == "" || fn.origin == "internal/bytealg.abigen_runtime_cmpstring")) with
         |false=>exact Good.bad
         |true=>
         simp only[Bool.and_eq_true,Bool.or_eq_true,beq_iff_eq] at hn
         have hy:=hargs y (by rw[hl];simp)
         have hz:=hargs z (by rw[hl];simp)
         have key0:=xExtCmp_ok (H:=H) (nx:=nx) (w0:=w0) (w:=w) (funcT_eq P hf) hb hn.1 hn.2 hy hz
         have key1:=sxCmp_ok (H:=H) (nx:=nx) (w0:=w0) (w:=w) (funcT_eq P hf) hb hn.1 hn.2 hy hz
         have key:Good P w0 E H nx w ((callFunc f #[ev y,ev z]).run P w) (exOp (.extCmp (compO y) (compO z)) tm H nx):=onEx key0 fun r hr=>by rw[onX2_inv hr];exact key1
         have e:(do let d ← resolve ev c ty;invoke d.target d.args:Sem Next).run P w=(callFunc f #[ev y,ev z]).run P w:=by
          simp only[resolve,hc,hA,hl]
          have hfx:ev (.func f)=.func (.func f) #[] #[]:=by
           have hx':VR E (.func (.func f) [] []) (ev (.func f)):=hx
           generalize ev (.func f)=F at hx'
           cases hx' with
           |func _ _ _ _ _ _ a b c=>cases b;cases c;simp only[FnR] at a;subst a;rfl
          simp[hfx,Deferred.ofValue,invoke]
         rw[e]
         exact key
        |true=>
         simp only[Bool.and_eq_true,Bool.or_eq_true,beq_iff_eq] at hn
         have hy:=hargs y (by rw[hl];simp)
         have hz:=hargs z (by rw[hl];simp)
         have key:=xExtIB_ok (H:=H) (nx:=nx) (w0:=w0) (w:=w) (funcT_eq P hf) hb hn.1 hn.2 hy hz
         have e:(do let d ← resolve ev c ty;invoke d.target d.args:Sem Next).run P w=(callFunc f #[ev y,ev z]).run P w:=by
          simp only[resolve,hc,hA,hl]
          have hfx:ev (.func f)=.func (.func f) #[] #[]:=by
           have hx':VR E (.func (.func f) [] []) (ev (.func f)):=hx
           generalize ev (.func f)=F at hx'
           cases hx' with
           |func _ _ _ _ _ _ a b c=>cases b;cases c;simp only[FnR] at a;subst a;rfl
          simp[hfx,Deferred.ofValue,invoke]
         rw[e]
         exact key
  |tmp _=>exact hcall
  |const _=>exact hcall
  |global _=>exact hcall
 |invoke _ _=>exact Good.bad
 |builtin b=>
  have hres:∀ R,(do let d ← resolve ev c ty;invoke d.target d.args:Sem Next).run P w=R↔(builtin b c.argTypes ty (c.args.map fun|.const _=>true|_=>false) (c.args.toList.map ev).toArray).run P w=R:=by
   intro R;simp only[resolve,hc,hA,Sem.run_bind,Sem.run_pure,Result.andThen_ok,invoke];exact Iff.rfl
  cases b<;>try exact Good.bad
  case len=>
   simp only
   cases hl:c.args.toList with
   |nil=>exact Good.bad
   |cons x r=>
    cases r with
    |cons _ _=>exact Good.bad
    |nil=>
     cases ht:c.argTypes.toList with
     |nil=>exact Good.bad
     |cons t r=>
      cases r with
      |cons _ _=>exact Good.bad
      |nil=>
       simp only
       have hT:c.argTypes=#[t]:=by rw[← Array.toArray_toList (xs:=c.argTypes),ht]
       have hx:=hargs x (by rw[hl];simp)
       have e:=(hres _).2 rfl
       rw[e,hl,hT]
       cases hu:undT P t with
       |none=>exact Good.bad
       |some d=>
        cases d<;>first|exact Good.bad|skip
        ·exact onEx (ao:=.len 0 (compO x)) (VG.good (xLen_ok h (sh:=0) (undT_eq P hu) rfl (by omega) hx)) fun r hr=>by
          obtain⟨u,e,rfl⟩:=onX_inv hr
          have hx:=VR.ofAs e hx;exact VG.good (sxLen_ok (sh:=0) (undT_eq P hu) rfl hx)
        ·exact onEx (ao:=.len 1 (compO x)) (VG.good (xLen_ok h (sh:=1) (undT_eq P hu) ⟨_,rfl⟩ (by omega) hx)) fun r hr=>by
          obtain⟨u,e,rfl⟩:=onX_inv hr
          have hx:=VR.ofAs e hx;exact VG.good (sxLen_ok (sh:=1) (undT_eq P hu) ⟨_,rfl⟩ hx)
        ·exact onEx (ao:=.len 2 (compO x)) (VG.good (xLen_ok h (sh:=2) (undT_eq P hu) ⟨_,_,rfl⟩ (by omega) hx)) fun r hr=>by
          obtain⟨u,e,rfl⟩:=onX_inv hr
          have hx:=VR.ofAs e hx;exact VG.good (sxLen_ok (sh:=2) (undT_eq P hu) ⟨_,_,rfl⟩ hx)
  case append=>
   simp only
   cases hl:c.args.toList with
   |nil=>exact Good.bad
   |cons s r=>
    cases r with
    |nil=>exact Good.bad
    |cons x r=>
     cases r with
     |cons _ _=>exact Good.bad
     |nil=>
      cases ht:c.argTypes.toList with
      |nil=>exact Good.bad
      |cons t r=>
       cases r with
       |nil=>exact Good.bad
       |cons u r=>
        cases r with
        |cons _ _=>exact Good.bad
        |nil=>
         simp only
         have hT:c.argTypes=#[t,u]:=by rw[← Array.toArray_toList (xs:=c.argTypes),ht]
         have hs:=hargs s (by rw[hl];simp)
         have hx:=hargs x (by rw[hl];simp)
         have e:=(hres _).2 rfl
         rw[e,hl,hT]
         cases hu:undT P t with
         |none=>exact Good.bad
         |some d=>
          cases hu2:undT P u with
          |none=>cases d<;>exact Good.bad
          |some d2=>
           cases d<;>first|exact Good.bad|skip
           cases d2<;>first|exact Good.bad|skip
           case slice.int e1 k2=>
            simp only
            cases hi:infoT P e1 with
            |none=>exact Good.bad
            |some i=>
             simp only
             cases hz:zeroOf i with
             |none=>exact Good.bad
             |some z=>
              simp only
              cases hzl:Nat.beq z.cells.length i.size with
              |false=>exact Good.bad
              |true=>exact VG.good (xAppN_ok h (undT_eq P hu) (undT_eq P hu2) (infoT_eq P hi) hz (Nat.eq_of_beq_eq_true hzl) hs hx)
           rename_i e1 e2
           simp only
           cases hi:infoT P e1 with
           |none=>exact Good.bad
           |some i=>
            simp only
            cases hz:zeroOf i with
            |none=>exact Good.bad
            |some z=>
             simp only
             cases hzl:Nat.beq z.cells.length i.size with
             |false=>exact Good.bad
             |true=>exact VG.good (xAppendL_ok h (undT_eq P hu) (undT_eq P hu2) (infoT_eq P hi) hz (Nat.eq_of_beq_eq_true hzl) hs hx)
  case cap=>
   simp only
   cases hl:c.args.toList with
   |nil=>exact Good.bad
   |cons x r=>
    cases r with
    |cons _ _=>exact Good.bad
    |nil=>
     cases ht:c.argTypes.toList with
     |nil=>exact Good.bad
     |cons t r=>
      cases r with
      |cons _ _=>exact Good.bad
      |nil=>
       simp only
       have hT:c.argTypes=#[t]:=by rw[← Array.toArray_toList (xs:=c.argTypes),ht]
       have hx:=hargs x (by rw[hl];simp)
       have e:=(hres _).2 rfl
       rw[e,hl,hT]
       cases hu:undT P t with
       |none=>exact Good.bad
       |some d=>
        cases d<;>first|exact Good.bad|skip
        exact VG.good (xCap_ok (undT_eq P hu) hx)
  case delete=>
   simp only
   cases hl:c.args.toList with
   |nil=>exact Good.bad
   |cons m r=>
    cases r with
    |nil=>exact Good.bad
    |cons k r=>
     cases r with
     |cons _ _=>exact Good.bad
     |nil=>
      cases ht:c.argTypes.toList with
      |nil=>exact Good.bad
      |cons t r=>
       cases r with
       |nil=>exact Good.bad
       |cons t2 r=>
        cases r with
        |cons _ _=>exact Good.bad
        |nil=>
         simp only
         have hT:c.argTypes=#[t,t2]:=by rw[← Array.toArray_toList (xs:=c.argTypes),ht]
         have hm:=hargs m (by rw[hl];simp)
         have hk:=hargs k (by rw[hl];simp)
         have e:=(hres _).2 rfl
         rw[e,hl,hT]
         cases hu:undT P t with
         |none=>exact Good.bad
         |some d=>
          cases d<;>first|exact Good.bad|skip
          rename_i kt e1
          simp only
          cases hdk:undT P kt with
          |none=>exact Good.bad
          |some dk=>
           simp only
           cases hkd:keyD P kt dk with
           |none=>exact Good.bad
           |some ks=>exact cnd_Good fun hkk=>VG.good (xMdel_ok h (undT_eq P hu) ⟨undT_eq P hdk,hkd⟩ hm hk hkk)
  case clear=>
   simp only
   cases hl:c.args.toList with
   |nil=>exact Good.bad
   |cons x r=>
    cases r with
    |cons _ _=>exact Good.bad
    |nil=>
     cases ht:c.argTypes.toList with
     |nil=>exact Good.bad
     |cons t r=>
      cases r with
      |cons _ _=>exact Good.bad
      |nil=>
       simp only
       have hT:c.argTypes=#[t]:=by rw[← Array.toArray_toList (xs:=c.argTypes),ht]
       have hx:=hargs x (by rw[hl];simp)
       have e:=(hres _).2 rfl
       rw[e,hl,hT]
       cases hu:undT P t with
       |none=>exact Good.bad
       |some d=>
        cases d<;>first|exact Good.bad|skip
        rename_i e1
        simp only
        cases hi:infoT P e1 with
        |none=>exact Good.bad
        |some i=>
         simp only
         cases hz:zeroOf i with
         |none=>exact Good.bad
         |some z=>
          simp only
          cases hzl:Nat.beq z.cells.length i.size with
          |false=>exact Good.bad
          |true=>exact VG.good (xClear_ok h (undT_eq P hu) (infoT_eq P hi) hz hx)
  case max=>
   simp only
   cases hl:c.args.toList with
   |nil=>exact Good.bad
   |cons x r=>
    cases r with
    |nil=>exact Good.bad
    |cons y r=>
     cases r with
     |cons _ _=>exact Good.bad
     |nil=>
      have hx:=hargs x (by rw[hl];simp)
      have hy:=hargs y (by rw[hl];simp)
      have e:=(hres _).2 rfl
      rw[e,hl]
      exact onEx (ao:=.maxI (compO x) (compO y)) (VG.good (xMax_ok hx hy)) fun r hr=>by rw[onX2_inv hr];exact VG.good (sxMax_ok h hx hy)
  case recover=>
   have e:=(hres _).2 rfl
   rw[e]
   exact rfl
theorem compOp0_ok (h:WR w0 E H nx w)(o:Oper)(hev:∀ x∈o.op.operands.toList,VR E ((compO x).ev tm) (ev x)) :
  Good P w0 E H nx w ((execOp ev o).run P w) (exOp (compOp0 P o.op) tm H nx):=by
 have m1:∀ x,x∈o.op.operands→VR E ((compO x).ev tm) (ev x):=fun x hx=>hev x (by simpa using hx)
 cases ho:o.op with
 |move x=>unfold execOp;simp only[ho];exact⟨.value (ev x),_,rfl,rfl,m1 x (by simp[ho,Op.operands])⟩
 |assign x=>unfold execOp;simp only[ho];exact⟨.value (ev x),_,rfl,rfl,m1 x (by simp[ho,Op.operands])⟩
 |pick c a b=>
  unfold execOp;simp only[ho]
  have:=(xPick_ok (w0:=w0) (H:=H) (nx:=nx) (P:=P) (w:=w) (m1 c (by simp[ho,Op.operands])) (m1 a (by simp[ho,Op.operands])) (m1 b (by simp[ho,Op.operands]))).good
  have this2:=fun t (e:asX ((compO c).ev tm)=some t)=>(sxPick_ok (w0:=w0) (H:=H) (nx:=nx) (P:=P) (w:=w) h (t:=t) (VR.ofAs e (m1 c (by simp[ho,Op.operands]))) (m1 a (by simp[ho,Op.operands])) (m1 b (by simp[ho,Op.operands]))).good
  refine onEx (ao:=.pick (compO c) (compO a) (compO b)) ?_ fun r hr=>?_
  ·change Good P w0 E H nx w _ (xPick _ _ _)
   simpa[Sem.run_bind] using this
  ·obtain⟨u,e,rfl⟩:=onX_inv hr
   simpa[Sem.run_bind] using this2 u e
 |alloc t=>
  unfold execOp;simp only[ho,compOp0]
  cases ht:tyOf P t with
  |none=>exact Good.bad
  |some di=>
   obtain⟨d,i⟩:=di
   simp only
   cases hz:zeroOf i with
   |none=>exact Good.bad
   |some z=>
    simp only[ofK_eq]
    have:=xAlloc_ok (w0:=w0) h (t:=t) (tyOf_eq ht).2.2.1 hz (old:=.tuple #[])
    rw[boxObj_eq] at this
    exact VG.good this
 |box t x=>unfold execOp;simp only[ho,compOp0];exact VG.good (xBox_ok h (m1 x (by simp[ho,Op.operands])))
 |build t ps=>
  unfold execOp;simp only[ho,compOp0]
  have hps:∀ i x,(i,x)∈ps.toList→VR E ((compO x).ev tm) (ev x):=fun i x hx=>m1 x (by
   simp only[ho,Op.operands,List.mem_toArray,List.mem_map];exact⟨(i,x),hx,rfl⟩)
  cases ht:tyOf P t with
  |none=>exact Good.bad
  |some di=>
   obtain⟨d,i⟩:=di
   simp only
   cases hz:zeroOf i with
   |none=>exact Good.bad
   |some z=>
    cases d<;>try exact Good.bad
    case struct fs=>
     simp only
     cases hfo:fieldsOk P fs.toList with
     |false=>exact Good.bad
     |true=>
      simp only[cond_true]
      cases hl:compParts (fun i=>(fs[i]?).map fun f=>(f.offset,sizeT P f.type)) ps.toList with
      |none=>exact Good.bad
      |some l=>exact VG.good (xBuild_ok ht hz hl hps (.inl ⟨fs,rfl,hfo,rfl⟩))
    case array n e=>
     simp only
     cases hi:infoT P e with
     |none=>exact Good.bad
     |some ie=>
      simp only
      cases hl:compParts (fun i=>some (i*ie.size,ie.size)) ps.toList with
      |none=>exact Good.bad
      |some l=>exact VG.good (xBuild_ok ht hz hl hps (.inr ⟨n,e,ie,rfl,hi,rfl⟩))
 |buildSlice t len ps=>
  unfold execOp;simp only[ho,compOp0]
  have hps:∀ i x,(i,x)∈ps.toList→VR E ((compO x).ev tm) (ev x):=fun i x hx=>m1 x (by
   simp only[ho,Op.operands,List.mem_toArray,List.mem_map];exact⟨(i,x),hx,rfl⟩)
  cases hu:undT P t with
  |none=>exact Good.bad
  |some d=>
   cases d<;>try exact Good.bad
   rename_i e
   simp only
   cases hi:infoT P e with
   |none=>exact Good.bad
   |some i=>
    simp only
    cases hz:zeroOf i with
    |none=>exact Good.bad
    |some z=>
     simp only
     cases hb:(Nat.ble (len*i.size) 16777216&&Nat.beq z.cells.length i.size) with
     |false=>exact Good.bad
     |true=>
      simp only[Bool.and_eq_true] at hb
      simp only[cond_true]
      cases hl:compParts (fun j=>some (j*i.size,i.size)) ps.toList with
      |none=>exact Good.bad
      |some l=>exact VG.good (xBslice_ok h (undT_eq P hu) (infoT_eq P hi) hz (Nat.le_of_ble_eq_true hb.1) (Nat.eq_of_beq_eq_true hb.2) hl hps)
 |load t x=>
  unfold execOp;simp only[ho,compOp0]
  cases ht:tyOf P t with
  |none=>exact Good.bad
  |some di=>
   obtain⟨d,i⟩:=di
   obtain⟨q1,q2,q3,q4⟩:=tyOf_eq ht
   simp only
   cases hd:aggD d with
   |true=>
    exact onEx (ao:=.loadN i.size (compO x)) (VG.good (xLoadN_ok h (fun w=>by rw[aggD_run q1 w,hd]) q3 (m1 x (by simp[ho,Op.operands])))) fun r hr=>by
     obtain⟨s,ix,j,e,rfl⟩:=onA_inv hr
     exact VG.good (sxLdN_ok h (fun w=>by rw[aggD_run q1 w,hd]) q3 (e ▸ m1 x (by simp[ho,Op.operands])))
   |false=>
    exact onEx (ao:=.load1 (compO x)) (VG.good (xLoad1_ok h (fun w=>by rw[aggD_run q1 w,hd]) (m1 x (by simp[ho,Op.operands])))) fun r hr=>by
     obtain⟨s,ix,j,e,rfl⟩:=onA_inv hr
     exact VG.good (sxLd1_ok h (fun w=>by rw[aggD_run q1 w,hd]) (e ▸ m1 x (by simp[ho,Op.operands])))
 |store t a x=>
  unfold execOp;simp only[ho,compOp0]
  cases hi:infoT P t with
  |none=>exact Good.bad
  |some i=>exact Good.unit (xStore_ok h (infoT_eq P hi) (m1 a (by simp[ho,Op.operands])) (m1 x (by simp[ho,Op.operands])))
 |nilCheck x=>
  exact onEx (ao:=.nilck (compO x)) (xNil_ok (m1 x (by simp[ho,Op.operands])) o x ev ho rfl) fun r hr=>by
   obtain⟨s,ix,j,e,rfl⟩:=onA_inv hr
   have hx:=m1 x (by simp[ho,Op.operands])
   rw[e] at hx
   unfold execOp;simp only[ho]
   generalize ev x=vx at hx
   cases hx with
   |xa _ _ _ e blk off len cap n rows h1 h2 h3 h4 h5 h6 h7=>exact⟨_,_,rfl,rfl,.xa _ _ _ e blk off len cap n rows h1 h2 h3 h4 h5 h6 h7⟩
 |binOp op t x y b=>
  unfold execOp;simp only[ho,compOp0]
  have hx:=m1 x (by simp[ho,Op.operands])
  have hy:=m1 y (by simp[ho,Op.operands])
  cases hu:undT P t with
  |none=>exact Good.bad
  |some d=>
   have heq:Good P w0 E H nx w (Sem.run P (do let a ← (do eqGuard op t x y (ev x) (ev y);binOp op t (ev x) (ev y):Sem Value);pure (.value a)) w)
     (exOp (match (generalizing:=false) op with|.eql=>.eqv false (isC x || isC y) d (compO x) (compO y)|.neq=>.eqv true (isC x || isC y) d (compO x) (compO y)|_=>.bad) tm H nx):=by
    cases op<;>try exact Good.bad
    ·exact onEx (ao:=.eqv false (isC x || isC y) d (compO x) (compO y)) (VG.good (eqvR_ok (neg:=false) rfl rfl (undT_eq P hu) hx hy)) fun r hr=>by rw[onX2_inv hr];exact VG.good (sxEqv_ok (neg:=false) rfl (undT_eq P hu) hx hy)
    ·exact onEx (ao:=.eqv true (isC x || isC y) d (compO x) (compO y)) (VG.good (eqvR_ok (neg:=true) rfl rfl (undT_eq P hu) hx hy)) fun r hr=>by rw[onX2_inv hr];exact VG.good (sxEqv_ok (neg:=true) rfl (undT_eq P hu) hx hy)
   have hbin:Good P w0 E H nx w (Sem.run P (do let a ← (do eqGuard op t x y (ev x) (ev y);binOp op t (ev x) (ev y):Sem Value);pure (.value a)) w) (exOp (.bin op (compO x) (compO y)) tm H nx):=onEx (VG.good (binV_ok op t x y hx hy)) fun r hr=>by rw[onX2_inv hr];exact VG.good (sxBin_ok h op t x y hx hy)
   cases d<;>first|exact hbin|exact heq|skip
   rename_i fs
   show Good P w0 E H nx w _ (exOp (match (generalizing:=false) flatS P t fs with|some l=>(match (generalizing:=false) op with|.eql=>.eqAgg false l (compO x) (compO y)|.neq=>.eqAgg true l (compO x) (compO y)|_=>.bad)|none=>.bad) tm H nx)
   cases hf:flatS P t fs with
   |none=>exact Good.bad
   |some ks=>
    simp only
    cases op<;>try exact Good.bad
    ·exact VG.good (xEqAgg_ok (neg:=false) rfl (undT_eq P hu) hf hx hy)
    ·exact VG.good (xEqAgg_ok (neg:=true) rfl (undT_eq P hu) hf hx hy)
 |unOp op t x=>
  unfold execOp;simp only[ho,compOp0]
  exact onEx (VG.good (unV_ok op (m1 x (by simp[ho,Op.operands])))) fun r hr=>by
   obtain⟨u,e,rfl⟩:=onX_inv hr
   exact VG.good (sxUn_ok op (VR.ofAs e (m1 x (by simp[ho,Op.operands]))))
 |convert a b x=>
  unfold execOp;simp only[ho,compOp0]
  have hx:=m1 x (by simp[ho,Op.operands])
  cases ha:undT P a with
  |none=>exact Good.bad
  |some da=>
   cases hb:undT P b with
   |none=>cases da<;>exact Good.bad
   |some db=>
    cases da<;>try exact Good.bad
    case int k0=>
     cases db<;>try exact Good.bad
     exact onEx (VG.good (xConvI_ok (undT_eq P ha) (undT_eq P hb) hx)) fun r hr=>by
      obtain⟨u,e,rfl⟩:=onX_inv hr
      exact VG.good (sxConv_ok (undT_eq P ha) (undT_eq P hb) (VR.ofAs e hx))
    case string=>
     cases db<;>try exact Good.bad
     rename_i e
     simp only
     cases he:undT P e with
     |none=>exact Good.bad
     |some de=>
      cases de<;>try exact Good.bad
      rename_i k
      cases k<;>first|exact Good.bad|exact VG.good (xConvSB_ok h (undT_eq P ha) (undT_eq P hb) (undT_eq P he) hx)
    case slice e=>
     cases db<;>try exact Good.bad
     simp only
     cases he:undT P e with
     |none=>exact Good.bad
     |some de=>
      cases de<;>try exact Good.bad
      rename_i k
      cases k<;>first|exact Good.bad|exact VG.good (xConvBS_ok h (undT_eq P ha) (undT_eq P hb) (undT_eq P he) hx)
 |makeInterface t x=>
  unfold execOp;simp only[ho,compOp0]
  have hx:=m1 x (by simp[ho,Op.operands])
  cases hu:undT P t with
  |none=>exact Good.bad
  |some d=>
   have key:(∀ ms,d≠.interface ms)→Good P w0 E H nx w (Sem.run P (do let a ← Instr.makeInterface t (ev x);pure (.value a)) w) (exOp (.mkIface t (compO x)) tm H nx):=by
    intro hni
    refine VG.good (VG.val (x:=.iface t (ev x)) ?_ (.iface _ _ _ hx))
    simp only[Instr.makeInterface,Sem.run_bind,run_underlying (undT_eq P hu),Result.andThen_ok]
    all_goals (cases d<;>first|rfl|exact absurd rfl (hni _))
   cases d<;>first|exact Good.bad|exact key (by intro ms hh;cases hh)
 |makeFunc fn first captured=>
  unfold execOp;simp only[ho,compOp0]
  cases fn<;>try exact Good.bad
  rename_i f
  have h1:∀ x∈first.toList,VR E ((compO x).ev tm) (ev x):=fun x hx=>m1 x (by simp only[ho,Op.operands,Array.mem_append];exact .inl (by simpa using hx))
  have h2:∀ x∈captured.toList,VR E ((compO x).ev tm) (ev x):=fun x hx=>m1 x (by simp only[ho,Op.operands,Array.mem_append];exact .inr (by simpa using hx))
  refine VG.good (s:=Instr.makeFunc (.func f) (first.map ev) (captured.map ev)) (VG.val (x:=.func (.func f) (first.toList.map ev).toArray (captured.toList.map ev).toArray) ?_ (.func _ _ _ _ _ _ rfl (evL_rel h1) (evL_rel h2)))
  have e:∀ a:Array Operand,a.map ev=(a.toList.map ev).toArray:=fun a=>by apply Array.ext';simp
  simp[Instr.makeFunc,e]
 |makeSlice t l c=>
  unfold execOp;simp only[ho,compOp0]
  cases hu:undT P t with
  |none=>exact Good.bad
  |some d=>
   cases d<;>try exact Good.bad
   rename_i e
   simp only
   cases hi:infoT P e with
   |none=>exact Good.bad
   |some i=>
    simp only
    cases hz:zeroOf i with
    |none=>exact Good.bad
    |some z=>
     simp only
     cases hb:Nat.beq z.cells.length i.size with
     |false=>exact Good.bad
     |true=>exact VG.good (xMkSl_ok h (undT_eq P hu) (infoT_eq P hi) hz (Nat.eq_of_beq_eq_true hb) (m1 l (by simp[ho,Op.operands])) (m1 c (by simp[ho,Op.operands])))
 |makeMap t r=>
  unfold execOp;simp only[ho,compOp0]
  cases r with
  |none=>exact VG.good (xMkMap_ok h)
  |some _=>exact Good.bad
 |slice t x lo hi mx=>
  unfold execOp;simp only[ho,compOp0]
  have hx:=m1 x (by simp[ho,Op.operands])
  have hlo:=evO_rel (tm:=tm) (ev:=ev) (E:=E) (x:=lo) fun y hy=>m1 y (by simp[ho,Op.operands,hy])
  have hhi:=evO_rel (tm:=tm) (ev:=ev) (E:=E) (x:=hi) fun y hy=>m1 y (by simp[ho,Op.operands,hy])
  have hmx:=evO_rel (tm:=tm) (ev:=ev) (E:=E) (x:=mx) fun y hy=>m1 y (by simp[ho,Op.operands,hy])
  cases hu:undT P t with
  |none=>exact Good.bad
  |some d=>
   cases d<;>try exact Good.bad
   case string=>
    cases mx with
    |some _=>exact Good.bad
    |none=>
     exact onEx (ao:=.slStr (compO x) (lo.map compO) (hi.map compO)) (VG.good (xSlStr_ok (undT_eq P hu) hx hlo hhi)) fun r hr=>by
      obtain⟨u,e,rfl⟩:=onX_inv hr
      exact VG.good (sxSlStr_ok h (undT_eq P hu) (VR.ofAs e hx) hlo hhi)
   case slice e=>
    simp only
    cases hi2:infoT P e with
    |none=>exact Good.bad
    |some i=>
     exact onEx (ao:=.slSl i.size (compO x) (lo.map compO) (hi.map compO) (mx.map compO)) (VG.good (xSlSl_ok (undT_eq P hu) (infoT_eq P hi2) hx hlo hhi hmx)) fun r hr=>by
      obtain⟨u,e,rfl⟩:=onX_inv hr
      exact VG.good (sxSlSl_ok h (undT_eq P hu) (infoT_eq P hi2) (VR.ofAs e hx) hlo hhi hmx)
 |fieldAddr t x f=>
  unfold execOp;simp only[ho,compOp0]
  have hx:=m1 x (by simp[ho,Op.operands])
  cases hu:undT P t with
  |none=>exact Good.bad
  |some d=>
   cases d<;>try exact Good.bad
   rename_i fs
   simp only
   cases hf:fs[f]? with
   |none=>exact Good.bad
   |some fd=>
    simp only
    cases hi:infoT P fd.type with
    |none=>exact Good.bad
    |some i=>
     simp only
     cases hz:Nat.beq i.size 0 with
     |true=>exact Good.bad
     |false=>
      exact onEx (ao:=.faddr fd.offset (compO x)) (VG.good (xFaddr_ok (undT_eq P hu) hf (infoT_eq P hi) (fun e=>by rw[e] at hz;cases hz) hx)) fun r hr=>by
       obtain⟨s,ix,j,e,rfl⟩:=onA_inv hr
       exact VG.good (sxFaddr_ok (undT_eq P hu) hf (infoT_eq P hi) (fun e=>by rw[e] at hz;cases hz) (e ▸ hx))
 |field t x f=>
  unfold execOp;simp only[ho,compOp0]
  have hx:=m1 x (by simp[ho,Op.operands])
  cases hu:undT P t with
  |none=>exact Good.bad
  |some d=>
   cases d<;>try exact Good.bad
   rename_i fs
   simp only
   cases hf:fs[f]? with
   |none=>exact Good.bad
   |some fd=>
    simp only
    cases ht:tyOf P fd.type with
    |none=>exact Good.bad
    |some di=>
     obtain⟨d,i⟩:=di
     obtain⟨q1,q2,q3,q4⟩:=tyOf_eq ht
     simp only
     cases hd:aggD d with
     |true=>exact VG.good (xFieldA_ok (undT_eq P hu) hf q3 (fun w=>by rw[aggD_run q1 w,hd]) hx)
     |false=>exact VG.good (xField1_ok (undT_eq P hu) hf (fun w=>by rw[aggD_run q1 w,hd]) hx)
 |indexAddr t x i=>
  unfold execOp;simp only[ho,compOp0]
  have hx:=m1 x (by simp[ho,Op.operands])
  have hi:=m1 i (by simp[ho,Op.operands])
  cases hu:undT P t with
  |none=>exact Good.bad
  |some d=>
   cases d<;>try exact Good.bad
   case slice e=>
    simp only
    cases hie:infoT P e with
    |none=>exact Good.bad
    |some ie=>
     exact onEx (ao:=.idxSl ie.size (compO x) (compO i)) (VG.good (xIdxSl_ok (undT_eq P hu) (infoT_eq P hie) hx hi)) fun r hr=>by
      obtain⟨u,e,rfl⟩:=onX_inv hr
      exact VG.good (sxIdx_ok h (undT_eq P hu) (infoT_eq P hie) (VR.ofAs e hx) hi)
   case array n e=>
    simp only
    cases hie:infoT P e with
    |none=>exact Good.bad
    |some ie=>exact VG.good (xIdxArr_ok (undT_eq P hu) (infoT_eq P hie) hx hi)
 |index t x i=>
  unfold execOp;simp only[ho,compOp0]
  have hx:=m1 x (by simp[ho,Op.operands])
  have hi:=m1 i (by simp[ho,Op.operands])
  cases hu:undT P t with
  |none=>exact Good.bad
  |some d=>
   cases d<;>try exact Good.bad
   case array n e=>
    simp only
    cases ht:tyOf P e with
    |none=>exact Good.bad
    |some di=>
     obtain⟨d,ie⟩:=di
     obtain⟨q1,q2,q3,q4⟩:=tyOf_eq ht
     exact VG.good (xIdxAgg_ok (undT_eq P hu) q3 (fun w=>aggD_run q1 w) hx hi)
   exact onEx (ao:=.idxStr (compO x) (compO i)) (VG.good (xIdxStr_ok (undT_eq P hu) hx hi)) fun r hr=>by
    obtain⟨u,e,rfl⟩:=onX_inv hr
    exact VG.good (sxIdxStr_ok h (undT_eq P hu) (VR.ofAs e hx) hi)
 |lookup t x k ok=>
  unfold execOp;simp only[ho,compOp0]
  have hx:=m1 x (by simp[ho,Op.operands])
  have hk:=m1 k (by simp[ho,Op.operands])
  cases hu:undT P t with
  |none=>exact Good.bad
  |some d=>
   cases d<;>try exact Good.bad
   rename_i kt e
   simp only
   cases hdk:undT P kt with
   |none=>exact Good.bad
   |some dk=>
    cases hie:infoT P e with
    |none=>exact Good.bad
    |some ie=>
     simp only
     cases hz:zeroOf ie with
     |none=>exact Good.bad
     |some z=>
      simp only
      cases hkd:keyD P kt dk with
      |none=>exact Good.bad
      |some ks=>exact cnd_Good fun hkk=>VG.good (xLookup_ok h (undT_eq P hu) ⟨undT_eq P hdk,hkd⟩ (infoT_eq P hie) hz hx hk hkk)
 |mapUpdate t m k v=>
  unfold execOp;simp only[ho,compOp0]
  have hm:=m1 m (by simp[ho,Op.operands])
  have hk:=m1 k (by simp[ho,Op.operands])
  have hv:=m1 v (by simp[ho,Op.operands])
  cases hu:undT P t with
  |none=>exact Good.bad
  |some d=>
   cases d<;>try exact Good.bad
   rename_i kt e
   simp only
   cases hdk:undT P kt with
   |none=>exact Good.bad
   |some dk=>
    simp only
    cases hkd:keyD P kt dk with
    |none=>exact Good.bad
    |some ks=>exact cnd_Good fun hkk=>Good.unit (xMupd_ok h (undT_eq P hu) ⟨undT_eq P hdk,hkd⟩ hm hk hv hkk)
 |insert t m k v=>
  unfold execOp;simp only[ho,compOp0]
  have hm:=m1 m (by simp[ho,Op.operands])
  have hk:=m1 k (by simp[ho,Op.operands])
  have hv:=m1 v (by simp[ho,Op.operands])
  cases hu:undT P t with
  |none=>exact Good.bad
  |some d=>
   cases d<;>try exact Good.bad
   rename_i kt e
   simp only
   cases hdk:undT P kt with
   |none=>exact Good.bad
   |some dk=>
    simp only
    cases hkd:keyD P kt dk with
    |none=>exact Good.bad
    |some ks=>exact cnd_Good fun hkk=>Good.unit (xMupd_ok h (undT_eq P hu) ⟨undT_eq P hdk,hkd⟩ hm hk hv hkk)
 |range t x=>
  unfold execOp;simp only[ho,compOp0]
  have hx:=m1 x (by simp[ho,Op.operands])
  cases hu:undT P t with
  |none=>exact Good.bad
  |some d=>
   cases d<;>try exact Good.bad
   case map kt e=>exact VG.good (xRangeM_ok h (undT_eq P hu) hx)
   exact VG.good (xRangeS_ok h (undT_eq P hu) hx)
 |entry x=>unfold execOp;simp only[ho,compOp0];exact VG.good (xEntryM_ok h (m1 x (by simp[ho,Op.operands])))
 |mapEntry t m k=>
  unfold execOp;simp only[ho,compOp0]
  have hm:=m1 m (by simp[ho,Op.operands])
  have hk:=m1 k (by simp[ho,Op.operands])
  cases hu:undT P t with
  |none=>exact Good.bad
  |some d=>
   cases d<;>try exact Good.bad
   rename_i kt e
   simp only
   cases hdk:undT P kt with
   |none=>exact Good.bad
   |some dk=>
    cases hie:infoT P e with
    |none=>exact Good.bad
    |some ie=>
     simp only
     cases hz:zeroOf ie with
     |none=>exact Good.bad
     |some z=>
      simp only
      cases hkd:keyD P kt dk with
      |none=>exact Good.bad
      |some ks=>exact cnd_Good fun hkk=>VG.good (xMapEnt_ok h (undT_eq P hu) ⟨undT_eq P hdk,hkd⟩ (infoT_eq P hie) hz hm hk hkk)
 |entryStore t m s v=>
  unfold execOp;simp only[ho,compOp0]
  exact Good.unit (xEntSt_ok h (m1 m (by simp[ho,Op.operands])) (m1 s (by simp[ho,Op.operands])) (m1 v (by simp[ho,Op.operands])))
 |next x s=>
  unfold execOp;simp only[ho,compOp0]
  have hx:=m1 x (by simp[ho,Op.operands])
  cases s with
  |false=>exact VG.good (xNextM_ok h hx)
  |true=>exact VG.good (xNextS_ok h hx)
 |typeAssert x xt t ok=>
  unfold execOp;simp only[ho,compOp0]
  have hx:=m1 x (by simp[ho,Op.operands])
  cases ht:tyOf P t with
  |none=>exact Good.bad
  |some di=>
   obtain⟨d,i⟩:=di
   obtain⟨q1,q2,q3,q4⟩:=tyOf_eq ht
   simp only
   cases hz:zeroOf i with
   |none=>cases d<;>exact Good.bad
   |some z=>
    obtain⟨zx,hz1,hz2,hzr⟩:=zeroOf_eq (E:=E) hz
    have key:(∀ ms,d≠.interface ms)→Good P w0 E H nx w (Sem.run P (do let a ← Instr.typeAssert (ev x) xt t ok;pure (.value a)) w) (exOp (.tassert t ok z (compO x)) tm H nx):=
     fun hni=>VG.good (xTassert_ok q2 hni q3 hz1 hz2 hx)
    cases d<;>first|exact Good.bad|exact key (by intro ms hh;cases hh)
 |extract x i=>unfold execOp;simp only[ho,compOp0];exact VG.good (xExtract_ok (m1 x (by simp[ho,Op.operands])))
 |call c=>
  unfold execOp;simp only[ho,compOp0]
  exact call_ok h c o.type fun x hx=>hev x (by simp only[ho,Op.operands];exact hx)
 |panic x=>unfold execOp;simp only[ho,compOp0];exact VG.good (xPanic_ok (m1 x (by simp[ho,Op.operands])))
 |_=>first
  |exact Good.bad
  |(rename_i c
    unfold execOp;simp only[ho,compOp0]
    have hc:∀ x∈c.operands.toList,VR E ((compO x).ev tm) (ev x):=fun x hx=>hev x (by simp only[ho,Op.operands];exact hx)
    have hargs:∀ x∈c.args.toList,VR E ((compO x).ev tm) (ev x):=fun x hx=>hc x (by unfold Call.operands;rw[Array.toList_append];exact List.mem_append.2 (.inr hx))
    cases hcc:c.callee with
    |value f=>
     have hf:VR E ((compO f).ev tm) (ev f):=hc f (by unfold Call.operands;rw[Array.toList_append,hcc];exact List.mem_append.2 (.inl (by simp)))
     have hA:c.args.map ev=(c.args.toList.map ev).toArray:=by apply Array.ext';simp
     simp only[resolve,hcc,hA]
     exact xDefer_ok hf (evL_rel hargs)
    |_=>exact Good.bad)
theorem opnFine_ok {x:Operand}(hx:opnFine P.globals.size x=true)(ht:∀ t,x=.tmp t→VR E (getU tm t) (ev x))(hc:∀ v,x=.const v→ev x=v)(hf:∀ f,x=.func f→ev x=.func (.func f) #[] #[])
  (hg:∀ g,x=.global g→g<P.globals.size→VR E (.ptr g 0) (ev x)):VR E ((compO x).ev tm) (ev x):=by
 cases x with
 |tmp t=>exact ht t rfl
 |const v=>
  rw[hc v rfl]
  exact VR.ofVal E 8 v hx
 |func f=>
  rw[hf f rfl]
  exact .func _ _ _ _ _ _ rfl .nil .nil
 |global g=>exact hg g rfl (Nat.le_of_ble_eq_true hx)
theorem compOp_ok (h:WR w0 E H nx w)(o:Oper)(hev:∀ x∈o.op.operands.toList,opnFine P.globals.size x=true→VR E ((compO x).ev tm) (ev x)) :
  Good P w0 E H nx w ((execOp ev o).run P w) (exOp (compOp P o) tm H nx):=by
 unfold compOp
 cases hb:o.op.operands.toList.all (opnFine P.globals.size) with
 |false=>exact Good.bad
 |true=>exact compOp0_ok h o fun x hx=>hev x hx (List.all_eq_true.1 hb x hx)
end
end Go.Exo

namespace Go.Exo
set_option linter.unusedSectionVars false
variable [Sx] [Dc]
def DRs (E:Env):List ADef→List Deferred→Prop
 |[],ds=>ds=[]
 |a::as,ds=>∃ d r,ds=d::r∧DR E a d∧DRs E as r
def ChR (E:Env):List (V×Bool)→List PanicEntry→Prop
 |[],es=>es=[]
 |(v,b)::r,es=>∃ x t,es={ v:=x,recovered:=b,goexit:=false }::t∧VR E v x∧ChR E r t
def ModeR (E:Env):AMode→FrameMode→Prop
 |.run,m=>m=.run
 |.returning,m=>m=.returning
 |.panicking ch,m=>∃ es,m=.panicking es∧ChR E ch es
def RoundR (E:Env):Option Nat→Option Nat→Prop
 |none,r=>r=none
 |some l,r=>∃ p,E l=some p∧r=some p.blk
def ItemR (E:Env):AItem→Item→Prop
 |.code c,i=>i=.code c
 |.inBlock id,i=>i=.inBlock id
 |.inLoop c,i=>i=.inLoop c
 |.inScope c,i=>i=.inScope c
 |.inRF l,i=>∃ p,E l=some p∧i=.inRangeFunc p.blk
 |.endRF l,i=>∃ p,E l=some p∧i=.endRangeFunc p.blk
 |.beginRound,i=>i=.beginRound
 |.steps _ _ _,_=>False
 |.call _ _,_=>False
 |.halt _,_=>False
def TodoR (E:Env):List AItem→List Item→Prop
 |[],t=>t=[]
 |.halt l::_,t=>∃ p,E l=some p∧t=p.tail
 |a::as,t=>∃ i r,t=i::r∧ItemR E a i∧TodoR E as r
theorem DR.mono {E E':Env}(h:E.le E'){a:ADef}{d:Deferred}(hd:DR E a d):DR E' a d:=by
 cases a with
 |call fn cap args=>obtain⟨fn',cs,xs,h1,h2,h3,h4⟩:=hd;exact⟨fn',cs,xs,h1.mono h,h2.mono h,h3.mono h,h4⟩
 |collected l=>obtain⟨p,h1,h2⟩:=hd;exact⟨p,h _ _ h1,h2⟩
theorem DRs.mono {E E':Env}(h:E.le E'):∀ {as:List ADef}{ds:List Deferred},DRs E as ds→DRs E' as ds
 |[],_,hd=>hd
 |_::_,_,⟨d,r,e,h1,h2⟩=>⟨d,r,e,h1.mono h,DRs.mono h h2⟩
theorem ChR.mono {E E':Env}(h:E.le E'):∀ {as:List (V×Bool)}{es:List PanicEntry},ChR E as es→ChR E' as es
 |[],_,hd=>hd
 |(_,_)::_,_,⟨x,t,e,h1,h2⟩=>⟨x,t,e,h1.mono h,ChR.mono h h2⟩
theorem ModeR.mono {E E':Env}(h:E.le E'){a:AMode}{m:FrameMode}(hm:ModeR E a m):ModeR E' a m:=by
 cases a with
 |run=>exact hm
 |returning=>exact hm
 |panicking ch=>obtain⟨es,h1,h2⟩:=hm;exact⟨es,h1,h2.mono h⟩
theorem RoundR.mono {E E':Env}(h:E.le E'){a r:Option Nat}(hr:RoundR E a r):RoundR E' a r:=by
 cases a with
 |none=>exact hr
 |some l=>obtain⟨p,h1,h2⟩:=hr;exact⟨p,h _ _ h1,h2⟩
theorem ItemR.mono {E E':Env}(h:E.le E'){a:AItem}{i:Item}(hi:ItemR E a i):ItemR E' a i:=by
 cases a with
 |inRF l=>obtain⟨p,h1,h2⟩:=hi;exact⟨p,h _ _ h1,h2⟩
 |endRF l=>obtain⟨p,h1,h2⟩:=hi;exact⟨p,h _ _ h1,h2⟩
 |call _ _=>exact hi.elim
 |halt _=>exact hi.elim
 |_=>exact hi
theorem TodoR.mono {E E':Env}(h:E.le E'):∀ {as:List AItem}{t:List Item},TodoR E as t→TodoR E' as t
 |[],_,hd=>hd
 |a::as,t,hd=>by
  cases a with
  |halt l=>obtain⟨p,h1,h2⟩:=hd;exact⟨p,h _ _ h1,h2⟩
  |_=>obtain⟨i,r,e,h1,h2⟩:=hd;exact⟨i,r,e,h1.mono h,TodoR.mono h h2⟩
theorem ChR.append {E:Env}:∀ {as bs:List (V×Bool)}{es fs:List PanicEntry},ChR E as es→ChR E bs fs→ChR E (as++bs) (es++fs)
 |[],_,_,_,h,h'=>by cases h;exact h'
 |(_,_)::_,_,_,_,⟨x,t,e,h1,h2⟩,h'=>by subst e;exact⟨x,_,rfl,h1,ChR.append h2 h'⟩
theorem TR.put {E:Env}{tm:T V}{xs:Array Value}(h:TR E tm xs){d:Nat}{v:V}{x:Value}(hv:VR E v x)(hd:d<xs.size):TR E (put undefV tm d v) (xs.setIfInBounds d x):=by
 intro i
 rw[getU_put]
 by_cases e:i=d
 ·subst e
  rw[if_pos rfl]
  simp[hd,hv]
 ·rw[if_neg e]
  have:=h i
  have e2:(xs.setIfInBounds d x).getD i undef=xs.getD i undef:=by simp[Ne.symm e]
  rw[e2];exact this
def dstOf (ops:Array Oper)(i:Nat):Option Nat:=(ops[i]?).bind (·.dst)
def looks (ops:Array Oper)(o:Oper):List Nat:=opTmps o++(match gdOf ops o with|some (t,_)=>[t]|none=>[])
def GNo (g:Gd)(tm:T V):Prop:=∃ t want,g=some (t,want)∧((∃ b,gB (getU tm t)=some b∧b≠want)∨∃ vs,getU tm t=.tup vs)
def GYes (g:Gd)(tm:T V):Prop:=g=none∨∃ t want,g=some (t,want)∧gB (getU tm t)=some want
def SOf (P:Program)(ops:Array Oper)(s:PStep):Prop:=
 ∃ o,ops[s.idx]? = some o∧s.op=(pstep P ops s.idx o).op∧s.dst=o.dst∧s.guard=gdOf ops o∧(s.fast=true→s.guard=none∧s.again=[]∧s.apart=[])
structure NewOp (ao:AOp)(tm:T V)(mk:Nat→V)(ob:AObj):Prop where
 ex:∀ H nx,exOp ao tm H nx=.valH (mk nx) (put .no H nx ob) (nx+1)
 cls:clsOf ob=0
 isc:isCls ob=false
def PF (P:Program)(E:Env)(H:T AObj)(lo hi:Nat)(ops:Array Oper)(tm:T V)(pl:Nat→Option Nat)(rd:Bool)(i:Nat):Prop:=
 ∃ o tm0,ops[i]? = some o∧(∀ t∈looks ops o,getU tm0 t=getU tm t)∧
  ((GNo (gdOf ops o) tm0∧∀ d,o.dst=some d→getU tm d=undefV)∨
   (GYes (gdOf ops o) tm0∧∃ v,(∀ d,o.dst=some d→getU tm d=v)∧
   (((pstep P ops i o).op.cls=0∧∀ H nx,exOp (pstep P ops i o).op tm0 H nx=.val v)∨
    ((pstep P ops i o).op.cls=2∧(rd=true→∃ nx,exOp (pstep P ops i o).op tm0 H nx=.val v))∨
    ((pstep P ops i o).op.cls=1∧∃ l mk,pl i=some l∧lo≤l∧l<hi∧E l=none∧NewOp (pstep P ops i o).op tm0 mk (getH H l)∧v=mk l))))
def Early (P:Program)(ops:Array Oper)(j:Nat):Prop:=∃ o,ops[j]? = some o∧((pstep P ops j o).op.cls≤2∨gdOf ops o≠none)
theorem PF.early {P:Program}{E:Env}{H:T AObj}{lo hi:Nat}{ops:Array Oper}{tm:T V}{pl:Nat→Option Nat}{rd:Bool}{i:Nat}(h:PF P E H lo hi ops tm pl rd i):Early P ops i:=by
 obtain⟨o,tm0,g1,_,g3⟩:=h
 refine⟨o,g1,?_⟩
 rcases g3 with⟨⟨t,want,e,_⟩,_⟩|⟨_,v,_,hh⟩
 ·exact .inr (by rw[e];intro h;cases h)
 ·refine .inl ?_
  rcases hh with⟨c,_⟩|⟨c,_⟩|⟨c,_⟩<;>omega
def Ord (P:Program)(ops:Array Oper)(is:List Nat):Prop:=
 is.Nodup∧(∀ i∈is,i<ops.size)∧(∀ i∈is,∀ j∈is,∀ d,dstOf ops i=some d→dstOf ops j=some d→i=j)∧
 (∀ a i b,is=a++i::b→∀ o,ops[i]? = some o→∀ t∈looks ops o,∀ j∈i::b,Early P ops j→dstOf ops j≠some t)∧
 ∀ x∈allOf P ops,∀ j,x.2.testBit j=true→(x.1.idx∉is→j∉is)∧∀ a b,is=a++x.1.idx::b→j∉x.1.idx::b
def Compat (P:Program)(ops:Array Oper):List PStep→List Nat→Prop
 |[],_=>True
 |s::r,is=>SOf P ops s∧s.idx∈is∧(∀ s'∈r,s'.idx≠s.idx)∧s.apart=[]∧
  (∀ d,s.dst=some d→∀ i∈is,(∀ s'∈s::r,s'.idx≠i)→(s.op.cls≤2∨∃ x y,is=x++s.idx::y∧i∈y)→∀ o,ops[i]? = some o→d∉looks ops o)∧
  ((s.op.cls≤2∧s.again=[]∧Compat P ops r is)∨
   (2<s.op.cls∧∃ a b,is=a++s.idx::b∧(∀ i∈a,∀ s'∈s::r,s'.idx≠i)∧
    (∀ i∈b,(∀ s'∈r,s'.idx≠i)→∀ o,ops[i]? = some o→(pstep P ops i o).op.cls=2→∃ d,o.dst=some d∧(d,gdOf ops o,(pstep P ops i o).op)∈s.again)∧
    Compat P ops r b))
def z0Of (z:PStep):PStep:={ z with apart:=[],fast:=true }
def PairsOk:List PStep→Prop
 |[]=>True
 |t::r=>(∀ m b y,t.op=.store m b y→∀ s∈r,∀ d,s.dst=some d→d∉aoTmps b)∧PairsOk r
structure TOk (z:PStep)(T2:List PStep):Prop where
 each:∀ t∈T2,okT z t=true∧(t.op.cls=3→(none,t.op)∈z.apart)
 pairs:PairsOk T2
def FitZ (P:Program)(ops:Array Oper)(l:List PStep)(is:List Nat):Prop:=
 Compat P ops l is∨∃ T1 T2 z,l=T1++T2++[z]∧lastZ z=true∧z.fast=false∧TOk z T2∧Compat P ops (T1++z0Of z::T2) is
structure DInv (P:Program)(E:Env)(H:T AObj)(lo hi:Nat)(ops:Array Oper)(l:List PStep)(is:List Nat)(tm:T V)(tmps:Array Value)(rd:Bool):Prop where
 ord:Ord P ops is
 fit:FitZ P ops l is
 slots:∀ t,(∀ i∈is,(∀ s∈l,s.idx≠i)→dstOf ops i≠some t)→VR E (getU tm t) (tmps.getD t undef)
 size:∀ i∈is,(∀ s∈l,s.idx≠i)→∀ d,dstOf ops i=some d→d<tmps.size
 pend:∃ pl:Nat→Option Nat,(∀ i j x,pl i=some x→pl j=some x→i=j)∧∀ i∈is,(∀ s∈l,s.idx≠i)→PF P E H lo hi ops tm pl rd i
def RegR (P:Program)(E:Env)(H:T AObj)(lo hi:Nat)(ops:Array Oper)(draw:Bool)(s:PStep)(r:List PStep)(is:List Nat)(tm:T V)(tmps:Array Value):Prop:=
 (draw=false∧∃ o i,ops[i]? = some o∧s=pstep P ops i o∧r=planS P ops (ops.toList.drop (i+1)) (i+1)∧is=List.range' (i+1) (ops.size-(i+1))∧TR E tm tmps)∨
 (draw=true∧SOf P ops s∧Ord P ops (s.idx::is)∧(∀ s'∈r,s'.idx≠s.idx)∧
  (∀ d,s.dst=some d→∀ i∈is,(∀ s'∈s::r,s'.idx≠i)→∀ o,ops[i]? = some o→d∉looks ops o)∧
  (∀ i∈is,(∀ s'∈r,s'.idx≠i)→∀ o,ops[i]? = some o→(pstep P ops i o).op.cls=2→∃ d,o.dst=some d∧(d,gdOf ops o,(pstep P ops i o).op)∈s.again)∧
  DInv P E H lo hi ops r is tm tmps false)
def SR (P:Program)(E:Env)(H:T AObj)(lo hi:Nat)(f:AFrame)(fr:Frame):Prop:=
 fr.fn=f.fn∧fr.kind=f.kind∧RoundR E f.round fr.roundOf∧DRs E f.defers fr.defers∧ModeR E f.mode fr.mode∧fr.tmps.size=f.size∧
 match f.mode with
 |.run=>(match f.todo with
  |.steps (s::r) ops draw::k=>∃ is k',fr.todo=.inRegion ops (s.idx::is)::k'∧TodoR E k k'∧RegR P E H lo hi ops draw s r is f.tmps fr.tmps
  |.inRF l::k=>∃ p k',E l=some p∧fr.todo=.inRangeFunc p.blk::k'∧TodoR E k k'∧TR E f.tmps fr.tmps
  |_=>False)
 |_=>TR E f.tmps fr.tmps
def FrsR (P:Program)(cs0:List Frame)(E:Env)(H:T AObj):Nat→List AFrame→List Frame→Prop
 |_,[],frs=>frs=cs0
 |b,f::fs,frs=>∃ lo fr r,frs=fr::r∧lo≤b∧SR P E H lo b f fr∧FrsR P cs0 E H lo fs r
def KeepB (b:Nat)(E E':Env)(H H':T AObj):Prop:=∀ l,l<b→E l=none→isCls (getH H l)=false→E' l=none∧getH H' l=getH H l
theorem KeepB.le {a b:Nat}{E E':Env}{H H':T AObj}(h:KeepB b E E' H H')(hab:a≤b):KeepB a E E' H H':=fun l hl=>h l (by omega)
theorem PF.mono {P:Program}{E E':Env}{H H':T AObj}{lo hi:Nat}{ops:Array Oper}{tm:T V}{pl:Nat→Option Nat}{rd:Bool}{i:Nat}(h:PF P E H lo hi ops tm pl rd i)
  (hk:KeepB hi E E' H H'):PF P E' H' lo hi ops tm pl false i:=by
 obtain⟨o,tm0,h1,h2,h3⟩:=h
 refine⟨o,tm0,h1,h2,h3.imp id fun⟨g,v,hv,hh⟩=>⟨g,v,hv,?_⟩⟩
 rcases hh with hh|hh|⟨c1,l,mk,a1,a2,a3,a4,a5,a6⟩
 ·exact .inl hh
 ·exact .inr (.inl ⟨hh.1,fun e=>by cases e⟩)
 ·obtain⟨b1,b2⟩:=hk l a3 a4 a5.isc
  exact .inr (.inr ⟨c1,l,mk,a1,a2,a3,b1,by rw[b2];exact a5,a6⟩)
theorem DInv.mono {P:Program}{E E':Env}{H H':T AObj}{lo hi:Nat}{ops:Array Oper}{l:List PStep}{is:List Nat}{tm:T V}{tmps:Array Value}{rd:Bool}
  (h:DInv P E H lo hi ops l is tm tmps rd)(hE:E.le E')(hk:KeepB hi E E' H H'):DInv P E' H' lo hi ops l is tm tmps false:=by
 obtain⟨h1,h2,h3,h6,pl,h4,h5⟩:=h
 exact⟨h1,h2,fun t ht=>(h3 t ht).mono hE,h6,pl,h4,fun i hi hl=>(h5 i hi hl).mono hk⟩
theorem RegR.mono {P:Program}{E E':Env}{H H':T AObj}{lo hi:Nat}{ops:Array Oper}{draw:Bool}{s:PStep}{r:List PStep}{is:List Nat}{tm:T V}{tmps:Array Value}
  (h:RegR P E H lo hi ops draw s r is tm tmps)(hE:E.le E')(hk:KeepB hi E E' H H'):RegR P E' H' lo hi ops draw s r is tm tmps:=by
 rcases h with⟨h1,o,i,h2,h3,h4,h5,h6⟩|⟨h1,h2,h3,h4,h5,h6,h7⟩
 ·exact .inl ⟨h1,o,i,h2,h3,h4,h5,h6.mono hE⟩
 ·exact .inr ⟨h1,h2,h3,h4,h5,h6,h7.mono hE hk⟩
theorem SR.mono {P:Program}{E E':Env}{H H':T AObj}{lo hi:Nat}{f:AFrame}{fr:Frame}(h:SR P E H lo hi f fr)(hE:E.le E')(hk:KeepB hi E E' H H'):SR P E' H' lo hi f fr:=by
 obtain⟨h1,h2,h3,h4,h5,h6,h7⟩:=h
 refine⟨h1,h2,h3.mono hE,h4.mono hE,h5.mono hE,h6,?_⟩
 cases hm:f.mode with
 |run=>
  rw[hm] at h7
  simp only at h7 ⊢
  split at h7
  ·obtain⟨is,k',a1,a2,a3⟩:=h7
   exact⟨is,k',a1,a2.mono hE,a3.mono hE hk⟩
  ·obtain⟨p,k',a1,a2,a3,a4⟩:=h7
   exact⟨p,k',hE _ _ a1,a2,a3.mono hE,a4.mono hE⟩
  ·exact h7.elim
 |returning=>rw[hm] at h7;exact TR.mono hE h7
 |panicking ch=>rw[hm] at h7;exact TR.mono hE h7
theorem FrsR.mono {P:Program}{cs0:List Frame}{E E':Env}{H H':T AObj}(hE:E.le E'):∀ {fs:List AFrame}{b:Nat}{frs:List Frame},KeepB b E E' H H'→FrsR P cs0 E H b fs frs→FrsR P cs0 E' H' b fs frs
 |[],_,_,_,h=>h
 |_::_,_,_,hk,⟨lo,fr,r,h1,h2,h3,h4⟩=>⟨lo,fr,r,h1,h2,h3.mono hE hk,FrsR.mono hE (hk.le h2) h4⟩
def RunR (P:Program)(E:Env)(tm:T V)(fr:Frame):List AItem→Prop
 |.call f args::k=>TodoR E k fr.todo∧TR E tm fr.tmps∧∃ xs,VRs E args xs∧fr=Frame.enter P f xs.toArray .normal
 |t=>TodoR E t fr.todo∧TR E tm fr.tmps
theorem RunR.of {P:Program}{E:Env}{tm:T V}{fr:Frame}{t:List AItem}(h:TodoR E t fr.todo)(ht:TR E tm fr.tmps):RunR P E tm fr t:=by
 unfold RunR
 split
 ·obtain⟨i,r,_,hi,_⟩:=h;exact hi.elim
 ·exact⟨h,ht⟩
structure MR (P:Program)(w0:Bs)(cs0:List Frame)(E:Env)(m:AMode)(t:List AItem)(c:Ctx)(fr:Frame)(cs:List Frame)(w:World):Prop where
 wr:WR w0 E c.H c.nx w
 gl:∀ g,g<P.globals.size→∃ s,E g=some ⟨g,0,s,undef,noOb,[]⟩
 frs:∃ b,b≤c.nx∧FrsR P cs0 E c.H b c.cs cs
 fn:fr.fn=c.fn
 kind:fr.kind=c.kind
 round:RoundR E c.round fr.roundOf
 defers:DRs E c.ds fr.defers
 mode:ModeR E m fr.mode
 size:fr.tmps.size=c.sz
 rest:match m with
  |.run=>RunR P E c.tm fr t
  |.returning=>TR E c.tm fr.tmps
  |.panicking _=>c.ds=[]∨TR E c.tm fr.tmps
def Fin (P:Program)(w0:Bs)(cs0:List Frame)(out:Out)(fr:Frame)(cs:List Frame)(w:World):Prop:=
 ∀ m' t' c',out=.st m' t' c'→∃ E' fr' cs' w',Steps P (lone fr cs w) (lone fr' cs' w')∧MR P w0 cs0 E' m' t' c' fr' cs' w'
def Sound (P:Program)(w0:Bs)(cs0:List Frame)(F:Ih):Prop:=
 ∀ E m t c fr cs w,MR P w0 cs0 E m t c fr cs w→Fin P w0 cs0 (F m t c) fr cs w
theorem Fin.fail {P:Program}{w0:Bs}{cs0:List Frame}{a b d:Nat}{fr:Frame}{cs:List Frame}{w:World}:Fin P w0 cs0 (.fail a b d) fr cs w:=fun _ _ _ h=>by cases h
theorem Fin.steps {P:Program}{w0:Bs}{cs0:List Frame}{out:Out}{fr fr':Frame}{cs cs':List Frame}{w w':World}(hs:Steps P (lone fr cs w) (lone fr' cs' w'))(h:Fin P w0 cs0 out fr' cs' w'):Fin P w0 cs0 out fr cs w:=by
 intro m' t' c' e
 obtain⟨E',a,b,d,h1,h2⟩:=h m' t' c' e
 exact⟨E',a,b,d,hs.trans h1,h2⟩
theorem Fin.step {P:Program}{w0:Bs}{cs0:List Frame}{out:Out}{fr fr':Frame}{cs cs':List Frame}{w w':World}(hs:Go.step P (lone fr cs w)=.next (lone fr' cs' w'))(h:Fin P w0 cs0 out fr' cs' w'):Fin P w0 cs0 out fr cs w:=
 Fin.steps (.one hs) h
end Go.Exo

namespace Go.Exo
set_option linter.unusedSectionVars false
variable [Sx] [Dc]
section
variable {P:Program}{fr:Frame}{cs:List Frame}{w:World}{k:List Item}(hm:fr.mode=.run)
include hm
theorem st_skip (ht:fr.todo=.code .skip::k):Go.step P (lone fr cs w)=.next (lone { fr with todo:=k } cs w):=by
 cases fr;simp only at hm ht;subst hm ht;exact step_lone_go (by simp[stepG,stepG.exec])
theorem st_label {l:Nat}(ht:fr.todo=.code (.label l)::k):Go.step P (lone fr cs w)=.next (lone { fr with todo:=k } cs w):=by
 cases fr;simp only at hm ht;subst hm ht;exact step_lone_go (by simp[stepG,stepG.exec])
theorem st_inBlock {id:Nat}(ht:fr.todo=.inBlock id::k):Go.step P (lone fr cs w)=.next (lone { fr with todo:=k } cs w):=by
 cases fr;simp only at hm ht;subst hm ht;exact step_lone_go (by simp[stepG,stepG.exec])
theorem st_inScope {c:Code}(ht:fr.todo=.inScope c::k):Go.step P (lone fr cs w)=.next (lone { fr with todo:=k } cs w):=by
 cases fr;simp only at hm ht;subst hm ht;exact step_lone_go (by simp[stepG,stepG.exec])
theorem st_seq {a b:Code}(ht:fr.todo=.code (.seq a b)::k):Go.step P (lone fr cs w)=.next (lone { fr with todo:=.code a::.code b::k } cs w):=by
 cases fr;simp only at hm ht;subst hm ht;exact step_lone_go (by simp[stepG,stepG.exec])
theorem st_cond {x:Operand}{a b:Code}{t:Bool}(ht:fr.todo=.code (.cond x a b)::k)(hx:fr.eval x=.bool t):Go.step P (lone fr cs w)=.next (lone { fr with todo:=.code (if t then a else b)::k } cs w):=by
 refine step_lone_go ?_
 have e:∀ k',({ fr with todo:=k' }:Frame).eval x=fr.eval x:=fun _=>by cases x<;>rfl
 cases fr;simp only at hm ht;subst hm ht
 simp[stepG,stepG.exec,hx]
theorem st_block {id:Nat}{b:Code}(ht:fr.todo=.code (.block id b)::k):Go.step P (lone fr cs w)=.next (lone { fr with todo:=.code b::.inBlock id::k } cs w):=by
 cases fr;simp only at hm ht;subst hm ht;exact step_lone_go (by simp[stepG,stepG.exec])
theorem st_loop {b:Code}(ht:fr.todo=.code (.loop b)::k):Go.step P (lone fr cs w)=.next (lone { fr with todo:=.code b::.inLoop b::k } cs w):=by
 cases fr;simp only at hm ht;subst hm ht;exact step_lone_go (by simp[stepG,stepG.exec])
theorem st_inLoop {b:Code}(ht:fr.todo=.inLoop b::k):Go.step P (lone fr cs w)=.next (lone { fr with todo:=.code b::.inLoop b::k } cs w):=by
 cases fr;simp only at hm ht;subst hm ht;exact step_lone_go (by simp[stepG,stepG.exec])
theorem st_scope {b:Code}(ht:fr.todo=.code (.scope b)::k):Go.step P (lone fr cs w)=.next (lone { fr with todo:=.code b::.inScope b::k } cs w):=by
 cases fr;simp only at hm ht;subst hm ht;exact step_lone_go (by simp[stepG,stepG.exec])
theorem st_exit {id:Nat}{k':List Item}(ht:fr.todo=.code (.exit id)::k)(he:exitTo id k=some k'):Go.step P (lone fr cs w)=.next (lone { fr with todo:=k' } cs w):=by
 cases fr;simp only at hm ht;subst hm ht;exact step_lone_go (by simp[stepG,stepG.exec,he])
theorem st_goto {l:Nat}{k':List Item}(ht:fr.todo=.code (.goto l)::k)(he:gotoIn l k=some k'):Go.step P (lone fr cs w)=.next (lone { fr with todo:=k' } cs w):=by
 cases fr;simp only at hm ht;subst hm ht;exact step_lone_go (by simp[stepG,stepG.exec,he])
def leaving (todo:List Item):Option (Option Code):=
 match todo with
 |[]=>some none
 |.code .ret::_=>some (some .ret)
 |.code (.exit id)::k=>(match exitTo id k with|none=>some (some (.exit id))|some _=>none)
 |.code (.goto l)::k=>(match gotoIn l k with|none=>some (some (.goto l))|some _=>none)
 |_=>none
theorem st_ret (ht:fr.todo=[]∨fr.todo=.code .ret::k)(hr:fr.roundOf=none):Go.step P (lone fr cs w)=.next (lone { fr with mode:=.returning } cs w):=by
 cases fr;simp only at hm ht hr;subst hm hr
 rcases ht with ht|ht<;>subst ht<;>exact step_lone_go (by simp[stepG,stepG.exec])
theorem st_round {jump:Option Code}{l:Nat}{w':World}{v:Value}{c:Frame}(ht:leaving fr.todo=some jump)(hr:fr.roundOf=some l)(he:(Instr.endRound l jump).run P w=.ok v w')(hk:fr.kind=.normal) :
  Go.step P (lone fr (c::cs) w)=.next (lone (c.finish v) cs w'):=by
 cases fr;simp only at hm ht hr hk;subst hm hr hk
 refine step_lone_go ?_
 unfold leaving at ht
 split at ht
 ·cases ht
  simp[stepG,stepG.exec,he,doReturn]
 ·cases ht
  simp[stepG,stepG.exec,he,doReturn]
 ·split at ht
  ·rename_i e2
   cases ht
   simp[stepG,stepG.exec,he,e2,doReturn]
  ·cases ht
 ·split at ht
  ·rename_i e2
   cases ht
   simp[stepG,stepG.exec,he,e2,doReturn]
  ·cases ht
 ·cases ht
theorem st_region {id:Nat}{ops:Array Oper}(ht:fr.todo=.code (.region id ops false)::k):Go.step P (lone fr cs w)=.next (lone { fr with todo:=.inRegion ops (List.range ops.size)::k } cs w):=by
 cases fr;simp only at hm ht;subst hm ht;exact step_lone_go (by simp[stepG,stepG.exec])
theorem st_regionD {id:Nat}{ops:Array Oper}(ht:fr.todo=.code (.region id ops true)::k) :
  Go.step P (lone fr cs w)=.next (lone { fr with todo:=.inRegion ops (Region.schedule (P.follows .mixedOrders) ops (w.tape w.drawn (.order fr.fn id)))::k } cs { w with drawn:=w.drawn+1 }):=by
 cases fr;simp only at hm ht;subst hm ht;exact step_lone_go (by simp[stepG,stepG.exec,choose,Sem.run,Question.forced,Question.cut])
theorem st_regionEnd {ops:Array Oper}(ht:fr.todo=.inRegion ops []::k):Go.step P (lone fr cs w)=.next (lone { fr with todo:=k } cs w):=by
 cases fr;simp only at hm ht;subst hm ht;exact step_lone_go (by simp[stepG,stepG.exec])
theorem st_opSkip {ops:Array Oper}{i:Nat}{is:List Nat}(ht:fr.todo=.inRegion ops (i::is)::k)(h:((ops[i]?).map (Region.wanted · (yielded ops fr.tmps))).getD false=false) :
  Go.step P (lone fr cs w)=.next (lone (fr.finish undef) cs w):=by
 cases fr;simp only at hm ht h;subst hm ht;exact step_lone_go (by simp[stepG,stepG.exec,h])
theorem stG_op {ops:Array Oper}{i:Nat}{is:List Nat}{o:Oper}(ht:fr.todo=.inRegion ops (i::is)::k)(ho:ops[i]? = some o)(hw:Region.wanted o (yielded ops fr.tmps)=true)
  (hnd:fr.roundOf=none∨∀ c,o.op≠.defer c) :
  stepG P true { frame:=fr,callers:=cs,status:=.running,dying:=none } w=stepG.apply P true fr cs none (execOp fr.eval o) w:=by
 cases fr;simp only at hm ht hw hnd;subst hm ht
 simp only[stepG,stepG.exec,ho,Option.map_some,Option.getD_some,hw,if_true,stepG.oper,Frame.oper?]
 rcases hnd with hnd|hnd
 ·subst hnd;rfl
 ·split
  ·rename_i hc;exact absurd hc (hnd _)
  ·rfl
section op
variable {ops:Array Oper}{i:Nat}{is:List Nat}{o:Oper}(ht:fr.todo=.inRegion ops (i::is)::k)(ho:ops[i]? = some o)(hw:Region.wanted o (yielded ops fr.tmps)=true)
  (hnd:fr.roundOf=none∨∀ c,o.op≠.defer c)
include ht ho hw hnd
theorem st_opVal {n:Next}{v:Value}{w':World}(hr:(execOp fr.eval o).run P w=.ok n w')(hn:NextV n=some v):Go.step P (lone fr cs w)=.next (lone (fr.finish v) cs w'):=by
 refine step_lone_go ?_
 rw[stG_op hm ht ho hw hnd]
 cases n<;>simp only[NextV] at hn<;>cases hn
 ·simp[stepG.apply,hr]
 ·simp[stepG.apply,hr]
theorem st_opEnter {f:FuncId}{args:Array Value}{w':World}(hr:(execOp fr.eval o).run P w=.ok (.enter f args) w'):Go.step P (lone fr cs w)=.next (lone (Frame.enter P f args .normal) (fr::cs) w'):=by
 refine step_lone_go ?_
 rw[stG_op hm ht ho hw hnd]
 simp[stepG.apply,hr,ht]
theorem st_opRound {l:Nat}{f:FuncId}{tmps:Array Value}{a b:Code}{w':World}(hr:(execOp fr.eval o).run P w=.ok (.round l f tmps a b) w') :
  Go.step P (lone fr cs w)=.next (lone (Frame.round l f tmps a b .normal) (fr::cs) w'):=by
 refine step_lone_go ?_
 rw[stG_op hm ht ho hw hnd]
 simp[stepG.apply,hr]
theorem st_opDefer {d:Deferred}{w':World}(hr:(execOp fr.eval o).run P w=.ok (.defer d) w'):Go.step P (lone fr cs w)=.next (lone ({ fr with defers:=d::fr.defers }.finish undef) cs w'):=by
 refine step_lone_go ?_
 rw[stG_op hm ht ho hw hnd]
 simp[stepG.apply,hr]
theorem st_opPanic {v:Value}{w':World}(hr:(execOp fr.eval o).run P w=.halt (.panic v) w'):Go.step P (lone fr cs w)=.next (lone { fr with mode:=.panicking [{ v,recovered:=false }] } cs w'):=by
 refine step_lone_go ?_
 rw[stG_op hm ht ho hw hnd]
 simp[stepG.apply,hr,Frame.raise,hm]
theorem st_opRecover {w':World}(hr:(execOp fr.eval o).run P w=.ok .recover w')(hro:fr.roundOf=none) :
  Go.step P (lone fr cs w)=.next (match tryRecover fr cs with|some (v,cs')=>lone (fr.finish v) cs' w'|none=>lone (fr.finish .nilIface) cs w'):=by
 cases h:tryRecover fr cs with
 |none=>
  simp only
  refine step_lone_go ?_
  rw[stG_op hm ht ho hw hnd]
  simp[stepG.apply,hr,hro,h]
 |some p=>
  obtain⟨v,cs'⟩:=p
  simp only
  refine step_lone_go ?_
  rw[stG_op hm ht ho hw hnd]
  simp[stepG.apply,hr,hro,h]
end op
theorem st_begin {l:Nat}{w':World}(ht:fr.todo=.beginRound::k)(hr:fr.roundOf=some l)(he:(Instr.beginRound l).run P w=.ok () w'):Go.step P (lone fr cs w)=.next (lone { fr with todo:=k } cs w'):=by
 cases fr;simp only at hm ht hr;subst hm ht hr
 refine step_lone_go ?_
 simp[stepG,stepG.exec,stepG.apply,he,Frame.finish]
theorem st_endLoop {l:Nat}{jump:Option Code}{w':World}(ht:fr.todo=.endRangeFunc l::k)(he:(Instr.endLoop l).run P w=.ok jump w') :
  Go.step P (lone fr cs w)=.next (lone { fr with todo:=(jump.map Item.code).toList++k } cs w'):=by
 cases fr;simp only at hm ht;subst hm ht
 refine step_lone_go ?_
 simp[stepG,stepG.exec,he]
theorem st_rangeFunc {f:Operand}{ps:Array Tmp}{a b:Code}{l:Nat}{mark:List Deferred}{w':World}{g:FuncId}{args:Array Value}(ht:fr.todo=.code (.rangeFunc f ps a b)::k)
  (he:(Instr.enterLoop fr.fn fr.tmps ps a b fr.roundOf).run P w=.ok (l,mark) w')
  (hi:(do let d ← Deferred.ofValue (fr.eval f) #[.func (.yield l) #[] #[]];invoke d.target d.args:Sem Next).run P w'=.ok (.enter g args) w') :
  Go.step P (lone fr cs w)=.next (lone (Frame.enter P g args .normal) ({ fr with todo:=.inRangeFunc l::k,defers:=mark++fr.defers }::cs) w'):=by
 refine step_lone_go ?_
 have e:∀ td ds,({ fr with todo:=td,defers:=ds }:Frame).eval=fr.eval:=fun _ _=>by funext x;cases x<;>rfl
 have e2:(do let d ← resolve ({ fr with todo:=.inRangeFunc l::k,defers:=mark++fr.defers }:Frame).eval { callee:=.value f,args:=#[.const (.func (.yield l) #[] #[])],argTypes:=#[] } 0;invoke d.target d.args:Sem Next)
   = (do let d ← Deferred.ofValue (fr.eval f) #[.func (.yield l) #[] #[]];invoke d.target d.args:Sem Next):=by
  rw[e]
  simp[resolve,Frame.eval]
 cases fr;simp only at hm ht;subst hm ht
 simp only at he hi e2
 simp[stepG,stepG.exec,he,stepG.apply,e2,hi]
end
section
variable {P:Program}{fr:Frame}{cs:List Frame}{w:World}
theorem st_collected {b:Nat}{a:Array Value}{ds:List Deferred}{w':World}(hm:fr.mode≠.run)(hd:fr.defers={ target:=.collected b,args:=a }::ds)(he:(Instr.takeDeferred b).run P w=.ok [] w') :
  Go.step P (lone fr cs w)=.next (lone { fr with defers:=ds } cs w'):=by
 refine step_lone_go ?_
 cases hmode:fr.mode with
 |run=>exact absurd hmode hm
 |returning=>simp[stepG,unwind,hmode,hd,he]
 |panicking chain=>simp[stepG,unwind,hmode,hd,he]
theorem st_return {c:Frame}{fn:Func}{v:Value}(hm:fr.mode=.returning)(hd:fr.defers=[])(hf:P.funcs[fr.fn]? = some fn)(hr:(results fn fr.tmps).run P w=.ok v w)(hk:fr.kind=.normal) :
  Go.step P (lone fr (c::cs) w)=.next (lone (c.finish v) cs w):=step_leave_returned ⟨hm,hd,hk,fn,hf,hr⟩
theorem st_returnD {c:Frame}{fn:Func}{v:Value}(hm:fr.mode=.returning)(hd:fr.defers=[])(hf:P.funcs[fr.fn]? = some fn)(hr:(results fn fr.tmps).run P w=.ok v w)(hk:fr.kind=.deferred) :
  Go.step P (lone fr (c::cs) w)=.next (lone { c with mode:=settle c.mode } cs w):=step_going_returned hk ⟨hm,hd,fn,hf,hr⟩
theorem st_raise {c:Frame}{fn:Func}{chain:List PanicEntry}(hm:fr.mode=.panicking chain)(hd:fr.defers=[])(hf:P.funcs[fr.fn]? = some fn):Go.step P (lone fr (c::cs) w)=.next (lone (c.raise chain) cs w):=
 step_leave_panicked ⟨hm,hd,fn,hf⟩
end
end Go.Exo

namespace Go.Exo
set_option linter.unusedSectionVars false
variable [Sx] [Dc]
section
variable {P:Program}{w0:Bs}{cs0:List Frame}{E:Env}{ih:Ih}
theorem Fin.setD {d:Option Nat}{v:V}{tm:T V}{sz:Nat}{k:T V→Out}{fr:Frame}{cs:List Frame}{w:World}
  (h0:d=none→Fin P w0 cs0 (k tm) fr cs w)(h1:∀ t,d=some t→t<sz→Fin P w0 cs0 (k (put undefV tm t v)) fr cs w):Fin P w0 cs0 (setD d v tm sz k) fr cs w:=by
 cases d with
 |none=>exact h0 rfl
 |some t=>
  simp only[Exo.setD,setUO_eq]
  cases hb:Nat.ble (Nat.succ t) sz with
  |false=>exact Fin.fail
  |true=>exact h1 t rfl (Nat.le_of_ble_eq_true hb)
theorem Fin.cond {b:Bool}{x y:Out}{fr:Frame}{cs:List Frame}{w:World}(h1:b=true→Fin P w0 cs0 x fr cs w)(h2:b=false→Fin P w0 cs0 y fr cs w):Fin P w0 cs0 (cond b x y) fr cs w:=by
 cases b with
 |true=>exact h1 rfl
 |false=>exact h2 rfl
theorem putL_getU (vs:List V)(off:Nat)(cs:T V)(i:Nat):getU (putL undefV vs off cs) i=if off≤i then (vs[i-off]?).getD (getU cs i) else getU cs i:=get_putL _ _ _ _ _
theorem TR.enter {args:List V}{xs:List Value}(h:VRs E args xs)(n:Nat):TR E (putL undefV args 0 .e) (xs.toArray++Array.replicate n undef):=by
 intro i
 rw[putL_getU,if_pos (Nat.zero_le _),Nat.sub_zero]
 have hl:=h.length
 by_cases c:i<args.length
 ·obtain⟨x,hx,hr⟩:=h.get i _ (List.getElem?_eq_getElem c)
  rw[List.getElem?_eq_getElem c]
  have:(xs.toArray++Array.replicate n undef).getD i undef=x:=by
   have hx2:xs.toArray[i]? = some x:=by simpa using hx
   have:(xs.toArray++Array.replicate n undef)[i]? = some x:=by rw[Array.getElem?_append_left (by simp;omega)];exact hx2
   rw[Array.getD_eq_getD_getElem?,this];rfl
  rw[this];exact hr
 ·rw[List.getElem?_eq_none (by omega)]
  have:(xs.toArray++Array.replicate n undef).getD i undef=undef:=by
   rw[Array.getD_eq_getD_getElem?]
   by_cases c2:i<xs.length+n
   ·rw[Array.getElem?_append_right (by simp;omega)]
    have:(Array.replicate n undef)[i-xs.toArray.size]? = some undef:=by rw[Array.getElem?_replicate,if_pos (by simp;omega)]
    rw[this];rfl
   ·rw[Array.getElem?_eq_none (by simp;omega)];rfl
  rw[this];exact VR.undef E
theorem enter_ok (hs:Sound P w0 cs0 ih){H:T AObj}{nx:Nat}{w:World}(hwr:WR w0 E H nx w)(hgl:∀ g,g<P.globals.size→∃ s,E g=some ⟨g,0,s,undef,noOb,[]⟩){afs:List AFrame}{frs:List Frame}
  (hf:FrsR P cs0 E H nx afs frs){f:Nat}{args:List V}{xs:List Value}(ha:VRs E args xs)(kind:CallKind) :
  Fin P w0 cs0 (enterK P f args kind afs H nx ih) (Frame.enter P f xs.toArray kind) frs w:=by
 unfold enterK
 cases hfo:fnOf P f with
 |none=>exact Fin.fail
 |some a=>
  obtain⟨fn,body,h1,h2,h3,h4⟩:=fnOf_some hfo
  subst h4
  refine Fin.cond (fun hb=>?_) fun _=>Fin.fail
  have hle:args.length≤fn.ntmps:=Nat.le_of_ble_eq_true hb
  have hl:=ha.length
  simp only[ofK_eq]
  refine hs E _ _ _ _ _ _ ⟨hwr,hgl,⟨nx,Nat.le_refl _,hf⟩,rfl,rfl,rfl,rfl,rfl,?_,?_⟩
  ·simp only[Frame.enter,h1,Option.map_some,Option.getD_some]
   simp;omega
  ·have ht:TodoR E [.code body] (Frame.enter P f xs.toArray kind).todo:=⟨_,_,rfl,by simp[ItemR,h1,h2],rfl⟩
   have htr:TR E (putL undefV args 0 .e) (Frame.enter P f xs.toArray kind).tmps:=TR.enter ha _
   cases kind with
   |normal=>exact⟨ht,htr,xs,ha,rfl⟩
   |_=>exact RunR.of ht htr
theorem foldl_params {tm:T V}{k:T V→Out}{fr:Frame}{frs:List Frame}{w:World} :
  ∀ (ps:List Nat)(args:List V)(xs:List Value)(tm:T V)(tmps:Array Value),VRs E args xs→TR E tm tmps→
   (∀ tm' tmps',ps.length=xs.length→tmps'=(ps.zip xs).foldl (fun tmps (x:Nat×Value)=>tmps.setIfInBounds x.1 x.2) tmps→tmps'.size=tmps.size→TR E tm' tmps'→Fin P w0 cs0 (k tm') fr frs w)→
   Fin P w0 cs0 (setParams tm tmps.size ps args k) fr frs w
 |[],[],xs,tm,tmps,ha,ht,hk=>by
  cases ha
  exact hk tm tmps rfl rfl rfl ht
 |[],_::_,_,_,_,_,_,_=>Fin.fail
 |_::_,[],_,_,_,_,_,_=>Fin.fail
 |p::ps,v::vs,xs,tm,tmps,ha,ht,hk=>by
  cases ha with
  |cons _ x _ xs h1 h2=>
   simp only[setParams,setUO_eq]
   refine Fin.cond (fun hb=>?_) fun _=>Fin.fail
   have hlt:p<tmps.size:=Nat.le_of_ble_eq_true hb
   have:=foldl_params (tm:=tm) (k:=k) (fr:=fr) (frs:=frs) (w:=w) ps vs xs (put undefV tm p v) (tmps.setIfInBounds p x) h2 (ht.put h1 hlt) (fun tm' tmps' a1 a2 a3 a4=>
    hk tm' tmps' (by simp[a1]) (by simpa using a2) (by simpa using a3) a4)
   simpa using this
theorem round_ok (hs:Sound P w0 cs0 ih){H:T AObj}{nx:Nat}{w:World}(hwr:WR w0 E H nx w)(hgl:∀ g,g<P.globals.size→∃ s,E g=some ⟨g,0,s,undef,noOb,[]⟩){afs:List AFrame}{frs:List Frame}
  (hf:FrsR P cs0 E H nx afs frs){l:Nat}{p:Pl}(hp:E l=some p){args:List V}{xs:List Value}(ha:VRs E args xs){fr:Frame}{cs:List Frame}
  (hstep:∀ fn tmps a b,(Instr.yield p.blk xs.toArray).run P w=.ok (.round p.blk fn tmps a b) w→Go.step P (lone fr cs w)=.next (lone (Frame.round p.blk fn tmps a b .normal) frs w)) :
  Fin P w0 cs0 (roundK l args afs H nx ih) fr cs w:=by
 unfold roundK
 cases ho:getH H l with
 |loop st pd fn tm sz ps assign body d=>
  simp only
  have hobj:=hwr.objs l p hp
  rw[ho] at hobj
  obtain⟨tmps,q,h1,h2,h3,h4⟩:=hobj
  subst h3
  refine foldl_params (tm:=tm) ps args xs tm tmps ha h2 fun tm' tmps' a1 a2 a3 a4=>?_
  have hy:(Instr.yield p.blk xs.toArray).run P w=.ok (.round p.blk fn tmps' assign body) w:=by
   have hg:(getObj p.blk).run P w=.ok (.loop { state:=st,pending:=pd,fn,tmps,params:=ps.toArray,assign,body,defers:=q.blk }) w:=by simp only[getObj,Sem.run,h4]
   have hz:(ps.toArray.zip xs.toArray).foldl (fun tmps (x:Nat×Value)=>tmps.setIfInBounds x.1 x.2) tmps=tmps':=by rw[a2];simp
   simp only[Instr.yield,Instr.getLoop,Sem.run_bind,hg,Result.andThen_ok]
   simp[a1,← hz]
  refine Fin.step (hstep _ _ _ _ hy) ?_
  refine hs E _ _ _ _ _ _ ⟨hwr,hgl,⟨nx,Nat.le_refl _,hf⟩,rfl,rfl,⟨p,hp,rfl⟩,rfl,rfl,by simp only[Frame.round];exact a3,?_⟩
  exact RunR.of ⟨_,_,rfl,rfl,_,_,rfl,rfl,_,_,rfl,rfl,rfl⟩ a4
 |_=>exact Fin.fail
structure Cur (P:Program)(w0:Bs)(cs0:List Frame)(E:Env)(b:Nat)(c:Ctx)(fr:Frame)(cs:List Frame)(w:World):Prop where
 wr:WR w0 E c.H c.nx w
 gl:∀ g,g<P.globals.size→∃ s,E g=some ⟨g,0,s,undef,noOb,[]⟩
 frs:FrsR P cs0 E c.H b c.cs cs
 ble:b≤c.nx
 fn:fr.fn=c.fn
 kind:fr.kind=c.kind
 round:RoundR E c.round fr.roundOf
 defers:DRs E c.ds fr.defers
 mode:fr.mode=.run
 size:fr.tmps.size=c.sz
theorem Cur.mr {b:Nat}{c:Ctx}{fr:Frame}{cs:List Frame}{w:World}(h:Cur P w0 cs0 E b c fr cs w){t:List AItem}{tm:T V}(ht:TodoR E t fr.todo)(htr:TR E tm fr.tmps) :
  MR P w0 cs0 E .run t { c with tm } fr cs w:=⟨h.wr,h.gl,⟨b,h.ble,h.frs⟩,h.fn,h.kind,h.round,h.defers,h.mode,h.size,RunR.of ht htr⟩
theorem opVal_hev {fr:Frame}(hgl:∀ g,g<P.globals.size→∃ s,E g=some ⟨g,0,s,undef,noOb,[]⟩){tm:T V}{x:Operand}(hx:opnFine P.globals.size x=true)(ht:∀ t,x=.tmp t→VR E (getU tm t) (fr.tmps.getD t undef)) :
  VR E ((compO x).ev tm) (fr.eval x):=by
 refine opnFine_ok hx (fun t e=>?_) (fun v e=>?_) (fun f e=>?_) (fun g e hg=>?_)
 ·subst e;exact ht t rfl
 ·subst e;rfl
 ·subst e;rfl
 ·subst e
  obtain⟨s,hs⟩:=hgl g hg
  have:=VR.ptr (E:=E) g 0 ⟨g,0,s,undef,noOb,[]⟩ hs
  simpa[Frame.eval] using this
end
end Go.Exo

namespace Go.Exo
set_option linter.unusedSectionVars false
variable [Sx] [Dc]
section
variable {P:Program}{w0:Bs}{cs0:List Frame}{E:Env}{ih:Ih}
theorem defer_res {o:Oper}{c:Call}(h:o.op=.defer c)(tm:T V)(H:T AObj)(nx:Nat):(∃ n,exOp (compOp P o) tm H nx=.fail n)∨∃ d,exOp (compOp P o) tm H nx=.defer d:=by
 unfold compOp
 cases hb:o.op.operands.toList.all (opnFine P.globals.size) with
 |false=>exact .inl ⟨_,rfl⟩
 |true=>
  rw[h]
  simp only[cond_true,compOp0]
  cases hc:c.callee with
  |value x=>
   show (∃ n,xDefer ((compO x).ev tm) (evL tm (c.args.toList.map compO))=.fail n)∨∃ d,xDefer ((compO x).ev tm) (evL tm (c.args.toList.map compO))=.defer d
   cases (compO x).ev tm<;>first|exact .inl ⟨_,rfl⟩|exact .inr ⟨_,rfl⟩
  |_=>exact .inl ⟨_,rfl⟩
theorem Cur.mono {b:Nat}{c:Ctx}{fr:Frame}{cs:List Frame}{w:World}(h:Cur P w0 cs0 E b c fr cs w){E':Env}{H':T AObj}{nx':Nat}{w':World}(hE:E.le E')(hk:KeepB b E E' c.H H')(hn:c.nx≤nx')
  (hwr:WR w0 E' H' nx' w'):Cur P w0 cs0 E' b (c.setH H' nx') fr cs w':=
 ⟨hwr,fun g hg=>(h.gl g hg).imp fun s hs=>hE _ _ hs,h.frs.mono hE hk,Nat.le_trans h.ble hn,h.fn,h.kind,h.round.mono hE,h.defers.mono hE,h.mode,h.size⟩
theorem SR.of_reg {b:Nat}{c:Ctx}{fr:Frame}{cs:List Frame}{w:World}(h:Cur P w0 cs0 E b c fr cs w){ops:Array Oper}{draw:Bool}{s:PStep}{r:List PStep}{k:List AItem}{is:List Nat}{k':List Item}{tm:T V}
  (ht:fr.todo=.inRegion ops (s.idx::is)::k')(hk:TodoR E k k')(hreg:RegR P E c.H b c.nx ops draw s r is tm fr.tmps):SR P E c.H b c.nx (frameOf c tm (.steps (s::r) ops draw::k) .run) fr:=
 ⟨h.fn,h.kind,h.round,h.defers,h.mode,h.size,is,k',ht,hk,hreg⟩
theorem resGo_ok (hs:Sound P w0 cs0 ih){b:Nat}{c:Ctx}{fr:Frame}{cs:List Frame}{w:World}(hc:Cur P w0 cs0 E b c fr cs w){ops:Array Oper}{s:PStep}{r:List PStep}{is:List Nat}{k:List AItem}{k':List Item}{draw:Bool}
  (ht:fr.todo=.inRegion ops (s.idx::is)::k'){o:Oper}(ho:ops[s.idx]? = some o)(hw:Region.wanted o (yielded ops fr.tmps)=true)(hop:s.op=compOp P o)(hk:TodoR E k k')
  {tm:T V}(hev:∀ x∈o.op.operands.toList,opnFine P.globals.size x=true→VR E ((compO x).ev tm) (fr.eval x))(hreg:RegR P E c.H b c.nx ops draw s r is tm fr.tmps)(hTR:draw=false→TR E tm fr.tmps){g:Go1}
  (hA:∀ E' H' nx' w' v x,E.le E'→KeepB c.nx E E' c.H H'→c.nx≤nx'→Cur P w0 cs0 E' b (c.setH H' nx') fr cs w'→VR E' v x→Fin P w0 cs0 (setD s.dst v tm c.sz fun tm'=>goOn s g (c.setH H' nx') tm') (fr.finish x) cs w')
  (hB:∀ (c':Ctx) fr' cs' v x,c'.H=c.H→c'.nx=c.nx→c'.sz=c.sz→Cur P w0 cs0 E b c' fr' cs' w→fr'.todo=fr.todo→fr'.tmps=fr.tmps→VR E v x→Fin P w0 cs0 (setD s.dst v tm c.sz fun tm'=>g tm' c') (fr'.finish x) cs' w) :
  Fin P w0 cs0 (resGo P (exOp s.op tm c.H c.nx) s r g tm c { ops,draw,k,ih }) fr cs w:=by
 have hgood:=compOp_ok (tm:=tm) (ev:=fr.eval) hc.wr o hev
 rw[← hop] at hgood
 have hnd:(∀ n,exOp s.op tm c.H c.nx≠.fail n)→(∀ d,exOp s.op tm c.H c.nx≠.defer d)→fr.roundOf=none∨∀ c,o.op≠.defer c:=by
  intro h1 h2
  refine .inr fun cc hcc=>?_
  rcases defer_res (P:=P) hcc tm c.H c.nx with⟨n,e⟩|⟨d,e⟩
  ·rw[← hop] at e;exact h1 n e
  ·rw[← hop] at e;exact h2 d e
 have hfrs:FrsR P cs0 E c.H c.nx (frameOf c tm (.steps (s::r) ops draw::k) .run::c.cs) (fr::cs):=⟨b,fr,cs,rfl,hc.ble,SR.of_reg hc ht hk hreg,hc.frs⟩
 cases hr:exOp s.op tm c.H c.nx with
 |fail n=>exact Fin.fail
 |val v=>
  rw[hr] at hgood
  obtain⟨n,x,h1,h2,h3⟩:=hgood
  refine Fin.step (st_opVal hc.mode ht ho hw (hnd (by rw[hr];intro _ e;cases e) (by rw[hr];intro _ e;cases e)) h1 h2) ?_
  exact hA E c.H c.nx w v x (Env.le.refl E) (fun _ _ h _=>⟨h,rfl⟩) (Nat.le_refl _) hc h3
 |valH v H' nx'=>
  rw[hr] at hgood
  obtain⟨n,x,w',E',h1,h2,h3,h4,h5,h6,h7⟩:=hgood
  refine Fin.step (st_opVal hc.mode ht ho hw (hnd (by rw[hr];intro _ e;cases e) (by rw[hr];intro _ e;cases e)) h1 h2) ?_
  exact hA E' H' nx' w' v x h3 h7 h6 (hc.mono h3 (KeepB.le h7 hc.ble) h6 h5) h4
 |enter f args=>
  rw[hr] at hgood
  show Fin P w0 cs0 (enterK P f args .normal _ c.H c.nx ih) fr cs w
  cases hfo:fnOf P f with
  |none=>unfold enterK;rw[hfo];exact Fin.fail
  |some a=>
   obtain⟨xs,h1,h2⟩:=hgood a hfo
   refine Fin.step (st_opEnter hc.mode ht ho hw (hnd (by rw[hr];intro _ e;cases e) (by rw[hr];intro _ e;cases e)) h1) ?_
   exact enter_ok hs hc.wr hc.gl hfrs h2 .normal
 |round l args=>
  rw[hr] at hgood
  obtain⟨p,xs,h1,h2,h3⟩:=hgood
  show Fin P w0 cs0 (roundK l args _ c.H c.nx ih) fr cs w
  refine round_ok hs hc.wr hc.gl hfrs h1 h3 fun fn tmps a b hy=>?_
  exact st_opRound hc.mode ht ho hw (hnd (by rw[hr];intro _ e;cases e) (by rw[hr];intro _ e;cases e)) (by rw[h2];exact hy)
 |pan v=>
  rw[hr] at hgood
  obtain⟨x,h1,h2⟩:=hgood
  show Fin P w0 cs0 (rPan v s r g tm c { ops,draw,k,ih }) fr cs w
  unfold rPan
  refine Fin.cond (fun _=>Fin.fail) fun hb=>?_
  refine Fin.step (st_opPanic hc.mode ht ho hw (hnd (by rw[hr];intro _ e;cases e) (by rw[hr];intro _ e;cases e)) h1) ?_
  refine hs E _ _ _ _ _ _ ⟨hc.wr,hc.gl,⟨b,hc.ble,hc.frs⟩,hc.fn,hc.kind,hc.round,hc.defers,⟨_,rfl,x,[],rfl,h2,rfl⟩,hc.size,?_⟩
  cases draw with
  |false=>exact .inr (hTR rfl)
  |true=>
   refine .inl ?_
   simp only[Bool.true_and,Bool.not_eq_false'] at hb
   cases hds:c.ds with
   |nil=>rfl
   |cons _ _=>rw[hds] at hb;cases hb
 |recover=>
  rw[hr] at hgood
  show Fin P w0 cs0 (rRec s r g tm c { ops,draw,k,ih }) fr cs w
  unfold rRec
  cases hck:c.kind<;>try exact Fin.fail
  cases hcr:c.round with
  |some _=>exact Fin.fail
  |none=>
   cases hcc:c.cs with
   |nil=>exact Fin.fail
   |cons f fs=>
    simp only
    have hro:=hc.round
    rw[hcr] at hro
    have hfs:=hc.frs
    rw[hcc] at hfs
    obtain⟨lo,frc,rest,rfl,hlo,hsr,hfr⟩:=hfs
    have hkind:fr.kind=.deferred:=by rw[hc.kind,hck]
    have hst:=st_opRecover hc.mode ht ho hw (.inl hro) (w':=w) (cs:=frc::rest) hgood hro
    have hmode:=hsr.2.2.2.2.1
    have hnone:tryRecover fr (frc::rest)=none→Fin P w0 cs0 (setD s.dst .nili tm c.sz fun tm=>g tm c) fr (frc::rest) w:=by
     intro hn
     rw[hn] at hst
     exact Fin.step hst (hB c fr (frc::rest) .nili .nilIface rfl rfl rfl hc rfl rfl .nili)
    cases hfm:f.mode with
    |run=>
     rw[hfm] at hmode
     change frc.mode=.run at hmode
     exact hnone (by simp[tryRecover,hkind,hmode])
    |returning=>
     rw[hfm] at hmode
     change frc.mode=.returning at hmode
     exact hnone (by simp[tryRecover,hkind,hmode])
    |panicking ch=>
     rw[hfm] at hmode
     obtain⟨es,hes,hch⟩:=hmode
     cases ch with
     |nil=>
      cases hch
      exact hnone (by simp[tryRecover,hkind,hes])
     |cons vb old=>
      obtain⟨v,bb⟩:=vb
      obtain⟨x,t,rfl,hx,hold⟩:=hch
      cases bb with
      |true=>exact hnone (by simp[tryRecover,hkind,hes])
      |false=>
       have htr:tryRecover fr (frc::rest)=some (x,{ frc with mode:=.panicking ({ v:=x,recovered:=true }::t) }::rest):=by simp[tryRecover,hkind,hes]
       rw[htr] at hst
       refine Fin.step hst ?_
       have hh:=hB { c with cs:={ f with mode:=.panicking ((v,true)::old) }::fs } fr ({ frc with mode:=.panicking ({ v:=x,recovered:=true }::t) }::rest) v x rfl rfl rfl ?_ rfl rfl hx
       ·simp only[hcr,hck] at hh;exact hh
       refine⟨hc.wr,hc.gl,⟨lo,_,rest,rfl,hlo,?_,hfr⟩,hc.ble,hc.fn,hc.kind,hc.round,hc.defers,hc.mode,hc.size⟩
       obtain⟨a1,a2,a3,a4,a5,a6,a7⟩:=hsr
       rw[hfm] at a7
       exact⟨a1,a2,a3,a4,⟨_,rfl,x,t,rfl,hx,hold⟩,a6,a7⟩
 |_=>
  rename_i d
  rw[hr] at hgood
  obtain⟨D,h1,h2⟩:=hgood
  show Fin P w0 cs0 (rDefer d s r g tm c { ops,draw,k,ih }) fr cs w
  unfold rDefer
  cases hcr:c.round with
  |some _=>exact Fin.fail
  |none=>
   simp only
   have hro:=hc.round
   rw[hcr] at hro
   refine Fin.step (st_opDefer hc.mode ht ho hw (.inl hro) h1) ?_
   have hh:=hB { c with ds:=d::c.ds } { fr with defers:=D::fr.defers } cs undefV undef rfl rfl rfl
    ⟨hc.wr,hc.gl,hc.frs,hc.ble,hc.fn,hc.kind,hc.round,⟨D,fr.defers,rfl,h2,hc.defers⟩,hc.mode,hc.size⟩ rfl rfl (VR.undef E)
   simp only[hcr] at hh
   exact hh
end
end Go.Exo

namespace Go.Exo
set_option linter.unusedSectionVars false
variable [Sx] [Dc]
section
variable {P:Program}{w0:Bs}{cs0:List Frame}{E:Env}{ih:Ih}
theorem wanted_none {ops:Array Oper}{o:Oper}{tmps:Array Value}(h:o.guard=none):Region.wanted o (yielded ops tmps)=true:=by simp[Region.wanted,h]
theorem wanted_bool {ops:Array Oper}{o:Oper}{tmps:Array Value}{j t:Nat}{want b:Bool}(h:o.guard=some (j,want))(hd:(ops[j]?).bind (·.dst)=some t)(hv:tmps.getD t undef=.bool b) :
  Region.wanted o (yielded ops tmps)=(b==want):=by
 have:tmps[t]? = some (.bool b):=by
  rw[Array.getD_eq_getD_getElem?] at hv
  cases hx:tmps[t]? with
  |none=>rw[hx] at hv;cases hv
  |some x=>rw[hx] at hv;simp at hv;rw[hv]
 simp only[Region.wanted,h,yielded,hd,Option.bind_some,this]
 cases b<;>cases want<;>rfl
theorem wanted_tup {ops:Array Oper}{o:Oper}{tmps:Array Value}{j t:Nat}{want:Bool}{vs:Array Value}(h:o.guard=some (j,want))(hd:(ops[j]?).bind (·.dst)=some t)(hv:tmps.getD t undef=.tuple vs) :
  Region.wanted o (yielded ops tmps)=false:=by
 rw[Array.getD_eq_getD_getElem?] at hv
 simp only[Region.wanted,h,yielded,hd,Option.bind_some]
 cases hx:tmps[t]? with
 |none=>rfl
 |some x=>
  rw[hx] at hv;simp at hv;subst hv;rfl
theorem gd_ok (hdc:DecE E){ops:Array Oper}{o:Oper}{tmps:Array Value}{tm:T V}{t:Nat}{want:Bool}(hg:gdOf ops o=some (t,want))(hv:VR E (getU tm t) (tmps.getD t undef)){yes no:Out}{i:Nat}{fr:Frame}{cs:List Frame}{w:World}
  (hy:Region.wanted o (yielded ops tmps)=true→GYes (gdOf ops o) tm→Fin P w0 cs0 yes fr cs w)(hn:Region.wanted o (yielded ops tmps)=false→GNo (gdOf ops o) tm→Fin P w0 cs0 no fr cs w) :
  Fin P w0 cs0 (gdGo (gdOf ops o) tm yes no i) fr cs w:=by
 have hgd:∃ j,o.guard=some (j,want)∧(ops[j]?).bind (·.dst)=some t:=by
  unfold gdOf at hg
  cases ho:o.guard with
  |none=>rw[ho] at hg;cases hg
  |some jw=>
   obtain⟨j,w'⟩:=jw
   rw[ho] at hg;simp only at hg
   cases hd:(ops[j]?).bind (·.dst) with
   |none=>rw[hd] at hg;cases hg
   |some t'=>rw[hd] at hg;cases hg;exact⟨j,rfl,hd⟩
 obtain⟨j,h1,h2⟩:=hgd
 rw[hg] at hy hn ⊢
 unfold gdGo
 simp only
 generalize hx:tmps.getD t undef=x at hv
 cases hu:getU tm t with
 |bool b=>
  rw[hu] at hv
  cases hv
  simp only
  have hw:=wanted_bool h1 h2 hx
  refine Fin.cond (fun hb=>hy (by rw[hw,hb]) (.inr ⟨t,want,rfl,?_⟩)) fun hb=>hn (by rw[hw,hb]) ⟨t,want,rfl,.inl ⟨b,by rw[hu];rfl,fun e=>by rw[e] at hb;simp at hb⟩⟩
  rw[hu];rw[beq_iff_eq] at hb;rw[hb];rfl
 |x u=>
  simp only
  cases hdu:Dc.dec u with
  |none=>exact Fin.fail
  |some b=>
   have hg:gB (getU tm t)=some b:=by rw[hu];exact hdu
   have hw:=wanted_bool h1 h2 (hx.trans (gB_ok hdc hv hg))
   simp only
   refine Fin.cond (fun hb=>hy (by rw[hw,hb]) (.inr ⟨t,want,rfl,?_⟩)) fun hb=>hn (by rw[hw,hb]) ⟨t,want,rfl,.inl ⟨b,hg,fun e=>by rw[e] at hb;simp at hb⟩⟩
   rw[beq_iff_eq] at hb;rw[hg,hb]
 |tup vs=>
  rw[hu] at hv
  cases hv
  exact hn (wanted_tup h1 h2 hx) ⟨t,want,rfl,.inr ⟨vs,hu⟩⟩
 |_=>exact Fin.fail
theorem gdBad_none {ops:Array Oper}{o:Oper}(h:gdOf ops o=none)(hg:o.guard≠none):gdBad ops o=true:=by
 unfold gdOf at h;unfold gdBad
 cases ho:o.guard with
 |none=>exact absurd ho hg
 |some jw=>
  obtain⟨j,w'⟩:=jw
  rw[ho] at h;simp only at h ⊢
  cases hd:(ops[j]?).bind (·.dst) with
  |none=>rfl
  |some t=>rw[hd] at h;cases h
theorem gdBad_some {ops:Array Oper}{o:Oper}{t:Nat}{want:Bool}(h:gdOf ops o=some (t,want)):gdBad ops o=false:=by
 unfold gdOf at h;unfold gdBad
 cases ho:o.guard with
 |none=>rfl
 |some jw=>
  obtain⟨j,w'⟩:=jw
  rw[ho] at h;simp only at h ⊢
  cases hd:(ops[j]?).bind (·.dst) with
  |none=>rw[hd] at h;cases h
  |some t=>rfl
theorem gdOf_none {ops:Array Oper}{o:Oper}(h:o.guard=none):gdOf ops o=none∧gdBad ops o=false:=by
 unfold gdOf gdBad;rw[h];exact⟨rfl,rfl⟩
theorem finish_op {fr:Frame}{ops:Array Oper}{i:Nat}{is:List Nat}{k':List Item}{o:Oper}(ht:fr.todo=.inRegion ops (i::is)::k')(ho:ops[i]? = some o)(x:Value) :
  fr.finish x={ fr with tmps:=match o.dst with|some d=>fr.tmps.setIfInBounds d x|none=>fr.tmps,todo:=.inRegion ops is::k' }:=by
 unfold Frame.finish
 rw[ht]
 simp only[ho,Option.bind_some]
 cases o.dst<;>rfl
theorem Cur.to {b:Nat}{c:Ctx}{fr:Frame}{cs:List Frame}{w:World}(h:Cur P w0 cs0 E b c fr cs w)(tmps:Array Value)(todo:List Item)(hs:tmps.size=fr.tmps.size):Cur P w0 cs0 E b c { fr with tmps,todo } cs w:=
 ⟨h.wr,h.gl,h.frs,h.ble,h.fn,h.kind,h.round,h.defers,h.mode,by show tmps.size=_;rw[hs];exact h.size⟩
theorem after_ok {b:Nat}{c:Ctx}{fr:Frame}{cs:List Frame}{w:World}(hc:Cur P w0 cs0 E b c fr cs w){ops:Array Oper}{i:Nat}{is:List Nat}{k':List Item}{o:Oper}(ht:fr.todo=.inRegion ops (i::is)::k')(ho:ops[i]? = some o)
  {tm:T V}(htr:TR E tm fr.tmps){v:V}{x:Value}(hv:VR E v x){kk:T V→Out}
  (hk:∀ tm' fr',Cur P w0 cs0 E b c fr' cs w→fr'.todo=.inRegion ops is::k'→TR E tm' fr'.tmps→Fin P w0 cs0 (kk tm') fr' cs w):Fin P w0 cs0 (setD o.dst v tm c.sz kk) (fr.finish x) cs w:=by
 rw[finish_op ht ho]
 refine Fin.setD (fun hd=>?_) fun t hd hlt=>?_
 ·rw[hd];exact hk tm _ (hc.to _ _ rfl) rfl htr
 ·rw[hd]
  refine hk _ _ (hc.to _ _ (by simp)) rfl ?_
  exact htr.put hv (by rw[hc.size];exact hlt)
theorem resGoF_eq {s:PStep}(h:s.again=[])(res:Res)(r:List PStep)(g:Go1)(tm:T V)(c:Ctx)(R:Reg):resGoF P res s r g tm c R=resGo P res s r g tm c R:=by
 have e:∀ c tm,goOn s g c tm=g tm c:=fun c tm=>by unfold goOn;rw[h];rfl
 cases res<;>first|rfl|(simp only[resGoF,resGo,rValF,rVal,rValHF,rValH,e])
theorem xs_seq (hs:Sound P w0 cs0 ih)(ops:Array Oper)(k:List AItem)(k':List Item):∀ (n i:Nat),i+n=ops.size→∀ (E:Env)(b:Nat)(c:Ctx)(tm:T V)(fr:Frame)(cs:List Frame)(w:World),
  Cur P w0 cs0 E b c fr cs w→fr.todo=.inRegion ops (List.range' i n)::k'→TodoR E k k'→TR E tm fr.tmps→
  Fin P w0 cs0 (xs P { ops,draw:=false,k,ih } (planS P ops (ops.toList.drop i) i) tm c) fr cs w
 |0,i,hi,E,b,c,tm,fr,cs,w,hc,ht,hk,htr=>by
  have:ops.toList.drop i=[]:=List.drop_eq_nil_of_le (by simp;omega)
  rw[this]
  refine Fin.step (st_regionEnd hc.mode ht) ?_
  have hc':=hc.to fr.tmps k' rfl
  exact hs E _ _ _ _ _ _ (hc'.mr hk htr)
 |n+1,i,hi,E,b,c,tm,fr,cs,w,hc,ht,hk,htr=>by
  have hlt:i<ops.size:=by omega
  have ho:ops[i]? = some ops[i]:=Array.getElem?_eq_getElem hlt
  generalize hoo:ops[i]=o at ho
  have hdrop:ops.toList.drop i=o::ops.toList.drop (i+1):=by
   rw[List.drop_eq_getElem_cons (by simpa using hlt)];simp[hoo]
  rw[hdrop]
  rw[List.range'_succ] at ht
  generalize hr:planS P ops (ops.toList.drop (i+1)) (i+1)=r
  have hrec:=xs_seq hs ops k k' n (i+1) (by omega)
  rw[hr] at hrec
  have hplan:planS P ops (o::ops.toList.drop (i+1)) i=pstep P ops i o::r:=by rw[← hr];rfl
  rw[hplan]
  show Fin P w0 cs0 (xCons P { ops,draw:=false,k,ih } (pstep P ops i o) r (xs P { ops,draw:=false,k,ih } r) tm c) fr cs w
  generalize hgg:xs P { ops,draw:=false,k,ih } r=g at hrec ⊢
  have hev:∀ x∈o.op.operands.toList,opnFine P.globals.size x=true→VR E ((compO x).ev tm) (fr.eval x):=fun x _ hx=>opVal_hev hc.gl hx fun t _=>htr t
  have hreg:RegR P E c.H b c.nx ops false (pstep P ops i o) r (List.range' (i+1) n) tm fr.tmps:=.inl ⟨rfl,o,i,ho,rfl,hr.symm,by congr 1;omega,htr⟩
  have main:gdBad ops o=false→Region.wanted o (yielded ops fr.tmps)=true→Fin P w0 cs0 (resGo P (exOp (pstep P ops i o).op tm c.H c.nx) (pstep P ops i o) r g tm c { ops,draw:=false,k,ih }) fr cs w:=by
   intro hbad hw
   refine resGo_ok hs hc (s:=pstep P ops i o) (draw:=false) ht ho hw (by simp only[pstep,hbad,cond_false]) hk hev hreg (fun _=>htr) ?_ ?_
   ·intro E' H' nx' w' v x hE hkk hn hc' hv
    refine after_ok hc' ht ho (htr.mono hE) hv fun tm' fr' c1 c2 c3=>?_
    show Fin P w0 cs0 (g tm' (c.setH H' nx')) fr' cs w'
    exact hrec E' b _ tm' fr' cs w' c1 c2 (hk.mono hE) c3
   ·intro c' fr' cs' v x e1 e2 e3 hc' e4 e5 hv
    rw[← e3]
    refine after_ok hc' (by rw[e4];exact ht) ho (by rw[e5];exact htr) hv fun tm' fr'' c1 c2 c3=>?_
    exact hrec E b _ tm' fr'' cs' w c1 c2 hk c3
  cases hg:o.guard with
  |none=>
   have hf:(pstep P ops i o).fast=true:=by simp[pstep,hg]
   unfold xCons
   rw[hf]
   show Fin P w0 cs0 (xFast P (pstep P ops i o) r g tm c { ops,draw:=false,k,ih }) fr cs w
   unfold xFast
   rw[resGoF_eq rfl]
   exact main (gdOf_none hg).2 (wanted_none hg)
  |some jw=>
   have hf:(pstep P ops i o).fast=false:=by simp[pstep,hg]
   unfold xCons
   rw[hf]
   show Fin P w0 cs0 (xSlow P (pstep P ops i o) r g tm c { ops,draw:=false,k,ih }) fr cs w
   unfold xSlow
   show Fin P w0 cs0 (gdGo (gdOf ops o) tm (resGo P (exOp (pstep P ops i o).op tm c.H c.nx) (pstep P ops i o) r g tm c { ops,draw:=false,k,ih }) (setD o.dst undefV tm c.sz fun tm=>g tm c) i) fr cs w
   cases hgo:gdOf ops o with
   |none=>
    have hbad:=gdBad_none hgo (by rw[hg];intro h;cases h)
    have:(pstep P ops i o).op=.bad:=by simp only[pstep,hbad,cond_true]
    rw[this]
    exact Fin.fail
   |some tw=>
    obtain⟨t,want⟩:=tw
    have hgd:=gd_ok hc.wr.decE (P:=P) (w0:=w0) (cs0:=cs0) (tmps:=fr.tmps) (tm:=tm) hgo (htr t) (yes:=resGo P (exOp (pstep P ops i o).op tm c.H c.nx) (pstep P ops i o) r g tm c { ops,draw:=false,k,ih }) (no:=setD o.dst undefV tm c.sz fun tm=>g tm c) (i:=i) (fr:=fr) (cs:=cs) (w:=w)
     (fun hw _=>main (gdBad_some hgo) hw) (fun hw _=>by
      refine Fin.step (st_opSkip hc.mode ht (by rw[ho];exact hw)) ?_
      refine after_ok hc ht ho htr (VR.undef E) fun tm' fr' c1 c2 c3=>?_
      exact hrec E b _ tm' fr' cs w c1 c2 hk c3)
    rw[hgo] at hgd
    exact hgd
end
end Go.Exo

namespace Go.Exo
set_option linter.unusedSectionVars false
variable [Sx] [Dc]
section
variable {P:Program}{w0:Bs}{E:Env}{H:T AObj}{nx:Nat}{w:World}
theorem WR.made (h:WR w0 E H nx w){l:Nat}(hl:E l=none)(hlt:l<nx)(o:Obj)(size d:Nat)(hc:clsOf (getH H l)=0)(hk:isCls (getH H l)=false)
  (hor:OR (E.set l ⟨w.heap.size,0,size,undef,noOb,[]⟩) H l ⟨w.heap.size,0,size,undef,noOb,[]⟩ (some o) (getH H l)) :
  WR w0 (E.set l ⟨w.heap.size,0,size,undef,noOb,[]⟩) H nx { w with heap:=w.heap.push o,drawn:=d }:=by
 have hle:E.le (E.set l ⟨w.heap.size,0,size,undef,noOb,[]⟩):=Env.le_set _ hl
 have hcn:∀ k,clsOf (getH H k)≠0→clsOf (getH H k)≠l:=fun k hc0 e=>by
  obtain⟨a,b,m,h1,_⟩:=h.cls k hc0
  rw[e] at h1;rw[h1] at hk;cases hk
 have hE:∀ k p,(E.set l ⟨w.heap.size,0,size,undef,noOb,[]⟩) k=some p→(k=l∧p=⟨w.heap.size,0,size,undef,noOb,[]⟩)∨(k≠l∧E k=some p):=by
  intro k p hp
  by_cases e:k=l
  ·subst e;rw[Env.set_self] at hp;cases hp;exact .inl ⟨rfl,rfl⟩
  ·rw[Env.set_other _ _ _ _ e] at hp;exact .inr ⟨e,hp⟩
 have hpush:∀ b,b<w.heap.size→(w.heap.push o)[b]? = w.heap[b]? := fun b hb=>by
  rw[Array.getElem?_push];rw[if_neg (by omega)]
 refine⟨?_,?_,?_,?_,?_,?_,?_,h.os,h.output,h.tape,h.le.trans hle,?dat,h.dec,fun l p hl b o v hf ho=>by
  rcases hE l p hl with⟨rfl,rfl⟩|⟨_,hl⟩
  ·cases hf
  ·exact h.fzo l p hl b o v hf ho⟩
 case dat=>
  intro k p hp b off v hf
  rcases hE k p hp with⟨rfl,rfl⟩|⟨hne,hp⟩
  ·cases hf
  ·obtain⟨h1,h2⟩:=h.dat k p hp b off v hf
   have hb:=cell_lt h1
   refine⟨(cell_heap (w:=w) (hpush b hb)).trans h1,fun l' p' hl' hb'=>?_⟩
   rcases hE l' p' hl' with⟨rfl,rfl⟩|⟨hne',hl'⟩
   ·simp only at hb';omega
   ·exact h2 l' p' hl' hb'
 ·intro k p hp
  rcases hE k p hp with⟨rfl,rfl⟩|⟨hne,hp⟩
  ·show OR _ _ _ _ (w.heap.push o)[w.heap.size]? _
   rw[Array.getElem?_push,if_pos rfl];exact hor
  ·show OR _ _ _ _ (w.heap.push o)[p.blk]? _
   rw[hpush _ (h.own k p hp).1]
   exact (h.objs k p hp).trans hle fun _ ho=>ho
 ·intro k hkx
  have:=h.fresh k hkx
  exact⟨by rw[Env.set_other _ _ _ _ (by omega)];exact this.1,this.2⟩
 ·intro k k' p p' hne hp hp' hb
  rcases hE k p hp with⟨e1,e2⟩|⟨hn1,g1⟩<;>rcases hE k' p' hp' with⟨e3,e4⟩|⟨hn2,g2⟩
  ·exact absurd (e1.trans e3.symm) hne
  ·have:=(h.own k' p' g2).1;rw[e2] at hb;simp only at hb;omega
  ·have:=(h.own k p g1).1;rw[e4] at hb;simp only at hb;omega
  ·exact h.sep k k' p p' hne g1 g2 hb
 ·intro k hc0
  obtain⟨a,b,m,h1,h2,h3⟩:=h.cls k hc0
  exact⟨a,b,m,h1,h2,by rw[Env.set_other _ _ _ _ (hcn k hc0)];exact h3⟩
 ·intro k p hp
  show p.blk<(w.heap.push o).size∧_
  rw[Array.size_push]
  rcases hE k p hp with⟨rfl,rfl⟩|⟨hne,hp⟩
  ·exact⟨Nat.lt_succ_self _,.inr (.inr (h.not_old (Nat.le_refl _)))⟩
  ·have:=h.own k p hp
   exact⟨Nat.lt_succ_of_lt this.1,this.2⟩
 ·intro b hb
  show (w.heap.push o)[b]? = _
  rw[hpush b (h.lt_old hb)];exact h.old b hb
 ·show _≤(w.heap.push o).size
  rw[Array.size_push];exact Nat.le_succ_of_le h.size
theorem WR.lazy (h:WR w0 E H nx w)(ao:AObj)(hc:clsOf ao=0):WR w0 E (put .no H nx ao) (nx+1) w:=by
 have hn:=h.fresh nx (Nat.le_refl _)
 have hget:∀ k,k≠nx→getH (put .no H nx ao) k=getH H k:=fun k e=>by rw[getH_put,if_neg e]
 have hself:getH (put .no H nx ao) nx=ao:=by rw[getH_put,if_pos rfl]
 have hne:∀ k p,E k=some p→k≠nx:=fun k p hk e=>by subst e;rw[hn.1] at hk;cases hk
 have hcn:∀ k,clsOf (getH H k)≠0→clsOf (getH H k)≠nx:=fun k hc0 e=>by
  obtain⟨a,b,m,h1,_⟩:=h.cls k hc0
  rw[e,hn.2] at h1;cases h1
 refine⟨?_,?_,?_,?_,?_,h.old,h.size,h.os,h.output,h.tape,h.le,fun k p hp b off v hf=>⟨(h.dat k p hp b off v hf).1,fun l' p' hl' hb'=>by rw[hget l' (hne l' p' hl')];exact (h.dat k p hp b off v hf).2 l' p' hl' hb'⟩,h.dec,h.fzo⟩
 ·intro k p hp
  rw[hget k (hne k p hp)]
  exact (h.objs k p hp).trans (Env.le.refl E) fun pos ho=>ho.same fun hc0=>hget _ (hcn k hc0)
 ·intro k hkx
  have:=h.fresh k (by omega)
  exact⟨this.1,by rw[hget k (by omega)];exact this.2⟩
 ·intro k k' p p' hn' hp hp' hb
  rw[hget k (hne k p hp),hget k' (hne k' p' hp')];exact h.sep k k' p p' hn' hp hp' hb
 ·intro k hc0
  by_cases e:k=nx
  ·subst e;rw[hself] at hc0;exact absurd hc hc0
  ·rw[hget k e] at hc0 ⊢
   obtain⟨a,b,m,h1,h2,h3⟩:=h.cls k hc0
   exact⟨a,b,m,by rw[hget _ (hcn k hc0)];exact h1,h2,h3⟩
 ·intro k p hp
  rw[hget k (hne k p hp)];exact h.own k p hp
def NewRun (E:Env)(w:World)(R:Result Value)(mk:Nat→V)(ob:AObj):Prop:=
 ∃ X obj sz d,R=.ok X { w with heap:=w.heap.push obj,drawn:=d }∧
  ∀ l E2,E.le E2→E2 l=some ⟨w.heap.size,0,sz,undef,noOb,[]⟩→VR E2 (mk l) X∧∀ H,OR E2 H l ⟨w.heap.size,0,sz,undef,noOb,[]⟩ (some obj) ob
theorem cells_or {vs:List V}{c:Array Value}{elem:TypeId}{fr:Nat×Nat}{fz:Nat}(hv:∀ (i:Nat) v,vs[i]? = some v→∃ x,c[i]? = some x∧VR E v x)(hle:vs.length≤c.size)(hfz:FzR fr fz 0 c.size)
  {E2:Env}(hE:E.le E2)(H:T AObj)(l n:Nat):OR E2 H l ⟨n,0,c.size,undef,noOb,[]⟩ (some (.cells c elem fr)) (.cells (putL .bad vs 0 .e) vs.length elem 0 0 fz false):=by
 refine⟨c,fr,rfl,by simp,hle,hfz,fun i hi _=>?_⟩
 rw[putL_get,if_pos (Nat.zero_le _),Nat.sub_zero,List.getElem?_eq_getElem hi]
 obtain⟨x,hx,hr⟩:=hv i _ (List.getElem?_eq_getElem hi)
 exact⟨x,by simpa using hx,hr.mono hE⟩
theorem ptr_at {E2:Env}{l n s:Nat}(h:E2 l=some ⟨n,0,s,undef,noOb,[]⟩):VR E2 (.ptr l 0) (.pointer (some ⟨n,0,none⟩)):=by
 have:=VR.ptr (E:=E2) l 0 ⟨n,0,s,undef,noOb,[]⟩ h
 simpa using this
theorem slice_at {E2:Env}{l n s len esz:Nat}{cap:Option Nat}{c:Nat}(h:E2 l=some ⟨n,0,s,undef,noOb,[]⟩)(h1:len≤c)(h2:c*esz≤s)(h3:∀ k,cap=some k→k=c):VR E2 (.slice l 0 len cap esz) (.slice (some ⟨n,0,none⟩) len c):=by
 have:=VR.slice (E:=E2) l 0 len cap esz ⟨n,0,s,undef,noOb,[]⟩ c h h1 (by simpa using h2) h3
 simpa using this
theorem nAlloc {t:TypeId}{i:TypeInfo}{z:V}(hi:P.info? t=some i)(hz:zeroOf i=some z){old:Value}:NewRun E w ((Instr.alloc t true old).run P w) (fun l=>.ptr l 0) (boxObj t z.cells):=by
 obtain⟨x,hx,hv,hzr⟩:=zeroOf_eq (E:=E) hz
 have hc:=hv.cells hzr
 refine⟨.pointer (some ⟨w.heap.size,0,none⟩),.cells x.cells t (0,0),x.cells.size,w.drawn,?_,fun l E2 hE hl=>⟨ptr_at hl,fun H=>?_⟩⟩
 ·simp[Instr.alloc,newVar,newRow,run_zeroValue' hi hx]
 ·rw[boxObj_eq];exact cells_or (fr:=(0,0)) (fz:=0) (fun i v hv=>by simpa using hc.get i v hv) (by rw[hc.length];simp) rfl hE H l _
theorem nBox {t:TypeId}{v:V}{X:Value}(hv:VR E v X)(hr:v.real=true):NewRun E w ((Instr.box t X).run P w) (fun l=>.ptr l 0) (.cells (putL .bad v.cells 0 .e) v.cells.length t 0 0 0 false):=by
 have hc:=hv.cells hr
 refine⟨.pointer (some ⟨w.heap.size,0,none⟩),.cells X.cells t (0,0),X.cells.size,w.drawn,?_,fun l E2 hE hl=>⟨ptr_at hl,fun H=>?_⟩⟩
 ·simp[Instr.box,newVar,newRow]
 ·exact cells_or (fr:=(0,0)) (fz:=0) (fun i v hv=>by simpa using hc.get i v hv) (by rw[hc.length];simp) rfl hE H l _
theorem nMap {t:TypeId}:NewRun E w ((Instr.makeMap t none).run P w) (fun l=>.map l) (.map [] 0):=by
 refine⟨.map (some w.heap.size),.map #[] 0,0,w.drawn,?_,fun l E2 hE hl=>⟨VR.map l _ hl,fun H=>⟨#[],rfl,trivial⟩⟩⟩
 simp[Instr.makeMap]
theorem nRange {t:TypeId}(ht:P.underlying t=some .string){l n:Nat}{s:ByteArray}(h1:s.data.toList=sB l n)(h2:n<256 ^ l):NewRun E w ((Instr.range t (.string s)).run P w) (fun k=>.ptr k 0) (.siter l n 0):=by
 refine⟨.pointer (some ⟨w.heap.size,0,none⟩),.stringIter s 0,0,w.drawn,?_,fun l E2 hE hl=>⟨ptr_at hl,fun H=>⟨s,rfl,h1,h2,rfl⟩⟩⟩
 simp[Instr.range,run_underlying ht]
theorem nConvSB {a b e:TypeId}(ha:P.underlying a=some .string)(hb:P.underlying b=some (.slice e))(he:P.underlying e=some (.int .u8)){l n:Nat}{s:ByteArray}(h1:s.data.toList=sB l n) :
  NewRun E w ((convert a b (.string s)).run P w) (fun k=>.slice k 0 l none 1) (.cells (putL .bad (bytesV l n) 0 .e) (bytesV l n).length e 0 0 1 false):=by
 have hs:=size_sB h1
 have hq:(Question.appendCap s.size 0 e).forced=false:=rfl
 generalize hcap:(Question.appendCap s.size 0 e).cut (w.tape w.drawn (.appendCap s.size 0 e))=cap
 have hge:s.size≤cap:=by rw[← hcap];simp[Question.cut]
 let c:Array Value:=(s.data.map fun b=>Value.int .u8 b.toNat)++Array.replicate (cap-s.size) (.int .u8 0)
 have hcs:c.size=cap:=by
  have:s.data.size=s.size:=rfl
  simp only[c,Array.size_append,Array.size_map,Array.size_replicate];omega
 have hrel:∀ (i:Nat) v,(bytesV l n)[i]? = some v→∃ x,c[i]? = some x∧VR E v x:=by
  intro i v hv
  obtain⟨x,hx,hr⟩:=(bytesV_rel (E:=E) l n).get i v hv
  refine⟨x,?_,hr⟩
  have hil:i<l:=by
   have:=(List.getElem?_eq_some_iff.1 hv).1
   rwa [bytesV_length] at this
  have hsz:s.data.size=s.size:=rfl
  simp only[c]
  rw[Array.getElem?_append_left (by simp;omega),Array.getElem?_map,← hx,List.getElem?_map,← h1,Array.getElem?_toList]
 refine⟨.slice (some ⟨w.heap.size,0,none⟩) s.size cap,.cells c e (cap,cap+1),c.size,w.drawn+1,?_,fun k E2 hE hk=>⟨?_,fun H=>?_⟩⟩
 ·simp only[convert,Sem.run_bind,run_underlying ha,run_underlying hb,run_underlying he,Result.andThen_ok,Conv.stringToBytes,run_choose,hq,Bool.false_eq_true,if_false,hcap,newRow,run_newObj,Sem.run_pure]
  rw[markStringish_run _ w.heap.size cap c e (by simp[c]) hcs]
  simp only[Result.andThen_ok]
  congr 1
  exact freeze_push w.heap c e cap w.tape (w.drawn+1) w.os w.output
 ·rw[hs];exact slice_at hk (by omega) (by omega) (fun k hk=>by cases hk)
 ·exact cells_or hrel (by rw[bytesV_length];omega) (by show (cap,cap+1)=(c.size,c.size+1);rw[hcs]) hE H k _
theorem fill_inv {tm:T V}{ev:Operand→Value}(place:Nat→Option (Nat×Nat)) :
  ∀ (ps:List (Nat×Operand))(l:List (Nat×Nat×AO))(cs:List V)(xs:Array Value),compParts place ps=some l→VRs E cs xs.toList→
   (∀ i x,(i,x)∈ps→VR E ((compO x).ev tm) (ev x))→
   (∃ n,∀ k,fillL tm l cs k=.fail n)∨
   ∃ cs' xs',(∀ k,fillL tm l cs k=k cs')∧Instr.fill place xs (ps.map fun (i,x)=>(i,ev x))=some xs'∧VRs E cs' xs'.toList∧cs'.length=cs.length
 |[],l,cs,xs,hl,hcs,_=>by
  cases hl
  exact .inr ⟨cs,xs,fun _=>rfl,rfl,hcs,rfl⟩
 |(i,x)::r,l,cs,xs,hl,hcs,hev=>by
  simp only[compParts] at hl
  cases hp:place i with
  |none=>rw[hp] at hl;simp at hl
  |some os=>
   obtain⟨off,size⟩:=os
   rw[hp] at hl
   cases hr:compParts place r with
   |none=>rw[hr] at hl;simp at hl
   |some l'=>
    rw[hr] at hl;simp only[Option.some.injEq] at hl;subst hl
    have hx:=hev i x (List.mem_cons_self ..)
    cases hb:(Nat.beq ((compO x).ev tm).cells.length size&&Nat.ble (Nat.add off size) cs.length&&((compO x).ev tm).real) with
    |false=>exact .inl ⟨21,fun k=>by simp only[fillL,hb];rfl⟩
    |true=>
     have hb':=hb
     simp only[Bool.and_eq_true] at hb
     have hs:=Nat.eq_of_beq_eq_true hb.1.1
     have hle:=Nat.le_of_ble_eq_true hb.1.2
     have hc:=hx.cells hb.2
     have hcl:=hc.length
     have hxl:=hcs.length
     simp only[Array.length_toList] at hcl hxl
     have e:∀ k,fillL tm ((off,size,compO x)::l') cs k=fillL tm l' (placeL ((compO x).ev tm).cells off cs) k:=fun k=>by simp only[fillL,hb'];rfl
     rcases fill_inv place r l' _ _ hr (place_rel hcs hc off) (fun j y hj=>hev j y (List.mem_cons_of_mem _ hj)) with⟨n,hn⟩|⟨cs',xs',h1,hf,hv,hlen⟩
     ·exact .inl ⟨n,fun k=>by rw[e];exact hn k⟩
     ·refine .inr ⟨cs',xs',fun k=>by rw[e];exact h1 k,?_,hv,by rw[hlen,placeL_length]⟩
      rw[List.map_cons,Instr.fill]
      simp only[hp]
      rw[if_neg (by
       simp only[ne_eq,Bool.or_eq_true,decide_eq_true_eq,not_or,Decidable.not_not]
       have hle':off+size≤cs.length:=hle
       constructor<;>omega)]
      rw[← hf]
      congr 1
      rw[← Array.foldl_toList,Array.toList_zipIdx]
theorem nBslice {t e:TypeId}{ps:Array (Nat×Operand)}{tm:T V}{ev:Operand→Value}{i:TypeInfo}{z:V}{len:Nat}(ht:P.underlying t=some (.slice e))(hi:P.info? e=some i)
  (hz:zeroOf i=some z)(hsmall:len*i.size≤16777216)(hzl:z.cells.length=i.size){l:List (Nat×Nat×AO)}(hl:compParts (fun j=>some (j*i.size,i.size)) ps.toList=some l)
  (hev:∀ i x,(i,x)∈ps.toList→VR E ((compO x).ev tm) (ev x)) :
  (∃ n,∀ k,fillL tm l (repeatL z.cells len) k=.fail n)∨
  ∃ cs,(∀ k,fillL tm l (repeatL z.cells len) k=k cs)∧NewRun E w ((Instr.buildSlice t len (ps.map fun (i,x)=>(i,ev x))).run P w) (fun k=>.slice k 0 len (some len) i.size) (.cells (putL .bad cs 0 .e) cs.length e 0 0 0 false):=by
 obtain⟨x,hx,hv,hzr⟩:=zeroOf_eq (E:=E) hz
 have hxs:x.cells.size=i.size:=by have:=(hv.cells hzr).length;simp only[Array.length_toList] at this;omega
 rcases fill_inv _ ps.toList l _ _ hl (zero_rel hv hzr len) hev with⟨n,hn⟩|⟨cs',xs',h1,hf,hr,hlen⟩
 ·exact .inl ⟨n,hn⟩
 refine .inr ⟨cs',h1,?_⟩
 have hrl:=hr.length
 simp only[Array.length_toList] at hrl
 have hsz:xs'.size=len*i.size:=by rw[← hrl,hlen,repeatL_length,hzl]
 refine⟨.slice (some ⟨w.heap.size,0,none⟩) len len,.cells xs' e (0,0),xs'.size,w.drawn,?_,fun k E2 hE hk=>⟨slice_at hk (Nat.le_refl _) (by omega) (fun k hk=>by cases hk;rfl),fun H=>?_⟩⟩
 ·have e1:(ps.map fun (i,x)=>(i,ev x)).toList=ps.toList.map fun (i,x)=>(i,ev x):=by simp
  rw[hxs] at hf
  by_cases h0:len*i.size=0
  ·have hf':Instr.fill (fun j=>some (j*i.size,i.size)) ((Array.range (len*i.size)).map ((#[]:Array Value)[· % (#[]:Array Value).size]!)) (ps.toList.map fun (i,x)=>(i,ev x))=some xs':=by
    rw[← hf];congr 1
    rw[h0];simp
   simp only[Instr.buildSlice,Sem.run_bind,run_underlying ht,Result.andThen_ok,run_sizeOf hi,Sem.run_ite,run_unsupported]
   rw[if_neg (by have:(2:Nat) ^ 24=16777216:=rfl;omega)]
   simp only[Sem.run_pure,Result.andThen_ok]
   rw[if_pos h0]
   simp only[Result.andThen_ok,e1,hf',newRow,Sem.run_bind,run_newObj,Sem.run_pure]
  ·simp only[Instr.buildSlice,Sem.run_bind,run_underlying ht,Result.andThen_ok,run_sizeOf hi,Sem.run_ite,run_unsupported]
   rw[if_neg (by have:(2:Nat) ^ 24=16777216:=rfl;omega)]
   simp only[Sem.run_pure,Result.andThen_ok]
   rw[if_neg h0]
   simp only[Result.andThen_ok,run_zeroValue' hi hx,e1,hxs,hf,newRow,Sem.run_bind,run_newObj,Sem.run_pure]
 ·exact cells_or (fr:=(0,0)) (fz:=0) (fun i v hv=>by simpa using hr.get i v hv) (by omega) rfl hE H k _
theorem nMkSl {t e:TypeId}{i:TypeInfo}{z:V}{n:Nat}(ht:P.underlying t=some (.slice e))(hi:P.info? e=some i)(hz:zeroOf i=some z)(hzl:z.cells.length=i.size)(h1:n*i.bytes≤16777216)(h2:n≤16777216) :
  NewRun E w ((Instr.makeSlice t (.int .i64 n) (.int .i64 n)).run P w) (fun k=>.slice k 0 n (some n) i.size) (.cells (putL .bad (repeatL z.cells n) 0 .e) (repeatL z.cells n).length e 0 0 0 false):=by
 obtain⟨x,hx,hv,hzr⟩:=zeroOf_eq (E:=E) hz
 have hxs:x.cells.size=i.size:=by have:=(hv.cells hzr).length;simp only[Array.length_toList] at this;omega
 have hr:=zero_rel hv hzr n
 have hrl:=hr.length
 simp only[Array.length_toList] at hrl
 refine⟨.slice (some ⟨w.heap.size,0,none⟩) n n,.cells ((Array.range (n*x.cells.size)).map (x.cells[· % x.cells.size]!)) e (0,0),((Array.range (n*x.cells.size)).map (x.cells[· % x.cells.size]!)).size,w.drawn,run_mkSl ht hi hx hxs h1 h2,fun k E2 hE hk=>⟨slice_at hk (Nat.le_refl _) (by simp[hxs]) (fun k hk=>by cases hk;rfl),fun H=>?_⟩⟩
 exact cells_or (fr:=(0,0)) (fz:=0) (fun i v hv=>by have:=hr.get i v hv;rwa [Array.getElem?_toList] at this) (by omega) rfl hE H k _
theorem NewOp.same {ao:AOp}{tm:T V}{mk mk':Nat→V}{ob ob':AObj}(h:NewOp ao tm mk ob)(h':∀ H nx,exOp ao tm H nx=.valH (mk' nx) (put .no H nx ob') (nx+1)):mk=mk'∧ob=ob':=by
 constructor
 ·funext n
  have e:=(h.ex .e n).symm.trans (h' .e n)
  injection e
 ·have e:=(h.ex .e 0).symm.trans (h' .e 0)
  injection e with _ e2 _
  have:=congrArg (fun H=>getH H 0) e2
  simpa[getH_put] using this
theorem NewOp.no {ao:AOp}{tm:T V}{mk:Nat→V}{ob:AObj}(h:NewOp ao tm mk ob){n:Nat}(h':exOp ao tm .e 0=.fail n):False:=by
 have:=h.ex .e 0
 rw[h'] at this;cases this
end
end Go.Exo

namespace Go.Exo
set_option linter.unusedSectionVars false
variable [Sx] [Dc]
section
variable {P:Program}{E:Env}{w:World}{tm:T V}{ev:Operand→Value}
def NewRunN (P:Program)(E:Env)(w:World)(R:Result Next)(mk:Nat→V)(ob:AObj):Prop:=
 ∃ X obj sz d,R=.ok (.value X) { w with heap:=w.heap.push obj,drawn:=d }∧
  ∀ l E2,E.le E2→E2 l=some ⟨w.heap.size,0,sz,undef,noOb,[]⟩→VR E2 (mk l) X∧∀ H,OR E2 H l ⟨w.heap.size,0,sz,undef,noOb,[]⟩ (some obj) ob
theorem NewRun.next {s:Sem Value}{mk:Nat→V}{ob:AObj}(h:NewRun E w (s.run P w) mk ob):NewRunN P E w ((do pure (.value (← s)):Sem Next).run P w) mk ob:=by
 obtain⟨X,obj,sz,d,h1,h2⟩:=h
 exact⟨X,obj,sz,d,by rw[Sem.run_bind,h1];rfl,h2⟩
theorem compCall_cls (c:Call):(compCall P c).cls≠1:=by
 unfold compCall
 repeat' split
 all_goals first|(simp[AOp.cls];done)|skip
 all_goals (
  rename_i fn _ _ _ _ _ _
  first|(cases (fn.name == "internal/bytealg.IndexByteString" && (fn.origin == "" || fn.origin == "internal/bytealg.IndexByteString"))<;>simp[AOp.cls];done)|skip)
 all_goals (simp only[Bool.cond_eq_ite];repeat' split)
 all_goals simp[AOp.cls]
theorem new_run (o:Oper)(hev:∀ x∈o.op.operands.toList,VR E ((compO x).ev tm) (ev x))(hcls:(compOp0 P o.op).cls=1){mk:Nat→V}{ob:AObj}(hn:NewOp (compOp0 P o.op) tm mk ob) :
  NewRunN P E w ((execOp ev o).run P w) mk ob:=by
 have m1:∀ x,x∈o.op.operands→VR E ((compO x).ev tm) (ev x):=fun x hx=>hev x (by simpa using hx)
 cases ho:o.op with
 |alloc t=>
  unfold execOp;simp only[ho]
  rw[ho] at hn;simp only[compOp0] at hn
  cases ht:tyOf P t with
  |none=>rw[ht] at hn;exact (hn.no rfl).elim
  |some di=>
   obtain⟨d,i⟩:=di
   rw[ht] at hn;simp only at hn
   cases hz:zeroOf i with
   |none=>rw[hz] at hn;exact (hn.no rfl).elim
   |some z=>
    rw[hz] at hn
    simp only[ofK_eq] at hn
    obtain⟨rfl,rfl⟩:=hn.same (mk':=fun l=>.ptr l 0) (ob':=boxObj t z.cells) (fun H nx=>by rw[boxObj_eq];show xAlloc _ H nx=_;simp only[xAlloc,newObj,setHR_eq])
    exact NewRun.next (nAlloc (tyOf_eq ht).2.2.1 hz)
 |box t x=>
  unfold execOp;simp only[ho]
  rw[ho] at hn;simp only[compOp0] at hn
  cases hr:((compO x).ev tm).real with
  |false=>exact (hn.no (by show xBox _ _ _ _=_;simp only[xBox,hr];rfl)).elim
  |true=>
   obtain⟨rfl,rfl⟩:=hn.same (mk':=fun l=>.ptr l 0) (fun H nx=>by show xBox _ _ H nx=_;simp only[xBox,newCells_eq,hr,cond_true];rfl)
   exact NewRun.next (nBox (m1 x (by simp[ho,Op.operands])) hr)
 |buildSlice t len ps=>
  unfold execOp;simp only[ho]
  rw[ho] at hn;simp only[compOp0] at hn
  have hps:∀ i x,(i,x)∈ps.toList→VR E ((compO x).ev tm) (ev x):=fun i x hx=>m1 x (by
   simp only[ho,Op.operands,List.mem_toArray,List.mem_map];exact⟨(i,x),hx,rfl⟩)
  cases hu:undT P t with
  |none=>rw[hu] at hn;exact (hn.no rfl).elim
  |some d=>
   rw[hu] at hn
   cases d<;>try exact (hn.no rfl).elim
   rename_i e
   simp only at hn
   cases hi:infoT P e with
   |none=>rw[hi] at hn;exact (hn.no rfl).elim
   |some i=>
    rw[hi] at hn;simp only at hn
    cases hz:zeroOf i with
    |none=>rw[hz] at hn;exact (hn.no rfl).elim
    |some z=>
     rw[hz] at hn;simp only at hn
     cases hb:(Nat.ble (len*i.size) 16777216&&Nat.beq z.cells.length i.size) with
     |false=>rw[hb] at hn;exact (hn.no rfl).elim
     |true=>
      rw[hb] at hn;simp only[cond_true] at hn
      simp only[Bool.and_eq_true] at hb
      cases hl:compParts (fun j=>some (j*i.size,i.size)) ps.toList with
      |none=>rw[hl] at hn;exact (hn.no rfl).elim
      |some l=>
       rw[hl] at hn;simp only at hn
       rcases nBslice (E:=E) (w:=w) (P:=P) (tm:=tm) (ev:=ev) (undT_eq P hu) (infoT_eq P hi) hz (Nat.le_of_ble_eq_true hb.1) (Nat.eq_of_beq_eq_true hb.2) hl hps with⟨n,hf⟩|⟨cs,hk,hr⟩
       ·exact (hn.no (n:=n) (hf _)).elim
       ·obtain⟨rfl,rfl⟩:=hn.same (fun H nx=>by
         show fillL tm l (repeatL z.cells len) (fun cs=>newCells e cs 0 H nx (.slice nx 0 len (some len) i.size))=_
         rw[hk,newCells_eq])
        exact NewRun.next hr
 |makeSlice t l c=>
  unfold execOp;simp only[ho]
  have hl:=m1 l (by simp[ho,Op.operands])
  have hc:=m1 c (by simp[ho,Op.operands])
  rw[ho] at hn;simp only[compOp0] at hn
  cases hu:undT P t with
  |none=>rw[hu] at hn;exact (hn.no rfl).elim
  |some d=>
   rw[hu] at hn
   cases d<;>try exact (hn.no rfl).elim
   rename_i e
   simp only at hn
   cases hi:infoT P e with
   |none=>rw[hi] at hn;exact (hn.no rfl).elim
   |some i=>
    rw[hi] at hn;simp only at hn
    cases hz:zeroOf i with
    |none=>rw[hz] at hn;exact (hn.no rfl).elim
    |some z=>
     rw[hz] at hn;simp only at hn
     cases hb:Nat.beq z.cells.length i.size with
     |false=>rw[hb] at hn;exact (hn.no rfl).elim
     |true=>
      rw[hb] at hn;simp only[cond_true] at hn
      have hex:∀ H nx,exOp (.mkSl e i.size i.bytes z.cells (compO l) (compO c)) tm H nx=xMkSl e i.size i.bytes z.cells ((compO l).ev tm) ((compO c).ev tm) H nx:=fun _ _=>rfl
      generalize (compO l).ev tm=lv at hl hex
      generalize (compO c).ev tm=cv at hc hex
      generalize ev l=LV at hl ⊢
      generalize ev c=CV at hc ⊢
      cases hl<;>try exact (hn.no (hex _ _)).elim
      rename_i k n
      cases k<;>try exact (hn.no (hex _ _)).elim
      cases n with
      |negSucc _=>exact (hn.no (hex _ _)).elim
      |ofNat n=>
       cases hc<;>try exact (hn.no (hex _ _)).elim
       rename_i k m
       cases k<;>try exact (hn.no (hex _ _)).elim
       cases m with
       |negSucc _=>exact (hn.no (hex _ _)).elim
       |ofNat m=>
        cases hb2:(Nat.beq n m&&Nat.ble (Nat.mul n i.bytes) 16777216&&Nat.ble n 16777216) with
        |false=>exact (hn.no (n:=171) ((hex _ _).trans (by simp only[xMkSl,hb2];rfl))).elim
        |true=>
         have hb3:=hb2
         simp only[Bool.and_eq_true] at hb3
         obtain rfl:=Nat.eq_of_beq_eq_true hb3.1.1
         obtain⟨rfl,rfl⟩:=hn.same (fun H nx=>(hex H nx).trans (by simp only[xMkSl,hb2,cond_true,newCells_eq];rfl))
         exact NewRun.next (nMkSl (undT_eq P hu) (infoT_eq P hi) hz (Nat.eq_of_beq_eq_true hb) (Nat.le_of_ble_eq_true hb3.1.2) (Nat.le_of_ble_eq_true hb3.2))
 |makeMap t r=>
  unfold execOp;simp only[ho]
  rw[ho] at hn;simp only[compOp0] at hn
  cases r with
  |some _=>exact (hn.no rfl).elim
  |none=>
   obtain⟨rfl,rfl⟩:=hn.same (mk':=fun l=>.map l) (ob':=.map [] 0) (fun H nx=>by show newObj (.map [] 0) H nx (fun H nx'=>.valH (.map nx) H nx')=_;simp only[newObj,setHR_eq])
   exact NewRun.next nMap
 |range t x=>
  unfold execOp;simp only[ho]
  have hx:=m1 x (by simp[ho,Op.operands])
  rw[ho] at hn;simp only[compOp0] at hn
  cases hu:undT P t with
  |none=>rw[hu] at hn;exact (hn.no rfl).elim
  |some d=>
   rw[hu] at hn
   cases d<;>try exact (hn.no rfl).elim
   case map kt e=>rw[ho] at hcls;simp only[compOp0,hu] at hcls;exact absurd (show (4:Nat)=1 from hcls) (by decide)
   simp only at hn
   generalize hxv:(compO x).ev tm=v at hx
   have he:∀ H nx,exOp (.rangeS (compO x)) tm H nx=xRangeS v H nx:=fun H nx=>by rw[← hxv];rfl
   generalize hX:ev x=X at hx ⊢
   cases hx
   case str l n s h1 h2=>
    obtain⟨rfl,rfl⟩:=hn.same (mk':=fun k=>.ptr k 0) (ob':=.siter l n 0) (fun H nx=>by rw[he];simp only[xRangeS,newObj,setHR_eq])
    exact NewRun.next (nRange (undT_eq P hu) h1 h2)
   all_goals exact (hn.no (he _ _)).elim
 |convert a b x=>
  unfold execOp;simp only[ho]
  have hx:=m1 x (by simp[ho,Op.operands])
  rw[ho] at hn hcls;simp only[compOp0] at hn hcls
  cases ha:undT P a with
  |none=>rw[ha] at hn;exact (hn.no rfl).elim
  |some da=>
   cases hb:undT P b with
   |none=>rw[ha,hb] at hn;cases da<;>exact (hn.no rfl).elim
   |some db=>
    rw[ha,hb] at hn hcls
    cases da<;>try exact (hn.no rfl).elim
    case int k0=>
     cases db<;>first|exact (hn.no rfl).elim|cases hcls
    case string=>
     cases db<;>try exact (hn.no rfl).elim
     rename_i e
     simp only at hn
     cases he:undT P e with
     |none=>rw[he] at hn;exact (hn.no rfl).elim
     |some de=>
      rw[he] at hn
      cases de<;>try exact (hn.no rfl).elim
      rename_i k
      cases k<;>try exact (hn.no rfl).elim
      simp only at hn
      generalize hxv:(compO x).ev tm=v at hx
      have hee:∀ H nx,exOp (.convSB e (compO x)) tm H nx=xConvSB e v H nx:=fun H nx=>by rw[← hxv];rfl
      generalize hX:ev x=X at hx ⊢
      cases hx
      case str l n s h1 h2=>
       obtain⟨rfl,rfl⟩:=hn.same (mk':=fun k=>.slice k 0 l none 1) (fun H nx=>by rw[hee];simp only[xConvSB,newCells_eq];rfl)
       exact NewRun.next (nConvSB (undT_eq P ha) (undT_eq P hb) (undT_eq P he) h1)
      all_goals exact (hn.no (hee _ _)).elim
    case slice e=>
     cases db<;>try exact (hn.no rfl).elim
     simp only at hn hcls
     cases he:undT P e with
     |none=>rw[he] at hn;exact (hn.no rfl).elim
     |some de=>
      rw[he] at hn hcls
      cases de<;>try exact (hn.no rfl).elim
      rename_i k
      cases k<;>first|exact (hn.no rfl).elim|cases hcls
 |call c=>rw[ho] at hcls;exact absurd hcls (compCall_cls c)
 |next x b=>exfalso;rw[ho] at hcls;cases b<;>exact absurd (show (4:Nat)=1 from hcls) (by decide)
 |_=>
  exfalso
  rw[ho] at hcls
  first
   |exact absurd (show (4:Nat)=1 from hcls) (by decide)
   |exact absurd (show (0:Nat)=1 from hcls) (by decide)
   |(simp only[compOp0,Bool.cond_eq_ite] at hcls
     repeat' split at hcls
     all_goals first
      |exact absurd (show (4:Nat)=1 from hcls) (by decide)
      |exact absurd (show (0:Nat)=1 from hcls) (by decide)
      |exact absurd (show (2:Nat)=1 from hcls) (by decide)
      |exact absurd (show (3:Nat)=1 from hcls) (by decide))
   |(simp only[compOp0] at hcls
     repeat' split at hcls
     all_goals first
      |exact absurd (show (4:Nat)=1 from hcls) (by decide)
      |exact absurd (show (0:Nat)=1 from hcls) (by decide)
      |exact absurd (show (2:Nat)=1 from hcls) (by decide)
      |exact absurd (show (3:Nat)=1 from hcls) (by decide))
end
end Go.Exo
