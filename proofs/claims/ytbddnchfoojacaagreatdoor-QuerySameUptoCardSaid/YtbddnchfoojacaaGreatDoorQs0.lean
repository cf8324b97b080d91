/-
  The document's UTF-8, exactly. Own text.
-/
import Derived.Test.YtbddnchfoojacaaGreatDoorWo1
import Derived.Lib.ValidLaws
set_option linter.all false
namespace Go.Proofs.Wo
open Go.Exo Go.Exo.Wo
set_option maxRecDepth 100000
set_option linter.all false
variable {k:Nat}{G:World→Prop}
def rnF (len i x0 x1 x2 x3:Int):Int:=
 if x0<128 then 1
 else if 194≤x0∧x0≤223∧i+1<len∧128≤x1∧x1≤191 then 2
 else if 224≤x0∧x0≤239∧(i+1<len∧128≤x1∧x1≤191)∧(i+2<len∧128≤x2∧x2≤191) then (if (x0=224∧x1<160)∨(x0=237∧159<x1) then 0 else 3)
 else if 240≤x0∧x0≤244∧(i+1<len∧128≤x1∧x1≤191)∧(i+2<len∧128≤x2∧x2≤191)∧(i+3<len∧128≤x3∧x3≤191) then (if (x0=240∧x1<144)∨(x0=244∧143<x1) then 0 else 4)
 else 0
def byteN (s:List UInt8)(i:Int):Int:=((s.getD i.toNat 0).toNat:Int)
def runeN (s:List UInt8)(i:Int):Int:=rnF s.length i (byteN s i) (byteN s (i+1)) (byteN s (i+2)) (byteN s (i+3))
def runeF:List Cl→List Cl
 |[.str s,.int i]=>[.int (runeN s i)]
 |_=>[]
set_option maxHeartbeats 4000000 in
theorem runeXV {tb:Nat→List Cl→Cl}:Vc0 tb 9 Krune.ks (fun c=>∃ s i,c=[.str s,.int i]∧0≤i∧i<s.length) (fun _ _ _=>True) (fun cls r=>r=runeF cls) runet:=by
 rintro cls E hE hw ⟨s,i,rfl,h0,h1⟩
 have hw':Wts [.str,.int .i64] [.str s,.int i]:=hw
 obtain⟨_,_,e,h2,_⟩:=hw'.cons_inv;cases e
 obtain⟨_,e,h3⟩:=h2.str_inv;cases e
 simp only[maxLen] at h3
 have w1:IntKind.wrap .i64 (i+1)=i+1:=i64_id (by omega) (by omega)
 have w2:i+1<s.length→IntKind.wrap .i64 (i+2)=i+2:=fun h=>i64_id (by omega) (by omega)
 have w3:i+2<s.length→IntKind.wrap .i64 (i+3)=i+3:=fun h=>i64_id (by omega) (by omega)
 simp only[runet,Tr.vc,To.goodT,List.map_cons,List.map_nil,hE.v,X.c_int,X.c_bool,X.c_bin,X.c_len,X.c_inr,X.c_at,lenC,inrD,atD,X.kd,binD,intD,List.getD_cons_zero,List.getD_cons_succ,isCmp,cond_true,cond_false,Cl.bool.injEq,exists_eq',true_and,and_true,decide_eq_true_eq,decide_eq_false_iff_not,h0,h1,w1,List.cons.injEq,Cl.int.injEq,exists_eq_left',decide_true,beq_iff_eq,beq_eq_false_iff_ne,ne_eq,implies_true,Cl.str.injEq,and_imp,forall_eq',runeF,runeN]
 have v2:i+1<s.length→((s.getD (IntKind.wrap .i64 (i+2)).toNat 0).toNat:Int)=byteN s (i+2):=fun h=>by rw[w2 h];rfl
 have v3:i+2<s.length→((s.getD (IntKind.wrap .i64 (i+3)).toNat 0).toNat:Int)=byteN s (i+3):=fun h=>by rw[w3 h];rfl
 have v0:((s.getD i.toNat 0).toNat:Int)=byteN s i:=rfl
 have v1:((s.getD (i+1).toNat 0).toNat:Int)=byteN s (i+1):=rfl
 simp only[v0,v1]
 generalize ((s.getD (IntKind.wrap .i64 (i+2)).toNat 0).toNat:Int)=b2 at v2 ⊢
 generalize ((s.getD (IntKind.wrap .i64 (i+3)).toNat 0).toNat:Int)=b3 at v3 ⊢
 generalize IntKind.wrap .i64 (i+2)=a2 at w2 ⊢
 generalize IntKind.wrap .i64 (i+3)=a3 at w3 ⊢
 generalize byteN s i=x0
 generalize byteN s (i+1)=x1
 generalize byteN s (i+2)=x2 at v2 ⊢
 generalize byteN s (i+3)=x3 at v3 ⊢
 generalize (s.length:Int)=len at *
 repeat' (first|(refine⟨?_,?_⟩)|intro _)
 all_goals first|omega|(unfold rnF;repeat' split)<;>omega
theorem rune_x (hG:Gd0 k G)(hsz:Tryz.prog.globals.size≤k):∃ tb,Krune.Sound Tryz.prog k G tb (fun c=>∃ s i,c=[.str s,.int i]∧0≤i∧i<s.length) runeF:=by
 letI:Tb:=⟨some (9,fun _ _=>.no)⟩
 exact⟨_,Ctr.ofT (hk:=hk0) Nat.lt_wfRel.wf (fun _ _=>0) (fun _ _ _=>True) hG (fun D=>@Hooks.nil _ (dcOf D) _ _ _ _) hsz (L:=9) (by kernel_rfl) rfl (trs:=[]) (by kernel_rfl) runet_ok runeXV trivial⟩
end Go.Proofs.Wo

namespace Go.Proofs.Wo
open Go.Exo Go.Exo.Wo Go.Lib
set_option maxRecDepth 100000
set_option linter.all false
set_option maxHeartbeats 4000000 in
theorem rn_lead (n:Nat)(len i:Int)(hn:len=i+n)(x0 x1 x2 x3:Nat)(h0:128≤x0)(h0':x0<256) :
  (checkN n x1 x2 x3 (firstT x0 % 8) (accLo (firstT x0 / 16)) (accHi (firstT x0 / 16))=none∧rnF len i x0 x1 x2 x3=0)∨
  ∃ k:Nat,0<k∧checkN n x1 x2 x3 (firstT x0 % 8) (accLo (firstT x0 / 16)) (accHi (firstT x0 / 16))=some k∧rnF len i x0 x1 x2 x3=k:=by
 have bad:firstT x0=241→(x0<194∨244<x0)→(checkN n x1 x2 x3 (firstT x0 % 8) (accLo (firstT x0 / 16)) (accHi (firstT x0 / 16))=none∧rnF len i x0 x1 x2 x3=0)∨
  ∃ k:Nat,0<k∧checkN n x1 x2 x3 (firstT x0 % 8) (accLo (firstT x0 / 16)) (accHi (firstT x0 / 16))=some k∧rnF len i x0 x1 x2 x3=k:=by
  intro e hb
  left
  refine⟨by rw[e];simp[checkN],?_⟩
  unfold rnF;repeat' split
  all_goals omega
 have two:∀ e:Nat,firstT x0=e→e % 8=2→accLo (e / 16)=128→accHi (e / 16)=191→194≤x0→x0<224→(checkN n x1 x2 x3 (firstT x0 % 8) (accLo (firstT x0 / 16)) (accHi (firstT x0 / 16))=none∧rnF len i x0 x1 x2 x3=0)∨
  ∃ k:Nat,0<k∧checkN n x1 x2 x3 (firstT x0 % 8) (accLo (firstT x0 / 16)) (accHi (firstT x0 / 16))=some k∧rnF len i x0 x1 x2 x3=k:=by
  intro e e0 e1 e2 e3 h1 h2
  rw[e0,e1,e2,e3]
  by_cases c:n<2∨x1<128∨191<x1
  ·left
   refine⟨by simp only[checkN,if_true,if_pos c],?_⟩
   unfold rnF;repeat' split
   all_goals omega
  ·right
   refine⟨2,by omega,by simp only[checkN,if_true,if_neg c],?_⟩
   unfold rnF;repeat' split
   all_goals omega
 have three:∀ (e lo hi:Nat),firstT x0=e→e % 8=3→accLo (e / 16)=lo→accHi (e / 16)=hi→224≤x0→x0<240→(x0=224→lo=160∧hi=191)→(x0=237→lo=128∧hi=159)→(x0≠224→x0≠237→lo=128∧hi=191)→(checkN n x1 x2 x3 (firstT x0 % 8) (accLo (firstT x0 / 16)) (accHi (firstT x0 / 16))=none∧rnF len i x0 x1 x2 x3=0)∨
  ∃ k:Nat,0<k∧checkN n x1 x2 x3 (firstT x0 % 8) (accLo (firstT x0 / 16)) (accHi (firstT x0 / 16))=some k∧rnF len i x0 x1 x2 x3=k:=by
  intro e lo hi e0 e1 e2 e3 h1 h2 h3 h4 h5
  rw[e0,e1,e2,e3]
  by_cases c:n<3∨x1<lo∨hi<x1∨x2<128∨191<x2
  ·left
   refine⟨by simp only[checkN,if_true,if_pos c,show ¬ (3=2) by decide,if_false],?_⟩
   unfold rnF;repeat' split
   all_goals omega
  ·right
   refine⟨3,by omega,by simp only[checkN,if_true,if_neg c,show ¬ (3=2) by decide,if_false],?_⟩
   unfold rnF;repeat' split
   all_goals omega
 have four:∀ (e lo hi:Nat),firstT x0=e→e % 8=4→accLo (e / 16)=lo→accHi (e / 16)=hi→240≤x0→x0<245→(x0=240→lo=144∧hi=191)→(x0=244→lo=128∧hi=143)→(x0≠240→x0≠244→lo=128∧hi=191)→(checkN n x1 x2 x3 (firstT x0 % 8) (accLo (firstT x0 / 16)) (accHi (firstT x0 / 16))=none∧rnF len i x0 x1 x2 x3=0)∨
  ∃ k:Nat,0<k∧checkN n x1 x2 x3 (firstT x0 % 8) (accLo (firstT x0 / 16)) (accHi (firstT x0 / 16))=some k∧rnF len i x0 x1 x2 x3=k:=by
  intro e lo hi e0 e1 e2 e3 h1 h2 h3 h4 h5
  rw[e0,e1,e2,e3]
  by_cases c:n<4∨x1<lo∨hi<x1∨x2<128∨191<x2∨x3<128∨191<x3
  ·left
   refine⟨by simp only[checkN,if_true,if_pos c,show ¬ (4=2) by decide,show ¬ (4=3) by decide,if_false],?_⟩
   unfold rnF;repeat' split
   all_goals omega
  ·right
   refine⟨4,by omega,by simp only[checkN,if_true,if_neg c,show ¬ (4=2) by decide,show ¬ (4=3) by decide,if_false],?_⟩
   unfold rnF;repeat' split
   all_goals omega
 have a0:¬ x0<128:=by omega
 by_cases c0:x0<194
 ·exact bad (by simp[firstT,a0,c0]) (.inl c0)
 by_cases c1:x0<224
 ·exact two 2 (by simp[firstT,a0,c0,c1]) rfl rfl rfl (by omega) c1
 by_cases c2:x0=224
 ·exact three 19 160 191 (by simp[firstT,c2]) rfl rfl rfl (by omega) (by omega) (by omega) (by omega) (by omega)
 by_cases c3:x0<237
 ·exact three 3 128 191 (by simp[firstT,a0,c0,c1,c2,c3]) rfl rfl rfl (by omega) (by omega) (by omega) (by omega) (by omega)
 by_cases c4:x0=237
 ·exact three 35 128 159 (by simp[firstT,c4]) rfl rfl rfl (by omega) (by omega) (by omega) (by omega) (by omega)
 by_cases c5:x0<240
 ·exact three 3 128 191 (by simp[firstT,a0,c0,c1,c2,c3,c4,c5]) rfl rfl rfl (by omega) (by omega) (by omega) (by omega) (by omega)
 by_cases c6:x0=240
 ·exact four 52 144 191 (by simp[firstT,c6]) rfl rfl rfl (by omega) (by omega) (by omega) (by omega) (by omega)
 by_cases c7:x0<244
 ·exact four 4 128 191 (by simp[firstT,a0,c0,c1,c2,c3,c4,c5,c6,c7]) rfl rfl rfl (by omega) (by omega) (by omega) (by omega) (by omega)
 by_cases c8:x0=244
 ·exact four 68 128 143 (by simp[firstT,c8]) rfl rfl rfl (by omega) (by omega) (by omega) (by omega) (by omega)
 ·exact bad (by simp[firstT,a0,c0,c1,c2,c3,c4,c5,c6,c7,c8]) (.inr (by omega))
theorem byteN_drop (s:List UInt8)(i j:Nat):byteN s ((i:Int)+j)=(((s.drop i).getD j 0).toNat:Int):=by
 have e:((i:Int)+j).toNat=i+j:=by omega
 simp only[byteN,List.getD_eq_getElem?_getD,List.getElem?_drop,e]
theorem rn_step (s:List UInt8)(i:Nat)(hi:i<s.length):0≤runeN s i∧(runeN s i=0→validD (s.drop i)=false)∧(runeN s i≠0→validD (s.drop i)=validD (s.drop (i+(runeN s i).toNat))):=by
 have hne:s.drop i≠[]:=fun h=>by have:=congrArg List.length h;simp at this;omega
 have b0:byteN s i=(((s.drop i).getD 0 0).toNat:Int):=by simpa using byteN_drop s i 0
 have b1:byteN s ((i:Int)+1)=_:=byteN_drop s i 1
 have b2:byteN s ((i:Int)+2)=_:=byteN_drop s i 2
 have b3:byteN s ((i:Int)+3)=_:=byteN_drop s i 3
 unfold runeN
 by_cases h0:((s.drop i).getD 0 0).toNat<128
 ·have e:rnF s.length i (byteN s i) (byteN s (i+1)) (byteN s (i+2)) (byteN s (i+3))=1:=by
   rw[b0];unfold rnF;rw[if_pos (by omega)]
  rw[e]
  refine⟨by decide,fun h=>absurd h (by decide),fun _=>?_⟩
  rw[List.drop_eq_getElem_cons hi] at h0 ⊢
  rw[validD_cons _ _ (by simpa[List.getElem?_eq_getElem hi] using h0)]
  rfl
 ·have hh:=rn_lead (s.drop i).length s.length i (by simp;omega) ((s.drop i).getD 0 0).toNat ((s.drop i).getD 1 0).toNat ((s.drop i).getD 2 0).toNat ((s.drop i).getD 3 0).toNat (by omega) (UInt8.toNat_lt _)
  have hl:=validD_lead (s.drop i) hne (by omega)
  rw[b0,b1,b2,b3]
  rcases hh with⟨e1,e2⟩|⟨k,hk,e1,e2⟩
  ·rw[e1] at hl
   rw[e2]
   exact⟨by decide,fun _=>hl,fun h=>absurd rfl h⟩
  ·rw[e1] at hl
   rw[e2]
   refine⟨by omega,fun h=>by omega,fun _=>?_⟩
   rw[hl]
   show validD (List.drop k (List.drop i s))=_
   rw[List.drop_drop];simp
variable {k:Nat}{G:World→Prop}
open Classical in
noncomputable def tbUx (f:Nat)(c:List Cl):Cl:=if f=0 then (runeF c).getD 0 .no else .bool (decide (∃ s i,c=[.str s,.int i]∧0≤i∧i<(s.length:Int)))
def utfXF:List Cl→List Cl
 |[.str s]=>[.bool (validD s)]
 |_=>[.bool true]
def utfXInv (_:Nat)(c0 c:List Cl):Prop:=∃ s i,c0=[.str s]∧c=[.str s,.int i]∧0≤i∧validD s=validD (s.drop i.toNat)
theorem utfXV:Vc0 tbUx 9 Kutf.ks (fun _=>True) utfXInv (fun c r=>r=utfXF c) utft:=by
 intro cls E hE hw _
 have hw':Wts [.str] cls:=hw
 obtain⟨_,rfl,h1⟩:=hw'.one
 obtain⟨s,rfl,h2⟩:=h1.str_inv
 simp only[utft,Tr.vc,To.goodT,List.map_cons,List.map_nil,hE.v,X.c_int,List.getD_cons_zero,List.getD_cons_succ,and_true]
 exact⟨s,0,rfl,rfl,by omega,rfl⟩
open Classical in
theorem utfXV0:Vc (· < ·) utfM tbUx 9 utfc0.ks utfXInv (fun c r=>r=utfXF c) 0 utft0:=by
 rintro c0 cls E hE hw ⟨s,i,rfl,rfl,h0,hv⟩
 have hw':Wts [.str,.int .i64] [.str s,.int i]:=hw
 obtain⟨_,_,e,h2,h4⟩:=hw'.cons_inv;cases e
 obtain⟨_,e,h3⟩:=h2.str_inv;cases e
 obtain⟨_,e,h5⟩:=h4.one;cases e
 obtain⟨_,e,h6,h7⟩:=h5.int_inv;cases e
 simp only[maxLen] at h3
 have t0:tbUx 0 [.str s,.int i]=.int (runeN s i):=by simp[tbUx,runeF]
 have t1:i<s.length→tbUx 1000000 [.str s,.int i]=.bool true:=fun h=>by unfold tbUx;rw[if_neg (by decide),decide_eq_true ⟨s,i,rfl,h0,h⟩]
 have ei:((i.toNat:Nat):Int)=i:=by omega
 have hr:i<s.length→0≤runeN s i∧i+runeN s i≤s.length:=fun h=>by
  unfold runeN rnF;repeat' split
  all_goals omega
 simp only[utft0,Tr.vc,To.goodT,List.map_cons,List.map_nil,hE.v,hE.a,X.d_cons,X.d_nil,t0,X.c_int,X.c_bool,X.c_bin,X.c_len,lenC,X.kd,binD,intD,List.getD_cons_zero,List.getD_cons_succ,isCmp,cond_true,cond_false,Cl.bool.injEq,exists_eq',true_and,and_true,decide_eq_true_eq,decide_eq_false_iff_not,beq_iff_eq,beq_eq_false_iff_ne,ne_eq,List.cons.injEq,implies_true,utfXF]
 refine⟨fun hlt=>⟨t1 hlt,fun hn=>?_,fun hn=>⟨⟨s,_,rfl,rfl,?_,?_⟩,?_⟩⟩,fun hge=>?_⟩
 ·obtain⟨-,q2,-⟩:=rn_step s i.toNat (by omega)
  rw[ei] at q2
  rw[hv,q2 hn]
 ·have:=hr hlt;rw[i64_id (by omega) (by omega)];omega
 ·have:=hr hlt
  obtain⟨-,-,q3⟩:=rn_step s i.toNat (by omega)
  rw[ei] at q3
  rw[i64_id (by omega) (by omega),hv,q3 hn,show (i+runeN s i).toNat=i.toNat+(runeN s i).toNat by omega]
 ·have:=hr hlt
  rw[i64_id (by omega) (by omega)];show (s.length-(i+runeN s i)).toNat<(s.length-i).toNat;omega
 ·rw[hv,List.drop_eq_nil_of_le (by omega)];rfl
theorem utf_x (hG:Gd0 k G)(hk0':0<k)(hsz:Tryz.prog.globals.size≤k):∃ tb,Kutf.Sound Tryz.prog k G tb (fun _=>True) utfXF:=by
 obtain⟨tb,hS⟩:=rune_x hG hsz
 letI:Tb:=⟨some (9,tbUx)⟩
 exact⟨_,Ctr.ofT (hk:=hkUtf) Nat.lt_wfRel.wf utfM utfXInv hG (fun D=>@Hooks.ctr _ (dcOf D) _ _ _ _ 9 (by kernel_rfl) _ _ _ _ hS (by kernel_rfl) _ 0 (by
     intro cls j c h
     unfold runeF at h
     split at h
     ·cases j with
      |zero=>simp at h;subst h;simp[tbUx,runeF]
      |succ j=>simp at h
     ·simp at h) (some 1000000) (by
     intro cls h
     simpa[tbUx] using h) hG hk0' hsz rfl) hsz (L:=9) (by kernel_rfl) rfl (trs:=[utft0]) (by kernel_rfl) utft_ok utfXV ⟨⟨utft0_ok,utfXV0⟩,trivial⟩⟩
end Go.Proofs.Wo
