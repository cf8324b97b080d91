/-
  QuerySame: query.Same, and the document's SameTexts. Own text; the trees by a program of mine.
-/
import Derived.Test.YtbddnchfoojacaaGreatDoorQs1
import Derived.Test.YtbddnchfoojacaaGreatDoorWo2
set_option linter.all false
namespace Go.Proofs.Wo
open Go.Exo Go.Exo.Wo Go.Lib
set_option maxRecDepth 100000
set_option linter.all false
noncomputable def rowcuts:List Ct:=[]
def rowt:Tr:=.must (.app 9 1000000 (.cons (.var 9 0 (.sl 31)) (.cons (.var 9 1 (.sl 31)) .nilA)) .bool) true <|
 .leaf 6 (.ret [] [(.app 9 0 (.cons (.var 9 0 (.sl 31)) (.cons (.var 9 1 (.sl 31)) .nilA)) .bool)])
theorem rowt_ok:Pth.allS Tryz.prog hkRow 9 Krow rowcuts (rowt.paths []):=
 ⟨Pth.okS_ret (by kernel_rfl) (by kernel_rfl),
  trivial⟩
noncomputable def eqrc0:Ct:=⟨stTodo (outS Tryz.prog hkEqr 9 Keqr [((.bin .neq (.len (.var 9 0 (.sl 27))) (.len (.var 9 1 (.sl 27)))),false)] 12),[.junk,.x (.var 9 0 (.sl 27)),.func (.func 11) [] [],.junk,.junk,.junk,.junk,.junk,.junk,.junk,.junk,.junk,.junk,.junk,.junk,.x (.var 9 1 (.sl 27)),.x (.var 9 2 (.int .i64)),.x (.var 9 3 (.int .i64)),.junk,.junk,.junk,.junk,.junk,.junk,.junk,.junk,.junk,.junk,.junk,.junk,.junk,.junk],[],[(.sl 27),(.sl 27),(.int .i64),(.int .i64)]⟩
noncomputable def eqrcuts:List Ct:=[eqrc0]
def eqrt:Tr:=.ask (.bin .neq (.len (.var 9 0 (.sl 27))) (.len (.var 9 1 (.sl 27))))
 (.leaf 9 (.ret [] [(.bool false)]))
 (.leaf 12 (.cut 0 [] [(.var 9 1 (.sl 27)),(.var 9 0 (.sl 27)),(.len (.var 9 0 (.sl 27))),(.int .i64 (0))]))
def eqrt0:Tr:=.ask (.bin .lss (.var 9 3 (.int .i64)) (.var 9 2 (.int .i64)))
 (.must (.inr (.var 9 3 (.int .i64)) (.len (.var 9 1 (.sl 27)))) true <|
 .must (.inr (.var 9 3 (.int .i64)) (.len (.var 9 0 (.sl 27)))) true <|
 .must (.app 9 1000000 (.cons (.el (.var 9 1 (.sl 27)) (.var 9 3 (.int .i64)) 0 (.sl 31)) (.cons (.el (.var 9 0 (.sl 27)) (.var 9 3 (.int .i64)) 0 (.sl 31)) .nilA)) .bool) true <|
 .ask (.app 9 0 (.cons (.el (.var 9 1 (.sl 27)) (.var 9 3 (.int .i64)) 0 (.sl 31)) (.cons (.el (.var 9 0 (.sl 27)) (.var 9 3 (.int .i64)) 0 (.sl 31)) .nilA)) .bool)
 (.leaf 19 (.cut 0 [] [(.var 9 0 (.sl 27)),(.var 9 1 (.sl 27)),(.var 9 2 (.int .i64)),(.bin .add (.var 9 3 (.int .i64)) (.int .i64 (1)))]))
 (.leaf 18 (.ret [] [(.bool false)])))
 (.leaf 8 (.ret [] [(.bool true)]))
theorem eqrt_ok:Pth.allS Tryz.prog hkEqr 9 Keqr eqrcuts (eqrt.paths []):=
 ⟨Pth.okS_ret (by kernel_rfl) (by kernel_rfl),
  Pth.okS_cut eqrc0 rfl (by kernel_rfl) (by kernel_rfl),
  trivial⟩
theorem eqrt0_ok:Pth.allC Tryz.prog hkEqr 9 Keqr eqrcuts eqrc0 (eqrt0.paths []):=
 ⟨Pth.okC_cut eqrc0 rfl (by kernel_rfl) (by kernel_rfl),
  Pth.okC_ret (by kernel_rfl) (by kernel_rfl),
  Pth.okC_ret (by kernel_rfl) (by kernel_rfl),
  trivial⟩
noncomputable def qsamecuts:List Ct:=[]
def qsamet:Tr:=.ask (.app 9 0 (.cons (.var 9 0 (.sl 9)) (.cons (.var 9 2 (.sl 9)) .nilA)) .bool)
 (.must (.app 9 1000000 (.cons (.var 9 1 (.sl 27)) (.cons (.var 9 3 (.sl 27)) .nilA)) .bool) true <|
 .leaf 9 (.ret [] [(.app 9 1 (.cons (.var 9 1 (.sl 27)) (.cons (.var 9 3 (.sl 27)) .nilA)) .bool)]))
 (.leaf 8 (.ret [] [(.bool false)]))
theorem qsamet_ok:Pth.allS Tryz.prog hkQsame 9 Kqsame qsamecuts (qsamet.paths []):=
 ⟨Pth.okS_ret (by kernel_rfl) (by kernel_rfl),
  Pth.okS_ret (by kernel_rfl) (by kernel_rfl),
  trivial⟩
noncomputable def textsc0:Ct:=⟨stTodo (outS Tryz.prog hk0 9 Ktexts [((.bin .neq (.len (.var 9 0 (.sl 9))) (.len (.var 9 1 (.sl 9)))),false)] 12),[.x (.var 9 0 (.sl 9)),.x (.var 9 1 (.sl 9)),.junk,.junk,.junk,.x (.var 9 2 (.int .i64)),.junk,.junk,.junk,.junk,.junk,.junk,.junk,.junk,.junk,.junk,.junk,.junk,.junk,.junk,.junk,.junk,.junk,.junk,.junk,.junk],[],[(.sl 9),(.sl 9),(.int .i64)]⟩
noncomputable def textscuts:List Ct:=[textsc0]
def textst:Tr:=.ask (.bin .neq (.len (.var 9 0 (.sl 9))) (.len (.var 9 1 (.sl 9))))
 (.leaf 9 (.ret [] [(.bool false)]))
 (.leaf 12 (.cut 0 [] [(.var 9 0 (.sl 9)),(.var 9 1 (.sl 9)),(.int .i64 (0))]))
def textst0:Tr:=.ask (.bin .lss (.var 9 2 (.int .i64)) (.len (.var 9 0 (.sl 9))))
 (.must (.inr (.var 9 2 (.int .i64)) (.len (.var 9 0 (.sl 9)))) true <|
 .must (.inr (.var 9 2 (.int .i64)) (.len (.var 9 1 (.sl 9)))) true <|
 .ask (.bin .neq (.el (.var 9 0 (.sl 9)) (.var 9 2 (.int .i64)) 0 .str) (.el (.var 9 1 (.sl 9)) (.var 9 2 (.int .i64)) 0 .str))
 (.leaf 13 (.ret [] [(.bool false)]))
 (.leaf 14 (.cut 0 [] [(.var 9 0 (.sl 9)),(.var 9 1 (.sl 9)),(.bin .add (.var 9 2 (.int .i64)) (.int .i64 (1)))])))
 (.leaf 8 (.ret [] [(.bool true)]))
theorem textst_ok:Pth.allS Tryz.prog hk0 9 Ktexts textscuts (textst.paths []):=
 ⟨Pth.okS_ret (by kernel_rfl) (by kernel_rfl),
  Pth.okS_cut textsc0 rfl (by kernel_rfl) (by kernel_rfl),
  trivial⟩
theorem textst0_ok:Pth.allC Tryz.prog hk0 9 Ktexts textscuts textsc0 (textst0.paths []):=
 ⟨Pth.okC_ret (by kernel_rfl) (by kernel_rfl),
  Pth.okC_cut textsc0 rfl (by kernel_rfl) (by kernel_rfl),
  Pth.okC_ret (by kernel_rfl) (by kernel_rfl),
  trivial⟩
variable {k:Nat}{G:World→Prop}
noncomputable def tbR (C:List Cl→Int)(n:Nat)(f:Nat)(c:List Cl):Cl:=if f=1000000 then .bool (decide (SizeOf.sizeOf c<n)) else (eqvF C n c).getD 0 .no
theorem rowV {C:List Cl→Int}{n:Nat}:Vc0 (tbR C n) 9 Krow.ks (fun c=>SizeOf.sizeOf c<n) (fun _ _ _=>True) (fun c r=>r=eqvF C n c) rowt:=by
 intro cls E hE hw hn
 have hw':Wts [.sl 31,.sl 31] cls:=hw
 obtain⟨a,_,rfl,h1,hw'⟩:=hw'.cons_inv
 obtain⟨b,rfl,h2⟩:=hw'.one
 obtain⟨nl,A,rfl,-,-,-⟩:=h1.sl_inv
 obtain⟨ml,B,rfl,-,-,-⟩:=h2.sl_inv
 have n0:tbR C n 1000000 [.sl nl A,.sl ml B]=.bool true:=by simp only[tbR,if_true,hn,decide_true]
 have e0:tbR C n 0 [.sl nl A,.sl ml B]=.bool (eqL (smV C n) A B):=by simp[tbR,eqvF]
 simp only[rowt,Tr.vc,To.goodT,List.map_cons,List.map_nil,hE.v,hE.a,X.d_cons,X.d_nil,X.kd,List.getD_cons_zero,List.getD_cons_succ,n0,e0,Cl.bool.injEq,exists_eq',true_and,eqvF]
theorem row_x (hG:Gd0 k G)(hk0:0<k)(hsz:Tryz.prog.globals.size≤k){C:List Cl→Int}{n:Nat}(hC:Go.Exo.Spec Tryz.prog G 37 [vA] (.one (.one iK)) (fun c=>SizeOf.sizeOf c<n) (fun c=>[.int (C c)])):∃ tb,Krow.Sound Tryz.prog k G tb (fun c=>SizeOf.sizeOf c<n) (eqvF C n):=by
 obtain⟨tbv,hv⟩:=eqv_x hG hk0 hsz hC
 letI:Tb:=⟨some (9,tbR C n)⟩
 exact⟨_,Ctr.ofT (hk:=hkRow) Nat.lt_wfRel.wf (fun _ _=>0) (fun _ _ _=>True) hG (fun D=>@Hooks.ctr _ (dcOf D) _ _ _ _ 9 (by kernel_rfl) _ _ _ _ hv (by kernel_rfl) _ _ (one_h (fun c=>by unfold eqvF;split<;>simp) (fun c=>by simp[tbR])) (some 1000000) (fun c h=>by simpa[tbR] using h) hG hk0 hsz rfl) hsz (L:=9) (by kernel_rfl) rfl (trs:=[]) (by kernel_rfl) rowt_ok rowV trivial⟩
def eqRow (C:List Cl→Int)(n:Nat)(a b:List Cl):Bool:=match a,b with
 |[.sl _ X],[.sl _ Y]=>eqL (smV C n) X Y
 |_,_=>false
def eqrF (C:List Cl→Int)(n:Nat):List Cl→List Cl
 |[.sl _ A,.sl _ B]=>[.bool (eqL (eqRow C n) A B)]
 |_=>[.bool true]
def eqrInv (C:List Cl→Int)(n:Nat)(_:Nat)(c0 c:List Cl):Prop:=∃ nl A ml B i,c0=[.sl nl A,.sl ml B]∧c=[.sl ml B,.sl nl A,.int A.length,.int i]∧0≤i∧i≤A.length∧A.length=B.length∧eqL (eqRow C n) A B=eqL (eqRow C n) (A.drop i.toNat) (B.drop i.toNat)∧SizeOf.sizeOf c0<n
theorem eqrV {C:List Cl→Int}{n:Nat}:Vc0 (tbR C n) 9 Keqr.ks (fun c=>SizeOf.sizeOf c<n) (eqrInv C n) (fun c r=>r=eqrF C n c) eqrt:=by
 intro cls E hE hw hn
 have hw':Wts [.sl 27,.sl 27] cls:=hw
 obtain⟨a,_,rfl,h1,hw'⟩:=hw'.cons_inv
 obtain⟨b,rfl,h2⟩:=hw'.one
 obtain⟨nl,A,rfl,-,-,-⟩:=h1.sl_inv
 obtain⟨ml,B,rfl,-,-,-⟩:=h2.sl_inv
 simp only[eqrt,Tr.vc,To.goodT,List.map_cons,List.map_nil,hE.v,X.c_int,X.c_bool,X.c_bin,X.c_len,lenC,X.kd,binD,intD,List.getD_cons_zero,List.getD_cons_succ,Cl.bool.injEq,exists_eq',true_and,and_true,Bool.not_eq_true',Bool.not_eq_false',beq_iff_eq,beq_eq_false_iff_ne,ne_eq]
 exact⟨fun h=>by simp only[eqrF];rw[eqL_len (by omega)],fun h=>⟨nl,A,ml,B,0,rfl,rfl,by omega,by omega,by omega,by simp,hn⟩⟩
theorem eqrV0 {C:List Cl→Int}{n:Nat}:Vc (· < ·) lstrM (tbR C n) 9 eqrc0.ks (eqrInv C n) (fun c r=>r=eqrF C n c) 0 eqrt0:=by
 rintro c0 cls E hE hw ⟨nl,A,ml,B,i,rfl,rfl,h1,h2,h4,h3,h5⟩
 have hw':Wts [.sl 27,.sl 27,.int .i64,.int .i64] [.sl ml B,.sl nl A,.int A.length,.int i]:=hw
 obtain⟨_,_,e,g,hw'⟩:=hw'.cons_inv;cases e
 obtain⟨_,_,e,hlen,-,hB⟩:=g.sl_inv;cases e
 obtain⟨_,_,e,g,hw'⟩:=hw'.cons_inv;cases e
 obtain⟨_,_,e,hlen2,-,hA⟩:=g.sl_inv;cases e
 have hlen':(A.length:Int)≤9223372036854775807:=by simp only[maxLen] at hlen2;omega
 simp only[eqrt0,Tr.vc,To.goodT,List.map_cons,List.map_nil,hE.v,hE.a,X.d_cons,X.d_nil,X.c_len,X.c_int,X.c_bool,X.c_bin,X.c_inr,X.c_el,X.kd,isCmp,cond_true,cond_false,List.getD_cons_zero,List.getD_cons_succ,lenC,binD,intD,inrD,elD,Cl.bool.injEq,decide_eq_true_eq,decide_eq_false_iff_not,exists_eq',true_and,h1]
 refine⟨fun hlt=>⟨hlt,by omega,?_⟩,fun hge=>?_⟩
 ·obtain⟨r,hr,hwr,hd,hm⟩:=row_at hA (i:=i.toNat) (by omega)
  obtain⟨r',hr',hwr',hd',hm'⟩:=row_at hB (i:=i.toNat) (by omega)
  obtain⟨c,rfl,hc⟩:=(show Wts [.sl 31] r from hwr).one
  obtain⟨c',rfl,hc'⟩:=(show Wts [.sl 31] r' from hwr').one
  obtain⟨xl,X,rfl,-⟩:=hc.sl_inv
  obtain⟨yl,Y,rfl,-⟩:=hc'.sl_inv
  rw[hr,hr']
  have e2:(i+1).toNat=i.toNat+1:=by omega
  have hsz:SizeOf.sizeOf [Cl.sl xl X,.sl yl Y]<n:=by
   have z1:=List.sizeOf_lt_of_mem (List.mem_of_getElem? hm)
   have z2:=List.sizeOf_lt_of_mem (List.mem_of_getElem? hm')
   simp only[List.cons.sizeOf_spec,List.nil.sizeOf_spec,Cl.sl.sizeOf_spec] at z1 z2 h5 ⊢
   omega
  have et:tbR C n 0 [Cl.sl xl X,.sl yl Y]=.bool (eqL (smV C n) X Y):=by simp[tbR,eqvF]
  have en:tbR C n 1000000 [Cl.sl xl X,.sl yl Y]=.bool true:=by simp only[tbR,if_true,hsz,decide_true]
  simp only[List.getD_cons_zero,List.getD_cons_succ,et,en,Cl.bool.injEq,exists_eq',true_and]
  rw[i64_id (by omega) (by omega)]
  rw[hd,hd'] at h3
  simp only[eqL,eqRow] at h3
  refine⟨fun hm=>⟨⟨nl,A,ml,B,i+1,rfl,rfl,by omega,by omega,h4,?_,h5⟩,by simp only[lstrM];omega⟩,fun hm=>?_⟩
  ·rw[h3,hm,e2,Bool.true_and]
  ·simp only[eqrF,h3,hm,Bool.false_and]
 ·have e1:A.drop i.toNat=[]:=List.drop_eq_nil_of_le (by omega)
  have e2:B.drop i.toNat=[]:=List.drop_eq_nil_of_le (by omega)
  simp only[eqrF,h3,e1,e2,eqL]
theorem eqr_x (hG:Gd0 k G)(hk0:0<k)(hsz:Tryz.prog.globals.size≤k){C:List Cl→Int}{n:Nat}(hC:Go.Exo.Spec Tryz.prog G 37 [vA] (.one (.one iK)) (fun c=>SizeOf.sizeOf c<n) (fun c=>[.int (C c)])):∃ tb,Keqr.Sound Tryz.prog k G tb (fun c=>SizeOf.sizeOf c<n) (eqrF C n):=by
 obtain⟨tbv,hv⟩:=row_x hG hk0 hsz hC
 letI:Tb:=⟨some (9,tbR C n)⟩
 exact⟨_,Ctr.ofT (hk:=hkEqr) Nat.lt_wfRel.wf lstrM (eqrInv C n) hG (fun D=>@Hooks.ctr _ (dcOf D) _ _ _ _ 9 (by kernel_rfl) _ _ _ _ hv (by kernel_rfl) _ _ (one_h (fun c=>by unfold eqvF;split<;>simp) (fun c=>by simp[tbR])) (some 1000000) (fun c h=>by simpa[tbR] using h) hG hk0 hsz rfl) hsz (L:=9) (by kernel_rfl) rfl (trs:=[eqrt0]) (by kernel_rfl) eqrt_ok eqrV ⟨⟨eqrt0_ok,eqrV0⟩,trivial⟩⟩
def qsameF (C:List Cl→Int)(n:Nat):List Cl→List Cl
 |[.sl _ ca,.sl _ A,.sl _ cb,.sl _ B]=>[.bool (eqL eqS ca cb&&eqL (eqRow C n) A B)]
 |_=>[.bool true]
noncomputable def tbQ (C:List Cl→Int)(n:Nat)(f:Nat)(c:List Cl):Cl:=if f=1000000 then .bool (decide (SizeOf.sizeOf c<n)) else if f=0 then (eqsF c).getD 0 .no else (eqrF C n c).getD 0 .no
theorem tab4 {cls:List Cl}(hw:Wts [.sl 9,.sl 27,.sl 9,.sl 27] cls):∃ n1 ca n2 A n3 cb n4 B,cls=[.sl n1 ca,.sl n2 A,.sl n3 cb,.sl n4 B]∧(ca.length≤maxLen∧A.length≤maxLen∧cb.length≤maxLen∧B.length≤maxLen)∧(∀ r∈ca,Wts [.str] r)∧(∀ r∈A,Wts [.sl 31] r)∧(∀ r∈cb,Wts [.str] r)∧(∀ r∈B,Wts [.sl 31] r):=by
 obtain⟨_,_,rfl,h1,hw⟩:=hw.cons_inv
 obtain⟨_,_,rfl,h2,hw⟩:=hw.cons_inv
 obtain⟨_,_,rfl,h3,hw⟩:=hw.cons_inv
 obtain⟨_,rfl,h4⟩:=hw.one
 obtain⟨n1,ca,rfl,l1,-,g1⟩:=h1.sl_inv
 obtain⟨n2,A,rfl,l2,-,g2⟩:=h2.sl_inv
 obtain⟨n3,cb,rfl,l3,-,g3⟩:=h3.sl_inv
 obtain⟨n4,B,rfl,l4,-,g4⟩:=h4.sl_inv
 exact⟨n1,ca,n2,A,n3,cb,n4,B,rfl,⟨l1,l2,l3,l4⟩,g1,g2,g3,g4⟩
theorem qsameV {C:List Cl→Int}{n:Nat}:Vc0 (tbQ C n) 9 Kqsame.ks (fun c=>SizeOf.sizeOf c<n) (fun _ _ _=>True) (fun c r=>r=qsameF C n c) qsamet:=by
 intro cls E hE hw hn
 obtain⟨n1,ca,n2,A,n3,cb,n4,B,rfl,-⟩:=tab4 hw
 have hsz:SizeOf.sizeOf [Cl.sl n2 A,.sl n4 B]<n:=by
  simp only[List.cons.sizeOf_spec,List.nil.sizeOf_spec,Cl.sl.sizeOf_spec] at hn ⊢
  omega
 have en:tbQ C n 1000000 [.sl n2 A,.sl n4 B]=.bool true:=by simp only[tbQ,if_true,hsz,decide_true]
 have e0:tbQ C n 0 [.sl n1 ca,.sl n3 cb]=.bool (eqL eqS ca cb):=by simp[tbQ,eqsF]
 have e1:tbQ C n 1 [.sl n2 A,.sl n4 B]=.bool (eqL (eqRow C n) A B):=by simp[tbQ,eqrF]
 simp only[qsamet,Tr.vc,To.goodT,List.map_cons,List.map_nil,hE.v,hE.a,X.d_cons,X.d_nil,X.c_bool,X.kd,List.getD_cons_zero,List.getD_cons_succ,en,e0,e1,Cl.bool.injEq,exists_eq',true_and,qsameF]
 exact⟨fun h=>by rw[h,Bool.true_and],fun h=>by rw[h,Bool.false_and]⟩
theorem qsame_x (hG:Gd0 k G)(hk0:0<k)(hsz:Tryz.prog.globals.size≤k){C:List Cl→Int}{n:Nat}(hC:Go.Exo.Spec Tryz.prog G 37 [vA] (.one (.one iK)) (fun c=>SizeOf.sizeOf c<n) (fun c=>[.int (C c)])):∃ tb,Kqsame.Sound Tryz.prog k G tb (fun c=>SizeOf.sizeOf c<n) (qsameF C n):=by
 obtain⟨tb1,h1⟩:=eqs_ok hG hsz
 obtain⟨tb2,h2⟩:=eqr_x hG hk0 hsz hC
 letI:Tb:=⟨some (9,tbQ C n)⟩
 exact⟨_,Ctr.ofT (hk:=hkQsame) Nat.lt_wfRel.wf (fun _ _=>0) (fun _ _ _=>True) hG (fun D=>@Hooks.or _ (dcOf D) _ _ _ _ _ _
   (@Hooks.ctr _ (dcOf D) _ _ _ _ 9 (by kernel_rfl) _ _ _ _ h1 (by kernel_rfl) _ _ (one_h (fun c=>by unfold eqsF;split<;>simp) (fun c=>by simp[tbQ])) none (fun _=>trivial) hG hk0 hsz rfl)
   (@Hooks.ctr _ (dcOf D) _ _ _ _ 9 (by kernel_rfl) _ _ _ _ h2 (by kernel_rfl) _ _ (one_h (fun c=>by unfold eqrF;split<;>simp) (fun c=>by simp[tbQ])) (some 1000000) (fun c h=>by simpa[tbQ] using h) hG hk0 hsz rfl)) hsz (L:=9) (by kernel_rfl) rfl (trs:=[]) (by kernel_rfl) qsamet_ok qsameV trivial⟩
def textsInv (_:Nat)(c0 c:List Cl):Prop:=∃ nl A ml B i,c0=[.sl nl A,.sl ml B]∧c=[.sl nl A,.sl ml B,.int i]∧0≤i∧i≤A.length∧A.length=B.length∧eqL eqS A B=eqL eqS (A.drop i.toNat) (B.drop i.toNat)
def textsM (_:Nat)(c:List Cl):Nat:=match c with|[.sl _ A,_,.int i]=>(A.length-i).toNat|_=>0
theorem textsV {tb:Nat→List Cl→Cl}:Vc0 tb 9 Ktexts.ks (fun _=>True) textsInv (fun c r=>r=eqsF c) textst:=by
 intro cls E hE hw _
 have hw':Wts [.sl 9,.sl 9] cls:=hw
 obtain⟨a,_,rfl,h1,hw'⟩:=hw'.cons_inv
 obtain⟨b,rfl,h2⟩:=hw'.one
 obtain⟨nl,A,rfl,-,-,-⟩:=h1.sl_inv
 obtain⟨ml,B,rfl,-,-,-⟩:=h2.sl_inv
 simp only[textst,Tr.vc,To.goodT,List.map_cons,List.map_nil,hE.v,X.c_int,X.c_bool,X.c_bin,X.c_len,lenC,X.kd,binD,intD,List.getD_cons_zero,List.getD_cons_succ,Cl.bool.injEq,exists_eq',true_and,and_true,Bool.not_eq_true',Bool.not_eq_false',beq_iff_eq,beq_eq_false_iff_ne,ne_eq]
 exact⟨fun h=>by simp only[eqsF];rw[eqL_len (by omega)],fun h=>⟨nl,A,ml,B,0,rfl,rfl,by omega,by omega,by omega,by simp⟩⟩
theorem textsV0 {tb:Nat→List Cl→Cl}:Vc (· < ·) textsM tb 9 textsc0.ks textsInv (fun c r=>r=eqsF c) 0 textst0:=by
 rintro c0 cls E hE hw ⟨nl,A,ml,B,i,rfl,rfl,h1,h2,h4,h3⟩
 have hw':Wts [.sl 9,.sl 9,.int .i64] [.sl nl A,.sl ml B,.int i]:=hw
 obtain⟨_,_,e,g,hw'⟩:=hw'.cons_inv;cases e
 obtain⟨_,_,e,hlen,-,hA⟩:=g.sl_inv;cases e
 obtain⟨_,_,e,g,hw'⟩:=hw'.cons_inv;cases e
 obtain⟨_,_,e,hlen2,-,hB⟩:=g.sl_inv;cases e
 have hlen':(A.length:Int)≤9223372036854775807:=by simp only[maxLen] at hlen;omega
 simp only[textst0,Tr.vc,To.goodT,List.map_cons,List.map_nil,hE.v,X.c_len,X.c_int,X.c_bool,X.c_bin,X.c_inr,X.c_el,X.kd,isCmp,cond_true,cond_false,List.getD_cons_zero,List.getD_cons_succ,lenC,binD,intD,inrD,elD,Cl.bool.injEq,decide_eq_true_eq,decide_eq_false_iff_not,exists_eq',true_and,h1]
 refine⟨fun hlt=>⟨hlt,by omega,?_⟩,fun hge=>?_⟩
 ·obtain⟨r,hr,hwr,hd,_⟩:=row_at hA (i:=i.toNat) (by omega)
  obtain⟨r',hr',hwr',hd',_⟩:=row_at hB (i:=i.toNat) (by omega)
  obtain⟨c,rfl,hc⟩:=hwr.one
  obtain⟨c',rfl,hc'⟩:=hwr'.one
  obtain⟨s,rfl,-⟩:=hc.str_inv
  obtain⟨s',rfl,-⟩:=hc'.str_inv
  rw[hr,hr']
  have e2:(i+1).toNat=i.toNat+1:=by omega
  simp only[List.getD_cons_zero,strD,Cl.bool.injEq,exists_eq',true_and,Bool.not_eq_true',Bool.not_eq_false']
  rw[i64_id (by omega) (by omega)]
  rw[hd,hd'] at h3
  simp only[eqL,eqS] at h3
  refine⟨fun hm=>?_,fun hm=>⟨⟨nl,A,ml,B,i+1,rfl,rfl,by omega,by omega,h4,?_⟩,by simp only[textsM];omega⟩⟩
  ·simp only[eqsF,h3,hm,Bool.false_and]
  ·rw[h3,hm,e2,Bool.true_and]
 ·have e1:A.drop i.toNat=[]:=List.drop_eq_nil_of_le (by omega)
  have e2:B.drop i.toNat=[]:=List.drop_eq_nil_of_le (by omega)
  simp only[eqsF,h3,e1,e2,eqL]
theorem texts_ok (hG:Gd0 k G)(hsz:Tryz.prog.globals.size≤k):∃ tb,Ktexts.Sound Tryz.prog k G tb (fun _=>True) eqsF:=by
 letI:Tb:=⟨some (9,fun _ _=>.no)⟩
 exact⟨_,Ctr.ofT (hk:=hk0) Nat.lt_wfRel.wf textsM textsInv hG (fun D=>@Hooks.nil _ (dcOf D) _ _ _ _) hsz (L:=9) (by kernel_rfl) rfl (trs:=[textst0]) (by kernel_rfl) textst_ok textsV ⟨⟨textst0_ok,textsV0⟩,trivial⟩⟩
end Go.Proofs.Wo

namespace Go.Proofs.Wo
open Go.Exo Go.Exo.Wo Go.Lib
set_option maxRecDepth 100000
set_option linter.all false
noncomputable def rowsc0:Ct:=⟨stTodo (outS Tryz.prog hkRows 9 Krows [((.bin .neq (.len (.var 9 0 (.sl 27))) (.len (.var 9 1 (.sl 27)))),false)] 12),[.x (.var 9 0 (.sl 27)),.x (.var 9 1 (.sl 27)),.junk,.junk,.junk,.x (.var 9 2 (.int .i64)),.junk,.junk,.junk,.junk,.junk,.junk,.junk,.junk,.junk,.junk,.junk,.junk,.junk,.junk,.junk,.junk,.junk,.junk,.junk,.junk,.junk,.junk,.junk,.junk,.junk,.junk,.junk,.junk,.junk,.junk,.junk,.junk,.junk,.junk,.junk,.junk,.junk,.junk,.junk,.junk,.junk,.junk,.junk,.junk,.junk,.junk,.junk,.junk],[],[(.sl 27),(.sl 27),(.int .i64)]⟩
noncomputable def rowsc1:Ct:=⟨stTodo (outC Tryz.prog hkRows 9 17 rowsc0 [((.bin .lss (.var 9 2 (.int .i64)) (.len (.var 9 0 (.sl 27)))),true),((.inr (.var 9 2 (.int .i64)) (.len (.var 9 0 (.sl 27)))),true),((.inr (.var 9 2 (.int .i64)) (.len (.var 9 1 (.sl 27)))),true),((.bin .neq (.len (.el (.var 9 0 (.sl 27)) (.var 9 2 (.int .i64)) 0 (.sl 31))) (.len (.el (.var 9 1 (.sl 27)) (.var 9 2 (.int .i64)) 0 (.sl 31)))),false)] 16),[.x (.var 9 0 (.sl 27)),.x (.var 9 1 (.sl 27)),.junk,.junk,.junk,.x (.var 9 2 (.int .i64)),.x (.var 9 3 (.int .i64)),.junk,.junk,.junk,.junk,.junk,.junk,.junk,.junk,.junk,.junk,.junk,.junk,.junk,.junk,.junk,.junk,.junk,.junk,.junk,.junk,.junk,.junk,.junk,.junk,.junk,.junk,.junk,.junk,.junk,.junk,.junk,.junk,.junk,.junk,.junk,.junk,.junk,.junk,.junk,.junk,.junk,.junk,.junk,.junk,.junk,.junk,.junk],[],[(.sl 27),(.sl 27),(.int .i64),(.int .i64)]⟩
noncomputable def rowscuts:List Ct:=[rowsc0,rowsc1]
def rowst:Tr:=.ask (.bin .neq (.len (.var 9 0 (.sl 27))) (.len (.var 9 1 (.sl 27))))
 (.leaf 9 (.ret [] [(.bool false)]))
 (.leaf 12 (.cut 0 [] [(.var 9 0 (.sl 27)),(.var 9 1 (.sl 27)),(.int .i64 (0))]))
def rowst0:Tr:=.ask (.bin .lss (.var 9 2 (.int .i64)) (.len (.var 9 0 (.sl 27))))
 (.must (.inr (.var 9 2 (.int .i64)) (.len (.var 9 0 (.sl 27)))) true <|
 .must (.inr (.var 9 2 (.int .i64)) (.len (.var 9 1 (.sl 27)))) true <|
 .ask (.bin .neq (.len (.el (.var 9 0 (.sl 27)) (.var 9 2 (.int .i64)) 0 (.sl 31))) (.len (.el (.var 9 1 (.sl 27)) (.var 9 2 (.int .i64)) 0 (.sl 31))))
 (.leaf 14 (.ret [] [(.bool false)]))
 (.leaf 16 (.cut 1 [] [(.var 9 0 (.sl 27)),(.var 9 1 (.sl 27)),(.var 9 2 (.int .i64)),(.int .i64 (0))])))
 (.leaf 8 (.ret [] [(.bool true)]))
def rowst1:Tr:=.must (.inr (.var 9 2 (.int .i64)) (.len (.var 9 0 (.sl 27)))) true <|
 .ask (.bin .lss (.var 9 3 (.int .i64)) (.len (.el (.var 9 0 (.sl 27)) (.var 9 2 (.int .i64)) 0 (.sl 31))))
 (.must (.inr (.var 9 3 (.int .i64)) (.len (.el (.var 9 0 (.sl 27)) (.var 9 2 (.int .i64)) 0 (.sl 31)))) true <|
 .must (.inr (.var 9 2 (.int .i64)) (.len (.var 9 1 (.sl 27)))) true <|
 .must (.inr (.var 9 3 (.int .i64)) (.len (.el (.var 9 1 (.sl 27)) (.var 9 2 (.int .i64)) 0 (.sl 31)))) true <|
 .must (.app 9 1000000 (.cons (.el (.el (.var 9 0 (.sl 27)) (.var 9 2 (.int .i64)) 0 (.sl 31)) (.var 9 3 (.int .i64)) 0 (.int .i64)) (.cons (.el (.el (.var 9 0 (.sl 27)) (.var 9 2 (.int .i64)) 0 (.sl 31)) (.var 9 3 (.int .i64)) 1 .bool) (.cons (.el (.el (.var 9 0 (.sl 27)) (.var 9 2 (.int .i64)) 0 (.sl 31)) (.var 9 3 (.int .i64)) 2 (.int .i64)) (.cons (.el (.el (.var 9 0 (.sl 27)) (.var 9 2 (.int .i64)) 0 (.sl 31)) (.var 9 3 (.int .i64)) 3 .str) (.cons (.el (.el (.var 9 0 (.sl 27)) (.var 9 2 (.int .i64)) 0 (.sl 31)) (.var 9 3 (.int .i64)) 4 (.sl 9)) (.cons (.el (.el (.var 9 0 (.sl 27)) (.var 9 2 (.int .i64)) 0 (.sl 31)) (.var 9 3 (.int .i64)) 5 (.sl 31)) (.cons (.el (.el (.var 9 1 (.sl 27)) (.var 9 2 (.int .i64)) 0 (.sl 31)) (.var 9 3 (.int .i64)) 0 (.int .i64)) (.cons (.el (.el (.var 9 1 (.sl 27)) (.var 9 2 (.int .i64)) 0 (.sl 31)) (.var 9 3 (.int .i64)) 1 .bool) (.cons (.el (.el (.var 9 1 (.sl 27)) (.var 9 2 (.int .i64)) 0 (.sl 31)) (.var 9 3 (.int .i64)) 2 (.int .i64)) (.cons (.el (.el (.var 9 1 (.sl 27)) (.var 9 2 (.int .i64)) 0 (.sl 31)) (.var 9 3 (.int .i64)) 3 .str) (.cons (.el (.el (.var 9 1 (.sl 27)) (.var 9 2 (.int .i64)) 0 (.sl 31)) (.var 9 3 (.int .i64)) 4 (.sl 9)) (.cons (.el (.el (.var 9 1 (.sl 27)) (.var 9 2 (.int .i64)) 0 (.sl 31)) (.var 9 3 (.int .i64)) 5 (.sl 31)) .nilA)))))))))))) .bool) true <|
 .ask (.app 9 0 (.cons (.el (.el (.var 9 0 (.sl 27)) (.var 9 2 (.int .i64)) 0 (.sl 31)) (.var 9 3 (.int .i64)) 0 (.int .i64)) (.cons (.el (.el (.var 9 0 (.sl 27)) (.var 9 2 (.int .i64)) 0 (.sl 31)) (.var 9 3 (.int .i64)) 1 .bool) (.cons (.el (.el (.var 9 0 (.sl 27)) (.var 9 2 (.int .i64)) 0 (.sl 31)) (.var 9 3 (.int .i64)) 2 (.int .i64)) (.cons (.el (.el (.var 9 0 (.sl 27)) (.var 9 2 (.int .i64)) 0 (.sl 31)) (.var 9 3 (.int .i64)) 3 .str) (.cons (.el (.el (.var 9 0 (.sl 27)) (.var 9 2 (.int .i64)) 0 (.sl 31)) (.var 9 3 (.int .i64)) 4 (.sl 9)) (.cons (.el (.el (.var 9 0 (.sl 27)) (.var 9 2 (.int .i64)) 0 (.sl 31)) (.var 9 3 (.int .i64)) 5 (.sl 31)) (.cons (.el (.el (.var 9 1 (.sl 27)) (.var 9 2 (.int .i64)) 0 (.sl 31)) (.var 9 3 (.int .i64)) 0 (.int .i64)) (.cons (.el (.el (.var 9 1 (.sl 27)) (.var 9 2 (.int .i64)) 0 (.sl 31)) (.var 9 3 (.int .i64)) 1 .bool) (.cons (.el (.el (.var 9 1 (.sl 27)) (.var 9 2 (.int .i64)) 0 (.sl 31)) (.var 9 3 (.int .i64)) 2 (.int .i64)) (.cons (.el (.el (.var 9 1 (.sl 27)) (.var 9 2 (.int .i64)) 0 (.sl 31)) (.var 9 3 (.int .i64)) 3 .str) (.cons (.el (.el (.var 9 1 (.sl 27)) (.var 9 2 (.int .i64)) 0 (.sl 31)) (.var 9 3 (.int .i64)) 4 (.sl 9)) (.cons (.el (.el (.var 9 1 (.sl 27)) (.var 9 2 (.int .i64)) 0 (.sl 31)) (.var 9 3 (.int .i64)) 5 (.sl 31)) .nilA)))))))))))) .bool)
 (.leaf 15 (.cut 1 [] [(.var 9 0 (.sl 27)),(.var 9 1 (.sl 27)),(.var 9 2 (.int .i64)),(.bin .add (.var 9 3 (.int .i64)) (.int .i64 (1)))]))
 (.leaf 14 (.ret [] [(.bool false)])))
 (.leaf 8 (.cut 0 [] [(.var 9 0 (.sl 27)),(.var 9 1 (.sl 27)),(.bin .add (.var 9 2 (.int .i64)) (.int .i64 (1)))]))
theorem rowst_ok:Pth.allS Tryz.prog hkRows 9 Krows rowscuts (rowst.paths []):=
 ⟨Pth.okS_ret (by kernel_rfl) (by kernel_rfl),
  Pth.okS_cut rowsc0 rfl (by kernel_rfl) (by kernel_rfl),
  trivial⟩
theorem rowst0_ok:Pth.allC Tryz.prog hkRows 9 Krows rowscuts rowsc0 (rowst0.paths []):=
 ⟨Pth.okC_ret (by kernel_rfl) (by kernel_rfl),
  Pth.okC_cut rowsc1 rfl (by kernel_rfl) (by kernel_rfl),
  Pth.okC_ret (by kernel_rfl) (by kernel_rfl),
  trivial⟩
theorem rowst1_ok:Pth.allC Tryz.prog hkRows 9 Krows rowscuts rowsc1 (rowst1.paths []):=
 ⟨Pth.okC_cut rowsc1 rfl (by kernel_rfl) (by kernel_rfl),
  Pth.okC_ret (by kernel_rfl) (by kernel_rfl),
  Pth.okC_cut rowsc0 rfl (by kernel_rfl) (by kernel_rfl),
  trivial⟩
noncomputable def tablecuts:List Ct:=[]
def tablet:Tr:=.ask (.app 9 0 (.cons (.var 9 0 (.sl 9)) (.cons (.var 9 2 (.sl 9)) .nilA)) .bool)
 (.must (.app 9 1000000 (.cons (.var 9 1 (.sl 27)) (.cons (.var 9 3 (.sl 27)) .nilA)) .bool) true <|
 .leaf 7 (.ret [] [(.app 9 1 (.cons (.var 9 1 (.sl 27)) (.cons (.var 9 3 (.sl 27)) .nilA)) .bool)]))
 (.leaf 6 (.ret [] [(.bool false)]))
theorem tablet_ok:Pth.allS Tryz.prog hkTable 9 Ktable tablecuts (tablet.paths []):=
 ⟨Pth.okS_ret (by kernel_rfl) (by kernel_rfl),
  Pth.okS_ret (by kernel_rfl) (by kernel_rfl),
  trivial⟩
variable {k:Nat}{G:World→Prop}
open Classical in
noncomputable def alk (a b:List Cl):Bool:=decide (nrmR a=nrmR b)
noncomputable def alRow (a b:List Cl):Bool:=match a,b with
 |[.sl _ P1],[.sl _ Q1]=>eqL alk P1 Q1
 |_,_=>false
noncomputable def rowsF:List Cl→List Cl
 |[.sl _ A,.sl _ B]=>[.bool (eqL alRow A B)]
 |_=>[.bool true]
def wRow (r:List Cl):Nat:=match r with|[.sl _ P1]=>P1.length+2|_=>2
def sumW (l:List (List Cl)):Nat:=(l.map wRow).sum
def rowsM (_:Nat)(c:List Cl):Nat:=match c with
 |[.sl _ A,_,.int i]=>sumW (A.drop i.toNat)
 |[.sl _ A,_,.int i,.int j]=>(wRow (A.getD i.toNat [])-2-j.toNat)+1+sumW (A.drop (i.toNat+1))
 |_=>0
def rowsInv (n:Nat)(j:Nat)(c0 c:List Cl):Prop:=∃ nl A ml B i,c0=[.sl nl A,.sl ml B]∧0≤i∧A.length=B.length∧SizeOf.sizeOf c0<n∧
 (j=0→c=[.sl nl A,.sl ml B,.int i]∧i≤A.length∧eqL alRow A B=eqL alRow (A.drop i.toNat) (B.drop i.toNat))∧
 (j≠0→∃ m xl P1 yl Q1,c=[.sl nl A,.sl ml B,.int i,.int m]∧i<A.length∧A[i.toNat]? = some [.sl xl P1]∧B[i.toNat]? = some [.sl yl Q1]∧P1.length=Q1.length∧0≤m∧m≤P1.length∧
  eqL alRow A B=(eqL alk (P1.drop m.toNat) (Q1.drop m.toNat)&&eqL alRow (A.drop (i.toNat+1)) (B.drop (i.toNat+1))))
noncomputable def tbRo (n:Nat)(f:Nat)(c:List Cl):Cl:=if f=1000000 then .bool (decide (SizeOf.sizeOf c<n)) else (alikeF c).getD 0 .no
theorem rowsV {n:Nat}:Vc0 (tbRo n) 9 Krows.ks (fun c=>SizeOf.sizeOf c<n) (rowsInv n) (fun c r=>r=rowsF c) rowst:=by
 intro cls E hE hw hn
 have hw':Wts [.sl 27,.sl 27] cls:=hw
 obtain⟨a,_,rfl,h1,hw'⟩:=hw'.cons_inv
 obtain⟨b,rfl,h2⟩:=hw'.one
 obtain⟨nl,A,rfl,-,-,-⟩:=h1.sl_inv
 obtain⟨ml,B,rfl,-,-,-⟩:=h2.sl_inv
 simp only[rowst,Tr.vc,To.goodT,List.map_cons,List.map_nil,hE.v,X.c_int,X.c_bool,X.c_bin,X.c_len,lenC,X.kd,binD,intD,List.getD_cons_zero,List.getD_cons_succ,Cl.bool.injEq,exists_eq',true_and,and_true,Bool.not_eq_true',Bool.not_eq_false',beq_iff_eq,beq_eq_false_iff_ne,ne_eq]
 exact⟨fun h=>by simp only[rowsF];rw[eqL_len (by omega)],fun h=>⟨nl,A,ml,B,0,rfl,by omega,by omega,hn,fun _=>⟨rfl,by omega,by simp⟩,fun h=>absurd rfl h⟩⟩
theorem rowsV0 {n:Nat}:Vc (· < ·) rowsM (tbRo n) 9 rowsc0.ks (rowsInv n) (fun c r=>r=rowsF c) 0 rowst0:=by
 rintro c0 cls E hE hw ⟨nl,A,ml,B,i,rfl,h1,h4,h5,hh,-⟩
 obtain⟨rfl,h2,h3⟩:=hh rfl
 have hw':Wts [.sl 27,.sl 27,.int .i64] [.sl nl A,.sl ml B,.int i]:=hw
 obtain⟨_,_,e,g,hw'⟩:=hw'.cons_inv;cases e
 obtain⟨_,_,e,hlen,-,hA⟩:=g.sl_inv;cases e
 obtain⟨_,_,e,g,hw'⟩:=hw'.cons_inv;cases e
 obtain⟨_,_,e,hlen2,-,hB⟩:=g.sl_inv;cases e
 have hlen':(A.length:Int)≤9223372036854775807:=by simp only[maxLen] at hlen;omega
 simp only[rowst0,Tr.vc,To.goodT,List.map_cons,List.map_nil,hE.v,X.c_len,X.c_int,X.c_bool,X.c_bin,X.c_inr,X.c_el,X.kd,isCmp,cond_true,cond_false,List.getD_cons_zero,List.getD_cons_succ,lenC,binD,intD,inrD,elD,Cl.bool.injEq,decide_eq_true_eq,decide_eq_false_iff_not,exists_eq',true_and,h1]
 refine⟨fun hlt=>⟨hlt,by omega,?_⟩,fun hge=>?_⟩
 ·obtain⟨r,hr,hwr,hd,hm⟩:=row_at hA (i:=i.toNat) (by omega)
  obtain⟨r',hr',hwr',hd',hm'⟩:=row_at hB (i:=i.toNat) (by omega)
  obtain⟨c,rfl,hc⟩:=(show Wts [.sl 31] r from hwr).one
  obtain⟨c',rfl,hc'⟩:=(show Wts [.sl 31] r' from hwr').one
  obtain⟨xl,P1,rfl,-⟩:=hc.sl_inv
  obtain⟨yl,Q1,rfl,-⟩:=hc'.sl_inv
  have h3':=h3
  rw[hd,hd'] at h3'
  simp only[eqL,alRow] at h3'
  rw[hr,hr']
  simp only[List.getD_cons_zero,lenC,Cl.bool.injEq,exists_eq',true_and,Bool.not_eq_true',Bool.not_eq_false',beq_iff_eq,beq_eq_false_iff_ne,ne_eq]
  refine⟨fun hne=>?_,fun he=>⟨⟨nl,A,ml,B,i,rfl,h1,h4,h5,fun h=>absurd h (by decide),fun _=>⟨0,xl,P1,yl,Q1,rfl,hlt,hm,hm',by omega,by omega,by omega,?_⟩⟩,?_⟩⟩
  ·simp only[rowsF,h3'];rw[eqL_len (by omega),Bool.false_and]
  ·rw[h3'];simp
  ·simp only[rowsM,hr,wRow]
   rw[hd]
   simp only[sumW,List.map_cons,List.sum_cons,wRow]
   omega
 ·have e1:A.drop i.toNat=[]:=List.drop_eq_nil_of_le (by omega)
  have e2:B.drop i.toNat=[]:=List.drop_eq_nil_of_le (by omega)
  simp only[rowsF,h3,e1,e2,eqL]
theorem rowsV1 {n:Nat}:Vc (· < ·) rowsM (tbRo n) 9 rowsc1.ks (rowsInv n) (fun c r=>r=rowsF c) 1 rowst1:=by
 rintro c0 cls E hE hw ⟨nl,A,ml,B,i,rfl,h1,h4,h5,-,hh⟩
 obtain⟨m,xl,P1,yl,Q1,rfl,hi,hX,hY,hxy,m0,m1,h3⟩:=hh (by decide)
 have hw':Wts [.sl 27,.sl 27,.int .i64,.int .i64] [.sl nl A,.sl ml B,.int i,.int m]:=hw
 obtain⟨_,_,e,g,hw'⟩:=hw'.cons_inv;cases e
 obtain⟨_,_,e,hlen,-,hA⟩:=g.sl_inv;cases e
 obtain⟨_,_,e,g,hw'⟩:=hw'.cons_inv;cases e
 obtain⟨_,_,e,hlen2,-,hB⟩:=g.sl_inv;cases e
 have hlen':(A.length:Int)≤9223372036854775807:=by simp only[maxLen] at hlen;omega
 have gX:A.getD i.toNat []=[.sl xl P1]:=by rw[List.getD_eq_getElem?_getD,hX];rfl
 have gY:B.getD i.toNat []=[.sl yl Q1]:=by rw[List.getD_eq_getElem?_getD,hY];rfl
 obtain⟨_,e,hcX⟩:=(show Wts [.sl 31] [.sl xl P1] from hA _ (List.mem_of_getElem? hX)).one
 cases e
 obtain⟨_,_,e,hlX,-,hWX⟩:=hcX.sl_inv;cases e
 obtain⟨_,e,hcY⟩:=(show Wts [.sl 31] [.sl yl Q1] from hB _ (List.mem_of_getElem? hY)).one
 cases e
 obtain⟨_,_,e,hlY,-,hWY⟩:=hcY.sl_inv;cases e
 have hlX':(P1.length:Int)≤9223372036854775807:=by simp only[maxLen] at hlX;omega
 simp only[rowst1,Tr.vc,To.goodT,List.map_cons,List.map_nil,hE.v,hE.a,X.d_cons,X.d_nil,X.c_len,X.c_int,X.c_bool,X.c_bin,X.c_inr,X.c_el,X.kd,isCmp,cond_true,cond_false,List.getD_cons_zero,List.getD_cons_succ,lenC,binD,intD,inrD,elD,Cl.bool.injEq,decide_eq_true_eq,decide_eq_false_iff_not,exists_eq',true_and,gX,gY,h1,m0]
 refine⟨hi,fun hlt=>⟨hlt,by omega,by omega,?_⟩,fun hge=>?_⟩
 ·obtain⟨r,hr,hwr,hd,hm⟩:=row_at hWX (i:=m.toNat) (by omega)
  obtain⟨r',hr',hwr',hd',hm'⟩:=row_at hWY (i:=m.toNat) (by omega)
  obtain⟨ka,ba,na,sa,nla,ya,mla,ra,rfl,-⟩:=row6 hwr
  obtain⟨ka',ba',na',sa',nla',ya',mla',ra',rfl,-⟩:=row6 hwr'
  rw[hr,hr']
  have e2:(m+1).toNat=m.toNat+1:=by omega
  have hsz:SizeOf.sizeOf [Cl.int ka,.bool ba,.int na,.str sa,.sl nla ya,.sl mla ra,.int ka',.bool ba',.int na',.str sa',.sl nla' ya',.sl mla' ra']<n:=by
   have z1:=List.sizeOf_lt_of_mem (List.mem_of_getElem? hm)
   have z2:=List.sizeOf_lt_of_mem (List.mem_of_getElem? hm')
   have z3:=List.sizeOf_lt_of_mem (List.mem_of_getElem? hX)
   have z4:=List.sizeOf_lt_of_mem (List.mem_of_getElem? hY)
   simp only[List.cons.sizeOf_spec,List.nil.sizeOf_spec,Cl.sl.sizeOf_spec] at z1 z2 z3 z4 h5 ⊢
   omega
  have et:tbRo n 0 [Cl.int ka,.bool ba,.int na,.str sa,.sl nla ya,.sl mla ra,.int ka',.bool ba',.int na',.str sa',.sl nla' ya',.sl mla' ra']=.bool (alk [Cl.int ka,.bool ba,.int na,.str sa,.sl nla ya,.sl mla ra] [.int ka',.bool ba',.int na',.str sa',.sl nla' ya',.sl mla' ra']):=by rw[tbRo,if_neg (by decide)];rfl
  have en:tbRo n 1000000 [Cl.int ka,.bool ba,.int na,.str sa,.sl nla ya,.sl mla ra,.int ka',.bool ba',.int na',.str sa',.sl nla' ya',.sl mla' ra']=.bool true:=by simp only[tbRo,if_true,hsz,decide_true]
  simp only[List.getD_cons_zero,List.getD_cons_succ,et,en,Cl.bool.injEq,exists_eq',true_and]
  rw[i64_id (n:=m+1) (by omega) (by omega)]
  rw[hd,hd'] at h3
  simp only[eqL] at h3
  refine⟨fun hm=>⟨⟨nl,A,ml,B,i,rfl,h1,h4,h5,fun h=>absurd h (by decide),fun _=>⟨m+1,xl,P1,yl,Q1,rfl,hi,hX,hY,hxy,by omega,by omega,?_⟩⟩,?_⟩,fun hm=>?_⟩
  ·rw[h3,hm,e2,Bool.true_and]
  ·simp only[rowsM,gX,wRow];omega
  ·simp only[rowsF,h3,hm,Bool.false_and]
 ·have e1:P1.drop m.toNat=[]:=List.drop_eq_nil_of_le (by omega)
  have e2:Q1.drop m.toNat=[]:=List.drop_eq_nil_of_le (by omega)
  rw[i64_id (n:=i+1) (by omega) (by omega)]
  have e3:(i+1).toNat=i.toNat+1:=by omega
  refine⟨⟨nl,A,ml,B,i+1,rfl,by omega,h4,h5,fun _=>⟨rfl,by omega,?_⟩,fun h=>absurd rfl h⟩,?_⟩
  ·rw[h3,e1,e2,e3];simp[eqL]
  ·simp only[rowsM,e3];omega
theorem rows_ok (hG:Gd0 k G)(hk0:0<k)(hsz:Tryz.prog.globals.size≤k)(n:Nat):∃ tb,Krows.Sound Tryz.prog k G tb (fun c=>SizeOf.sizeOf c<n) rowsF:=by
 obtain⟨tbv,hv⟩:=alike_ok hG hk0 hsz n
 letI:Tb:=⟨some (9,tbRo n)⟩
 exact⟨_,Ctr.ofT (hk:=hkRows) Nat.lt_wfRel.wf rowsM (rowsInv n) hG (fun D=>@Hooks.ctr _ (dcOf D) _ _ _ _ 9 (by kernel_rfl) _ _ _ _ hv (by kernel_rfl) _ _ (one_h (fun c=>by simp[alikeF]) (fun c=>by simp[tbRo])) (some 1000000) (fun c h=>by simpa[tbRo] using h) hG hk0 hsz rfl) hsz (L:=9) (by kernel_rfl) rfl (trs:=[rowst0,rowst1]) (by kernel_rfl) rowst_ok rowsV ⟨⟨rowst0_ok,rowsV0⟩,⟨rowst1_ok,rowsV1⟩,trivial⟩⟩
noncomputable def tableF:List Cl→List Cl
 |[.sl _ ca,.sl _ A,.sl _ cb,.sl _ B]=>[.bool (eqL eqS ca cb&&eqL alRow A B)]
 |_=>[.bool true]
noncomputable def tbTa (n:Nat)(f:Nat)(c:List Cl):Cl:=if f=1000000 then .bool (decide (SizeOf.sizeOf c<n)) else if f=0 then (eqsF c).getD 0 .no else (rowsF c).getD 0 .no
theorem tableV {n:Nat}:Vc0 (tbTa n) 9 Ktable.ks (fun c=>SizeOf.sizeOf c<n) (fun _ _ _=>True) (fun c r=>r=tableF c) tablet:=by
 intro cls E hE hw hn
 obtain⟨n1,ca,n2,A,n3,cb,n4,B,rfl,-⟩:=tab4 hw
 have hsz:SizeOf.sizeOf [Cl.sl n2 A,.sl n4 B]<n:=by
  simp only[List.cons.sizeOf_spec,List.nil.sizeOf_spec,Cl.sl.sizeOf_spec] at hn ⊢
  omega
 have en:tbTa n 1000000 [.sl n2 A,.sl n4 B]=.bool true:=by simp only[tbTa,if_true,hsz,decide_true]
 have e0:tbTa n 0 [.sl n1 ca,.sl n3 cb]=.bool (eqL eqS ca cb):=by simp[tbTa,eqsF]
 have e1:tbTa n 1 [.sl n2 A,.sl n4 B]=.bool (eqL alRow A B):=by simp[tbTa,rowsF]
 simp only[tablet,Tr.vc,To.goodT,List.map_cons,List.map_nil,hE.v,hE.a,X.d_cons,X.d_nil,X.c_bool,X.kd,List.getD_cons_zero,List.getD_cons_succ,en,e0,e1,Cl.bool.injEq,exists_eq',true_and,tableF]
 exact⟨fun h=>by rw[h,Bool.true_and],fun h=>by rw[h,Bool.false_and]⟩
theorem table_ok (hG:Gd0 k G)(hk0:0<k)(hsz:Tryz.prog.globals.size≤k)(n:Nat):∃ tb,Ktable.Sound Tryz.prog k G tb (fun c=>SizeOf.sizeOf c<n) tableF:=by
 obtain⟨tb1,h1⟩:=texts_ok hG hsz
 obtain⟨tb2,h2⟩:=rows_ok hG hk0 hsz n
 letI:Tb:=⟨some (9,tbTa n)⟩
 exact⟨_,Ctr.ofT (hk:=hkTable) Nat.lt_wfRel.wf (fun _ _=>0) (fun _ _ _=>True) hG (fun D=>@Hooks.or _ (dcOf D) _ _ _ _ _ _
   (@Hooks.ctr _ (dcOf D) _ _ _ _ 9 (by kernel_rfl) _ _ _ _ h1 (by kernel_rfl) _ _ (one_h (fun c=>by unfold eqsF;split<;>simp) (fun c=>by simp[tbTa])) none (fun _=>trivial) hG hk0 hsz rfl)
   (@Hooks.ctr _ (dcOf D) _ _ _ _ 9 (by kernel_rfl) _ _ _ _ h2 (by kernel_rfl) _ _ (one_h (fun c=>by unfold rowsF;split<;>simp) (fun c=>by simp[tbTa])) (some 1000000) (fun c h=>by simpa[tbTa] using h) hG hk0 hsz rfl)) hsz (L:=9) (by kernel_rfl) rfl (trs:=[]) (by kernel_rfl) tablet_ok tableV trivial⟩
end Go.Proofs.Wo

namespace Go.Proofs.Wo
open Go.Exo Go.Exo.Wo
set_option linter.all false
def trAdd (a b:Sz):Sz:=(a.1+b.1,if a.2.1<b.2.1 then b.2.1 else a.2.1,a.2.2.1+b.2.2.1,if a.2.2.2<b.2.2.2 then b.2.2.2 else a.2.2.2)
def kl (n:Int)(r:List Cl):Int:=match r with|[.str s]=>n+s.length|_=>n
def trR:List Cl→Sz
 |[.int _,.bool _,.int _,.str s,.sl _ ys,.sl _ rs]=>
  (fun z:Sz=>(z.1,z.2.1+1,z.2.2.1,z.2.2.2)) (rs.attach.foldl (fun a r=>trAdd a (trR r.1)) (1,0,ys.foldl kl (s.length:Int),(rs.length:Int)))
 |_=>(0,0,0,0)
termination_by r=>SizeOf.sizeOf r
decreasing_by
 have h:=List.sizeOf_lt_of_mem r.2
 simp only[List.cons.sizeOf_spec,Cl.sl.sizeOf_spec] at h ⊢
 omega
def trRs (a:Sz)(rs:List (List Cl)):Sz:=rs.foldl (fun a r=>trAdd a (trR r)) a
theorem trR_eq (k:Int)(b:Bool)(n:Int)(s:List UInt8)(nl:Bool)(ys:List (List Cl))(ml:Bool)(rs:List (List Cl)) :
  trR [.int k,.bool b,.int n,.str s,.sl nl ys,.sl ml rs]=(fun z:Sz=>(z.1,z.2.1+1,z.2.2.1,z.2.2.2)) (trRs (1,0,ys.foldl kl (s.length:Int),(rs.length:Int)) rs):=by
 rw[trR]
 congr 1
 unfold trRs
 rw[List.foldl_subtype (g:=fun a r=>trAdd a (trR r)) (by intros;rfl)]
 simp
theorem kl_ge:∀ (ys:List (List Cl))(n:Int),n≤ys.foldl kl n
 |[],n=>Int.le_refl _
 |y::ys,n=>by
  have h:=kl_ge ys (kl n y)
  have:n≤kl n y:=by unfold kl;split<;>omega
  simp only[List.foldl_cons];omega
theorem kl_add:∀ (ys:List (List Cl))(n m:Int),ys.foldl kl (n+m)=n+ys.foldl kl m
 |[],n,m=>rfl
 |y::ys,n,m=>by
  have:kl (n+m) y=n+kl m y:=by unfold kl;split<;>omega
  simp only[List.foldl_cons,this];exact kl_add ys n _
theorem trAdd_ge (a b:Sz)(hb:0≤b.1∧0≤b.2.2.1):a.1≤(trAdd a b).1∧a.2.1≤(trAdd a b).2.1∧b.2.1≤(trAdd a b).2.1∧a.2.2.1≤(trAdd a b).2.2.1:=by
 unfold trAdd
 refine⟨by simp only;omega,?_,?_,by simp only;omega⟩<;>simp only<;>split<;>omega
mutual
theorem trR_nn (n:Nat):∀ r:List Cl,SizeOf.sizeOf r<n→0≤(trR r).1∧0≤(trR r).2.1∧0≤(trR r).2.2.1:=by
 induction n with
 |zero=>intro r h;omega
 |succ n ih=>
  intro r h
  unfold trR
  split
  ·rename_i k b i s nl ys ml rs
   have hh:=trR_eq k b i s nl ys ml rs
   unfold trR at hh
   rw[hh]
   have hk:=kl_ge ys (s.length:Int)
   have key:∀ (l:List (List Cl))(a:Sz),(∀ x∈l,x∈rs)→a.1≤(trRs a l).1∧a.2.1≤(trRs a l).2.1∧a.2.2.1≤(trRs a l).2.2.1:=by
    intro l
    induction l with
    |nil=>intro a _;exact⟨Int.le_refl _,Int.le_refl _,Int.le_refl _⟩
    |cons x l ihl=>
     intro a hx
     have z:=List.sizeOf_lt_of_mem (hx x (.head _))
     simp only[List.cons.sizeOf_spec,Cl.sl.sizeOf_spec] at h
     have hz:=ih x (by omega)
     have g:=trAdd_ge a (trR x) ⟨hz.1,hz.2.2⟩
     have q:=ihl (trAdd a (trR x)) fun y hy=>hx y (.tail _ hy)
     show a.1≤(trRs (trAdd a (trR x)) l).1∧a.2.1≤(trRs (trAdd a (trR x)) l).2.1∧a.2.2.1≤(trRs (trAdd a (trR x)) l).2.2.1
     exact⟨by omega,by omega,by omega⟩
   have q:=key rs (1,0,ys.foldl kl (s.length:Int),(rs.length:Int)) fun _ h=>h
   simp only at q ⊢
   omega
  ·exact⟨Int.le_refl _,Int.le_refl _,Int.le_refl _⟩
end
theorem trR_0 (r:List Cl):0≤(trR r).1∧0≤(trR r).2.1∧0≤(trR r).2.2.1:=trR_nn _ r (Nat.lt_succ_self _)
theorem trRs_ge:∀ (l:List (List Cl))(a:Sz),a.1≤(trRs a l).1∧a.2.1≤(trRs a l).2.1∧a.2.2.1≤(trRs a l).2.2.1
 |[],a=>⟨Int.le_refl _,Int.le_refl _,Int.le_refl _⟩
 |x::l,a=>by
  have hz:=trR_0 x
  have g:=trAdd_ge a (trR x) ⟨hz.1,hz.2.2⟩
  have q:=trRs_ge l (trAdd a (trR x))
  show a.1≤(trRs (trAdd a (trR x)) l).1∧a.2.1≤(trRs (trAdd a (trR x)) l).2.1∧a.2.2.1≤(trRs (trAdd a (trR x)) l).2.2.1
  exact⟨by omega,by omega,by omega⟩
abbrev big:Int:=4611686018427387904
theorem w64_id {x:Int}(h0:0≤x)(h1:x<big):w64 x=x:=i64_id (by omega) (by simp only[big] at h1;omega)
theorem key_kl:∀ (ys:List (List Cl))(n:Int),0≤n→ys.foldl kl n<big→ys.foldl keyLen n=ys.foldl kl n
 |[],n,_,_=>rfl
 |y::ys,n,h0,h1=>by
  have hy:n≤kl n y:=by unfold kl;split<;>omega
  have hl:=kl_ge ys (kl n y)
  simp only[List.foldl_cons] at h1 ⊢
  have e:keyLen n y=kl n y:=by
   have e1:keyLen n y=kl n y∨keyLen n y=w64 (kl n y):=by
    by_cases hh:∃ t,y=[.str t]
    ·obtain⟨t,rfl⟩:=hh
     exact .inr rfl
    ·left
     unfold keyLen kl
     split
     ·exact absurd ⟨_,rfl⟩ hh
     ·split
      ·exact absurd ⟨_,rfl⟩ hh
      ·rfl
   rcases e1 with e1|e1
   ·exact e1
   ·rw[e1];exact w64_id (by omega) (by omega)
  rw[e]
  exact key_kl ys _ (by omega) h1
theorem szs_tr:∀ (l:List (List Cl))(a:Sz),(∀ x∈l,(trR x).1<big→(trR x).2.1<big→(trR x).2.2.1<big→szR x=trR x)→0≤a.1→0≤a.2.1→0≤a.2.2.1→(trRs a l).1<big→(trRs a l).2.1<big→(trRs a l).2.2.1<big→szRs a l=trRs a l
 |[],a,_,_,_,_,_,_,_=>rfl
 |x::l,a,hx,h1,h2,h3,g1,g2,g3=>by
  have hz:=trR_0 x
  have g:=trAdd_ge a (trR x) ⟨hz.1,hz.2.2⟩
  have q:=trRs_ge l (trAdd a (trR x))
  have g1':(trRs (trAdd a (trR x)) l).1<big:=g1
  have g2':(trRs (trAdd a (trR x)) l).2.1<big:=g2
  have g3':(trRs (trAdd a (trR x)) l).2.2.1<big:=g3
  have b1:(trAdd a (trR x)).1=a.1+(trR x).1:=rfl
  have b3:(trAdd a (trR x)).2.2.1=a.2.2.1+(trR x).2.2.1:=rfl
  have e:szR x=trR x:=hx x (.head _) (by omega) (by omega) (by omega)
  have e2:szAdd a (szR x)=trAdd a (trR x):=by
   rw[e]
   unfold szAdd trAdd
   rw[w64_id (x:=a.1+(trR x).1) (by omega) (by omega),w64_id (x:=a.2.2.1+(trR x).2.2.1) (by omega) (by omega)]
  show szRs (szAdd a (szR x)) l=trRs (trAdd a (trR x)) l
  rw[e2]
  exact szs_tr l _ (fun y hy=>hx y (.tail _ hy)) (by omega) (by omega) (by omega) g1' g2' g3'
theorem sz_tr:∀ (m:Nat)(r:List Cl),SizeOf.sizeOf r<m→Wts vK r→(trR r).1<big→(trR r).2.1<big→(trR r).2.2.1<big→szR r=trR r:=by
 intro m
 induction m with
 |zero=>intro r h;omega
 |succ m ih=>
  intro r hm hw g1 g2 g3
  obtain⟨k,b,n,s,nl,ys,ml,rs,rfl,hl,-⟩:=row6 hw
  obtain⟨-,-,-,q4⟩:=ls2 hl
  rw[trR_eq] at g1 g2 g3
  simp only at g1 g2 g3
  have hq:=trRs_ge rs (1,0,ys.foldl kl (s.length:Int),(rs.length:Int))
  have hk:=kl_ge ys (s.length:Int)
  simp only at hq
  rw[szR_eq,trR_eq]
  have ek:ys.foldl keyLen (s.length:Int)=ys.foldl kl (s.length:Int):=key_kl ys _ (by omega) (by omega)
  rw[ek,szs_tr rs _ (fun x hx=>ih x (by
   have z:=List.sizeOf_lt_of_mem hx
   simp only[List.cons.sizeOf_spec,Cl.sl.sizeOf_spec] at hm
   omega) (q4 x hx)) (by simp only;omega) (by simp only;omega) (by simp only;omega) g1 (by omega) g3]
  simp only
  rw[w64_id (by omega) g2]
end Go.Proofs.Wo

namespace Go.Proofs.Wo
open Go.Exo Go.Exo.Wo
set_option linter.all false
def stepC (d:Int)(r:List Cl)(st:Int×Bool):Int×Bool:=match r with
 |[.int _,.bool _,.int _,.str s,.sl _ ys,.sl _ rs]=>
  (ys.foldl keyLen (w64 (st.1+s.length)),st.2 || decide (64<d) || decide (65536<(rs.length:Int)) || decide (1048576<ys.foldl keyLen (w64 (st.1+s.length))))
 |_=>st
def goN (u:List UInt8→Bool):Nat→Int→List Cl→Int×Bool→Option (Int×Bool)
 |n+1,d,[.int k,.bool b,.int i,.str s,.sl nl ys,.sl ml rs],st=>
  if mayB u [.int k,.bool b,.int i,.str s,.sl nl ys,.sl ml rs] then rs.foldl (fun o r=>o.bind (goN u n (w64 (d+1)) r)) (some (stepC d [.int k,.bool b,.int i,.str s,.sl nl ys,.sl ml rs] st)) else none
 |_,_,_,_=>none
def stOf (d b0:Int)(o0:Bool)(a:Sz):Int×Bool:=(b0+a.2.2.1,o0 || decide (64<d+a.2.1) || decide (65536<a.2.2.2) || decide (1048576<b0+a.2.2.1))
theorem foldl_none {α β:Type}(f:Option α→β→Option α)(hf:∀ b,f none b=none):∀ l:List β,l.foldl f none=none
 |[]=>rfl
 |b::l=>by rw[List.foldl_cons,hf];exact foldl_none f hf l
theorem stOf_step (d b0:Int)(o0:Bool)(a z:Sz)(hz:0≤z.2.2.1):((stOf d b0 o0 a).1+z.2.2.1,(stOf d b0 o0 a).2 || decide (64<(d+1)+z.2.1-1) || decide (65536<z.2.2.2) || decide (1048576<(stOf d b0 o0 a).1+z.2.2.1))=stOf d b0 o0 (trAdd a z):=by
 unfold stOf trAdd
 simp only[Prod.mk.injEq]
 refine⟨by omega,?_⟩
 rw[Bool.eq_iff_iff]
 simp only[Bool.or_eq_true,decide_eq_true_eq]
 constructor
 ·rintro ((((((h|h)|h)|h)|h)|h)|h)
  ·exact .inl (.inl (.inl h))
  ·left;left;right;split<;>omega
  ·left;right;split<;>omega
  ·right;omega
  ·left;left;right;split<;>omega
  ·left;right;split<;>omega
  ·right;omega
 ·rintro (((h|h)|h)|h)
  ·exact .inl (.inl (.inl (.inl (.inl (.inl h)))))
  ·split at h
   ·exact .inl (.inl (.inr (by omega)))
   ·exact .inl (.inl (.inl (.inl (.inl (.inr h)))))
  ·split at h
   ·exact .inl (.inr h)
   ·exact .inl (.inl (.inl (.inl (.inr h))))
  ·exact .inr (by omega)
theorem go_fold (u:List UInt8→Bool)(n:Nat)(d b0:Int)(o0:Bool)(hd:0≤d)(hd1:d+1<big)(hb0:0≤b0):∀ (l:List (List Cl))(a:Sz),0≤a.2.1→0≤a.2.2.1→
  (∀ r∈l,∀ (b:Int)(o:Bool),0≤b→b+(trR r).2.2.1<big→(d+1)+(trR r).2.1<big→goN u n (d+1) r (b,o)=if mayR u r then some (b+(trR r).2.2.1,o || decide (64<(d+1)+(trR r).2.1-1) || decide (65536<(trR r).2.2.2) || decide (1048576<b+(trR r).2.2.1)) else none)→
  b0+(trRs a l).2.2.1<big→(d+1)+(trRs a l).2.1<big→
  l.foldl (fun o r=>o.bind (goN u n (w64 (d+1)) r)) (some (stOf d b0 o0 a))=if l.all (mayR u) then some (stOf d b0 o0 (trRs a l)) else none
 |[],a,_,_,_,_,_=>by simp[trRs]
 |x::l,a,ha,ha2,hx,h1,h2=>by
  have hz:=trR_0 x
  have g:=trAdd_ge a (trR x) ⟨hz.1,hz.2.2⟩
  have q:=trRs_ge l (trAdd a (trR x))
  have h1':b0+(trRs (trAdd a (trR x)) l).2.2.1<big:=h1
  have h2':(d+1)+(trRs (trAdd a (trR x)) l).2.1<big:=h2
  have b3:(trAdd a (trR x)).2.2.1=a.2.2.1+(trR x).2.2.1:=rfl
  have e:=hx x (.head _) (stOf d b0 o0 a).1 (stOf d b0 o0 a).2 (by show 0≤b0+a.2.2.1;omega) (by show b0+a.2.2.1+_<_;omega) (by omega)
  rw[stOf_step d b0 o0 a (trR x) hz.2.2] at e
  simp only[List.foldl_cons,Option.bind_some,w64_id (x:=d+1) (by omega) hd1]
  rw[show ((stOf d b0 o0 a).1,(stOf d b0 o0 a).2)=stOf d b0 o0 a from rfl] at e
  rw[e]
  by_cases hm:mayR u x=true
  rotate_left
  ·rw[if_neg hm,foldl_none _ (fun _=>rfl) l,if_neg (show ¬ (x::l).all (mayR u)=true from fun h=>hm (List.all_eq_true.1 h x (.head _)))]
  ·rw[if_pos hm]
   have ih:=go_fold u n d b0 o0 hd hd1 hb0 l (trAdd a (trR x)) (by omega) (by omega) (fun r hr=>hx r (.tail _ hr)) h1' h2'
   rw[w64_id (x:=d+1) (by omega) hd1] at ih
   rw[ih]
   by_cases hl:l.all (mayR u)=true
   ·rw[if_pos hl,if_pos (show (x::l).all (mayR u)=true from List.all_eq_true.2 fun y hy=>by
     cases hy with
     |head=>exact hm
     |tail _ hy=>exact List.all_eq_true.1 hl y hy)];rfl
   ·rw[if_neg hl,if_neg (show ¬ (x::l).all (mayR u)=true from fun h=>hl (List.all_eq_true.2 fun y hy=>List.all_eq_true.1 h y (.tail _ hy)))]
theorem go_tr (u:List UInt8→Bool):∀ (n:Nat)(r:List Cl),SizeOf.sizeOf r<n→Wts vK r→∀ (d b:Int)(o:Bool),0≤d→0≤b→b+(trR r).2.2.1<big→d+(trR r).2.1<big→
  goN u n d r (b,o)=if mayR u r then some (b+(trR r).2.2.1,o || decide (64<d+(trR r).2.1-1) || decide (65536<(trR r).2.2.2) || decide (1048576<b+(trR r).2.2.1)) else none:=by
 intro n
 induction n with
 |zero=>intro r h;omega
 |succ n ih=>
  intro r hm hw d b o hd hb g3 g2
  obtain⟨k,b1,i,s,nl,ys,ml,rs,rfl,hl,-⟩:=row6 hw
  obtain⟨-,-,-,q4⟩:=ls2 hl
  rw[trR_eq] at g2 g3 ⊢
  simp only at g2 g3 ⊢
  have hq:=trRs_ge rs (1,0,ys.foldl kl (s.length:Int),(rs.length:Int))
  have hk:=kl_ge ys (s.length:Int)
  simp only at hq
  have ek:ys.foldl keyLen (w64 (b+(s.length:Int)))=b+ys.foldl kl (s.length:Int):=by
   rw[w64_id (by omega) (by omega),← kl_add]
   exact key_kl ys _ (by omega) (by rw[kl_add];omega)
  have es:stepC d [.int k,.bool b1,.int i,.str s,.sl nl ys,.sl ml rs] (b,o)=stOf d b o (1,0,ys.foldl kl (s.length:Int),(rs.length:Int)):=by
   simp only[stepC,ek,stOf]
   simp
  rw[mayR_B]
  simp only[goN,es]
  have f:=go_fold u n d b o hd (by omega) hb rs (1,0,ys.foldl kl (s.length:Int),(rs.length:Int)) (by simp only;omega) (by simp only;omega) (fun x hx b' o' hb' k1 k2=>ih x (by
   have z:=List.sizeOf_lt_of_mem hx
   simp only[List.cons.sizeOf_spec,Cl.sl.sizeOf_spec] at hm
   omega) (q4 x hx) (d+1) b' o' (by omega) hb' k1 k2) g3 (by omega)
  rw[f]
  cases mayB u [.int k,.bool b1,.int i,.str s,.sl nl ys,.sl ml rs] with
  |false=>simp
  |true=>
   simp only[if_true,Bool.true_and]
   cases rs.all (mayR u) with
   |false=>simp
   |true=>
    simp only[if_true,stOf]
    rw[show d+((trRs (1,0,ys.foldl kl (s.length:Int),(rs.length:Int)) rs).2.1+1)-1=d+(trRs (1,0,ys.foldl kl (s.length:Int),(rs.length:Int)) rs).2.1 by omega]
def chkN (u:List UInt8→Bool)(n:Nat)(r:List Cl):Int:=match goN u n 1 r (0,false) with
 |none=>110
 |some (_,o)=>if o then 3 else 0
theorem chk_check (u:List UInt8→Bool)(n:Nat)(r:List Cl)(hm:SizeOf.sizeOf r<n)(hw:Wts vK r)(g1:(trR r).1<big)(g2:1+(trR r).2.1<big)(g3:(trR r).2.2.1<big):chkN u n r=checkN u r:=by
 have e:=go_tr u n r hm hw 1 0 false (by omega) (by omega) (by omega) g2
 have es:=sz_tr n r hm hw g1 (by omega) g3
 unfold chkN checkN
 rw[e,es]
 cases mayR u r with
 |false=>rfl
 |true=>
  simp only[if_true,Bool.false_or,Bool.or_eq_true,decide_eq_true_eq]
  rw[show 1+(trR r).2.1-1=(trR r).2.1 by omega,show 0+(trR r).2.2.1=(trR r).2.2.1 by omega]
  split<;>split<;>first|rfl|omega
end Go.Proofs.Wo

namespace Go.Proofs.Wo
open Go.Exo Go.Exo.Wo
set_option linter.all false
theorem nrm_strs:∀ {ys ys':List (List Cl)},(∀ r∈ys,Wts [.str] r)→(∀ r∈ys',Wts [.str] r)→nrmRs ys=nrmRs ys'→ys=ys'
 |[],[],_,_,_=>rfl
 |[],_::_,_,_,h=>by simp[nrmRs] at h
 |_::_,[],_,_,h=>by simp[nrmRs] at h
 |y::ys,y'::ys',h1,h2,h=>by
  simp only[nrmRs,List.cons.injEq] at h
  obtain⟨_,rfl,g1⟩:=(h1 y (.head _)).one
  obtain⟨_,rfl,g2⟩:=(h2 y' (.head _)).one
  obtain⟨s,rfl,-⟩:=g1.str_inv
  obtain⟨s',rfl,-⟩:=g2.str_inv
  have e:=h.1
  simp only[nrmR,nrm,List.cons.injEq,Cl.str.injEq,and_true] at e
  rw[e,nrm_strs (fun r hr=>h1 r (.tail _ hr)) (fun r hr=>h2 r (.tail _ hr)) h.2]
theorem may_nrm (u:List UInt8→Bool):∀ (n:Nat)(r r':List Cl),SizeOf.sizeOf r<n→Wts vK r→Wts vK r'→nrmR r=nrmR r'→mayR u r=mayR u r'∧szR r=szR r':=by
 intro n
 induction n with
 |zero=>intro r r' h;omega
 |succ n ih=>
  intro r r' hs ha hb he
  obtain⟨k,b0,i,s,nl,ys,ml,rs,rfl,hl,-⟩:=row6 ha
  obtain⟨k',b0',i',s',nl',ys',ml',rs',rfl,hl',-⟩:=row6 hb
  obtain⟨-,q2,-,q4⟩:=ls2 hl
  obtain⟨-,q2',-,q4'⟩:=ls2 hl'
  rw[nrm6] at he
  obtain⟨rfl,rfl,rfl,rfl,hy,hr⟩:=he
  have ey:=nrm_strs q2 q2' hy
  subst ey
  have key:∀ (l l':List (List Cl)),(∀ x∈l,x∈rs)→(∀ x∈l',x∈rs')→nrmRs l=nrmRs l'→l.length=l'.length∧l.all (mayR u)=l'.all (mayR u)∧∀ a,szRs a l=szRs a l':=by
   intro l
   induction l with
   |nil=>
    intro l' _ _ h
    cases l' with
    |nil=>exact⟨rfl,rfl,fun _=>rfl⟩
    |cons=>simp[nrmRs] at h
   |cons x l ihl=>
    intro l' h1 h2 h
    cases l' with
    |nil=>simp[nrmRs] at h
    |cons x' l'=>
     simp only[nrmRs,List.cons.injEq] at h
     have z:=List.sizeOf_lt_of_mem (h1 x (.head _))
     simp only[List.cons.sizeOf_spec,Cl.sl.sizeOf_spec] at hs
     obtain⟨e1,e2⟩:=ih x x' (by omega) (q4 x (h1 x (.head _))) (q4' x' (h2 x' (.head _))) h.1
     obtain⟨f1,f2,f3⟩:=ihl l' (fun y hy=>h1 y (.tail _ hy)) (fun y hy=>h2 y (.tail _ hy)) h.2
     refine⟨by simp[f1],by simp only[List.all_cons,e1,f2],fun a=>?_⟩
     show szRs (szAdd a (szR x)) l=szRs (szAdd a (szR x')) l'
     rw[e2];exact f3 _
  obtain⟨f1,f2,f3⟩:=key rs rs' (fun _ h=>h) (fun _ h=>h) hr
  have fe:rs.isEmpty=rs'.isEmpty:=by cases rs<;>cases rs'<;>simp at f1 ⊢
  refine⟨?_,?_⟩
  ·rw[mayR_eq,mayR_eq,f1,f2]
   simp only[bareB,fe]
  ·rw[szR_eq,szR_eq,f1,f3]
theorem check_nrm (u:List UInt8→Bool){r r':List Cl}(ha:Wts vK r)(hb:Wts vK r')(he:nrmR r=nrmR r'):checkN u r=checkN u r':=by
 obtain⟨e1,e2⟩:=may_nrm u _ r r' (Nat.lt_succ_self _) ha hb he
 unfold checkN;rw[e1,e2]
theorem smV_iff (u:List UInt8→Bool){n:Nat}{a b:List Cl}(hn:SizeOf.sizeOf a<n)(ha:Wts vK a)(hb:Wts vK b):smV (checkN u) n a b=true↔checkN u a=0∧nrmR a=nrmR b:=by
 have hm:∀ {r:List Cl},checkN u r=0→mayR u r=true:=fun {r} h=>by
  unfold checkN at h
  cases e:mayR u r with
  |true=>rfl
  |false=>rw[e] at h;simp at h
 simp only[smV,Bool.and_eq_true,beq_iff_eq]
 constructor
 ·rintro⟨⟨h1,h2⟩,h3⟩
  exact⟨h1,(cmpN_zero u u n a b hn ha hb (hm h1) (hm h2)).1 h3⟩
 ·rintro⟨h1,h2⟩
  have h3:checkN u b=0:=by rw[← check_nrm u ha hb h2];exact h1
  exact⟨⟨h1,h3⟩,(cmpN_zero u u n a b hn ha hb (hm h1) (hm h3)).2 h2⟩
theorem rows_iff (u:List UInt8→Bool){n:Nat}:∀ {A B:List (List Cl)},(∀ r∈A,Wts vK r∧SizeOf.sizeOf r<n)→(∀ r∈B,Wts vK r)→(eqL (smV (checkN u) n) A B=true↔(∀ r∈A,checkN u r=0)∧nrmRs A=nrmRs B)
 |[],[],_,_=>by simp[eqL]
 |[],_::_,_,_=>by simp[eqL,nrmRs]
 |_::_,[],_,_=>by simp[eqL,nrmRs]
 |a::p,b::q,h1,h2=>by
  have ih:=rows_iff u (A:=p) (B:=q) (fun r hr=>h1 r (.tail _ hr)) fun r hr=>h2 r (.tail _ hr)
  have h0:=smV_iff u (h1 a (.head _)).2 (h1 a (.head _)).1 (h2 b (.head _))
  simp only[eqL,Bool.and_eq_true,h0,ih,nrmRs,List.cons.injEq,List.forall_mem_cons]
  constructor
  ·rintro⟨⟨e1,e2⟩,e3,e4⟩;exact⟨⟨e1,e3⟩,e2,e4⟩
  ·rintro⟨⟨e1,e3⟩,e2,e4⟩;exact⟨⟨e1,e2⟩,e3,e4⟩
end Go.Proofs.Wo

namespace Go.Proofs.Wo
open Go.Exo Go.Exo.Wo
set_option linter.all false
def flat:Nat→Int→List Cl→List (Int×List Cl)
 |n+1,d,[.int k,.bool b,.int i,.str s,.sl nl ys,.sl ml rs]=>(d,[.int k,.bool b,.int i,.str s,.sl nl ys,.sl ml rs])::rs.flatMap (flat n (w64 (d+1)))
 |_,_,_=>[]
def visit (u:List UInt8→Bool)(o:Option (Int×Bool))(x:Int×List Cl):Option (Int×Bool):=o.bind fun st=>if mayB u x.2 then some (stepC x.1 x.2 st) else none
theorem go_flat (u:List UInt8→Bool):∀ (n:Nat)(r:List Cl),SizeOf.sizeOf r<n→Wts vK r→∀ (d:Int)(o:Option (Int×Bool)),(flat n d r).foldl (visit u) o=o.bind (goN u n d r):=by
 intro n
 induction n with
 |zero=>intro r h;omega
 |succ n ih=>
  intro r hm hw d o
  obtain⟨k,b1,i,s,nl,ys,ml,rs,rfl,hl,-⟩:=row6 hw
  obtain⟨-,-,-,q4⟩:=ls2 hl
  cases o with
  |none=>exact foldl_none _ (fun _=>rfl) _
  |some st=>
   have key:∀ (l:List (List Cl)),(∀ x∈l,x∈rs)→∀ o,(l.flatMap (flat n (w64 (d+1)))).foldl (visit u) o=l.foldl (fun o r=>o.bind (goN u n (w64 (d+1)) r)) o:=by
    intro l
    induction l with
    |nil=>intro _ o;rfl
    |cons x l ihl=>
     intro hx o
     have z:=List.sizeOf_lt_of_mem (hx x (.head _))
     simp only[List.cons.sizeOf_spec,Cl.sl.sizeOf_spec] at hm
     rw[List.flatMap_cons,List.foldl_append,ih x (by omega) (q4 x (hx x (.head _))),List.foldl_cons]
     exact ihl (fun y hy=>hx y (.tail _ hy)) _
   simp only[flat,List.foldl_cons,Option.bind_some,goN,visit]
   by_cases hb:mayB u [.int k,.bool b1,.int i,.str s,.sl nl ys,.sl ml rs]=true
   ·rw[if_pos hb,if_pos hb]
    exact key rs (fun _ h=>h) _
   ·rw[if_neg hb,if_neg hb]
    exact foldl_none _ (fun _=>rfl) _
theorem visit_bad (u:List UInt8→Bool):∀ (l:List (Int×List Cl))(o:Option (Int×Bool))(x:Int×List Cl),x∈l→mayB u x.2=false→l.foldl (visit u) o=none
 |y::l,o,x,h,hb=>by
  rw[List.foldl_cons]
  rcases List.mem_cons.1 h with rfl|h
  ·have e:visit u o x=none:=by
    unfold visit
    cases o with
    |none=>rfl
    |some st=>rw[Option.bind_some,hb];rfl
   rw[e]
   exact foldl_none _ (fun _=>rfl) _
  ·exact visit_bad u l _ x h hb
theorem chk_flat (u:List UInt8→Bool)(n:Nat)(r:List Cl)(hm:SizeOf.sizeOf r<n)(hw:Wts vK r):chkN u n r=match (flat n 1 r).foldl (visit u) (some (0,false)) with|none=>110|some (_,o)=>if o then 3 else 0:=by
 rw[go_flat u n r hm hw 1 (some (0,false))];rfl
end Go.Proofs.Wo

namespace Go.Proofs.Wo
open Go.Exo Go.Exo.Wo Go.Lib
set_option linter.all false
theorem eqL_and {e g:List Cl→List Cl→Bool}{f:List Cl→Bool}:∀ {A B:List (List Cl)},(∀ a∈A,∀ b∈B,e a b=(f a&&g a b))→eqL e A B=(A.all f&&eqL g A B)
 |[],[],_=>rfl
 |[],_::_,_=>by simp[eqL]
 |_::_,[],_=>by simp[eqL]
 |a::p,b::q,h=>by
  have ih:=eqL_and (e:=e) (g:=g) (f:=f) (A:=p) (B:=q) fun x hx y hy=>h x (.tail _ hx) y (.tail _ hy)
  have h0:=h a (.head _) b (.head _)
  simp only[eqL,List.all_cons,ih,h0]
  cases f a<;>cases g a b<;>cases p.all f<;>rfl
theorem eqL_symm {e g:List Cl→List Cl→Bool}:∀ {A B:List (List Cl)},(∀ a∈A,∀ b∈B,e a b=g b a)→eqL e A B=eqL g B A
 |[],[],_=>rfl
 |[],_::_,_=>rfl
 |_::_,[],_=>rfl
 |a::p,b::q,h=>by
  have ih:=eqL_symm (e:=e) (g:=g) (A:=p) (B:=q) fun x hx y hy=>h x (.tail _ hx) y (.tail _ hy)
  simp only[eqL,ih,h a (.head _) b (.head _)]
theorem eqL_refl {e:List Cl→List Cl→Bool}:∀ {A:List (List Cl)},(∀ a∈A,e a a=true)→eqL e A A=true
 |[],_=>rfl
 |a::p,h=>by
  have ih:=eqL_refl (e:=e) (A:=p) fun x hx=>h x (.tail _ hx)
  simp only[eqL,ih,h a (.head _),Bool.and_self]
theorem eqL_all {g:List Cl→List Cl→Bool}{f f':List Cl→Bool}:∀ {A B:List (List Cl)},(∀ a∈A,∀ b∈B,g a b=true→f a=f' b)→eqL g A B=true→A.all f=B.all f'
 |[],[],_,_=>rfl
 |[],_::_,_,h=>by simp[eqL] at h
 |_::_,[],_,h=>by simp[eqL] at h
 |a::p,b::q,h,he=>by
  simp only[eqL,Bool.and_eq_true] at he
  have ih:=eqL_all (g:=g) (f:=f) (f':=f') (A:=p) (B:=q) (fun x hx y hy=>h x (.tail _ hx) y (.tail _ hy)) he.2
  simp only[List.all_cons,ih,h a (.head _) b (.head _) he.1]
def vFine (v:List Cl):Bool:=checkN validD v==0
def rowFine (r:List Cl):Bool:=match r with|[.sl _ P]=>P.all vFine|_=>true
def RowOk (n:Nat)(r:List Cl):Prop:=∃ xl P,r=[Cl.sl xl P]∧∀ v∈P,Wts vK v∧SizeOf.sizeOf v<n∧chkN validD n v=checkN validD v
theorem alk_iff {a b:List Cl}:alk a b=true↔nrmR a=nrmR b:=by simp[alk]
theorem row_eq {n:Nat}{a b:List Cl}(ha:RowOk n a)(hb:RowOk n b):eqRow (chkN validD n) n a b=(rowFine a&&alRow a b):=by
 obtain⟨xl,P,rfl,hP⟩:=ha
 obtain⟨yl,Q,rfl,hQ⟩:=hb
 have e1:eqL (smV (chkN validD n) n) P Q=eqL (smV (checkN validD) n) P Q:=by
  have:∀ {A B:List (List Cl)},(∀ v∈A,chkN validD n v=checkN validD v)→(∀ v∈B,chkN validD n v=checkN validD v)→eqL (smV (chkN validD n) n) A B=eqL (smV (checkN validD) n) A B:=by
   intro A
   induction A with
   |nil=>intro B _ _;cases B<;>rfl
   |cons a p ih=>
    intro B h1 h2
    cases B with
    |nil=>rfl
    |cons b q=>
     simp only[eqL,smV,h1 a (.head _),h2 b (.head _)]
     rw[ih (fun v hv=>h1 v (.tail _ hv)) (fun v hv=>h2 v (.tail _ hv))]
  exact this (fun v hv=>(hP v hv).2.2) (fun v hv=>(hQ v hv).2.2)
 have h:=rows_iff validD (n:=n) (A:=P) (B:=Q) (fun r hr=>⟨(hP r hr).1,(hP r hr).2.1⟩) (fun r hr=>(hQ r hr).1)
 have h2:=eqL_iff (e:=alk) (g:=nrmR) (A:=P) (B:=Q) (fun a _ b _=>alk_iff)
 simp only[eqRow,rowFine,alRow,e1]
 rw[Bool.eq_iff_iff,h,Bool.and_eq_true,h2,nrmRs_eq,nrmRs_eq,List.all_eq_true]
 simp[vFine]
theorem row_symm {a b:List Cl}:alRow a b=alRow b a:=by
 unfold alRow
 split
 ·exact eqL_symm fun x _ y _=>by rw[Bool.eq_iff_iff,alk_iff,alk_iff];exact eq_comm
 ·rename_i h
  split
  ·rename_i h';exact absurd rfl (h _ _ _ _ rfl)
  ·rfl
theorem row_refl {n:Nat}{a:List Cl}(ha:RowOk n a):alRow a a=true:=by
 obtain⟨xl,P,rfl,-⟩:=ha
 exact eqL_refl fun x _=>alk_iff.2 rfl
theorem row_fine {n:Nat}{a b:List Cl}(ha:RowOk n a)(hb:RowOk n b)(h:alRow a b=true):rowFine a=rowFine b:=by
 obtain⟨xl,P,rfl,hP⟩:=ha
 obtain⟨yl,Q,rfl,hQ⟩:=hb
 exact eqL_all (g:=alk) (fun x hx y hy e=>by
  simp only[vFine]
  rw[check_nrm validD (hP x hx).1 (hQ y hy).1 (alk_iff.1 e)]) h
theorem eqS_symm {a b:List Cl}:eqS a b=eqS b a:=by
 unfold eqS
 split
 ·rw[Bool.eq_iff_iff,beq_iff_eq,beq_iff_eq];exact eq_comm
 ·rename_i h
  split
  ·rename_i h';exact absurd rfl (h _ _ rfl)
  ·rfl
theorem eqS_refl {a:List Cl}(h:Wts [.str] a):eqS a a=true:=by
 obtain⟨c,rfl,hc⟩:=h.one
 obtain⟨s,rfl,-⟩:=hc.str_inv
 simp[eqS]
theorem same_law {n:Nat}{ca A cb B:List (List Cl)}(hca:∀ r∈ca,Wts [.str] r)(hA:∀ r∈A,RowOk n r)(hB:∀ r∈B,RowOk n r) :
  (eqL eqS ca cb&&eqL (eqRow (chkN validD n) n) A B)=(A.all rowFine&&(eqL eqS ca cb&&eqL alRow A B))∧
  (eqL eqS cb ca&&eqL (eqRow (chkN validD n) n) B A)=(eqL eqS ca cb&&eqL (eqRow (chkN validD n) n) A B)∧
  (eqL eqS ca ca&&eqL (eqRow (chkN validD n) n) A A)=A.all rowFine:=by
 have e1:eqL (eqRow (chkN validD n) n) A B=(A.all rowFine&&eqL alRow A B):=eqL_and fun a ha b hb=>row_eq (hA a ha) (hB b hb)
 have e2:eqL (eqRow (chkN validD n) n) B A=(B.all rowFine&&eqL alRow B A):=eqL_and fun a ha b hb=>row_eq (hB a ha) (hA b hb)
 have e3:eqL (eqRow (chkN validD n) n) A A=(A.all rowFine&&eqL alRow A A):=eqL_and fun a ha b hb=>row_eq (hA a ha) (hA b hb)
 have e4:eqL alRow B A=eqL alRow A B:=eqL_symm fun _ _ _ _=>row_symm
 have e5:eqL eqS cb ca=eqL eqS ca cb:=eqL_symm fun _ _ _ _=>eqS_symm
 have e6:eqL alRow A A=true:=eqL_refl fun a ha=>row_refl (hA a ha)
 have e7:eqL eqS ca ca=true:=eqL_refl fun a ha=>eqS_refl (hca a ha)
 refine⟨?_,?_,?_⟩
 ·rw[e1];cases eqL eqS ca cb<;>cases A.all rowFine<;>cases eqL alRow A B<;>rfl
 ·rw[e1,e2,e4,e5]
  cases hY:eqL alRow A B with
  |false=>simp
  |true=>rw[eqL_all (f:=rowFine) (f':=rowFine) (fun a ha b hb h=>row_fine (hA a ha) (hB b hb) h) hY]
 ·rw[e3,e6,e7];cases A.all rowFine<;>rfl
end Go.Proofs.Wo
