/-
  QuerySame: the contracts of the order of values (numbers: seat r4). Own text.
-/
import Derived.Test.YtbddnchfoojacaaGreatDoorWo1
import Derived.Test.YtbddnchfoojacaaGreatDoorSx2
import Derived.Test.YtbddnchfoojacaaGreatDoorWo2
import Derived.Shelf.Unicode.ValidAny
import Derived.Ground.NamesProg
import Derived.Test.YtbddnchfoojacaaGreatDoorProg
import Derived.Test.YtbddnchfoojacaaGreatDoorQs0
set_option linter.all false
namespace Go.Proofs.Wo
open Go.Exo
def Krank:Ctr:=Ctr.fn 9 39 [.one iK] (.one (.one iK))
def Kcmpi:Ctr:=Ctr.fn 9 38 [.one iK,.one iK] (.one (.one iK))
def Kcmpl:Ctr:=Ctr.fn 9 45 [.one iK,.one iK] (.one (.one iK))
def Kcmps:Ctr:=Ctr.fn 9 41 [.one .str,.one .str] (.one (.one iK))
def fS:V:=.func (.func 41) [] []
def fV:V:=.func (.func 24) [] []
def Klstr:Ctr:={ f:=74,args:=[.x (.var 9 0 (.sl 9)),.x (.var 9 1 (.sl 9)),fS],box:=[],ks:=[.sl 9,.sl 9],res:=.x (.var 9 0 iK),box':=[],ks':=[iK] }
def Klval:Ctr:={ f:=75,args:=[.x (.var 9 0 (.sl 31)),.x (.var 9 1 (.sl 31)),fV],box:=[],ks:=[.sl 31,.sl 31],res:=.x (.var 9 0 iK),box':=[],ks':=[iK] }
def Kcomp:Ctr:=Ctr.fn 9 24 [vA,vA] (.one (.one iK))
noncomputable def hkLstr:Dc→Hook:=fun d=>@hkCtr d 9 Kcmps 0 none
noncomputable def hkLval:Dc→Hook:=fun d=>@hkCtr d 9 Kcomp 0 (some 1000000)
noncomputable def hkComp:Dc→Hook:=fun d=>hkOr (@hkCtr d 9 Krank 0 none) (hkOr (@hkCtr d 9 Kcmpi 1 none) (hkOr (@hkCtr d 9 Kcmps 2 none) (hkOr (@hkCtr d 9 Kcmpl 3 none) (hkOr (@hkCtr d 9 Klstr 4 none) (hkOr (@hkCtr d 9 Klval 5 (some 1000000)) (hkSpec 9 40 [.one .bool,.one .bool] (.one (.one iK)) 6))))))
end Go.Proofs.Wo

namespace Go.Proofs.Wo
open Go.Exo
def Kpbare:Ctr:=Ctr.fn 9 120 [vA] (.one (.one .bool))
def Kpmay:Ctr:=Ctr.fn 9 71 [vA] (.one (.one .bool))
noncomputable def hkPmay:Dc→Hook:=fun d=>hkOr (@hkCtr d 9 Kpbare 0 none) (hkSpec 9 121 [.one .str] (.one (.one .bool)) 1)
end Go.Proofs.Wo

namespace Go.Proofs.Wo
open Go.Exo
def Kvsame:Ctr:=Ctr.fn 9 13 [vA,vA] (.one (.one .bool))
noncomputable def hkVsame:Dc→Hook:=fun d=>hkOr (@hkSpecP d 9 37 [vA] (.one (.one iK)) 0 1000000) (@hkCtr d 9 Kcomp 1 (some 1000001))
end Go.Proofs.Wo

namespace Go.Proofs.Wo
open Go.Exo
def fQ:V:=.func (.func 13) [] []
def Keqs:Ctr:=Ctr.fn 9 14 [.one (.sl 9),.one (.sl 9)] (.one (.one .bool))
def Keqv:Ctr:={ f:=12,args:=[.x (.var 9 0 (.sl 31)),.x (.var 9 1 (.sl 31)),fQ],box:=[],ks:=[.sl 31,.sl 31],res:=.x (.var 9 0 .bool),box':=[],ks':=[.bool] }
noncomputable def hkEqv:Dc→Hook:=fun d=>@hkCtr d 9 Kvsame 0 (some 1000000)
end Go.Proofs.Wo

namespace Go.Proofs.Wo
open Go.Exo
def fR:V:=.func (.func 11) [] []
def Krow:Ctr:=Ctr.fn 9 11 [.one (.sl 31),.one (.sl 31)] (.one (.one .bool))
def Keqr:Ctr:={ f:=15,args:=[.x (.var 9 0 (.sl 27)),.x (.var 9 1 (.sl 27)),fR],box:=[],ks:=[.sl 27,.sl 27],res:=.x (.var 9 0 .bool),box':=[],ks':=[.bool] }
abbrev tK:List Kd:=[.sl 9,.sl 27]
def Kqsame:Ctr:=Ctr.fn 9 6 [.agg tK,.agg tK] (.one (.one .bool))
def Ktexts:Ctr:=Ctr.fn 9 16 [.one (.sl 9),.one (.sl 9)] (.one (.one .bool))
def Krows:Ctr:=Ctr.fn 9 17 [.one (.sl 27),.one (.sl 27)] (.one (.one .bool))
def Ktable:Ctr:=Ctr.fn 9 7 [.agg tK,.agg tK] (.one (.one .bool))
def Klaw:Ctr:=Ctr.fn 9 3 [.agg tK,.agg tK] (.one (.one .bool))
noncomputable def hkRow:Dc→Hook:=fun d=>@hkCtr d 9 Keqv 0 (some 1000000)
noncomputable def hkEqr:Dc→Hook:=fun d=>@hkCtr d 9 Krow 0 (some 1000000)
noncomputable def hkQsame:Dc→Hook:=fun d=>hkOr (@hkCtr d 9 Keqs 0 none) (@hkCtr d 9 Keqr 1 (some 1000000))
noncomputable def hkRows:Dc→Hook:=fun d=>@hkCtr d 9 Kalike 0 (some 1000000)
noncomputable def hkTable:Dc→Hook:=fun d=>hkOr (@hkCtr d 9 Ktexts 0 none) (@hkCtr d 9 Krows 1 (some 1000000))
noncomputable def hkLaw:Dc→Hook:=fun d=>hkOr (@hkCtr d 9 Kcheck 0 (some 1000000)) (hkOr (@hkCtr d 9 Kqsame 1 (some 1000001)) (hkOr (@hkCtr d 9 Ktable 2 (some 1000002)) (hkSpec 9 4 [] (.one (.one .bool)) 3)))
end Go.Proofs.Wo

namespace Go.Proofs.Wo
open Go.Exo Go.Exo.Wo
set_option maxRecDepth 100000
set_option linter.all false
noncomputable def rankcuts:List Ct:=[]
def rankt:Tr:=.ask (.bin .eql (.var 9 0 (.int .i64)) (.int .i64 (0)))
 (.leaf 46 (.ret [] [(.int .i64 (7))]))
 (.ask (.bin .eql (.var 9 0 (.int .i64)) (.int .i64 (2)))
 (.leaf 49 (.ret [] [(.int .i64 (6))]))
 (.ask (.bin .eql (.var 9 0 (.int .i64)) (.int .i64 (1)))
 (.leaf 52 (.ret [] [(.int .i64 (5))]))
 (.ask (.bin .eql (.var 9 0 (.int .i64)) (.int .i64 (3)))
 (.leaf 55 (.ret [] [(.int .i64 (4))]))
 (.ask (.bin .eql (.var 9 0 (.int .i64)) (.int .i64 (4)))
 (.leaf 58 (.ret [] [(.int .i64 (3))]))
 (.ask (.bin .eql (.var 9 0 (.int .i64)) (.int .i64 (7)))
 (.leaf 61 (.ret [] [(.int .i64 (2))]))
 (.ask (.bin .eql (.var 9 0 (.int .i64)) (.int .i64 (6)))
 (.leaf 63 (.ret [] [(.int .i64 (1))]))
 (.leaf 61 (.ret [] [(.int .i64 (0))]))))))))
theorem rankt_ok:Pth.allS Tryz.prog hk0 9 Krank rankcuts (rankt.paths []):=
 ⟨Pth.okS_ret (by kernel_rfl) (by kernel_rfl),
  Pth.okS_ret (by kernel_rfl) (by kernel_rfl),
  Pth.okS_ret (by kernel_rfl) (by kernel_rfl),
  Pth.okS_ret (by kernel_rfl) (by kernel_rfl),
  Pth.okS_ret (by kernel_rfl) (by kernel_rfl),
  Pth.okS_ret (by kernel_rfl) (by kernel_rfl),
  Pth.okS_ret (by kernel_rfl) (by kernel_rfl),
  Pth.okS_ret (by kernel_rfl) (by kernel_rfl),
  trivial⟩
noncomputable def cmpicuts:List Ct:=[]
def cmpit:Tr:=.ask (.bin .neq (.var 9 0 (.int .i64)) (.var 9 0 (.int .i64)))
 (.ask (.bin .neq (.var 9 1 (.int .i64)) (.var 9 1 (.int .i64)))
 (.leaf 31 (.ret [] [(.int .i64 (0))]))
 (.leaf 32 (.ret [] [(.int .i64 (-1))])))
 (.ask (.bin .neq (.var 9 1 (.int .i64)) (.var 9 1 (.int .i64)))
 (.leaf 32 (.ret [] [(.int .i64 (1))]))
 (.ask (.bin .lss (.var 9 0 (.int .i64)) (.var 9 1 (.int .i64)))
 (.leaf 37 (.ret [] [(.int .i64 (-1))]))
 (.ask (.bin .gtr (.var 9 0 (.int .i64)) (.var 9 1 (.int .i64)))
 (.leaf 42 (.ret [] [(.int .i64 (1))]))
 (.leaf 43 (.ret [] [(.int .i64 (0))])))))
theorem cmpit_ok:Pth.allS Tryz.prog hk0 9 Kcmpi cmpicuts (cmpit.paths []):=
 ⟨Pth.okS_ret (by kernel_rfl) (by kernel_rfl),
  Pth.okS_ret (by kernel_rfl) (by kernel_rfl),
  Pth.okS_ret (by kernel_rfl) (by kernel_rfl),
  Pth.okS_ret (by kernel_rfl) (by kernel_rfl),
  Pth.okS_ret (by kernel_rfl) (by kernel_rfl),
  Pth.okS_ret (by kernel_rfl) (by kernel_rfl),
  trivial⟩
noncomputable def cmplcuts:List Ct:=[]
def cmplt:Tr:=.ask (.bin .neq (.var 9 0 (.int .i64)) (.var 9 0 (.int .i64)))
 (.ask (.bin .neq (.var 9 1 (.int .i64)) (.var 9 1 (.int .i64)))
 (.leaf 31 (.ret [] [(.int .i64 (0))]))
 (.leaf 32 (.ret [] [(.int .i64 (-1))])))
 (.ask (.bin .neq (.var 9 1 (.int .i64)) (.var 9 1 (.int .i64)))
 (.leaf 32 (.ret [] [(.int .i64 (1))]))
 (.ask (.bin .lss (.var 9 0 (.int .i64)) (.var 9 1 (.int .i64)))
 (.leaf 37 (.ret [] [(.int .i64 (-1))]))
 (.ask (.bin .gtr (.var 9 0 (.int .i64)) (.var 9 1 (.int .i64)))
 (.leaf 42 (.ret [] [(.int .i64 (1))]))
 (.leaf 43 (.ret [] [(.int .i64 (0))])))))
theorem cmplt_ok:Pth.allS Tryz.prog hk0 9 Kcmpl cmplcuts (cmplt.paths []):=
 ⟨Pth.okS_ret (by kernel_rfl) (by kernel_rfl),
  Pth.okS_ret (by kernel_rfl) (by kernel_rfl),
  Pth.okS_ret (by kernel_rfl) (by kernel_rfl),
  Pth.okS_ret (by kernel_rfl) (by kernel_rfl),
  Pth.okS_ret (by kernel_rfl) (by kernel_rfl),
  Pth.okS_ret (by kernel_rfl) (by kernel_rfl),
  trivial⟩
noncomputable def cmpscuts:List Ct:=[]
def cmpst:Tr:=.leaf 12 (.ret [] [(.cmp (.var 9 0 .str) (.var 9 1 .str))])
theorem cmpst_ok:Pth.allS Tryz.prog hk0 9 Kcmps cmpscuts (cmpst.paths []):=
 ⟨Pth.okS_ret (by kernel_rfl) (by kernel_rfl),
  trivial⟩
noncomputable def lstrc0:Ct:=⟨stTodo (outS Tryz.prog hkLstr 9 Klstr [] 7),[.x (.var 9 0 (.sl 9)),.x (.var 9 1 (.sl 9)),.func (.func 41) [] [],.junk,.junk,.junk,.junk,.junk,.junk,.junk,.junk,.x (.var 9 0 (.sl 9)),.x (.var 9 2 (.int .i64)),.x (.var 9 3 (.int .i64)),.junk,.junk,.junk,.junk,.junk,.junk,.junk,.junk,.junk,.junk,.junk,.junk,.junk,.junk,.junk,.junk,.junk,.junk,.junk,.junk,.junk,.junk,.junk,.junk,.junk],[],[(.sl 9),(.sl 9),(.int .i64),(.int .i64)]⟩
noncomputable def lstrcuts:List Ct:=[lstrc0]
def lstrt:Tr:=.leaf 7 (.cut 0 [] [(.var 9 0 (.sl 9)),(.var 9 1 (.sl 9)),(.len (.var 9 0 (.sl 9))),(.int .i64 (0))])
def lstrt0:Tr:=.ask (.bin .lss (.var 9 3 (.int .i64)) (.var 9 2 (.int .i64)))
 (.must (.inr (.var 9 3 (.int .i64)) (.len (.var 9 0 (.sl 9)))) true <|
 .ask (.bin .geq (.var 9 3 (.int .i64)) (.len (.var 9 1 (.sl 9))))
 (.leaf 16 (.ret [] [(.int .i64 (1))]))
 (.must (.inr (.var 9 3 (.int .i64)) (.len (.var 9 1 (.sl 9)))) true <|
 .ask (.bin .neq (.app 9 0 (.cons (.el (.var 9 0 (.sl 9)) (.var 9 3 (.int .i64)) 0 .str) (.cons (.el (.var 9 1 (.sl 9)) (.var 9 3 (.int .i64)) 0 .str) .nilA)) (.int .i64)) (.int .i64 (0)))
 (.leaf 25 (.ret [] [(.app 9 0 (.cons (.el (.var 9 0 (.sl 9)) (.var 9 3 (.int .i64)) 0 .str) (.cons (.el (.var 9 1 (.sl 9)) (.var 9 3 (.int .i64)) 0 .str) .nilA)) (.int .i64))]))
 (.leaf 26 (.cut 0 [] [(.var 9 0 (.sl 9)),(.var 9 1 (.sl 9)),(.var 9 2 (.int .i64)),(.bin .add (.var 9 3 (.int .i64)) (.int .i64 (1)))]))))
 (.ask (.bin .lss (.len (.var 9 0 (.sl 9))) (.len (.var 9 1 (.sl 9))))
 (.leaf 12 (.ret [] [(.int .i64 (-1))]))
 (.leaf 13 (.ret [] [(.int .i64 (0))])))
theorem lstrt_ok:Pth.allS Tryz.prog hkLstr 9 Klstr lstrcuts (lstrt.paths []):=
 ⟨Pth.okS_cut lstrc0 rfl (by kernel_rfl) (by kernel_rfl),
  trivial⟩
theorem lstrt0_ok:Pth.allC Tryz.prog hkLstr 9 Klstr lstrcuts lstrc0 (lstrt0.paths []):=
 ⟨Pth.okC_ret (by kernel_rfl) (by kernel_rfl),
  Pth.okC_ret (by kernel_rfl) (by kernel_rfl),
  Pth.okC_cut lstrc0 rfl (by kernel_rfl) (by kernel_rfl),
  Pth.okC_ret (by kernel_rfl) (by kernel_rfl),
  Pth.okC_ret (by kernel_rfl) (by kernel_rfl),
  trivial⟩
variable {k:Nat}{G:World→Prop} [Tb]
def sgn (a b:Int):Int:=if a<b then -1 else if b<a then 1 else 0
def rk (k:Int):Int:=if k=0 then 7 else if k=2 then 6 else if k=1 then 5 else if k=3 then 4 else if k=4 then 3 else if k=7 then 2 else if k=6 then 1 else 0
def rankF:List Cl→List Cl|[.int k]=>[.int (rk k)]|_=>[]
def cmpiF:List Cl→List Cl|[.int a,.int b]=>[.int (sgn a b)]|_=>[]
def cmpsF:List Cl→List Cl|[.str a,.str b]=>[.int (cmpB a b)]|_=>[]
theorem rankV {tb:Nat→List Cl→Cl}:Vc0 tb 9 Krank.ks (fun _=>True) (fun _ _ _=>True) (fun c r=>r=rankF c) rankt:=by
 intro cls E hE hw _
 have hw':Wts [.int .i64] cls:=hw
 obtain⟨_,rfl,h1⟩:=hw'.one
 obtain⟨n,rfl,-,-⟩:=h1.int_inv
 simp only[rankt,Tr.vc,To.goodT,List.map_cons,List.map_nil,hE.v,X.c_int,X.c_bin,X.kd,binD,intD,List.getD_cons_zero,List.getD_cons_succ,Cl.bool.injEq,exists_eq',true_and,and_true,beq_iff_eq,beq_eq_false_iff_ne,ne_eq,rankF,rk,List.cons.injEq,Cl.int.injEq]
 refine⟨fun h=>by simp[h],fun h=>⟨fun h=>by simp_all,fun h=>⟨fun h=>by simp_all,fun h=>⟨fun h=>by simp_all,fun h=>⟨fun h=>by simp_all,fun h=>⟨fun h=>by simp_all,fun h=>⟨fun h=>by simp_all,fun h=>by simp_all⟩⟩⟩⟩⟩⟩⟩
theorem rank_ok (hG:Gd0 k G)(hsz:Tryz.prog.globals.size≤k){tb:Nat→List Cl→Cl}(htb:Tb.tab=some (9,tb)):Krank.Sound Tryz.prog k G tb (fun _=>True) rankF:=
 Ctr.ofT (hk:=hk0) Nat.lt_wfRel.wf (fun _ _=>0) (fun _ _ _=>True) hG (fun D=>@Hooks.nil _ (dcOf D) _ _ _ _) hsz (L:=9) (by kernel_rfl) htb (trs:=[]) (by kernel_rfl) rankt_ok rankV trivial
theorem cmpiV {tb:Nat→List Cl→Cl}:Vc0 tb 9 Kcmpi.ks (fun _=>True) (fun _ _ _=>True) (fun c r=>r=cmpiF c) cmpit:=by
 intro cls E hE hw _
 have hw':Wts [.int .i64,.int .i64] cls:=hw
 obtain⟨_,_,rfl,h1,hw'⟩:=hw'.cons_inv
 obtain⟨_,rfl,h2⟩:=hw'.one
 obtain⟨n,rfl,-,-⟩:=h1.int_inv
 obtain⟨m,rfl,-,-⟩:=h2.int_inv
 simp only[cmpit,Tr.vc,To.goodT,List.map_cons,List.map_nil,hE.v,X.c_int,X.c_bin,X.kd,binD,intD,List.getD_cons_zero,List.getD_cons_succ,Cl.bool.injEq,exists_eq',true_and,and_true,beq_self_eq_true,Bool.not_true,Bool.false_eq_true,false_imp_iff,forall_const,decide_eq_true_eq,decide_eq_false_iff_not,cmpiF,sgn,List.cons.injEq,Cl.int.injEq,gt_iff_lt]
 refine⟨fun h=>by simp[h],fun h=>⟨fun h'=>by simp[h,h'],fun h'=>by simp[h,h']⟩⟩
theorem cmpi_ok (hG:Gd0 k G)(hsz:Tryz.prog.globals.size≤k){tb:Nat→List Cl→Cl}(htb:Tb.tab=some (9,tb)):Kcmpi.Sound Tryz.prog k G tb (fun _=>True) cmpiF:=
 Ctr.ofT (hk:=hk0) Nat.lt_wfRel.wf (fun _ _=>0) (fun _ _ _=>True) hG (fun D=>@Hooks.nil _ (dcOf D) _ _ _ _) hsz (L:=9) (by kernel_rfl) htb (trs:=[]) (by kernel_rfl) cmpit_ok cmpiV trivial
theorem cmplV {tb:Nat→List Cl→Cl}:Vc0 tb 9 Kcmpl.ks (fun _=>True) (fun _ _ _=>True) (fun c r=>r=cmpiF c) cmplt:=by
 intro cls E hE hw _
 have hw':Wts [.int .i64,.int .i64] cls:=hw
 obtain⟨_,_,rfl,h1,hw'⟩:=hw'.cons_inv
 obtain⟨_,rfl,h2⟩:=hw'.one
 obtain⟨n,rfl,-,-⟩:=h1.int_inv
 obtain⟨m,rfl,-,-⟩:=h2.int_inv
 simp only[cmplt,Tr.vc,To.goodT,List.map_cons,List.map_nil,hE.v,X.c_int,X.c_bin,X.kd,binD,intD,List.getD_cons_zero,List.getD_cons_succ,Cl.bool.injEq,exists_eq',true_and,and_true,beq_self_eq_true,Bool.not_true,Bool.false_eq_true,false_imp_iff,forall_const,decide_eq_true_eq,decide_eq_false_iff_not,cmpiF,sgn,List.cons.injEq,Cl.int.injEq,gt_iff_lt]
 refine⟨fun h=>by simp[h],fun h=>⟨fun h'=>by simp[h,h'],fun h'=>by simp[h,h']⟩⟩
theorem cmpl_ok (hG:Gd0 k G)(hsz:Tryz.prog.globals.size≤k){tb:Nat→List Cl→Cl}(htb:Tb.tab=some (9,tb)):Kcmpl.Sound Tryz.prog k G tb (fun _=>True) cmpiF:=
 Ctr.ofT (hk:=hk0) Nat.lt_wfRel.wf (fun _ _=>0) (fun _ _ _=>True) hG (fun D=>@Hooks.nil _ (dcOf D) _ _ _ _) hsz (L:=9) (by kernel_rfl) htb (trs:=[]) (by kernel_rfl) cmplt_ok cmplV trivial
theorem cmpsV {tb:Nat→List Cl→Cl}:Vc0 tb 9 Kcmps.ks (fun _=>True) (fun _ _ _=>True) (fun c r=>r=cmpsF c) cmpst:=by
 intro cls E hE hw _
 have hw':Wts [.str,.str] cls:=hw
 obtain⟨_,_,rfl,h1,hw'⟩:=hw'.cons_inv
 obtain⟨_,rfl,h2⟩:=hw'.one
 obtain⟨n,rfl,-⟩:=h1.str_inv
 obtain⟨m,rfl,-⟩:=h2.str_inv
 simp only[cmpst,Tr.vc,To.goodT,List.map_cons,List.map_nil,hE.v,X.c_cmp,cmpD,List.getD_cons_zero,List.getD_cons_succ,cmpsF]
theorem cmps_ok (hG:Gd0 k G)(hsz:Tryz.prog.globals.size≤k){tb:Nat→List Cl→Cl}(htb:Tb.tab=some (9,tb)):Kcmps.Sound Tryz.prog k G tb (fun _=>True) cmpsF:=
 Ctr.ofT (hk:=hk0) Nat.lt_wfRel.wf (fun _ _=>0) (fun _ _ _=>True) hG (fun D=>@Hooks.nil _ (dcOf D) _ _ _ _) hsz (L:=9) (by kernel_rfl) htb (trs:=[]) (by kernel_rfl) cmpst_ok cmpsV trivial
def lsC (o:List Cl→List Cl→Int):List (List Cl)→List (List Cl)→Int
 |[],[]=>0
 |[],_::_=>-1
 |_::_,[]=>1
 |a::p,b::q=>if o a b=0 then lsC o p q else o a b
def cmpR:List Cl→List Cl→Int|[.str a],[.str b]=>cmpB a b|_,_=>0
def lstrF:List Cl→List Cl|[.sl _ A,.sl _ B]=>[.int (lsC cmpR A B)]|_=>[]
def lstrInv (_:Nat)(c0 c:List Cl):Prop:=∃ nl A ml B i,c0=[.sl nl A,.sl ml B]∧c=[.sl nl A,.sl ml B,.int A.length,.int i]∧0≤i∧i≤A.length∧lsC cmpR A B=lsC cmpR (A.drop i.toNat) (B.drop i.toNat)∧i≤B.length
def lstrM (_:Nat)(c:List Cl):Nat:=match c with|[_,_,.int m,.int i]=>(m-i).toNat|_=>0
noncomputable def tbLs (f:Nat)(c:List Cl):Cl:=if f=0 then (cmpsF c).getD 0 .no else .no
theorem lstrV:Vc0 tbLs 9 Klstr.ks (fun _=>True) lstrInv (fun c r=>r=lstrF c) lstrt:=by
 intro cls E hE hw _
 have hw':Wts [.sl 9,.sl 9] cls:=hw
 obtain⟨a,_,rfl,h1,hw'⟩:=hw'.cons_inv
 obtain⟨b,rfl,h2⟩:=hw'.one
 obtain⟨nl,A,rfl,-,-,-⟩:=h1.sl_inv
 obtain⟨ml,B,rfl,-,-,-⟩:=h2.sl_inv
 simp only[lstrt,Tr.vc,To.goodT,List.map_cons,List.map_nil,hE.v,X.c_int,X.c_len,lenC,List.getD_cons_zero,List.getD_cons_succ,and_true]
 exact⟨nl,A,ml,B,0,rfl,rfl,by omega,by omega,by simp,by omega⟩
theorem lstrV0:Vc (· < ·) lstrM tbLs 9 lstrc0.ks lstrInv (fun c r=>r=lstrF c) 0 lstrt0:=by
 rintro c0 cls E hE hw ⟨nl,A,ml,B,i,rfl,rfl,h1,h2,h3,h4⟩
 have hw':Wts [.sl 9,.sl 9,.int .i64,.int .i64] [.sl nl A,.sl ml B,.int A.length,.int i]:=hw
 obtain⟨_,_,e,g,hw'⟩:=hw'.cons_inv;cases e
 obtain⟨_,_,e,hlen,-,hA⟩:=g.sl_inv;cases e
 obtain⟨_,_,e,g,hw'⟩:=hw'.cons_inv;cases e
 obtain⟨_,_,e,hlen2,-,hB⟩:=g.sl_inv;cases e
 have hlen':(A.length:Int)≤9223372036854775807:=by simp only[maxLen] at hlen;omega
 simp only[lstrt0,Tr.vc,To.goodT,List.map_cons,List.map_nil,hE.v,hE.a,X.d_cons,X.d_nil,X.c_len,X.c_int,X.c_bool,X.c_bin,X.c_inr,X.c_el,X.kd,isCmp,cond_true,cond_false,List.getD_cons_zero,List.getD_cons_succ,lenC,binD,intD,inrD,elD,Cl.bool.injEq,decide_eq_true_eq,decide_eq_false_iff_not,exists_eq',true_and,h1]
 refine⟨fun hlt=>⟨hlt,fun hge=>?_,fun hge=>?_⟩,fun hge=>⟨fun hl=>?_,fun hl=>?_⟩⟩
 ·have e1:B.drop i.toNat=[]:=List.drop_eq_nil_of_le (by omega)
  obtain⟨r,hr,hwr,hd,_⟩:=row_at hA (i:=i.toNat) (by omega)
  simp only[lstrF,h3,hd,e1,lsC]
 ·obtain⟨r,hr,hwr,hd,_⟩:=row_at hA (i:=i.toNat) (by omega)
  obtain⟨r',hr',hwr',hd',_⟩:=row_at hB (i:=i.toNat) (by omega)
  obtain⟨c,rfl,hc⟩:=hwr.one
  obtain⟨c',rfl,hc'⟩:=hwr'.one
  obtain⟨s,rfl,-⟩:=hc.str_inv
  obtain⟨s',rfl,-⟩:=hc'.str_inv
  rw[hr,hr']
  have e2:(i+1).toNat=i.toNat+1:=by omega
  have et:tbLs 0 [.str s,.str s']=.int (cmpB s s'):=by simp[tbLs,cmpsF]
  simp only[List.getD_cons_zero,et,intD,Cl.bool.injEq,exists_eq',true_and,Bool.not_eq_true',Bool.not_eq_false',beq_iff_eq,beq_eq_false_iff_ne,ne_eq]
  rw[i64_id (by omega) (by omega)]
  refine⟨by omega,fun hm=>?_,fun hm=>⟨⟨nl,A,ml,B,i+1,rfl,rfl,by omega,by omega,?_,by omega⟩,by simp only[lstrM];omega⟩⟩
  ·simp[lstrF,h3,hd,hd',lsC,cmpR,hm]
  ·rw[h3,hd,hd',e2];simp[lsC,cmpR,hm]
 ·have e1:A.drop i.toNat=[]:=List.drop_eq_nil_of_le (by omega)
  obtain⟨r',hr',hwr',hd',_⟩:=row_at hB (i:=i.toNat) (by omega)
  simp only[lstrF,h3,e1,hd',lsC]
 ·have e1:A.drop i.toNat=[]:=List.drop_eq_nil_of_le (by omega)
  have e2:B.drop i.toNat=[]:=List.drop_eq_nil_of_le (by omega)
  simp only[lstrF,h3,e1,e2,lsC]
omit [Tb] in
theorem lstr_ok (hG:Gd0 k G)(hk0:0<k)(hsz:Tryz.prog.globals.size≤k):∃ tb,Klstr.Sound Tryz.prog k G tb (fun _=>True) lstrF:=by
 letI:Tb:=⟨some (9,tbLs)⟩
 exact⟨_,Ctr.ofT (hk:=hkLstr) Nat.lt_wfRel.wf lstrM lstrInv hG (fun D=>@Hooks.ctr _ (dcOf D) _ _ _ _ _ (by kernel_rfl) _ _ _ _ (cmps_ok hG hsz rfl) (by kernel_rfl) _ 0 (fun cls j c h=>by
   unfold cmpsF at h
   split at h
   ·cases j with
    |zero=>simp at h;subst h;simp[tbLs,cmpsF]
    |succ j=>simp at h
   ·simp at h) none (fun _=>trivial) hG hk0 hsz rfl) hsz (L:=9) (by kernel_rfl) rfl (trs:=[lstrt0]) (by kernel_rfl) lstrt_ok lstrV ⟨⟨lstrt0_ok,lstrV0⟩,trivial⟩⟩
end Go.Proofs.Wo

namespace Go.Proofs.Wo
open Go.Exo Go.Exo.Wo
set_option maxRecDepth 100000
set_option linter.all false
noncomputable def lvalc0:Ct:=⟨stTodo (outS Tryz.prog hkLval 9 Klval [] 7),[.x (.var 9 0 (.sl 31)),.x (.var 9 1 (.sl 31)),.func (.func 24) [] [],.junk,.junk,.junk,.junk,.junk,.junk,.junk,.junk,.x (.var 9 0 (.sl 31)),.x (.var 9 2 (.int .i64)),.x (.var 9 3 (.int .i64)),.junk,.junk,.junk,.junk,.junk,.junk,.junk,.junk,.junk,.junk,.junk,.junk,.junk,.junk,.junk,.junk,.junk,.junk,.junk,.junk,.junk,.junk,.junk,.junk,.junk],[],[(.sl 31),(.sl 31),(.int .i64),(.int .i64)]⟩
noncomputable def lvalcuts:List Ct:=[lvalc0]
def lvalt:Tr:=.leaf 7 (.cut 0 [] [(.var 9 0 (.sl 31)),(.var 9 1 (.sl 31)),(.len (.var 9 0 (.sl 31))),(.int .i64 (0))])
def lvalt0:Tr:=.ask (.bin .lss (.var 9 3 (.int .i64)) (.var 9 2 (.int .i64)))
 (.must (.inr (.var 9 3 (.int .i64)) (.len (.var 9 0 (.sl 31)))) true <|
 .ask (.bin .geq (.var 9 3 (.int .i64)) (.len (.var 9 1 (.sl 31))))
 (.leaf 16 (.ret [] [(.int .i64 (1))]))
 (.must (.inr (.var 9 3 (.int .i64)) (.len (.var 9 1 (.sl 31)))) true <|
 .must (.app 9 1000000 (.cons (.el (.var 9 0 (.sl 31)) (.var 9 3 (.int .i64)) 0 (.int .i64)) (.cons (.el (.var 9 0 (.sl 31)) (.var 9 3 (.int .i64)) 1 .bool) (.cons (.el (.var 9 0 (.sl 31)) (.var 9 3 (.int .i64)) 2 (.int .i64)) (.cons (.el (.var 9 0 (.sl 31)) (.var 9 3 (.int .i64)) 3 .str) (.cons (.el (.var 9 0 (.sl 31)) (.var 9 3 (.int .i64)) 4 (.sl 9)) (.cons (.el (.var 9 0 (.sl 31)) (.var 9 3 (.int .i64)) 5 (.sl 31)) (.cons (.el (.var 9 1 (.sl 31)) (.var 9 3 (.int .i64)) 0 (.int .i64)) (.cons (.el (.var 9 1 (.sl 31)) (.var 9 3 (.int .i64)) 1 .bool) (.cons (.el (.var 9 1 (.sl 31)) (.var 9 3 (.int .i64)) 2 (.int .i64)) (.cons (.el (.var 9 1 (.sl 31)) (.var 9 3 (.int .i64)) 3 .str) (.cons (.el (.var 9 1 (.sl 31)) (.var 9 3 (.int .i64)) 4 (.sl 9)) (.cons (.el (.var 9 1 (.sl 31)) (.var 9 3 (.int .i64)) 5 (.sl 31)) .nilA)))))))))))) .bool) true <|
 .ask (.bin .neq (.app 9 0 (.cons (.el (.var 9 0 (.sl 31)) (.var 9 3 (.int .i64)) 0 (.int .i64)) (.cons (.el (.var 9 0 (.sl 31)) (.var 9 3 (.int .i64)) 1 .bool) (.cons (.el (.var 9 0 (.sl 31)) (.var 9 3 (.int .i64)) 2 (.int .i64)) (.cons (.el (.var 9 0 (.sl 31)) (.var 9 3 (.int .i64)) 3 .str) (.cons (.el (.var 9 0 (.sl 31)) (.var 9 3 (.int .i64)) 4 (.sl 9)) (.cons (.el (.var 9 0 (.sl 31)) (.var 9 3 (.int .i64)) 5 (.sl 31)) (.cons (.el (.var 9 1 (.sl 31)) (.var 9 3 (.int .i64)) 0 (.int .i64)) (.cons (.el (.var 9 1 (.sl 31)) (.var 9 3 (.int .i64)) 1 .bool) (.cons (.el (.var 9 1 (.sl 31)) (.var 9 3 (.int .i64)) 2 (.int .i64)) (.cons (.el (.var 9 1 (.sl 31)) (.var 9 3 (.int .i64)) 3 .str) (.cons (.el (.var 9 1 (.sl 31)) (.var 9 3 (.int .i64)) 4 (.sl 9)) (.cons (.el (.var 9 1 (.sl 31)) (.var 9 3 (.int .i64)) 5 (.sl 31)) .nilA)))))))))))) (.int .i64)) (.int .i64 (0)))
 (.leaf 25 (.ret [] [(.app 9 0 (.cons (.el (.var 9 0 (.sl 31)) (.var 9 3 (.int .i64)) 0 (.int .i64)) (.cons (.el (.var 9 0 (.sl 31)) (.var 9 3 (.int .i64)) 1 .bool) (.cons (.el (.var 9 0 (.sl 31)) (.var 9 3 (.int .i64)) 2 (.int .i64)) (.cons (.el (.var 9 0 (.sl 31)) (.var 9 3 (.int .i64)) 3 .str) (.cons (.el (.var 9 0 (.sl 31)) (.var 9 3 (.int .i64)) 4 (.sl 9)) (.cons (.el (.var 9 0 (.sl 31)) (.var 9 3 (.int .i64)) 5 (.sl 31)) (.cons (.el (.var 9 1 (.sl 31)) (.var 9 3 (.int .i64)) 0 (.int .i64)) (.cons (.el (.var 9 1 (.sl 31)) (.var 9 3 (.int .i64)) 1 .bool) (.cons (.el (.var 9 1 (.sl 31)) (.var 9 3 (.int .i64)) 2 (.int .i64)) (.cons (.el (.var 9 1 (.sl 31)) (.var 9 3 (.int .i64)) 3 .str) (.cons (.el (.var 9 1 (.sl 31)) (.var 9 3 (.int .i64)) 4 (.sl 9)) (.cons (.el (.var 9 1 (.sl 31)) (.var 9 3 (.int .i64)) 5 (.sl 31)) .nilA)))))))))))) (.int .i64))]))
 (.leaf 26 (.cut 0 [] [(.var 9 0 (.sl 31)),(.var 9 1 (.sl 31)),(.var 9 2 (.int .i64)),(.bin .add (.var 9 3 (.int .i64)) (.int .i64 (1)))]))))
 (.ask (.bin .lss (.len (.var 9 0 (.sl 31))) (.len (.var 9 1 (.sl 31))))
 (.leaf 12 (.ret [] [(.int .i64 (-1))]))
 (.leaf 13 (.ret [] [(.int .i64 (0))])))
theorem lvalt_ok:Pth.allS Tryz.prog hkLval 9 Klval lvalcuts (lvalt.paths []):=
 ⟨Pth.okS_cut lvalc0 rfl (by kernel_rfl) (by kernel_rfl),
  trivial⟩
theorem lvalt0_ok:Pth.allC Tryz.prog hkLval 9 Klval lvalcuts lvalc0 (lvalt0.paths []):=
 ⟨Pth.okC_ret (by kernel_rfl) (by kernel_rfl),
  Pth.okC_ret (by kernel_rfl) (by kernel_rfl),
  Pth.okC_cut lvalc0 rfl (by kernel_rfl) (by kernel_rfl),
  Pth.okC_ret (by kernel_rfl) (by kernel_rfl),
  Pth.okC_ret (by kernel_rfl) (by kernel_rfl),
  trivial⟩
noncomputable def compcuts:List Ct:=[]
def compt:Tr:=.ask (.bin .neq (.app 9 1 (.cons (.app 9 0 (.cons (.var 9 0 (.int .i64)) .nilA) (.int .i64)) (.cons (.app 9 0 (.cons (.var 9 6 (.int .i64)) .nilA) (.int .i64)) .nilA)) (.int .i64)) (.int .i64 (0)))
 (.leaf 14 (.ret [] [(.app 9 1 (.cons (.app 9 0 (.cons (.var 9 0 (.int .i64)) .nilA) (.int .i64)) (.cons (.app 9 0 (.cons (.var 9 6 (.int .i64)) .nilA) (.int .i64)) .nilA)) (.int .i64))]))
 (.ask (.bin .eql (.var 9 0 (.int .i64)) (.int .i64 (1)))
 (.leaf 23 (.ret [] [(.app 9 6 (.cons (.var 9 1 .bool) (.cons (.var 9 7 .bool) .nilA)) (.int .i64))]))
 (.ask (.bin .eql (.var 9 0 (.int .i64)) (.int .i64 (3)))
 (.leaf 26 (.ret [] [(.app 9 2 (.cons (.var 9 3 .str) (.cons (.var 9 9 .str) .nilA)) (.int .i64))]))
 (.must (.app 9 1000000 (.cons (.var 9 5 (.sl 31)) (.cons (.var 9 11 (.sl 31)) .nilA)) .bool) true <|
 .ask (.bin .neq (.app 9 4 (.cons (.var 9 4 (.sl 9)) (.cons (.var 9 10 (.sl 9)) .nilA)) (.int .i64)) (.int .i64 (0)))
 (.leaf 70 (.ret [] [(.app 9 4 (.cons (.var 9 4 (.sl 9)) (.cons (.var 9 10 (.sl 9)) .nilA)) (.int .i64))]))
 (.ask (.bin .neq (.app 9 5 (.cons (.var 9 5 (.sl 31)) (.cons (.var 9 11 (.sl 31)) .nilA)) (.int .i64)) (.int .i64 (0)))
 (.leaf 86 (.ret [] [(.app 9 5 (.cons (.var 9 5 (.sl 31)) (.cons (.var 9 11 (.sl 31)) .nilA)) (.int .i64))]))
 (.ask (.bin .neq (.app 9 3 (.cons (.var 9 2 (.int .i64)) (.cons (.var 9 8 (.int .i64)) .nilA)) (.int .i64)) (.int .i64 (0)))
 (.leaf 102 (.ret [] [(.app 9 3 (.cons (.var 9 2 (.int .i64)) (.cons (.var 9 8 (.int .i64)) .nilA)) (.int .i64))]))
 (.leaf 111 (.ret [] [(.int .i64 (0))])))))))
theorem compt_ok:Pth.allS Tryz.prog hkComp 9 Kcomp compcuts (compt.paths []):=
 ⟨Pth.okS_ret (by kernel_rfl) (by kernel_rfl),
  Pth.okS_ret (by kernel_rfl) (by kernel_rfl),
  Pth.okS_ret (by kernel_rfl) (by kernel_rfl),
  Pth.okS_ret (by kernel_rfl) (by kernel_rfl),
  Pth.okS_ret (by kernel_rfl) (by kernel_rfl),
  Pth.okS_ret (by kernel_rfl) (by kernel_rfl),
  Pth.okS_ret (by kernel_rfl) (by kernel_rfl),
  trivial⟩
variable {k:Nat}{G:World→Prop}
def tru (a b:Bool):Int:=sgn (cond a 1 0) (cond b 1 0)
def truthF:List Cl→List Cl|[.bool a,.bool b]=>[.int (tru a b)]|_=>[]
def cmpN:Nat→List Cl→List Cl→Int
 |n+1,[.int k,.bool b,.int i,.str s,.sl _ ys,.sl _ rs],[.int k',.bool b',.int i',.str s',.sl _ ys',.sl _ rs']=>
  if sgn (rk k) (rk k')=0 then if k=1 then tru b b' else if k=3 then cmpB s s' else if lsC cmpR ys ys'=0 then if lsC (cmpN n) rs rs'=0 then sgn i i' else lsC (cmpN n) rs rs' else lsC cmpR ys ys' else sgn (rk k) (rk k')
 |_,_,_=>0
def compF (n:Nat)(c:List Cl):List Cl:=[.int (cmpN n (c.take 6) (c.drop 6))]
def lvalF (n:Nat):List Cl→List Cl|[.sl _ A,.sl _ B]=>[.int (lsC (cmpN n) A B)]|_=>[]
def lvalInv (m n:Nat)(_:Nat)(c0 c:List Cl):Prop:=∃ nl A ml B i,c0=[.sl nl A,.sl ml B]∧c=[.sl nl A,.sl ml B,.int A.length,.int i]∧0≤i∧i≤A.length∧lsC (cmpN n) A B=lsC (cmpN n) (A.drop i.toNat) (B.drop i.toNat)∧i≤B.length∧SizeOf.sizeOf c0<m
noncomputable def tbLv (m n:Nat)(f:Nat)(c:List Cl):Cl:=if f=1000000 then .bool (decide (SizeOf.sizeOf c<m)) else if f=0 then (compF n c).getD 0 .no else .no
theorem lvalV {m n:Nat}:Vc0 (tbLv m n) 9 Klval.ks (fun c=>SizeOf.sizeOf c<m) (lvalInv m n) (fun c r=>r=lvalF n c) lvalt:=by
 intro cls E hE hw hm
 have hw':Wts [.sl 31,.sl 31] cls:=hw
 obtain⟨a,_,rfl,h1,hw'⟩:=hw'.cons_inv
 obtain⟨b,rfl,h2⟩:=hw'.one
 obtain⟨nl,A,rfl,-,-,-⟩:=h1.sl_inv
 obtain⟨ml,B,rfl,-,-,-⟩:=h2.sl_inv
 simp only[lvalt,Tr.vc,To.goodT,List.map_cons,List.map_nil,hE.v,X.c_int,X.c_len,lenC,List.getD_cons_zero,List.getD_cons_succ,and_true]
 exact⟨nl,A,ml,B,0,rfl,rfl,by omega,by omega,by simp,by omega,hm⟩
theorem lvalV0 {m n:Nat}:Vc (· < ·) lstrM (tbLv m n) 9 lvalc0.ks (lvalInv m n) (fun c r=>r=lvalF n c) 0 lvalt0:=by
 rintro c0 cls E hE hw ⟨nl,A,ml,B,i,rfl,rfl,h1,h2,h3,h4,h5⟩
 have hw':Wts [.sl 31,.sl 31,.int .i64,.int .i64] [.sl nl A,.sl ml B,.int A.length,.int i]:=hw
 obtain⟨_,_,e,g,hw'⟩:=hw'.cons_inv;cases e
 obtain⟨_,_,e,hlen,-,hA⟩:=g.sl_inv;cases e
 obtain⟨_,_,e,g,hw'⟩:=hw'.cons_inv;cases e
 obtain⟨_,_,e,hlen2,-,hB⟩:=g.sl_inv;cases e
 have hlen':(A.length:Int)≤9223372036854775807:=by simp only[maxLen] at hlen;omega
 simp only[lvalt0,Tr.vc,To.goodT,List.map_cons,List.map_nil,hE.v,hE.a,X.d_cons,X.d_nil,X.c_len,X.c_int,X.c_bool,X.c_bin,X.c_inr,X.c_el,X.kd,isCmp,cond_true,cond_false,List.getD_cons_zero,List.getD_cons_succ,lenC,binD,intD,inrD,elD,Cl.bool.injEq,decide_eq_true_eq,decide_eq_false_iff_not,exists_eq',true_and,h1]
 refine⟨fun hlt=>⟨hlt,fun hge=>?_,fun hge=>?_⟩,fun hge=>⟨fun hl=>?_,fun hl=>?_⟩⟩
 ·have e1:B.drop i.toNat=[]:=List.drop_eq_nil_of_le (by omega)
  obtain⟨r,hr,hwr,hd,_⟩:=row_at hA (i:=i.toNat) (by omega)
  simp only[lvalF,h3,hd,e1,lsC]
 ·obtain⟨r,hr,hwr,hd,hm⟩:=row_at hA (i:=i.toNat) (by omega)
  obtain⟨r',hr',hwr',hd',hm'⟩:=row_at hB (i:=i.toNat) (by omega)
  obtain⟨ka,ba,na,sa,nla,ya,mla,ra,rfl,-⟩:=row6 hwr
  obtain⟨ka',ba',na',sa',nla',ya',mla',ra',rfl,-⟩:=row6 hwr'
  rw[hr,hr']
  have e2:(i+1).toNat=i.toNat+1:=by omega
  have hsz:SizeOf.sizeOf [Cl.int ka,.bool ba,.int na,.str sa,.sl nla ya,.sl mla ra,.int ka',.bool ba',.int na',.str sa',.sl nla' ya',.sl mla' ra']<m:=by
   have z1:=List.sizeOf_lt_of_mem (List.mem_of_getElem? hm)
   have z2:=List.sizeOf_lt_of_mem (List.mem_of_getElem? hm')
   simp only[List.cons.sizeOf_spec,List.nil.sizeOf_spec,Cl.sl.sizeOf_spec] at z1 z2 h5 ⊢
   omega
  have et:tbLv m n 0 [Cl.int ka,.bool ba,.int na,.str sa,.sl nla ya,.sl mla ra,.int ka',.bool ba',.int na',.str sa',.sl nla' ya',.sl mla' ra']=.int (cmpN n [Cl.int ka,.bool ba,.int na,.str sa,.sl nla ya,.sl mla ra] [.int ka',.bool ba',.int na',.str sa',.sl nla' ya',.sl mla' ra']):=by simp[tbLv,compF]
  have en:tbLv m n 1000000 [Cl.int ka,.bool ba,.int na,.str sa,.sl nla ya,.sl mla ra,.int ka',.bool ba',.int na',.str sa',.sl nla' ya',.sl mla' ra']=.bool true:=by simp only[tbLv,if_true,hsz,decide_true]
  generalize hc:cmpN n [Cl.int ka,.bool ba,.int na,.str sa,.sl nla ya,.sl mla ra] [.int ka',.bool ba',.int na',.str sa',.sl nla' ya',.sl mla' ra']=q at et
  simp only[List.getD_cons_zero,List.getD_cons_succ,et,en,intD,Cl.bool.injEq,exists_eq',true_and,Bool.not_eq_true',Bool.not_eq_false',beq_iff_eq,beq_eq_false_iff_ne,ne_eq]
  rw[i64_id (by omega) (by omega)]
  refine⟨by omega,fun hm=>?_,fun hm=>⟨⟨nl,A,ml,B,i+1,rfl,rfl,by omega,by omega,?_,by omega,h5⟩,by simp only[lstrM];omega⟩⟩
  ·simp[lvalF,h3,hd,hd',lsC,hc,hm]
  ·rw[h3,hd,hd',e2];simp[lsC,hc,hm]
 ·have e1:A.drop i.toNat=[]:=List.drop_eq_nil_of_le (by omega)
  obtain⟨r',hr',hwr',hd',_⟩:=row_at hB (i:=i.toNat) (by omega)
  simp only[lvalF,h3,e1,hd',lsC]
 ·have e1:A.drop i.toNat=[]:=List.drop_eq_nil_of_le (by omega)
  have e2:B.drop i.toNat=[]:=List.drop_eq_nil_of_le (by omega)
  simp only[lvalF,h3,e1,e2,lsC]
theorem lval_s (hG:Gd0 k G)(hk0:0<k)(hsz:Tryz.prog.globals.size≤k){m n:Nat}{tb:Nat→List Cl→Cl}(ih:Kcomp.Sound Tryz.prog k G tb (fun c=>SizeOf.sizeOf c<m) (compF n)):∃ tb,Klval.Sound Tryz.prog k G tb (fun c=>SizeOf.sizeOf c<m) (lvalF n):=by
 letI:Tb:=⟨some (9,tbLv m n)⟩
 exact⟨_,Ctr.ofT (hk:=hkLval) Nat.lt_wfRel.wf lstrM (lvalInv m n) hG (fun D=>@Hooks.ctr _ (dcOf D) _ _ _ _ 9 (by kernel_rfl) _ _ _ _ ih (by kernel_rfl) _ 0 (by
     intro cls j c h
     cases j with
     |zero=>simp[compF] at h;subst h;simp[tbLv,compF]
     |succ j=>simp[compF] at h) (some 1000000) (by
     intro cls h
     simpa[tbLv] using h) hG hk0 hsz rfl) hsz (L:=9) (by kernel_rfl) rfl (trs:=[lvalt0]) (by kernel_rfl) lvalt_ok lvalV ⟨⟨lvalt0_ok,lvalV0⟩,trivial⟩⟩
noncomputable def tbCo (m n:Nat)(f:Nat)(c:List Cl):Cl:=if f=1000000 then .bool (decide (SizeOf.sizeOf c<m)) else if f=0 then (rankF c).getD 0 .no else if f=1 then (cmpiF c).getD 0 .no else if f=2 then (cmpsF c).getD 0 .no else if f=3 then (cmpiF c).getD 0 .no else if f=4 then (lstrF c).getD 0 .no else if f=5 then (lvalF n c).getD 0 .no else if f=6 then (truthF c).getD 0 .no else .no
theorem compV {m n:Nat}:Vc0 (tbCo m n) 9 Kcomp.ks (fun c=>SizeOf.sizeOf c<m+1) (fun _ _ _=>True) (fun c r=>r=compF (n+1) c) compt:=by
 intro cls E hE hw hm
 have hw':Wts (vK++vK) cls:=hw
 obtain⟨a,b,rfl,ha,hb⟩:=wts_app hw'
 obtain⟨k,b,i,s,nl,ys,ml,rs,rfl,-⟩:=row6 ha
 obtain⟨k',b',i',s',nl',ys',ml',rs',rfl,-⟩:=row6 hb
 simp only[List.cons_append,List.nil_append] at hm
 have hm':SizeOf.sizeOf [Cl.sl ml rs,.sl ml' rs']<m:=by
  simp only[List.cons.sizeOf_spec,List.nil.sizeOf_spec,Cl.sl.sizeOf_spec] at hm ⊢;omega
 have e0:∀ j,tbCo m n 0 [.int j]=.int (rk j):=fun j=>by simp[tbCo,rankF]
 have e1:∀ j l,tbCo m n 1 [.int j,.int l]=.int (sgn j l):=fun j l=>by simp[tbCo,cmpiF]
 have e2:tbCo m n 2 [.str s,.str s']=.int (cmpB s s'):=by simp[tbCo,cmpsF]
 have e3:∀ j l,tbCo m n 3 [.int j,.int l]=.int (sgn j l):=fun j l=>by simp[tbCo,cmpiF]
 have e4:tbCo m n 4 [.sl nl ys,.sl nl' ys']=.int (lsC cmpR ys ys'):=by simp[tbCo,lstrF]
 have e5:tbCo m n 5 [.sl ml rs,.sl ml' rs']=.int (lsC (cmpN n) rs rs'):=by simp[tbCo,lvalF]
 have e6:tbCo m n 6 [.bool b,.bool b']=.int (tru b b'):=by simp[tbCo,truthF]
 have en:tbCo m n 1000000 [.sl ml rs,.sl ml' rs']=.bool true:=by simp only[tbCo,if_true,hm',decide_true]
 have ef:compF (n+1) [.int k,.bool b,.int i,.str s,.sl nl ys,.sl ml rs,.int k',.bool b',.int i',.str s',.sl nl' ys',.sl ml' rs']=[.int (if sgn (rk k) (rk k')=0 then if k=1 then tru b b' else if k=3 then cmpB s s' else if lsC cmpR ys ys'=0 then if lsC (cmpN n) rs rs'=0 then sgn i i' else lsC (cmpN n) rs rs' else lsC cmpR ys ys' else sgn (rk k) (rk k'))]:=rfl
 simp only[compt,Tr.vc,To.goodT,List.map_cons,List.map_nil,hE.v,hE.a,X.d_cons,X.d_nil,X.c_int,X.c_bool,X.c_bin,X.kd,isCmp,cond_true,cond_false,binD,intD,List.getD_cons_zero,List.getD_cons_succ,List.cons_append,List.nil_append,Cl.bool.injEq,exists_eq',true_and,and_true,Bool.not_eq_true',Bool.not_eq_false',beq_iff_eq,beq_eq_false_iff_ne,ne_eq,e0,e1,e2,e3,e4,e5,e6,en,ef,List.cons.injEq,Cl.int.injEq]
 refine⟨fun h=>by rw[if_neg h],fun h=>⟨fun h1=>by rw[if_pos h,if_pos h1],fun h1=>⟨fun h2=>by rw[if_pos h,if_neg h1,if_pos h2],fun h2=>⟨fun h3=>by rw[if_pos h,if_neg h1,if_neg h2,if_neg h3],fun h3=>⟨fun h4=>by rw[if_pos h,if_neg h1,if_neg h2,if_pos h3,if_neg h4],fun h4=>⟨fun h5=>by rw[if_pos h,if_neg h1,if_neg h2,if_pos h3,if_pos h4],fun h5=>by rw[if_pos h,if_neg h1,if_neg h2,if_pos h3,if_pos h4,h5]⟩⟩⟩⟩⟩⟩
theorem one_h {F:List Cl→List Cl}{fn:Nat→List Cl→Cl}{fi:Nat}(hl:∀ c,(F c).length≤1)(h:∀ c,fn fi c=(F c).getD 0 .no)(cls:List Cl)(j:Nat)(c:Cl)(e:(F cls)[j]? = some c):fn (fi+j) cls=c:=by
 have:=hl cls
 have hj:=(List.getElem?_eq_some_iff.1 e).1
 have:j=0:=by omega
 subst this
 rw[Nat.add_zero,h,List.getD_eq_getElem?_getD,e];rfl
theorem comp_n (hG:Gd0 k G)(hk0:0<k)(hsz:Tryz.prog.globals.size≤k)(hT:Go.Exo.Spec Tryz.prog G 40 [.one .bool,.one .bool] (.one (.one iK)) (fun _=>True) truthF):∀ n,∃ tb,Kcomp.Sound Tryz.prog k G tb (fun c=>SizeOf.sizeOf c<n) (compF n):=by
 intro n
 induction n with
 |zero=>exact⟨fun _ _=>.no,fun w old hold φ pls cls xs _ _ _ _ _ _ _ hp=>absurd hp (by omega)⟩
 |succ m ih=>
  obtain⟨tb,ih⟩:=ih
  obtain⟨tb5,h5⟩:=lval_s hG hk0 hsz ih
  obtain⟨tb4,h4⟩:=lstr_ok hG hk0 hsz
  letI:Tb:=⟨some (9,tbCo m m)⟩
  have q0:=rank_ok (k:=k) (G:=G) hG hsz rfl
  have q1:=cmpi_ok (k:=k) (G:=G) hG hsz rfl
  have q2:=cmps_ok (k:=k) (G:=G) hG hsz rfl
  have q3:=cmpl_ok (k:=k) (G:=G) hG hsz rfl
  refine⟨tbCo m m,Ctr.ofT (hk:=hkComp) Nat.lt_wfRel.wf (fun _ _=>0) (fun _ _ _=>True) hG (fun D=>?_) hsz (L:=9) (by kernel_rfl) rfl (trs:=[]) (by kernel_rfl) compt_ok compV trivial⟩
  letI:=dcOf D
  refine Hooks.or (Hooks.ctr (by kernel_rfl) q0 (by kernel_rfl) ?_ none (fun _=>trivial) hG hk0 hsz rfl) (Hooks.or (Hooks.ctr (by kernel_rfl) q1 (by kernel_rfl) ?_ none (fun _=>trivial) hG hk0 hsz rfl) (Hooks.or (Hooks.ctr (by kernel_rfl) q2 (by kernel_rfl) ?_ none (fun _=>trivial) hG hk0 hsz rfl) (Hooks.or (Hooks.ctr (by kernel_rfl) q3 (by kernel_rfl) ?_ none (fun _=>trivial) hG hk0 hsz rfl) (Hooks.or (Hooks.ctr (by kernel_rfl) h4 (by kernel_rfl) ?_ none (fun _=>trivial) hG hk0 hsz rfl) (Hooks.or (Hooks.ctr (by kernel_rfl) h5 (by kernel_rfl) ?_ (some 1000000) ?_ hG hk0 hsz rfl) (Hooks.spec hT ?_ hG hk0 rfl D))))))
  ·exact one_h (fun c=>by unfold rankF;split<;>simp) fun c=>by simp[tbCo]
  ·exact one_h (fun c=>by unfold cmpiF;split<;>simp) fun c=>by simp[tbCo]
  ·exact one_h (fun c=>by unfold cmpsF;split<;>simp) fun c=>by simp[tbCo]
  ·exact one_h (fun c=>by unfold cmpiF;split<;>simp) fun c=>by simp[tbCo]
  ·exact one_h (fun c=>by unfold lstrF;split<;>simp) fun c=>by simp[tbCo]
  ·exact one_h (fun c=>by unfold lvalF;split<;>simp) fun c=>by simp[tbCo]
  ·intro cls h;simpa[tbCo] using h
  ·exact one_h (fun c=>by unfold truthF;split<;>simp) fun c=>by simp[tbCo]
end Go.Proofs.Wo

namespace Go.Proofs.Wo
open Go.Exo Go.Exo.Wo
set_option maxRecDepth 100000
set_option linter.all false
def Ktru (a b:Bool):Ctr:={ f:=40,args:=[.bool a,.bool b],box:=[],ks:=[],res:=.x (.var 9 0 iK),box':=[],ks':=[iK] }
noncomputable def truffcuts:List Ct:=[]
def trufft:Tr:=.leaf 52 (.ret [] [(.int .i64 (0))])
theorem trufft_ok:Pth.allS Tryz.prog hk0 9 (Ktru false false) truffcuts (trufft.paths []):=
 ⟨Pth.okS_ret (by kernel_rfl) (by kernel_rfl),
  trivial⟩
noncomputable def truftcuts:List Ct:=[]
def truftt:Tr:=.leaf 46 (.ret [] [(.int .i64 (-1))])
theorem truftt_ok:Pth.allS Tryz.prog hk0 9 (Ktru false true) truftcuts (truftt.paths []):=
 ⟨Pth.okS_ret (by kernel_rfl) (by kernel_rfl),
  trivial⟩
noncomputable def trutfcuts:List Ct:=[]
def trutft:Tr:=.leaf 51 (.ret [] [(.int .i64 (1))])
theorem trutft_ok:Pth.allS Tryz.prog hk0 9 (Ktru true false) trutfcuts (trutft.paths []):=
 ⟨Pth.okS_ret (by kernel_rfl) (by kernel_rfl),
  trivial⟩
noncomputable def truttcuts:List Ct:=[]
def truttt:Tr:=.leaf 52 (.ret [] [(.int .i64 (0))])
theorem truttt_ok:Pth.allS Tryz.prog hk0 9 (Ktru true true) truttcuts (truttt.paths []):=
 ⟨Pth.okS_ret (by kernel_rfl) (by kernel_rfl),
  trivial⟩
variable {k:Nat}{G:World→Prop}
theorem tru_k (hG:Gd0 k G)(hsz:Tryz.prog.globals.size≤k)(a b:Bool):∃ tb,(Ktru a b).Sound Tryz.prog k G tb (fun _=>True) (fun _=>[.int (tru a b)]):=by
 letI:Tb:=⟨some (9,fun _ _=>.no)⟩
 refine⟨fun _ _=>.no,?_⟩
 have hv:∀ {a b:Bool}{t:Tr}{n:Nat},t=.leaf n (.ret [] [.int .i64 (tru a b)])→Vc0 (fun _ _=>Cl.no) 9 (Ktru a b).ks (fun _=>True) (fun _ _ _=>True) (fun _ r=>r=[.int (tru a b)]) t:=by
  rintro a b t n rfl cls E hE hw -
  simp only[Tr.vc,To.goodT,List.map_cons,List.map_nil,X.c_int]
 cases a<;>cases b
 ·exact Ctr.ofT (hk:=hk0) Nat.lt_wfRel.wf (fun _ _=>0) (fun _ _ _=>True) hG (fun D=>@Hooks.nil _ (dcOf D) _ _ _ _) hsz (L:=9) (by kernel_rfl) rfl (trs:=[]) (by kernel_rfl) trufft_ok (hv rfl) trivial
 ·exact Ctr.ofT (hk:=hk0) Nat.lt_wfRel.wf (fun _ _=>0) (fun _ _ _=>True) hG (fun D=>@Hooks.nil _ (dcOf D) _ _ _ _) hsz (L:=9) (by kernel_rfl) rfl (trs:=[]) (by kernel_rfl) truftt_ok (hv rfl) trivial
 ·exact Ctr.ofT (hk:=hk0) Nat.lt_wfRel.wf (fun _ _=>0) (fun _ _ _=>True) hG (fun D=>@Hooks.nil _ (dcOf D) _ _ _ _) hsz (L:=9) (by kernel_rfl) rfl (trs:=[]) (by kernel_rfl) trutft_ok (hv rfl) trivial
 ·exact Ctr.ofT (hk:=hk0) Nat.lt_wfRel.wf (fun _ _=>0) (fun _ _ _=>True) hG (fun D=>@Hooks.nil _ (dcOf D) _ _ _ _) hsz (L:=9) (by kernel_rfl) rfl (trs:=[]) (by kernel_rfl) truttt_ok (hv rfl) trivial
theorem tru_spec (hG:Gd0 k G)(hk0:0<k)(hsz:Tryz.prog.globals.size≤k):Go.Exo.Spec Tryz.prog G 40 [.one .bool,.one .bool] (.one (.one iK)) (fun _=>True) truthF:=by
 have hL:Tryz.prog.globals.size=9:=by kernel_rfl
 intro w φ args cls hw hφ ha _
 cases ha with
 |one h1 ha=>
 cases ha with
 |one h2 ha=>
 cases ha
 cases h1 with
 |bool a=>
 cases h2 with
 |bool b=>
 obtain⟨tb,h⟩:=tru_k hG hsz a b
 have hkw:=hG.size w hw
 have hpl:∀ p∈([]:List Pl),p.ob=noOb:=fun p hp=>by cases hp
 have hst : @WR _ (dcOf []) ⟨w,fun b=>b<w.heap.size,fun b hb=>hb,cutEnv Tryz.prog (ghOf φ [] tb) []⟩ (cutEnv Tryz.prog (ghOf φ [] tb) []) .e (Tryz.prog.globals.size+1) w:=by
  letI:=dcOf []
  have e0:cutEnv Tryz.prog (ghOf φ [] tb) []=stEnv Tryz.prog (ghOf φ [] tb):=by
   funext l
   unfold cutEnv stEnv
   split<;>rename_i h1
   ·first|rfl|(rw[if_pos h1])
   ·split<;>rename_i h2
    ·simp
    ·simp
  rw[e0]
  exact WR.startX (P:=Tryz.prog) (w:=w) (g:=ghOf φ [] tb) (nx:=Nat.succ Tryz.prog.globals.size) (by omega) (by omega) (Nat.lt_succ_self _) hφ fun t b hdd=>by
   have e:decOf [] t=some b:=hdd
   rw[decOf_nil] at e;cases e
 refine (h w (fun b=>b<w.heap.size) (fun b hb=>hb) φ [] [] [.bool a,.bool b] hw (fun i hi=>by show i<w.heap.size;omega) hpl rfl hst (.cons _ _ _ _ (.bool a) (.cons _ _ _ _ (.bool b) .nil)) .nil trivial).mono ?_
 rintro e w' ⟨x,φ',pls',hlt,rfl,hpl',h01,h10,hext,hwr,hres,hwt,_⟩
 letI:=dcOf []
 have hdat:DatE (cutEnv Tryz.prog (ghOf φ' [.int (tru a b)] tb) pls') Tryz.prog.globals.size (fun i=>[Cl.int (tru a b)].getD i .no) tb:=⟨_,cutEnv_at,rfl,rfl⟩
 have hr:=(rshX_ok (r:=.one (.one iK)) (ts:=varsX 9 [iK] 0) hres rfl).2
 have hvx:=varsX_c hdat (ks:=[iK]) 0 hwt.length.symm (fun j=>by rw[Nat.zero_add])
 rw[hL] at hvx
 rw[hvx] at hr
 exact⟨x,φ',rfl,h01,fun b o v hv=>fz_cell hwr ((cutEnv_fz hpl').2 hv),fun b o v hv hb=>h10 b o v hv hb,⟨fun b hb=>hext.old b hb,hext.size,hext.os,hext.output,hext.tape⟩,ArgR.mono (fun b o v hv=>(cutEnv_fz hpl').1 hv) hr⟩
theorem comp_ok (hG:Gd0 k G)(hk0:0<k)(hsz:Tryz.prog.globals.size≤k)(n:Nat):∃ tb,Kcomp.Sound Tryz.prog k G tb (fun c=>SizeOf.sizeOf c<n) (compF n):=comp_n hG hk0 hsz (tru_spec hG hk0 hsz) n
end Go.Proofs.Wo

namespace Go.Proofs.Wo
open Go.Exo Go.Exo.Wo
set_option linter.all false
theorem sgn_zero {a b:Int}:sgn a b=0↔a=b:=by
 unfold sgn
 split
 ·constructor
  ·intro h;omega
  ·intro h;omega
 ·split
  ·constructor
   ·intro h;omega
   ·intro h;omega
  ·constructor
   ·intro _;omega
   ·intro _;rfl
theorem tru_zero {a b:Bool}:tru a b=0↔a=b:=by cases a<;>cases b<;>decide
theorem cmpB_zero:∀ {a b:List UInt8},cmpB a b=0↔a=b
 |[],[]=>by simp[cmpB]
 |[],_::_=>by simp[cmpB]
 |_::_,[]=>by simp[cmpB]
 |a::r,b::s=>by
  have ih:=cmpB_zero (a:=r) (b:=s)
  simp only[cmpB]
  cases h1:Nat.ble (Nat.succ a.toNat) b.toNat with
  |true=>
   have h:=Nat.le_of_ble_eq_true h1
   simp only[cond_true]
   constructor
   ·intro e;cases e
   ·intro e;cases e;omega
  |false=>
   simp only[cond_false]
   cases h2:Nat.ble (Nat.succ b.toNat) a.toNat with
   |true=>
    have h:=Nat.le_of_ble_eq_true h2
    simp only[cond_true]
    constructor
    ·intro e;cases e
    ·intro e;cases e;omega
   |false=>
    simp only[cond_false]
    have h3:¬ (Nat.succ a.toNat≤b.toNat):=fun h=>by rw[Nat.ble_eq_true_of_le h] at h1;cases h1
    have h4:¬ (Nat.succ b.toNat≤a.toNat):=fun h=>by rw[Nat.ble_eq_true_of_le h] at h2;cases h2
    have h5:a=b:=UInt8.toNat_inj.1 (by omega)
    rw[ih,h5]
    simp
theorem lsC_zero {o:List Cl→List Cl→Int}:∀ {A B:List (List Cl)},(∀ a∈A,∀ b∈B,(o a b=0↔nrmR a=nrmR b))→(lsC o A B=0↔nrmRs A=nrmRs B)
 |[],[],_=>by simp[lsC]
 |[],b::B,_=>by simp[lsC,nrmRs]
 |a::A,[],_=>by simp[lsC,nrmRs]
 |a::A,b::B,h=>by
  have ih:=lsC_zero (o:=o) (A:=A) (B:=B) fun x hx y hy=>h x (.tail _ hx) y (.tail _ hy)
  have h0:=h a (.head _) b (.head _)
  simp only[lsC,nrmRs,List.cons.injEq]
  split
  ·rename_i e;rw[ih];simp[h0.1 e]
  ·rename_i e;constructor
   ·intro q;exact absurd q e
   ·intro q;exact absurd (h0.2 q.1) e
theorem cmpR_zero {a b:List Cl}(ha:Wts [.str] a)(hb:Wts [.str] b):cmpR a b=0↔nrmR a=nrmR b:=by
 obtain⟨_,rfl,h1⟩:=ha.one
 obtain⟨_,rfl,h2⟩:=hb.one
 obtain⟨s,rfl,-⟩:=h1.str_inv
 obtain⟨s',rfl,-⟩:=h2.str_inv
 simp only[cmpR,cmpB_zero,nrmR,nrm,List.cons.injEq,Cl.str.injEq,and_true]
theorem rk_inj {a b:Int}(h1:0≤a)(h2:a≤7)(h3:0≤b)(h4:b≤7):rk a=rk b↔a=b:=by
 have ha:a=0∨a=1∨a=2∨a=3∨a=4∨a=5∨a=6∨a=7:=by omega
 have hb:b=0∨b=1∨b=2∨b=3∨b=4∨b=5∨b=6∨b=7:=by omega
 rcases ha with rfl|rfl|rfl|rfl|rfl|rfl|rfl|rfl<;>rcases hb with rfl|rfl|rfl|rfl|rfl|rfl|rfl|rfl<;>decide
theorem cmpN_zero (u u':List UInt8→Bool):∀ (n:Nat)(a b:List Cl),SizeOf.sizeOf a<n→Wts vK a→Wts vK b→mayR u a=true→mayR u' b=true→(cmpN n a b=0↔nrmR a=nrmR b):=by
 intro n
 induction n with
 |zero=>intro a b h;omega
 |succ n ih=>
  intro a b hs ha hb ma mb
  obtain⟨k,b0,i,s,nl,ys,ml,rs,rfl,hl,-⟩:=row6 ha
  obtain⟨k',b0',i',s',nl',ys',ml',rs',rfl,hl',-⟩:=row6 hb
  obtain⟨-,q2,-,q4⟩:=ls2 hl
  obtain⟨-,q2',-,q4'⟩:=ls2 hl'
  rw[mayR_eq] at ma mb
  simp only[Bool.and_eq_true,decide_eq_true_eq] at ma mb
  obtain⟨⟨⟨⟨⟨⟨⟨k1,k2⟩,hbare⟩,_⟩,_⟩,_⟩,_⟩,hkids⟩:=ma
  obtain⟨⟨⟨⟨⟨⟨⟨k1',k2'⟩,hbare'⟩,_⟩,_⟩,_⟩,_⟩,hkids'⟩:=mb
  have hy:lsC cmpR ys ys'=0↔nrmRs ys=nrmRs ys':=lsC_zero fun x hx y hy=>cmpR_zero (q2 x hx) (q2' y hy)
  have hr:lsC (cmpN n) rs rs'=0↔nrmRs rs=nrmRs rs':=lsC_zero fun x hx y hy=>ih x y (by
   have z:=List.sizeOf_lt_of_mem hx
   simp only[List.cons.sizeOf_spec,Cl.sl.sizeOf_spec] at hs
   omega) (q4 x hx) (q4' y hy) (List.all_eq_true.1 hkids x hx) (List.all_eq_true.1 hkids' y hy)
  rw[nrm6]
  simp only[cmpN]
  simp only[bareB,Bool.and_eq_true,Bool.or_eq_true,beq_iff_eq,Bool.not_eq_true',List.isEmpty_iff] at hbare hbare'
  obtain⟨⟨⟨⟨c1,c2⟩,c3⟩,c4⟩,c5⟩:=hbare
  obtain⟨⟨⟨⟨c1',c2'⟩,c3'⟩,c4'⟩,c5'⟩:=hbare'
  by_cases hk:k=k'
  ·subst hk
   rw[if_pos (sgn_zero.2 rfl)]
   by_cases h1:k=1
   ·subst h1
    rw[if_pos rfl,tru_zero]
    have e2:i=0:=by omega
    have e2':i'=0:=by omega
    have e3:s=[]:=by simpa using c3
    have e3':s'=[]:=by simpa using c3'
    have e4:ys=[]:=by simpa using c4
    have e4':ys'=[]:=by simpa using c4'
    have e5:rs=[]:=by simpa using c5
    have e5':rs'=[]:=by simpa using c5'
    simp[e2,e2',e3,e3',e4,e4',e5,e5']
   ·rw[if_neg h1]
    have e1:b0=false:=by simpa[h1] using c1
    have e1':b0'=false:=by simpa[h1] using c1'
    by_cases h3:k=3
    ·subst h3
     rw[if_pos rfl,cmpB_zero]
     have e2:i=0:=by omega
     have e2':i'=0:=by omega
     have e4:ys=[]:=by simpa using c4
     have e4':ys'=[]:=by simpa using c4'
     have e5:rs=[]:=by simpa using c5
     have e5':rs'=[]:=by simpa using c5'
     simp[e1,e1',e2,e2',e4,e4',e5,e5']
    ·rw[if_neg h3]
     have e3:s=[]:=by simpa[h3] using c3
     have e3':s'=[]:=by simpa[h3] using c3'
     by_cases hyy:lsC cmpR ys ys'=0
     ·rw[if_pos hyy]
      by_cases hrr:lsC (cmpN n) rs rs'=0
      ·rw[if_pos hrr,sgn_zero]
       simp[e1,e1',e3,e3',hy.1 hyy,hr.1 hrr]
      ·rw[if_neg hrr]
       exact⟨fun h=>absurd h hrr,fun h=>absurd (hr.2 h.2.2.2.2.2) hrr⟩
     ·rw[if_neg hyy]
      exact⟨fun h=>absurd h hyy,fun h=>absurd (hy.2 h.2.2.2.2.1) hyy⟩
  ·have h0:¬ sgn (rk k) (rk k')=0:=fun h=>hk ((rk_inj k1 k2 k1' k2').1 (sgn_zero.1 h))
   rw[if_neg h0]
   simp[h0,hk]
end Go.Proofs.Wo

namespace Go.Proofs
open Go.Shelf
def Tryz.laysValid_ren:Go.Shelf.Ren:=⟨fun|196=>121|259=>164|n=>n,fun|9=>9|4=>4|3=>3|5=>5|12=>12|119=>249|0=>0|46=>212|139=>252|138=>251|53=>126|n=>n,fun|3=>1|4=>2|n=>n⟩
theorem Tryz.laysValid:Go.Proofs.Lays.n196 Tryz.prog Tryz.laysValid_ren:={
 mixed:=by kernel_rfl
 f196:=Tryz.func121.trans (congrArg some (by kernel_rfl))
 f259:=Tryz.func164.trans (congrArg some (by kernel_rfl))
 t0:=Tryz.underlying0
 a0:=Tryz.isAgg0
 z0:=Tryz.sizeOf0
 v0:=Tryz.zeroValue0
 t3:=Tryz.underlying3
 a3:=Tryz.isAgg3
 z3:=Tryz.sizeOf3
 v3:=Tryz.zeroValue3
 t4:=Tryz.underlying4
 a4:=Tryz.isAgg4
 z4:=Tryz.sizeOf4
 v4:=Tryz.zeroValue4
 t5:=Tryz.underlying5
 a5:=Tryz.isAgg5
 z5:=Tryz.sizeOf5
 v5:=Tryz.zeroValue5
 t9:=Tryz.underlying9
 a9:=Tryz.isAgg9
 z9:=Tryz.sizeOf9
 v9:=Tryz.zeroValue9
 t12:=Tryz.underlying12
 a12:=Tryz.isAgg12
 z12:=Tryz.sizeOf12
 v12:=Tryz.zeroValue12
 t46:=Tryz.underlying212
 a46:=Tryz.isAgg212
 z46:=Tryz.sizeOf212
 v46:=Tryz.zeroValue212
 t53:=Tryz.underlying126
 a53:=Tryz.isAgg126
 z53:=Tryz.sizeOf126
 v53:=Tryz.zeroValue126
 t119:=Tryz.underlying249
 a119:=Tryz.isAgg249
 z119:=Tryz.sizeOf249
 t138:=Tryz.underlying251
 a138:=Tryz.isAgg251
 z138:=Tryz.sizeOf251
 v138:=Tryz.zeroValue251
 t139:=Tryz.underlying252
 a139:=Tryz.isAgg252
 z139:=Tryz.sizeOf252
 v139:=Tryz.zeroValue252
 g3:=by kernel_rfl
 g4:=by kernel_rfl }
end Go.Proofs

namespace Go.Proofs.Wo
open Go.Exo Go.Exo.Wo Go.Lib
set_option maxRecDepth 100000
set_option linter.all false
variable {k:Nat}{G:World→Prop}
theorem utfXF1 (c:List Cl):Bool1 c (utfXF c):=by unfold utfXF;split<;>exact⟨_,rfl⟩
theorem uOf_utf:uOf utfXF=validD:=by funext s;rfl
theorem may_v (hG:Gd0 k G)(hk0:0<k)(hsz:Tryz.prog.globals.size≤k):∀ n,∃ tb,Kmay.Sound Tryz.prog k G tb (fun c=>SizeOf.sizeOf c<n) (fun c=>[.bool (mayR validD c)]):=by
 obtain⟨tbb,hSb⟩:=bare_x hG hsz
 obtain⟨tbu,hSu⟩:=utf_x hG hk0 hsz
 rw[← uOf_utf]
 intro n
 induction n with
 |zero=>exact⟨fun _ _=>.no,fun w old hold φ pls cls xs _ _ _ _ _ _ _ hp=>absurd hp (by omega)⟩
 |succ m ih=>
  obtain⟨tb,hS⟩:=ih
  letI:Tb:=⟨some (9,tbY bareF utfXF (fun c=>[.bool (mayR (uOf utfXF) c)]) m)⟩
  exact⟨_,Ctr.ofT (hk:=hkMay) Nat.lt_wfRel.wf mayM (mayIX (uOf utfXF) m) hG (fun D=>@Hooks.or _ (dcOf D) _ _ _ _ _ _
    (@Hooks.ctr _ (dcOf D) _ _ _ _ 9 (by kernel_rfl) _ _ _ _ hSb (by kernel_rfl) _ _ (hfn1 (fun c=>⟨_,rfl⟩) (fun c=>by simp[tbY,bareF])) none (fun _=>trivial) hG hk0 hsz rfl)
    (@Hooks.or _ (dcOf D) _ _ _ _ _ _
     (@Hooks.ctr _ (dcOf D) _ _ _ _ 9 (by kernel_rfl) _ _ _ _ hSu (by kernel_rfl) _ _ (hfn1 utfXF1 (fun c=>by simp[tbY])) (some 1000001) (fun _ _=>trivial) hG hk0 hsz rfl)
     (@Hooks.ctr _ (dcOf D) _ _ _ _ 9 (by kernel_rfl) _ _ _ _ hS (by kernel_rfl) _ _ (hfn1 (fun c=>⟨_,rfl⟩) (fun c=>by simp[tbY])) (some 1000000) (fun c h=>by simpa[tbY] using h) hG hk0 hsz rfl)))
   hsz (L:=9) (by kernel_rfl) rfl (K:=Kmay) (cuts:=maycuts) (trs:=[mayt0,mayt1]) (by kernel_rfl) mayt_ok (mayX utfXF1) ⟨⟨mayt0_ok,mayX0 utfXF1⟩,⟨mayt1_ok,mayX1⟩,trivial⟩⟩
theorem check_v (hG:Gd0 k G)(hk0:0<k)(hsz:Tryz.prog.globals.size≤k)(m:Nat):∃ tb,Kcheck.Sound Tryz.prog k G tb (fun c=>SizeOf.sizeOf c<m) (fun c=>[.int (checkN validD c)]):=by
 obtain⟨tbm,hSm⟩:=may_v hG hk0 hsz m
 obtain⟨tbs,hSs⟩:=size_x hG hk0 hsz m
 letI:Tb:=⟨some (9,tbC (fun c=>[.bool (mayR validD c)]) sizeF m)⟩
 exact⟨_,Ctr.ofT (hk:=hkCheck) Nat.lt_wfRel.wf (fun _ _=>0) (fun _ _ _=>True) hG (fun D=>@Hooks.or _ (dcOf D) _ _ _ _ _ _
    (@Hooks.ctr _ (dcOf D) _ _ _ _ 9 (by kernel_rfl) _ _ _ _ hSm (by kernel_rfl) _ _ (hfn1 (fun c=>⟨_,rfl⟩) (fun c=>by simp[tbC])) (some 1000000) (fun c h=>by simpa[tbC] using h) hG hk0 hsz rfl)
    (@Hooks.ctr _ (dcOf D) _ _ _ _ 9 (by kernel_rfl) _ _ _ _ hSs (by kernel_rfl) _ _ (hfn4 sizeF4 (fun j hj c=>by unfold tbC;rw[if_neg (by omega),if_neg (by omega),if_neg (by omega),show 1+j-1=j by omega])) (some 1000001) (fun c h=>by simpa[tbC] using h) hG hk0 hsz rfl))
   hsz (L:=9) (by kernel_rfl) rfl (K:=Kcheck) (cuts:=checkcuts) (trs:=[]) (by kernel_rfl) checkt_ok checkX trivial⟩
end Go.Proofs.Wo

namespace Go.Proofs.Wo
open Go.Exo Go.Exo.Wo Go.Lib
set_option maxRecDepth 100000
set_option linter.all false
noncomputable def pbarecuts:List Ct:=[]
def pbaret:Tr:=.ask (.bin .eql (.var 9 0 (.int .i64)) (.int .i64 (1)))
 (.ask (.bin .neq (.var 9 2 (.int .i64)) (.int .i64 (0)))
 (.leaf 36 (.ret [] [(.bool false)]))
 (.ask (.bin .neq (.var 9 3 .str) (.str 0 0))
 (.leaf 36 (.ret [] [(.bool false)]))
 (.ask (.bin .gtr (.len (.var 9 4 (.sl 9))) (.int .i64 (0)))
 (.leaf 36 (.ret [] [(.bool false)]))
 (.leaf 36 (.ret [] [(.un .not (.bin .gtr (.len (.var 9 5 (.sl 31))) (.int .i64 (0))))])))))
 (.ask (.bin .eql (.var 9 0 (.int .i64)) (.int .i64 (6)))
 (.ask (.bin .lss (.var 9 2 (.int .i64)) (.int .i64 (0)))
 (.leaf 44 (.ret [] [(.bool false)]))
 (.ask (.var 9 1 .bool)
 (.leaf 49 (.ret [] [(.bool false)]))
 (.ask (.bin .neq (.var 9 3 .str) (.str 0 0))
 (.leaf 49 (.ret [] [(.bool false)]))
 (.ask (.bin .gtr (.len (.var 9 4 (.sl 9))) (.int .i64 (0)))
 (.leaf 49 (.ret [] [(.bool false)]))
 (.leaf 49 (.ret [] [(.un .not (.bin .gtr (.len (.var 9 5 (.sl 31))) (.int .i64 (0))))]))))))
 (.ask (.bin .eql (.var 9 0 (.int .i64)) (.int .i64 (7)))
 (.ask (.bin .lss (.var 9 2 (.int .i64)) (.int .i64 (0)))
 (.leaf 44 (.ret [] [(.bool false)]))
 (.ask (.var 9 1 .bool)
 (.leaf 49 (.ret [] [(.bool false)]))
 (.ask (.bin .neq (.var 9 3 .str) (.str 0 0))
 (.leaf 49 (.ret [] [(.bool false)]))
 (.ask (.bin .gtr (.len (.var 9 4 (.sl 9))) (.int .i64 (0)))
 (.leaf 49 (.ret [] [(.bool false)]))
 (.leaf 49 (.ret [] [(.un .not (.bin .gtr (.len (.var 9 5 (.sl 31))) (.int .i64 (0))))]))))))
 (.ask (.bin .eql (.var 9 0 (.int .i64)) (.int .i64 (2)))
 (.ask (.var 9 1 .bool)
 (.leaf 49 (.ret [] [(.bool false)]))
 (.ask (.bin .neq (.var 9 3 .str) (.str 0 0))
 (.leaf 49 (.ret [] [(.bool false)]))
 (.ask (.bin .gtr (.len (.var 9 4 (.sl 9))) (.int .i64 (0)))
 (.leaf 49 (.ret [] [(.bool false)]))
 (.leaf 49 (.ret [] [(.un .not (.bin .gtr (.len (.var 9 5 (.sl 31))) (.int .i64 (0))))])))))
 (.ask (.bin .eql (.var 9 0 (.int .i64)) (.int .i64 (3)))
 (.ask (.var 9 1 .bool)
 (.leaf 54 (.ret [] [(.bool false)]))
 (.ask (.bin .neq (.var 9 2 (.int .i64)) (.int .i64 (0)))
 (.leaf 54 (.ret [] [(.bool false)]))
 (.ask (.bin .gtr (.len (.var 9 4 (.sl 9))) (.int .i64 (0)))
 (.leaf 54 (.ret [] [(.bool false)]))
 (.leaf 54 (.ret [] [(.un .not (.bin .gtr (.len (.var 9 5 (.sl 31))) (.int .i64 (0))))])))))
 (.ask (.bin .eql (.var 9 0 (.int .i64)) (.int .i64 (5)))
 (.ask (.var 9 1 .bool)
 (.leaf 61 (.ret [] [(.bool false)]))
 (.ask (.bin .neq (.var 9 2 (.int .i64)) (.int .i64 (0)))
 (.leaf 61 (.ret [] [(.bool false)]))
 (.ask (.bin .neq (.var 9 3 .str) (.str 0 0))
 (.leaf 61 (.ret [] [(.bool false)]))
 (.leaf 61 (.ret [] [(.bool true)])))))
 (.ask (.bin .eql (.var 9 0 (.int .i64)) (.int .i64 (4)))
 (.ask (.var 9 1 .bool)
 (.leaf 64 (.ret [] [(.bool false)]))
 (.ask (.bin .neq (.var 9 2 (.int .i64)) (.int .i64 (0)))
 (.leaf 64 (.ret [] [(.bool false)]))
 (.ask (.bin .neq (.var 9 3 .str) (.str 0 0))
 (.leaf 64 (.ret [] [(.bool false)]))
 (.ask (.bin .gtr (.len (.var 9 4 (.sl 9))) (.int .i64 (0)))
 (.leaf 64 (.ret [] [(.bool false)]))
 (.leaf 64 (.ret [] [(.bool true)]))))))
 (.ask (.bin .eql (.var 9 0 (.int .i64)) (.int .i64 (0)))
 (.ask (.var 9 1 .bool)
 (.leaf 66 (.ret [] [(.bool false)]))
 (.ask (.bin .neq (.var 9 2 (.int .i64)) (.int .i64 (0)))
 (.leaf 66 (.ret [] [(.bool false)]))
 (.ask (.bin .neq (.var 9 3 .str) (.str 0 0))
 (.leaf 66 (.ret [] [(.bool false)]))
 (.ask (.bin .gtr (.len (.var 9 4 (.sl 9))) (.int .i64 (0)))
 (.leaf 66 (.ret [] [(.bool false)]))
 (.leaf 66 (.ret [] [(.un .not (.bin .gtr (.len (.var 9 5 (.sl 31))) (.int .i64 (0))))]))))))
 (.leaf 67 (.ret [] [(.bool false)])))))))))
theorem pbaret_ok:Pth.allS Tryz.prog hk0 9 Kpbare pbarecuts (pbaret.paths []):=
 ⟨Pth.okS_ret (by kernel_rfl) (by kernel_rfl),
  Pth.okS_ret (by kernel_rfl) (by kernel_rfl),
  Pth.okS_ret (by kernel_rfl) (by kernel_rfl),
  Pth.okS_ret (by kernel_rfl) (by kernel_rfl),
  Pth.okS_ret (by kernel_rfl) (by kernel_rfl),
  Pth.okS_ret (by kernel_rfl) (by kernel_rfl),
  Pth.okS_ret (by kernel_rfl) (by kernel_rfl),
  Pth.okS_ret (by kernel_rfl) (by kernel_rfl),
  Pth.okS_ret (by kernel_rfl) (by kernel_rfl),
  Pth.okS_ret (by kernel_rfl) (by kernel_rfl),
  Pth.okS_ret (by kernel_rfl) (by kernel_rfl),
  Pth.okS_ret (by kernel_rfl) (by kernel_rfl),
  Pth.okS_ret (by kernel_rfl) (by kernel_rfl),
  Pth.okS_ret (by kernel_rfl) (by kernel_rfl),
  Pth.okS_ret (by kernel_rfl) (by kernel_rfl),
  Pth.okS_ret (by kernel_rfl) (by kernel_rfl),
  Pth.okS_ret (by kernel_rfl) (by kernel_rfl),
  Pth.okS_ret (by kernel_rfl) (by kernel_rfl),
  Pth.okS_ret (by kernel_rfl) (by kernel_rfl),
  Pth.okS_ret (by kernel_rfl) (by kernel_rfl),
  Pth.okS_ret (by kernel_rfl) (by kernel_rfl),
  Pth.okS_ret (by kernel_rfl) (by kernel_rfl),
  Pth.okS_ret (by kernel_rfl) (by kernel_rfl),
  Pth.okS_ret (by kernel_rfl) (by kernel_rfl),
  Pth.okS_ret (by kernel_rfl) (by kernel_rfl),
  Pth.okS_ret (by kernel_rfl) (by kernel_rfl),
  Pth.okS_ret (by kernel_rfl) (by kernel_rfl),
  Pth.okS_ret (by kernel_rfl) (by kernel_rfl),
  Pth.okS_ret (by kernel_rfl) (by kernel_rfl),
  Pth.okS_ret (by kernel_rfl) (by kernel_rfl),
  Pth.okS_ret (by kernel_rfl) (by kernel_rfl),
  Pth.okS_ret (by kernel_rfl) (by kernel_rfl),
  Pth.okS_ret (by kernel_rfl) (by kernel_rfl),
  Pth.okS_ret (by kernel_rfl) (by kernel_rfl),
  Pth.okS_ret (by kernel_rfl) (by kernel_rfl),
  Pth.okS_ret (by kernel_rfl) (by kernel_rfl),
  Pth.okS_ret (by kernel_rfl) (by kernel_rfl),
  trivial⟩
noncomputable def pmayc0:Ct:=⟨stTodo (outS Tryz.prog hkPmay 9 Kpmay [((.app 9 0 (.cons (.var 9 0 (.int .i64)) (.cons (.var 9 1 .bool) (.cons (.var 9 2 (.int .i64)) (.cons (.var 9 3 .str) (.cons (.var 9 4 (.sl 9)) (.cons (.var 9 5 (.sl 31)) .nilA)))))) .bool),true),((.app 9 1 (.cons (.var 9 3 .str) .nilA) .bool),true),((.bin .eql (.var 9 0 (.int .i64)) (.int .i64 (5))),true),((.bin .neq (.len (.var 9 4 (.sl 9))) (.len (.var 9 5 (.sl 31)))),false)] 14),[.junk,.ptr 10 0,.junk,.junk,.junk,.junk,.junk,.junk,.junk,.junk,.junk,.junk,.junk,.junk,.junk,.junk,.junk,.junk,.junk,.junk,.junk,.junk,.junk,.junk,.junk,.junk,.junk,.junk,.junk,.x (.var 9 0 (.sl 9)),.x (.var 9 1 (.int .i64)),.x (.var 9 2 (.int .i64)),.junk,.junk,.junk,.junk,.junk,.junk,.junk,.junk,.junk,.junk,.junk,.junk,.junk,.junk,.junk,.junk,.junk,.junk,.junk,.junk,.junk,.junk],[some (.cells 31 [.x (.var 9 3 (.int .i64)),.x (.var 9 4 .bool),.x (.var 9 5 (.int .i64)),.x (.var 9 6 .str),.x (.var 9 0 (.sl 9)),.x (.var 9 7 (.sl 31))] 0 false)],[(.sl 9),(.int .i64),(.int .i64),(.int .i64),.bool,(.int .i64),.str,(.sl 31)]⟩
noncomputable def pmaycuts:List Ct:=[pmayc0]
def pmayt:Tr:=.ask (.app 9 0 (.cons (.var 9 0 (.int .i64)) (.cons (.var 9 1 .bool) (.cons (.var 9 2 (.int .i64)) (.cons (.var 9 3 .str) (.cons (.var 9 4 (.sl 9)) (.cons (.var 9 5 (.sl 31)) .nilA)))))) .bool)
 (.ask (.app 9 1 (.cons (.var 9 3 .str) .nilA) .bool)
 (.ask (.bin .eql (.var 9 0 (.int .i64)) (.int .i64 (5)))
 (.ask (.bin .neq (.len (.var 9 4 (.sl 9))) (.len (.var 9 5 (.sl 31))))
 (.leaf 11 (.ret [] [(.bool false)]))
 (.leaf 14 (.cut 0 [10] [(.var 9 4 (.sl 9)),(.len (.var 9 4 (.sl 9))),(.int .i64 (0)),(.var 9 0 (.int .i64)),(.var 9 1 .bool),(.var 9 2 (.int .i64)),(.var 9 3 .str),(.var 9 5 (.sl 31))])))
 (.leaf 14 (.cut 0 [10] [(.var 9 4 (.sl 9)),(.len (.var 9 4 (.sl 9))),(.int .i64 (0)),(.var 9 0 (.int .i64)),(.var 9 1 .bool),(.var 9 2 (.int .i64)),(.var 9 3 .str),(.var 9 5 (.sl 31))])))
 (.leaf 11 (.ret [] [(.bool false)])))
 (.leaf 10 (.ret [] [(.bool false)]))
def pmayt0:Tr:=.ask (.bin .lss (.var 9 2 (.int .i64)) (.var 9 1 (.int .i64)))
 (.must (.inr (.var 9 2 (.int .i64)) (.len (.var 9 0 (.sl 9)))) true <|
 .ask (.app 9 1 (.cons (.el (.var 9 0 (.sl 9)) (.var 9 2 (.int .i64)) 0 .str) .nilA) .bool)
 (.ask (.bin .gtr (.var 9 2 (.int .i64)) (.int .i64 (0)))
 (.must (.inr (.bin .sub (.var 9 2 (.int .i64)) (.int .i64 (1))) (.len (.var 9 0 (.sl 9)))) true <|
 .ask (.bin .geq (.el (.var 9 0 (.sl 9)) (.bin .sub (.var 9 2 (.int .i64)) (.int .i64 (1))) 0 .str) (.el (.var 9 0 (.sl 9)) (.var 9 2 (.int .i64)) 0 .str))
 (.leaf 16 (.ret [] [(.bool false)]))
 (.leaf 17 (.cut 0 [10] [(.var 9 0 (.sl 9)),(.var 9 1 (.int .i64)),(.bin .add (.var 9 2 (.int .i64)) (.int .i64 (1))),(.var 9 3 (.int .i64)),(.var 9 4 .bool),(.var 9 5 (.int .i64)),(.var 9 6 .str),(.var 9 7 (.sl 31))])))
 (.leaf 17 (.cut 0 [10] [(.var 9 0 (.sl 9)),(.var 9 1 (.int .i64)),(.bin .add (.var 9 2 (.int .i64)) (.int .i64 (1))),(.var 9 3 (.int .i64)),(.var 9 4 .bool),(.var 9 5 (.int .i64)),(.var 9 6 .str),(.var 9 7 (.sl 31))])))
 (.leaf 16 (.ret [] [(.bool false)])))
 (.leaf 8 (.ret [] [(.bool true)]))
theorem pmayt_ok:Pth.allS Tryz.prog hkPmay 9 Kpmay pmaycuts (pmayt.paths []):=
 ⟨Pth.okS_ret (by kernel_rfl) (by kernel_rfl),
  Pth.okS_cut pmayc0 rfl (by kernel_rfl) (by kernel_rfl),
  Pth.okS_cut pmayc0 rfl (by kernel_rfl) (by kernel_rfl),
  Pth.okS_ret (by kernel_rfl) (by kernel_rfl),
  Pth.okS_ret (by kernel_rfl) (by kernel_rfl),
  trivial⟩
theorem pmayt0_ok:Pth.allC Tryz.prog hkPmay 9 Kpmay pmaycuts pmayc0 (pmayt0.paths []):=
 ⟨Pth.okC_ret (by kernel_rfl) (by kernel_rfl),
  Pth.okC_cut pmayc0 rfl (by kernel_rfl) (by kernel_rfl),
  Pth.okC_cut pmayc0 rfl (by kernel_rfl) (by kernel_rfl),
  Pth.okC_ret (by kernel_rfl) (by kernel_rfl),
  Pth.okC_ret (by kernel_rfl) (by kernel_rfl),
  trivial⟩
variable {k:Nat}{G:World→Prop}
def pbB:List Cl→Bool
 |[.int k,.bool b,.int n,.str s,.sl nl ys,.sl ml rs]=>decide (0≤k)&&decide (k≤7)&&bareB [.int k,.bool b,.int n,.str s,.sl nl ys,.sl ml rs] && !((k==6 || k==7)&&decide (n<0))
 |_=>true
def pbareF (c:List Cl):List Cl:=[.bool (pbB c)]
def mayB (u:List UInt8→Bool):List Cl→Bool
 |[.int k,.bool b,.int n,.str s,.sl nl ys,.sl ml rs]=>pbB [.int k,.bool b,.int n,.str s,.sl nl ys,.sl ml rs]&&u s && !(k==5&&ys.length != rs.length)&&keysB u none ys
 |_=>true
theorem mayR_B (u:List UInt8→Bool)(k:Int)(b:Bool)(n:Int)(s:List UInt8)(nl:Bool)(ys:List (List Cl))(ml:Bool)(rs:List (List Cl)) :
  mayR u [.int k,.bool b,.int n,.str s,.sl nl ys,.sl ml rs]=(mayB u [.int k,.bool b,.int n,.str s,.sl nl ys,.sl ml rs]&&rs.all (mayR u)):=by
 rw[mayR_eq];rfl
set_option maxHeartbeats 4000000 in
theorem pbareV {tb:Nat→List Cl→Cl}:Vc0 tb 9 Kpbare.ks (fun _=>True) (fun _ _ _=>True) (fun c r=>r=pbareF c) pbaret:=by
 intro cls E hE hw _
 obtain⟨k,b,n,s,nl,ys,ml,rs,rfl,-⟩:=row6 hw
 have hs:((s==([]:List UInt8))=false)=¬ (s=[]):=by simp
 simp only[pbaret,Tr.vc,To.goodT,List.map_cons,List.map_nil,hE.v,X.c_int,X.c_bool,X.c_str,X.c_bin,X.c_un,X.c_len,lenC,X.kd,binD,intD,strD,unD,List.getD_cons_zero,List.getD_cons_succ,isCmp,cond_true,cond_false,Cl.bool.injEq,exists_eq',true_and,and_true,List.cons.injEq,pbareF,beq_iff_eq,beq_eq_false_iff_ne,ne_eq,decide_eq_true_eq,decide_eq_false_iff_not,Bool.not_eq_true',Bool.not_eq_false',sB,pbB,bareB]
 repeat' (first|(refine⟨?_,?_⟩)|intro _)
 all_goals (subst_vars;simp_all [List.isEmpty_iff,List.length_pos_iff])
 all_goals (cases rs<;>simp<;>first|assumption|(intros;omega))
theorem pbare_x (hG:Gd0 k G)(hsz:Tryz.prog.globals.size≤k):∃ tb,Kpbare.Sound Tryz.prog k G tb (fun _=>True) pbareF:=by
 letI:Tb:=⟨some (9,fun _ _=>.no)⟩
 exact⟨_,Ctr.ofT (hk:=hk0) Nat.lt_wfRel.wf (fun _ _=>0) (fun _ _ _=>True) hG (fun D=>@Hooks.nil _ (dcOf D) _ _ _ _) hsz (L:=9) (by kernel_rfl) rfl (trs:=[]) (by kernel_rfl) pbaret_ok pbareV trivial⟩
noncomputable def tbPm (f:Nat)(c:List Cl):Cl:=if f=0 then (pbareF c).getD 0 .no else (utfXF c).getD 0 .no
def pmayF (c:List Cl):List Cl:=[.bool (mayB validD c)]
def pmayInv (_:Nat)(c0 c:List Cl):Prop:=∃ (i:Nat)(k:Int)(b:Bool)(n:Int)(s:List UInt8)(nl:Bool)(ys:List (List Cl))(ml:Bool)(rs:List (List Cl)),c0=[.int k,.bool b,.int n,.str s,.sl nl ys,.sl ml rs]∧c=[.sl nl ys,.int ys.length,.int i,.int k,.bool b,.int n,.str s,.sl ml rs]∧i≤ys.length∧mayB validD c0=keysB validD (prevK ys i) (ys.drop i)
def pmayM (_:Nat)(c:List Cl):Nat:=match c with|_::.int l::.int i::_=>(l-i).toNat|_=>0
theorem pmayV:Vc0 tbPm 9 Kpmay.ks (fun _=>True) pmayInv (fun c r=>r=pmayF c) pmayt:=by
 intro cls E hE hw _
 obtain⟨k,b,n,s,nl,ys,ml,rs,rfl,hl,-⟩:=row6 hw
 obtain⟨q1,q2,q3,q4⟩:=ls2 hl
 simp only[maxLen] at q1 q3
 have t0:tbPm 0 [.int k,.bool b,.int n,.str s,.sl nl ys,.sl ml rs]=.bool (pbB [.int k,.bool b,.int n,.str s,.sl nl ys,.sl ml rs]):=by simp[tbPm,pbareF]
 have t1:tbPm 1 [.str s]=.bool (validD s):=by simp[tbPm,utfXF]
 have e0:mayB validD [.int k,.bool b,.int n,.str s,.sl nl ys,.sl ml rs]=(pbB [.int k,.bool b,.int n,.str s,.sl nl ys,.sl ml rs]&&validD s && !(k==5&&ys.length != rs.length)&&keysB validD none ys):=rfl
 have fin:mayB validD [.int k,.bool b,.int n,.str s,.sl nl ys,.sl ml rs]=keysB validD none ys→pmayInv 0 [.int k,.bool b,.int n,.str s,.sl nl ys,.sl ml rs] [.sl nl ys,.int ys.length,.int 0,.int k,.bool b,.int n,.str s,.sl ml rs]:=fun e=>⟨0,k,b,n,s,nl,ys,ml,rs,rfl,rfl,Nat.zero_le _,e⟩
 have el:(!((ys.length:Int)==(rs.length:Int)))=(ys.length != rs.length):=by
  rw[Bool.eq_iff_iff];simp;omega
 simp only[pmayt,Tr.vc,To.goodT,List.map_cons,List.map_nil,hE.v,hE.a,X.d_cons,X.d_nil,X.c_int,X.c_bool,X.c_bin,X.c_len,lenC,X.kd,isCmp,cond_true,cond_false,binD,intD,List.getD_cons_zero,List.getD_cons_succ,t0,t1,Cl.bool.injEq,exists_eq',true_and,and_true,List.cons.injEq,pmayF,el]
 refine⟨fun h1=>⟨fun h2=>⟨fun h3=>⟨fun h4=>?_,fun h4=>fin ?_⟩,fun h3=>fin ?_⟩,fun h2=>?_⟩,fun h1=>?_⟩
 ·rw[e0,h1,h2,h3,h4];rfl
 ·rw[e0,h1,h2,h3,h4];rfl
 ·rw[e0,h1,h2,h3];rfl
 ·rw[e0,h1,h2];rfl
 ·rw[e0,h1];rfl
theorem pmayV0:Vc (· < ·) pmayM tbPm 9 pmayc0.ks pmayInv (fun c r=>r=pmayF c) 0 pmayt0:=by
 rintro c0 cls E hE hw ⟨i,k,b,n,s,nl,ys,ml,rs,rfl,rfl,hi,hM⟩
 have hw':Wts [.sl 9,.int .i64,.int .i64,.int .i64,.bool,.int .i64,.str,.sl 31] [.sl nl ys,.int ys.length,.int i,.int k,.bool b,.int n,.str s,.sl ml rs]:=hw
 obtain⟨_,_,e,hc,-⟩:=hw'.cons_inv;cases e
 obtain⟨_,_,e,q1,-,q2⟩:=hc.sl_inv;cases e
 simp only[maxLen] at q1
 have h4:(0:Int)≤(i:Int):=by omega
 simp only[pmayt0,Tr.vc,To.goodT,List.map_cons,List.map_nil,hE.v,hE.a,X.d_cons,X.d_nil,X.c_int,X.c_bool,X.c_bin,X.c_len,X.c_inr,X.c_el,lenC,inrD,elD,X.kd,isCmp,cond_true,cond_false,binD,intD,List.getD_cons_zero,List.getD_cons_succ,Cl.bool.injEq,exists_eq',true_and,and_true,decide_eq_true_eq,decide_eq_false_iff_not,h4,Int.toNat_natCast,List.cons.injEq,pmayF]
 refine⟨fun hlt=>⟨hlt,?_⟩,fun hge=>?_⟩
 ·obtain⟨r,hr,hwr,hd,hme⟩:=row_at q2 (i:=i) (by omega)
  obtain⟨_,rfl,hc⟩:=hwr.one
  obtain⟨t,rfl,-⟩:=hc.str_inv
  have t1:tbPm 1 [.str t]=.bool (validD t):=by simp[tbPm,utfXF]
  rw[hr]
  simp only[List.getD_cons_zero,t1,Cl.bool.injEq,exists_eq',true_and]
  have hdr:ys.drop i=[.str t]::ys.drop (i+1):=by
   obtain⟨hlt',e⟩:=List.getElem?_eq_some_iff.1 hme
   rw[List.drop_eq_getElem_cons hlt',e]
  have hpk:prevK ys (i+1)=some t:=by simp[prevK,hme]
  rw[hdr,keysB_cons] at hM
  rw[i64_id (n:=(i:Int)+1) (by omega) (by omega)]
  have fin:validD t=true→ltO (prevK ys i) t=true→pmayInv 0 [.int k,.bool b,.int n,.str s,.sl nl ys,.sl ml rs] [.sl nl ys,.int ys.length,.int ((i:Int)+1),.int k,.bool b,.int n,.str s,.sl ml rs]:=fun x1 x2=>
   ⟨i+1,k,b,n,s,nl,ys,ml,rs,rfl,rfl,by omega,by rw[hM,hpk,x1,x2];rfl⟩
  have mea:pmayM 0 [.sl nl ys,.int ys.length,.int ((i:Int)+1),.int k,.bool b,.int n,.str s,.sl ml rs]<pmayM 0 [.sl nl ys,.int ys.length,.int (i:Int),.int k,.bool b,.int n,.str s,.sl ml rs]:=by
   show (ys.length-((i:Int)+1)).toNat<(ys.length-(i:Int)).toNat
   omega
  refine⟨fun x1=>⟨fun hp=>?_,fun hp=>⟨fin x1 ?_,mea⟩⟩,fun x1=>by rw[hM,x1];simp⟩
  ·rw[i64_id (n:=(i:Int)-1) (by omega) (by omega)]
   obtain⟨r',hr',hwr',_,hme'⟩:=row_at q2 (i:=((i:Int)-1).toNat) (by omega)
   obtain⟨_,rfl,hc'⟩:=hwr'.one
   obtain⟨t',rfl,-⟩:=hc'.str_inv
   rw[hr']
   have hpv:prevK ys i=some t':=by
    obtain⟨i',rfl⟩:∃ i',i=i'+1:=⟨i-1,by omega⟩
    have:(((i'+1:Nat):Int)-1).toNat=i':=by omega
    rw[this] at hme'
    simp[prevK,hme']
   simp only[List.getD_cons_zero,strD,Cl.bool.injEq,exists_eq',true_and]
   rw[hpv] at hM fin
   refine⟨⟨by omega,by omega⟩,fun x2=>?_,fun x2=>⟨fin x1 ?_,mea⟩⟩
   ·have x3:ltO (some t') t=false:=by simpa[ltO] using x2
    rw[hM,x3];simp
   ·simpa[ltO] using x2
  ·have:i=0:=by omega
   subst this;rfl
 ·rw[hM,List.drop_of_length_le (by omega)];simp[keysB]
theorem pmay_x (hG:Gd0 k G)(hk0:0<k)(hsz:Tryz.prog.globals.size≤k)(hV:Go.Exo.Spec Tryz.prog G 121 [.one .str] (.one (.one .bool)) (fun _=>True) utfXF):∃ tb,Kpmay.Sound Tryz.prog k G tb (fun _=>True) pmayF:=by
 obtain⟨tbb,hSb⟩:=pbare_x hG hsz
 letI:Tb:=⟨some (9,tbPm)⟩
 exact⟨_,Ctr.ofT (hk:=hkPmay) Nat.lt_wfRel.wf pmayM pmayInv hG (fun D=>@Hooks.or _ (dcOf D) _ _ _ _ _ _
    (@Hooks.ctr _ (dcOf D) _ _ _ _ 9 (by kernel_rfl) _ _ _ _ hSb (by kernel_rfl) _ _ (hfn1 (fun c=>⟨_,rfl⟩) (fun c=>by simp[tbPm,pbareF])) none (fun _=>trivial) hG hk0 hsz rfl)
    (Hooks.spec (L:=9) (fi:=1) (fn:=tbPm) hV (hfn1 utfXF1 (fun c=>by simp[tbPm])) hG hk0 rfl D))
   hsz (L:=9) (by kernel_rfl) rfl (trs:=[pmayt0]) (by kernel_rfl) pmayt_ok pmayV ⟨⟨pmayt0_ok,pmayV0⟩,trivial⟩⟩
end Go.Proofs.Wo

namespace Go.Proofs.Wo
open Go.Exo Go.Exo.Wo Go.Lib
set_option linter.all false
variable {k:Nat}{G:World→Prop}
theorem valid_spec (hT:∀ w,G w→Go.Lib.Utf8Tabs 1 2 w):Go.Exo.Spec Tryz.prog G 121 [.one .str] (.one (.one .bool)) (fun _=>True) utfXF:=by
 intro w φ args cls hG hφ ha _
 cases ha with
 |one h1 h2=>
 cases h2
 cases h1 with
 |str s hs=>
 have h:=Any.utf8_ValidString Tryz.laysValid s w (by simpa[maxLen] using hs) (hT w hG)
 refine Calls.mono (show Calls Tryz.prog 121 #[.string s] w _ from h) ?_
 rintro e w' ⟨rfl,hb⟩
 have hx:=ext_below hb
 refine⟨_,φ,rfl,fun b o v h=>h,fun b o v h=>?_,fun b o v h _=>h,hx,.one (.bool _) .nil⟩
 have h1:=hφ b o v h
 rw[← h1]
 exact World.cell?_of_block (hx.old b (World.block_lt_of_cell? w ⟨b,o,none⟩ h1))
theorem pmay_ok (hG:Gd0 k G)(hk0:0<k)(hsz:Tryz.prog.globals.size≤k)(hT:∀ w,G w→Go.Lib.Utf8Tabs 1 2 w):∃ tb,Kpmay.Sound Tryz.prog k G tb (fun _=>True) pmayF:=pmay_x hG hk0 hsz (valid_spec hT)
end Go.Proofs.Wo

namespace Go.Proofs.Wo
open Go.Exo Go.Exo.Wo Go.Lib
set_option maxRecDepth 100000
set_option linter.all false
noncomputable def vsamecuts:List Ct:=[]
def vsamet:Tr:=.must (.app 9 1000000 (.cons (.var 9 0 (.int .i64)) (.cons (.var 9 1 .bool) (.cons (.var 9 2 (.int .i64)) (.cons (.var 9 3 .str) (.cons (.var 9 4 (.sl 9)) (.cons (.var 9 5 (.sl 31)) .nilA)))))) .bool) true <|
 .ask (.bin .neq (.app 9 0 (.cons (.var 9 0 (.int .i64)) (.cons (.var 9 1 .bool) (.cons (.var 9 2 (.int .i64)) (.cons (.var 9 3 .str) (.cons (.var 9 4 (.sl 9)) (.cons (.var 9 5 (.sl 31)) .nilA)))))) (.int .i64)) (.int .i64 (0)))
 (.leaf 51 (.ret [] [(.bool false)]))
 (.must (.app 9 1000000 (.cons (.var 9 6 (.int .i64)) (.cons (.var 9 7 .bool) (.cons (.var 9 8 (.int .i64)) (.cons (.var 9 9 .str) (.cons (.var 9 10 (.sl 9)) (.cons (.var 9 11 (.sl 31)) .nilA)))))) .bool) true <|
 .ask (.bin .neq (.app 9 0 (.cons (.var 9 6 (.int .i64)) (.cons (.var 9 7 .bool) (.cons (.var 9 8 (.int .i64)) (.cons (.var 9 9 .str) (.cons (.var 9 10 (.sl 9)) (.cons (.var 9 11 (.sl 31)) .nilA)))))) (.int .i64)) (.int .i64 (0)))
 (.leaf 75 (.ret [] [(.bool false)]))
 (.must (.app 9 1000001 (.cons (.var 9 0 (.int .i64)) (.cons (.var 9 1 .bool) (.cons (.var 9 2 (.int .i64)) (.cons (.var 9 3 .str) (.cons (.var 9 4 (.sl 9)) (.cons (.var 9 5 (.sl 31)) (.cons (.var 9 6 (.int .i64)) (.cons (.var 9 7 .bool) (.cons (.var 9 8 (.int .i64)) (.cons (.var 9 9 .str) (.cons (.var 9 10 (.sl 9)) (.cons (.var 9 11 (.sl 31)) .nilA)))))))))))) .bool) true <|
 .leaf 85 (.ret [] [(.bin .eql (.app 9 1 (.cons (.var 9 0 (.int .i64)) (.cons (.var 9 1 .bool) (.cons (.var 9 2 (.int .i64)) (.cons (.var 9 3 .str) (.cons (.var 9 4 (.sl 9)) (.cons (.var 9 5 (.sl 31)) (.cons (.var 9 6 (.int .i64)) (.cons (.var 9 7 .bool) (.cons (.var 9 8 (.int .i64)) (.cons (.var 9 9 .str) (.cons (.var 9 10 (.sl 9)) (.cons (.var 9 11 (.sl 31)) .nilA)))))))))))) (.int .i64)) (.int .i64 (0)))])))
theorem vsamet_ok:Pth.allS Tryz.prog hkVsame 9 Kvsame vsamecuts (vsamet.paths []):=
 ⟨Pth.okS_ret (by kernel_rfl) (by kernel_rfl),
  Pth.okS_ret (by kernel_rfl) (by kernel_rfl),
  Pth.okS_ret (by kernel_rfl) (by kernel_rfl),
  trivial⟩
variable {k:Nat}{G:World→Prop}
noncomputable def tbVs (C:List Cl→Int)(n:Nat)(f:Nat)(c:List Cl):Cl:=if f=1000000 then .bool (decide (SizeOf.sizeOf c<n)) else if f=1000001 then .bool (decide (SizeOf.sizeOf c<n)) else if f=0 then .int (C c) else (compF n c).getD 0 .no
def vsameF (C:List Cl→Int)(n:Nat)(c:List Cl):List Cl:=[.bool (C (c.take 6)==0&&C (c.drop 6)==0&&cmpN n (c.take 6) (c.drop 6)==0)]
theorem vsameV {C:List Cl→Int}{n:Nat}:Vc0 (tbVs C n) 9 Kvsame.ks (fun c=>SizeOf.sizeOf c<n) (fun _ _ _=>True) (fun c r=>r=vsameF C n c) vsamet:=by
 intro cls E hE hw hm
 have hw':Wts (vK++vK) cls:=hw
 obtain⟨a,b,rfl,ha,hb⟩:=wts_app hw'
 obtain⟨k,b0,i,s,nl,ys,ml,rs,rfl,-⟩:=row6 ha
 obtain⟨k',b0',i',s',nl',ys',ml',rs',rfl,-⟩:=row6 hb
 simp only[List.cons_append,List.nil_append] at hm
 have h1:SizeOf.sizeOf [Cl.int k,.bool b0,.int i,.str s,.sl nl ys,.sl ml rs]<n:=by
  simp only[List.cons.sizeOf_spec,List.nil.sizeOf_spec] at hm ⊢;omega
 have h2:SizeOf.sizeOf [Cl.int k',.bool b0',.int i',.str s',.sl nl' ys',.sl ml' rs']<n:=by
  simp only[List.cons.sizeOf_spec,List.nil.sizeOf_spec] at hm ⊢;omega
 have n0:∀ c,SizeOf.sizeOf c<n→tbVs C n 1000000 c=.bool true:=fun c h=>by simp only[tbVs,if_true,h,decide_true]
 have n1:∀ c,SizeOf.sizeOf c<n→tbVs C n 1000001 c=.bool true:=fun c h=>by simp only[tbVs,if_true,h,decide_true,show ¬ (1000001=1000000) by decide,if_false]
 have e0:∀ c,tbVs C n 0 c=.int (C c):=fun c=>by simp[tbVs]
 have e1:tbVs C n 1 [.int k,.bool b0,.int i,.str s,.sl nl ys,.sl ml rs,.int k',.bool b0',.int i',.str s',.sl nl' ys',.sl ml' rs']=.int (cmpN n [.int k,.bool b0,.int i,.str s,.sl nl ys,.sl ml rs] [.int k',.bool b0',.int i',.str s',.sl nl' ys',.sl ml' rs']):=by simp[tbVs,compF]
 have ef:vsameF C n [.int k,.bool b0,.int i,.str s,.sl nl ys,.sl ml rs,.int k',.bool b0',.int i',.str s',.sl nl' ys',.sl ml' rs']=[.bool (C [.int k,.bool b0,.int i,.str s,.sl nl ys,.sl ml rs]==0&&C [.int k',.bool b0',.int i',.str s',.sl nl' ys',.sl ml' rs']==0&&cmpN n [.int k,.bool b0,.int i,.str s,.sl nl ys,.sl ml rs] [.int k',.bool b0',.int i',.str s',.sl nl' ys',.sl ml' rs']==0)]:=rfl
 simp only[vsamet,Tr.vc,To.goodT,List.map_cons,List.map_nil,hE.v,hE.a,X.d_cons,X.d_nil,X.c_int,X.c_bool,X.c_bin,X.kd,isCmp,cond_true,cond_false,binD,intD,List.getD_cons_zero,List.getD_cons_succ,List.cons_append,List.nil_append,n0 _ h1,n0 _ h2,n1 _ hm,e0,e1,ef,Cl.bool.injEq,exists_eq',true_and,and_true,Bool.not_eq_true',Bool.not_eq_false']
 refine⟨fun h=>by rw[h];rfl,fun h=>⟨fun h'=>by rw[h,h'];rfl,fun h'=>by rw[h,h'];rfl⟩⟩
theorem vsame_x (hG:Gd0 k G)(hk0:0<k)(hsz:Tryz.prog.globals.size≤k){C:List Cl→Int}{n:Nat}(hC:Go.Exo.Spec Tryz.prog G 37 [vA] (.one (.one iK)) (fun c=>SizeOf.sizeOf c<n) (fun c=>[.int (C c)])):∃ tb,Kvsame.Sound Tryz.prog k G tb (fun c=>SizeOf.sizeOf c<n) (vsameF C n):=by
 obtain⟨tb5,h5⟩:=comp_ok hG hk0 hsz n
 letI:Tb:=⟨some (9,tbVs C n)⟩
 exact⟨_,Ctr.ofT (hk:=hkVsame) Nat.lt_wfRel.wf (fun _ _=>0) (fun _ _ _=>True) hG (fun D=>@Hooks.or _ (dcOf D) _ _ _ _ _ _
    (Hooks.specP hC (one_h (fun c=>by simp) (fun c=>by simp[tbVs])) (fun c h=>by simpa[tbVs] using h) hG hk0 rfl D)
    (@Hooks.ctr _ (dcOf D) _ _ _ _ 9 (by kernel_rfl) _ _ _ _ h5 (by kernel_rfl) _ _ (one_h (fun c=>by simp[compF]) (fun c=>by simp[tbVs])) (some 1000001) (fun c h=>by simpa[tbVs] using h) hG hk0 hsz rfl))
   hsz (L:=9) (by kernel_rfl) rfl (trs:=[]) (by kernel_rfl) vsamet_ok vsameV trivial⟩
end Go.Proofs.Wo

namespace Go.Proofs.Wo
open Go.Exo Go.Exo.Wo Go.Lib
set_option maxRecDepth 100000
set_option linter.all false
noncomputable def eqsc0:Ct:=⟨stTodo (outS Tryz.prog hk0 9 Keqs [((.bin .neq (.len (.var 9 0 (.sl 9))) (.len (.var 9 1 (.sl 9)))),false)] 12),[.x (.var 9 0 (.sl 9)),.x (.var 9 1 (.sl 9)),.junk,.junk,.junk,.junk,.junk,.junk,.junk,.junk,.junk,.junk,.x (.var 9 2 (.int .i64)),.x (.var 9 3 (.int .i64)),.junk,.junk,.junk,.junk,.junk,.junk,.junk,.junk,.junk,.junk,.junk,.junk],[],[(.sl 9),(.sl 9),(.int .i64),(.int .i64)]⟩
noncomputable def eqscuts:List Ct:=[eqsc0]
def eqst:Tr:=.ask (.bin .neq (.len (.var 9 0 (.sl 9))) (.len (.var 9 1 (.sl 9))))
 (.leaf 9 (.ret [] [(.bool false)]))
 (.leaf 12 (.cut 0 [] [(.var 9 0 (.sl 9)),(.var 9 1 (.sl 9)),(.len (.var 9 0 (.sl 9))),(.int .i64 (0))]))
def eqst0:Tr:=.ask (.bin .lss (.var 9 3 (.int .i64)) (.var 9 2 (.int .i64)))
 (.must (.inr (.var 9 3 (.int .i64)) (.len (.var 9 0 (.sl 9)))) true <|
 .must (.inr (.var 9 3 (.int .i64)) (.len (.var 9 1 (.sl 9)))) true <|
 .ask (.bin .neq (.el (.var 9 0 (.sl 9)) (.var 9 3 (.int .i64)) 0 .str) (.el (.var 9 1 (.sl 9)) (.var 9 3 (.int .i64)) 0 .str))
 (.leaf 15 (.ret [] [(.bool false)]))
 (.leaf 16 (.cut 0 [] [(.var 9 0 (.sl 9)),(.var 9 1 (.sl 9)),(.var 9 2 (.int .i64)),(.bin .add (.var 9 3 (.int .i64)) (.int .i64 (1)))])))
 (.leaf 8 (.ret [] [(.bool true)]))
theorem eqst_ok:Pth.allS Tryz.prog hk0 9 Keqs eqscuts (eqst.paths []):=
 ⟨Pth.okS_ret (by kernel_rfl) (by kernel_rfl),
  Pth.okS_cut eqsc0 rfl (by kernel_rfl) (by kernel_rfl),
  trivial⟩
theorem eqst0_ok:Pth.allC Tryz.prog hk0 9 Keqs eqscuts eqsc0 (eqst0.paths []):=
 ⟨Pth.okC_ret (by kernel_rfl) (by kernel_rfl),
  Pth.okC_cut eqsc0 rfl (by kernel_rfl) (by kernel_rfl),
  Pth.okC_ret (by kernel_rfl) (by kernel_rfl),
  trivial⟩
noncomputable def eqvc0:Ct:=⟨stTodo (outS Tryz.prog hkEqv 9 Keqv [((.bin .neq (.len (.var 9 0 (.sl 31))) (.len (.var 9 1 (.sl 31)))),false)] 12),[.junk,.x (.var 9 0 (.sl 31)),.func (.func 13) [] [],.junk,.junk,.junk,.junk,.junk,.junk,.junk,.junk,.junk,.junk,.junk,.junk,.x (.var 9 1 (.sl 31)),.x (.var 9 2 (.int .i64)),.x (.var 9 3 (.int .i64)),.junk,.junk,.junk,.junk,.junk,.junk,.junk,.junk,.junk,.junk,.junk,.junk,.junk,.junk],[],[(.sl 31),(.sl 31),(.int .i64),(.int .i64)]⟩
noncomputable def eqvcuts:List Ct:=[eqvc0]
def eqvt:Tr:=.ask (.bin .neq (.len (.var 9 0 (.sl 31))) (.len (.var 9 1 (.sl 31))))
 (.leaf 9 (.ret [] [(.bool false)]))
 (.leaf 12 (.cut 0 [] [(.var 9 1 (.sl 31)),(.var 9 0 (.sl 31)),(.len (.var 9 0 (.sl 31))),(.int .i64 (0))]))
def eqvt0:Tr:=.ask (.bin .lss (.var 9 3 (.int .i64)) (.var 9 2 (.int .i64)))
 (.must (.inr (.var 9 3 (.int .i64)) (.len (.var 9 1 (.sl 31)))) true <|
 .must (.inr (.var 9 3 (.int .i64)) (.len (.var 9 0 (.sl 31)))) true <|
 .must (.app 9 1000000 (.cons (.el (.var 9 1 (.sl 31)) (.var 9 3 (.int .i64)) 0 (.int .i64)) (.cons (.el (.var 9 1 (.sl 31)) (.var 9 3 (.int .i64)) 1 .bool) (.cons (.el (.var 9 1 (.sl 31)) (.var 9 3 (.int .i64)) 2 (.int .i64)) (.cons (.el (.var 9 1 (.sl 31)) (.var 9 3 (.int .i64)) 3 .str) (.cons (.el (.var 9 1 (.sl 31)) (.var 9 3 (.int .i64)) 4 (.sl 9)) (.cons (.el (.var 9 1 (.sl 31)) (.var 9 3 (.int .i64)) 5 (.sl 31)) (.cons (.el (.var 9 0 (.sl 31)) (.var 9 3 (.int .i64)) 0 (.int .i64)) (.cons (.el (.var 9 0 (.sl 31)) (.var 9 3 (.int .i64)) 1 .bool) (.cons (.el (.var 9 0 (.sl 31)) (.var 9 3 (.int .i64)) 2 (.int .i64)) (.cons (.el (.var 9 0 (.sl 31)) (.var 9 3 (.int .i64)) 3 .str) (.cons (.el (.var 9 0 (.sl 31)) (.var 9 3 (.int .i64)) 4 (.sl 9)) (.cons (.el (.var 9 0 (.sl 31)) (.var 9 3 (.int .i64)) 5 (.sl 31)) .nilA)))))))))))) .bool) true <|
 .ask (.app 9 0 (.cons (.el (.var 9 1 (.sl 31)) (.var 9 3 (.int .i64)) 0 (.int .i64)) (.cons (.el (.var 9 1 (.sl 31)) (.var 9 3 (.int .i64)) 1 .bool) (.cons (.el (.var 9 1 (.sl 31)) (.var 9 3 (.int .i64)) 2 (.int .i64)) (.cons (.el (.var 9 1 (.sl 31)) (.var 9 3 (.int .i64)) 3 .str) (.cons (.el (.var 9 1 (.sl 31)) (.var 9 3 (.int .i64)) 4 (.sl 9)) (.cons (.el (.var 9 1 (.sl 31)) (.var 9 3 (.int .i64)) 5 (.sl 31)) (.cons (.el (.var 9 0 (.sl 31)) (.var 9 3 (.int .i64)) 0 (.int .i64)) (.cons (.el (.var 9 0 (.sl 31)) (.var 9 3 (.int .i64)) 1 .bool) (.cons (.el (.var 9 0 (.sl 31)) (.var 9 3 (.int .i64)) 2 (.int .i64)) (.cons (.el (.var 9 0 (.sl 31)) (.var 9 3 (.int .i64)) 3 .str) (.cons (.el (.var 9 0 (.sl 31)) (.var 9 3 (.int .i64)) 4 (.sl 9)) (.cons (.el (.var 9 0 (.sl 31)) (.var 9 3 (.int .i64)) 5 (.sl 31)) .nilA)))))))))))) .bool)
 (.leaf 19 (.cut 0 [] [(.var 9 0 (.sl 31)),(.var 9 1 (.sl 31)),(.var 9 2 (.int .i64)),(.bin .add (.var 9 3 (.int .i64)) (.int .i64 (1)))]))
 (.leaf 18 (.ret [] [(.bool false)])))
 (.leaf 8 (.ret [] [(.bool true)]))
theorem eqvt_ok:Pth.allS Tryz.prog hkEqv 9 Keqv eqvcuts (eqvt.paths []):=
 ⟨Pth.okS_ret (by kernel_rfl) (by kernel_rfl),
  Pth.okS_cut eqvc0 rfl (by kernel_rfl) (by kernel_rfl),
  trivial⟩
theorem eqvt0_ok:Pth.allC Tryz.prog hkEqv 9 Keqv eqvcuts eqvc0 (eqvt0.paths []):=
 ⟨Pth.okC_cut eqvc0 rfl (by kernel_rfl) (by kernel_rfl),
  Pth.okC_ret (by kernel_rfl) (by kernel_rfl),
  Pth.okC_ret (by kernel_rfl) (by kernel_rfl),
  trivial⟩
variable {k:Nat}{G:World→Prop}
def eqL (e:List Cl→List Cl→Bool):List (List Cl)→List (List Cl)→Bool
 |[],[]=>true
 |a::p,b::q=>e a b&&eqL e p q
 |_,_=>false
theorem eqL_len {e:List Cl→List Cl→Bool}:∀ {A B:List (List Cl)},A.length≠B.length→eqL e A B=false
 |[],[],h=>absurd rfl h
 |[],_::_,_=>rfl
 |_::_,[],_=>rfl
 |a::p,b::q,h=>by
  have:=eqL_len (e:=e) (A:=p) (B:=q) (by simpa using h)
  simp[eqL,this]
theorem eqL_iff {e:List Cl→List Cl→Bool}{g:List Cl→List Cl}:∀ {A B:List (List Cl)},(∀ a∈A,∀ b∈B,(e a b=true↔g a=g b))→(eqL e A B=true↔A.map g=B.map g)
 |[],[],_=>by simp[eqL]
 |[],_::_,_=>by simp[eqL]
 |_::_,[],_=>by simp[eqL]
 |a::p,b::q,h=>by
  have ih:=eqL_iff (e:=e) (g:=g) (A:=p) (B:=q) fun x hx y hy=>h x (.tail _ hx) y (.tail _ hy)
  have h0:=h a (.head _) b (.head _)
  simp only[eqL,Bool.and_eq_true,List.map_cons,List.cons.injEq,ih,h0]
def eqS:List Cl→List Cl→Bool
 |[.str a],[.str b]=>a==b
 |_,_=>false
def eqsF:List Cl→List Cl
 |[.sl _ A,.sl _ B]=>[.bool (eqL eqS A B)]
 |_=>[.bool true]
def eqsInv (_:Nat)(c0 c:List Cl):Prop:=∃ nl A ml B i,c0=[.sl nl A,.sl ml B]∧c=[.sl nl A,.sl ml B,.int A.length,.int i]∧0≤i∧i≤A.length∧A.length=B.length∧eqL eqS A B=eqL eqS (A.drop i.toNat) (B.drop i.toNat)
theorem eqsV {tb:Nat→List Cl→Cl}:Vc0 tb 9 Keqs.ks (fun _=>True) eqsInv (fun c r=>r=eqsF c) eqst:=by
 intro cls E hE hw _
 have hw':Wts [.sl 9,.sl 9] cls:=hw
 obtain⟨a,_,rfl,h1,hw'⟩:=hw'.cons_inv
 obtain⟨b,rfl,h2⟩:=hw'.one
 obtain⟨nl,A,rfl,-,-,-⟩:=h1.sl_inv
 obtain⟨ml,B,rfl,-,-,-⟩:=h2.sl_inv
 simp only[eqst,Tr.vc,To.goodT,List.map_cons,List.map_nil,hE.v,X.c_int,X.c_bool,X.c_bin,X.c_len,lenC,X.kd,binD,intD,List.getD_cons_zero,List.getD_cons_succ,Cl.bool.injEq,exists_eq',true_and,and_true,Bool.not_eq_true',Bool.not_eq_false',beq_iff_eq,beq_eq_false_iff_ne,ne_eq]
 exact⟨fun h=>by simp only[eqsF];rw[eqL_len (by omega)],fun h=>⟨nl,A,ml,B,0,rfl,rfl,by omega,by omega,by omega,by simp⟩⟩
theorem eqsV0 {tb:Nat→List Cl→Cl}:Vc (· < ·) lstrM tb 9 eqsc0.ks eqsInv (fun c r=>r=eqsF c) 0 eqst0:=by
 rintro c0 cls E hE hw ⟨nl,A,ml,B,i,rfl,rfl,h1,h2,h4,h3⟩
 have hw':Wts [.sl 9,.sl 9,.int .i64,.int .i64] [.sl nl A,.sl ml B,.int A.length,.int i]:=hw
 obtain⟨_,_,e,g,hw'⟩:=hw'.cons_inv;cases e
 obtain⟨_,_,e,hlen,-,hA⟩:=g.sl_inv;cases e
 obtain⟨_,_,e,g,hw'⟩:=hw'.cons_inv;cases e
 obtain⟨_,_,e,hlen2,-,hB⟩:=g.sl_inv;cases e
 have hlen':(A.length:Int)≤9223372036854775807:=by simp only[maxLen] at hlen;omega
 simp only[eqst0,Tr.vc,To.goodT,List.map_cons,List.map_nil,hE.v,X.c_len,X.c_int,X.c_bool,X.c_bin,X.c_inr,X.c_el,X.kd,isCmp,cond_true,cond_false,List.getD_cons_zero,List.getD_cons_succ,lenC,binD,intD,inrD,elD,Cl.bool.injEq,decide_eq_true_eq,decide_eq_false_iff_not,exists_eq',true_and,h1]
 refine⟨fun hlt=>⟨hlt,by omega,?_⟩,fun hge=>?_⟩
 ·obtain⟨r,hr,hwr,hd,_⟩:=row_at hA (i:=i.toNat) (by omega)
  obtain⟨r',hr',hwr',hd',_⟩:=row_at hB (i:=i.toNat) (by omega)
  obtain⟨c,rfl,hc⟩:=hwr.one
  obtain⟨c',rfl,hc'⟩:=hwr'.one
  obtain⟨s,rfl,-⟩:=hc.str_inv
  obtain⟨s',rfl,-⟩:=hc'.str_inv
  rw[hr,hr']
  have e2:(i+1).toNat=i.toNat+1:=by omega
  simp only[List.getD_cons_zero,strD,Cl.bool.injEq,exists_eq',true_and,Bool.not_eq_true',Bool.not_eq_false']
  rw[i64_id (by omega) (by omega)]
  rw[hd,hd'] at h3
  simp only[eqL,eqS] at h3
  refine⟨fun hm=>?_,fun hm=>⟨⟨nl,A,ml,B,i+1,rfl,rfl,by omega,by omega,h4,?_⟩,by simp only[lstrM];omega⟩⟩
  ·simp only[eqsF,h3,hm,Bool.false_and]
  ·rw[h3,hm,e2,Bool.true_and]
 ·have e1:A.drop i.toNat=[]:=List.drop_eq_nil_of_le (by omega)
  have e2:B.drop i.toNat=[]:=List.drop_eq_nil_of_le (by omega)
  simp only[eqsF,h3,e1,e2,eqL]
theorem eqs_ok (hG:Gd0 k G)(hsz:Tryz.prog.globals.size≤k):∃ tb,Keqs.Sound Tryz.prog k G tb (fun _=>True) eqsF:=by
 letI:Tb:=⟨some (9,fun _ _=>.no)⟩
 exact⟨_,Ctr.ofT (hk:=hk0) Nat.lt_wfRel.wf lstrM eqsInv hG (fun D=>@Hooks.nil _ (dcOf D) _ _ _ _) hsz (L:=9) (by kernel_rfl) rfl (trs:=[eqst0]) (by kernel_rfl) eqst_ok eqsV ⟨⟨eqst0_ok,eqsV0⟩,trivial⟩⟩
def smV (C:List Cl→Int)(n:Nat)(a b:List Cl):Bool:=C a==0&&C b==0&&cmpN n a b==0
def eqvF (C:List Cl→Int)(n:Nat):List Cl→List Cl
 |[.sl _ A,.sl _ B]=>[.bool (eqL (smV C n) A B)]
 |_=>[.bool true]
def eqvInv (C:List Cl→Int)(n:Nat)(_:Nat)(c0 c:List Cl):Prop:=∃ nl A ml B i,c0=[.sl nl A,.sl ml B]∧c=[.sl ml B,.sl nl A,.int A.length,.int i]∧0≤i∧i≤A.length∧A.length=B.length∧eqL (smV C n) A B=eqL (smV C n) (A.drop i.toNat) (B.drop i.toNat)∧SizeOf.sizeOf c0<n
noncomputable def tbEv (C:List Cl→Int)(n:Nat)(f:Nat)(c:List Cl):Cl:=if f=1000000 then .bool (decide (SizeOf.sizeOf c<n)) else (vsameF C n c).getD 0 .no
theorem eqvV {C:List Cl→Int}{n:Nat}:Vc0 (tbEv C n) 9 Keqv.ks (fun c=>SizeOf.sizeOf c<n) (eqvInv C n) (fun c r=>r=eqvF C n c) eqvt:=by
 intro cls E hE hw hn
 have hw':Wts [.sl 31,.sl 31] cls:=hw
 obtain⟨a,_,rfl,h1,hw'⟩:=hw'.cons_inv
 obtain⟨b,rfl,h2⟩:=hw'.one
 obtain⟨nl,A,rfl,-,-,-⟩:=h1.sl_inv
 obtain⟨ml,B,rfl,-,-,-⟩:=h2.sl_inv
 simp only[eqvt,Tr.vc,To.goodT,List.map_cons,List.map_nil,hE.v,X.c_int,X.c_bool,X.c_bin,X.c_len,lenC,X.kd,binD,intD,List.getD_cons_zero,List.getD_cons_succ,Cl.bool.injEq,exists_eq',true_and,and_true,Bool.not_eq_true',Bool.not_eq_false',beq_iff_eq,beq_eq_false_iff_ne,ne_eq]
 exact⟨fun h=>by simp only[eqvF];rw[eqL_len (by omega)],fun h=>⟨nl,A,ml,B,0,rfl,rfl,by omega,by omega,by omega,by simp,hn⟩⟩
theorem eqvV0 {C:List Cl→Int}{n:Nat}:Vc (· < ·) lstrM (tbEv C n) 9 eqvc0.ks (eqvInv C n) (fun c r=>r=eqvF C n c) 0 eqvt0:=by
 rintro c0 cls E hE hw ⟨nl,A,ml,B,i,rfl,rfl,h1,h2,h4,h3,h5⟩
 have hw':Wts [.sl 31,.sl 31,.int .i64,.int .i64] [.sl ml B,.sl nl A,.int A.length,.int i]:=hw
 obtain⟨_,_,e,g,hw'⟩:=hw'.cons_inv;cases e
 obtain⟨_,_,e,hlen,-,hB⟩:=g.sl_inv;cases e
 obtain⟨_,_,e,g,hw'⟩:=hw'.cons_inv;cases e
 obtain⟨_,_,e,hlen2,-,hA⟩:=g.sl_inv;cases e
 have hlen':(A.length:Int)≤9223372036854775807:=by simp only[maxLen] at hlen2;omega
 simp only[eqvt0,Tr.vc,To.goodT,List.map_cons,List.map_nil,hE.v,hE.a,X.d_cons,X.d_nil,X.c_len,X.c_int,X.c_bool,X.c_bin,X.c_inr,X.c_el,X.kd,isCmp,cond_true,cond_false,List.getD_cons_zero,List.getD_cons_succ,lenC,binD,intD,inrD,elD,Cl.bool.injEq,decide_eq_true_eq,decide_eq_false_iff_not,exists_eq',true_and,h1]
 refine⟨fun hlt=>⟨hlt,by omega,?_⟩,fun hge=>?_⟩
 ·obtain⟨r,hr,hwr,hd,hm⟩:=row_at hA (i:=i.toNat) (by omega)
  obtain⟨r',hr',hwr',hd',hm'⟩:=row_at hB (i:=i.toNat) (by omega)
  obtain⟨ka,ba,na,sa,nla,ya,mla,ra,rfl,-⟩:=row6 hwr
  obtain⟨ka',ba',na',sa',nla',ya',mla',ra',rfl,-⟩:=row6 hwr'
  rw[hr,hr']
  have e2:(i+1).toNat=i.toNat+1:=by omega
  have hsz:SizeOf.sizeOf [Cl.int ka,.bool ba,.int na,.str sa,.sl nla ya,.sl mla ra,.int ka',.bool ba',.int na',.str sa',.sl nla' ya',.sl mla' ra']<n:=by
   have z1:=List.sizeOf_lt_of_mem (List.mem_of_getElem? hm)
   have z2:=List.sizeOf_lt_of_mem (List.mem_of_getElem? hm')
   simp only[List.cons.sizeOf_spec,List.nil.sizeOf_spec,Cl.sl.sizeOf_spec] at z1 z2 h5 ⊢
   omega
  have et:tbEv C n 0 [Cl.int ka,.bool ba,.int na,.str sa,.sl nla ya,.sl mla ra,.int ka',.bool ba',.int na',.str sa',.sl nla' ya',.sl mla' ra']=.bool (smV C n [Cl.int ka,.bool ba,.int na,.str sa,.sl nla ya,.sl mla ra] [.int ka',.bool ba',.int na',.str sa',.sl nla' ya',.sl mla' ra']):=by simp[tbEv,vsameF,smV]
  have en:tbEv C n 1000000 [Cl.int ka,.bool ba,.int na,.str sa,.sl nla ya,.sl mla ra,.int ka',.bool ba',.int na',.str sa',.sl nla' ya',.sl mla' ra']=.bool true:=by simp only[tbEv,if_true,hsz,decide_true]
  simp only[List.getD_cons_zero,List.getD_cons_succ,et,en,Cl.bool.injEq,exists_eq',true_and]
  rw[i64_id (by omega) (by omega)]
  rw[hd,hd'] at h3
  simp only[eqL] at h3
  refine⟨fun hm=>⟨⟨nl,A,ml,B,i+1,rfl,rfl,by omega,by omega,h4,?_,h5⟩,by simp only[lstrM];omega⟩,fun hm=>?_⟩
  ·rw[h3,hm,e2,Bool.true_and]
  ·simp only[eqvF,h3,hm,Bool.false_and]
 ·have e1:A.drop i.toNat=[]:=List.drop_eq_nil_of_le (by omega)
  have e2:B.drop i.toNat=[]:=List.drop_eq_nil_of_le (by omega)
  simp only[eqvF,h3,e1,e2,eqL]
theorem eqv_x (hG:Gd0 k G)(hk0:0<k)(hsz:Tryz.prog.globals.size≤k){C:List Cl→Int}{n:Nat}(hC:Go.Exo.Spec Tryz.prog G 37 [vA] (.one (.one iK)) (fun c=>SizeOf.sizeOf c<n) (fun c=>[.int (C c)])):∃ tb,Keqv.Sound Tryz.prog k G tb (fun c=>SizeOf.sizeOf c<n) (eqvF C n):=by
 obtain⟨tbv,hv⟩:=vsame_x hG hk0 hsz hC
 letI:Tb:=⟨some (9,tbEv C n)⟩
 exact⟨_,Ctr.ofT (hk:=hkEqv) Nat.lt_wfRel.wf lstrM (eqvInv C n) hG (fun D=>@Hooks.ctr _ (dcOf D) _ _ _ _ 9 (by kernel_rfl) _ _ _ _ hv (by kernel_rfl) _ _ (one_h (fun c=>by simp[vsameF]) (fun c=>by simp[tbEv])) (some 1000000) (fun c h=>by simpa[tbEv] using h) hG hk0 hsz rfl) hsz (L:=9) (by kernel_rfl) rfl (trs:=[eqvt0]) (by kernel_rfl) eqvt_ok eqvV ⟨⟨eqvt0_ok,eqvV0⟩,trivial⟩⟩
end Go.Proofs.Wo
