/-
  Plain law: what Without answers, twice and of nothing. Own text.
-/
import Derived.Test.YtbddnchfoojacaaGreatDoorWo1
import Derived.Test.YtbddnchfoojacaaGreatDoorSx2
import Derived.WalkKit
import Derived.LoopN
import Derived.OwnWalk
import Derived.Maps.AppendAt
import Derived.Lib.Hide
import Derived.RangeFuncRecord
import Derived.Shelf.Abstract
set_option linter.all false
namespace Go.Proofs.Wo
open Go.Exo Go.Exo.Wo
set_option linter.all false
theorem nrm6 {k:Int}{b:Bool}{n:Int}{s:List UInt8}{nl:Bool}{ys:List (List Cl)}{ml:Bool}{rs:List (List Cl)}{k':Int}{b':Bool}{n':Int}{s':List UInt8}{nl':Bool}{ys':List (List Cl)}{ml':Bool}{rs':List (List Cl)} :
  nrmR [.int k,.bool b,.int n,.str s,.sl nl ys,.sl ml rs]=nrmR [.int k',.bool b',.int n',.str s',.sl nl' ys',.sl ml' rs']↔k=k'∧b=b'∧n=n'∧s=s'∧nrmRs ys=nrmRs ys'∧nrmRs rs=nrmRs rs':=by
 simp[nrmR,nrm]
end Go.Proofs.Wo

namespace Go.Proofs.Wo
open Go.Exo Go.Exo.Wo
set_option linter.all false
def bareB:List Cl→Bool
 |[.int k,.bool b,.int n,.str s,.sl _ ys,.sl _ rs]=>(k==1 || !b)&&(k==2 || k==6 || k==7 || n==0)&&(k==3 || s.isEmpty)&&(k==5 || ys.isEmpty)&&(k==4 || k==5 || rs.isEmpty)
 |_=>false
def keysB (u:List UInt8→Bool):Option (List UInt8)→List (List Cl)→Bool
 |_,[]=>true
 |p,[.str s]::r=>u s&&(match p with|none=>true|some q=>Op.bytesLess q s)&&keysB u (some s) r
 |_,_=>false
def mayR (u:List UInt8→Bool):List Cl→Bool
 |[.int k,.bool b,.int n,.str s,.sl nl ys,.sl ml rs]=>
  decide (0≤k)&&decide (k≤7)&&bareB [.int k,.bool b,.int n,.str s,.sl nl ys,.sl ml rs] && !((k==6 || k==7)&&decide (n<0))&&u s && !(k==5&&ys.length != rs.length)&&keysB u none ys&&rs.attach.all (fun r=>mayR u r.1)
 |_=>false
termination_by r=>SizeOf.sizeOf r
decreasing_by
 have h:=List.sizeOf_lt_of_mem r.2
 simp only[List.cons.sizeOf_spec,Cl.sl.sizeOf_spec] at h ⊢
 omega
theorem mayR_eq (u:List UInt8→Bool)(k:Int)(b:Bool)(n:Int)(s:List UInt8)(nl:Bool)(ys:List (List Cl))(ml:Bool)(rs:List (List Cl)) :
  mayR u [.int k,.bool b,.int n,.str s,.sl nl ys,.sl ml rs]=(decide (0≤k)&&decide (k≤7)&&bareB [.int k,.bool b,.int n,.str s,.sl nl ys,.sl ml rs] && !((k==6 || k==7)&&decide (n<0))&&u s && !(k==5&&ys.length != rs.length)&&keysB u none ys&&rs.all (mayR u)):=by
 rw[mayR]
 congr 1
 rw[Bool.eq_iff_iff]
 simp[List.all_eq_true]
abbrev Sz:=Int×Int×Int×Int
abbrev w64 (n:Int):Int:=IntKind.wrap .i64 n
def szAdd (a b:Sz):Sz:=(w64 (a.1+b.1),if a.2.1<b.2.1 then b.2.1 else a.2.1,w64 (a.2.2.1+b.2.2.1),if a.2.2.2<b.2.2.2 then b.2.2.2 else a.2.2.2)
def keyLen (n:Int)(r:List Cl):Int:=match r with|[.str s]=>w64 (n+s.length)|_=>n
def szR:List Cl→Sz
 |[.int _,.bool _,.int _,.str s,.sl _ ys,.sl _ rs]=>
  (fun z:Sz=>(z.1,w64 (z.2.1+1),z.2.2.1,z.2.2.2)) (rs.attach.foldl (fun a r=>szAdd a (szR r.1)) (1,0,ys.foldl keyLen (s.length:Int),(rs.length:Int)))
 |_=>(0,0,0,0)
termination_by r=>SizeOf.sizeOf r
decreasing_by
 have h:=List.sizeOf_lt_of_mem r.2
 simp only[List.cons.sizeOf_spec,Cl.sl.sizeOf_spec] at h ⊢
 omega
def szRs (a:Sz)(rs:List (List Cl)):Sz:=rs.foldl (fun a r=>szAdd a (szR r)) a
theorem szR_eq (k:Int)(b:Bool)(n:Int)(s:List UInt8)(nl:Bool)(ys:List (List Cl))(ml:Bool)(rs:List (List Cl)) :
  szR [.int k,.bool b,.int n,.str s,.sl nl ys,.sl ml rs]=(fun z:Sz=>(z.1,w64 (z.2.1+1),z.2.2.1,z.2.2.2)) (szRs (1,0,ys.foldl keyLen (s.length:Int),(rs.length:Int)) rs):=by
 rw[szR]
 congr 1
 unfold szRs
 rw[List.foldl_subtype (g:=fun a r=>szAdd a (szR r)) (by intros;rfl)]
 simp
theorem szRs_snoc (a:Sz)(rs:List (List Cl))(r:List Cl):szRs a (rs++[r])=szAdd (szRs a rs) (szR r):=by simp[szRs]
theorem szRs_take {a:Sz}{rs:List (List Cl)}{r:List Cl}{i:Nat}(h:rs[i]? = some r):szRs a (rs.take (i+1))=szAdd (szRs a (rs.take i)) (szR r):=by
 rw[List.take_add_one,h];exact szRs_snoc _ _ _
def checkN (u:List UInt8→Bool)(r:List Cl):Int:=if mayR u r then (if 64<(szR r).2.1∨1048576<(szR r).2.2.1∨65536<(szR r).2.2.2 then 3 else 0) else 110
end Go.Proofs.Wo

namespace Go.Proofs.Wo
open Go.Exo Go.Exo.Wo
set_option maxRecDepth 100000
set_option linter.all false
variable {k:Nat}{G:World→Prop}
set_option maxHeartbeats 4000000
def bareF (c:List Cl):List Cl:=[.bool (bareB c)]
theorem bareX {tb:Nat→List Cl→Cl}:Vc0 tb 9 Kbare.ks (fun _=>True) (fun _ _ _=>True) (fun c r=>r=bareF c) baret:=by
 intro cls E hE hw _
 obtain⟨k,b,n,s,nl,ys,ml,rs,rfl,-⟩:=row6 hw
 simp only[baret,Tr.vc,To.goodT,List.map_cons,List.map_nil,hE.v,X.c_int,X.c_bool,X.c_str,X.c_bin,X.c_un,X.c_len,lenC,X.kd,binD,intD,strD,unD,List.getD_cons_zero,List.getD_cons_succ,isCmp,cond_true,cond_false,Cl.bool.injEq,exists_eq',true_and,and_true,implies_true,List.cons.injEq,bareF,bareB]
 have e1:((ys.length:Int)==0)=ys.isEmpty:=by cases ys<;>simp;omega
 have e2:((rs.length:Int)==0)=rs.isEmpty:=by cases rs<;>simp;omega
 have e3:(s==sB 0 0)=s.isEmpty:=by cases s<;>rfl
 rw[e1,e2,e3]
 generalize (k==1)=a1
 generalize (k==2)=a2
 generalize (k==3)=a3
 generalize (k==4)=a4
 generalize (k==5)=a5
 generalize (k==6)=a6
 generalize (k==7)=a7
 generalize (n==0)=n0
 generalize ys.isEmpty=y0
 generalize rs.isEmpty=r0
 generalize s.isEmpty=s0
 clear e1 e2 e3 hE hw
 cases a1<;>cases a2<;>cases a3<;>cases a4<;>cases a5<;>cases a6<;>cases a7<;>simp<;>cases n0<;>cases y0<;>cases r0<;>cases s0<;>cases b<;>simp
theorem bare_x (hG:Gd0 k G)(hsz:Tryz.prog.globals.size≤k):∃ tb,Kbare.Sound Tryz.prog k G tb (fun _=>True) bareF:=by
 letI:Tb:=⟨some (9,fun _ _=>.no)⟩
 exact⟨_,Ctr.ofT (hk:=hk0) Nat.lt_wfRel.wf (fun _ _=>0) (fun _ _ _=>True) hG (fun D=>@Hooks.nil _ (dcOf D) _ _ _ _) hsz (L:=9) (by kernel_rfl) rfl (cuts:=[]) (trs:=[]) (by kernel_rfl) baret_ok bareX trivial⟩
def sizeF (c:List Cl):List Cl:=[.int (szR c).1,.int (szR c).2.1,.int (szR c).2.2.1,.int (szR c).2.2.2]
noncomputable def tbZ (m:Nat)(f:Nat)(c:List Cl):Cl:=if f=1000000 then .bool (decide (SizeOf.sizeOf c<m)) else (sizeF c).getD f .no
def sizeI (m:Nat)(j:Nat)(c0 c:List Cl):Prop:=∃ (i:Nat)(k:Int)(b:Bool)(n:Int)(s:List UInt8)(nl:Bool)(ys:List (List Cl))(ml:Bool)(rs:List (List Cl)),c0=[.int k,.bool b,.int n,.str s,.sl nl ys,.sl ml rs]∧SizeOf.sizeOf c0<m+1∧
 (j=0→i≤ys.length∧c=[.int ((ys.take i).foldl keyLen s.length),.int rs.length,.int i]++c0)∧
 (j≠0→i≤rs.length∧∃ z,z=szRs (1,0,ys.foldl keyLen s.length,rs.length) (rs.take i)∧c=[.int z.1,.int z.2.1,.int z.2.2.1,.int z.2.2.2,.int i]++c0)
theorem sizeX {m:Nat}{tb:Nat→List Cl→Cl}:Vc0 tb 9 Ksize.ks (fun c=>SizeOf.sizeOf c<m+1) (sizeI m) (fun c r=>r=sizeF c) sizet:=by
 intro cls E hE hw hm
 obtain⟨k,b,n,s,nl,ys,ml,rs,rfl,-⟩:=row6 hw
 simp only[sizet,Tr.vc,To.goodT,List.map_cons,List.map_nil,hE.v,X.c_int,X.c_len,lenC,List.getD_cons_zero,List.getD_cons_succ,and_true]
 exact⟨0,k,b,n,s,nl,ys,ml,rs,rfl,hm,fun _=>⟨Nat.zero_le _,rfl⟩,fun h=>absurd rfl h⟩
theorem sizeX0 {m:Nat}{tb:Nat→List Cl→Cl}:Vc (· < ·) sizeM tb 9 sizec0.ks (sizeI m) (fun c r=>r=sizeF c) 0 sizet0:=by
 rintro c0 cls E hE hw ⟨i,k,b,n,s,nl,ys,ml,rs,rfl,hm,hv,-⟩
 obtain⟨hi,rfl⟩:=hv rfl
 have hw':Wts ([.int .i64,.int .i64,.int .i64]++vK) ([.int ((ys.take i).foldl keyLen s.length),.int rs.length,.int i]++[.int k,.bool b,.int n,.str s,.sl nl ys,.sl ml rs]):=hw
 obtain⟨_,_,e,ha,hb⟩:=wts_app hw'
 obtain⟨_,_,rfl,_,h1⟩:=ha.cons_inv
 obtain⟨_,_,rfl,_,h2⟩:=h1.cons_inv
 obtain⟨_,rfl,_⟩:=h2.one
 simp only[List.cons_append,List.nil_append,List.cons.injEq,true_and] at e
 obtain⟨-,-,-,rfl⟩:=e
 obtain⟨_,_,_,_,_,_,_,_,e,hl,-⟩:=row6 hb
 simp only[List.cons.injEq,Cl.int.injEq,Cl.bool.injEq,Cl.str.injEq,Cl.sl.injEq,and_true,true_and] at e
 obtain⟨-,-,-,-,⟨-,rfl⟩,-,rfl⟩:=e
 obtain⟨q1,q2,q3,q4⟩:=ls2 hl
 simp only[maxLen] at q1 q3
 have h4:(0:Int)≤(i:Int):=by omega
 simp only[List.cons_append,List.nil_append,sizet0,Tr.vc,To.goodT,List.map_cons,List.map_nil,hE.v,X.c_int,X.c_bool,X.c_bin,X.c_len,X.c_inr,X.c_el,lenC,inrD,elD,X.kd,isCmp,cond_true,cond_false,binD,intD,List.getD_cons_zero,List.getD_cons_succ,Cl.bool.injEq,exists_eq',true_and,and_true,decide_eq_true_eq,decide_eq_false_iff_not,h4,Int.toNat_natCast]
 refine⟨fun hlt=>⟨hlt,?_⟩,fun hge=>⟨⟨0,k,b,n,s,nl,ys,ml,rs,rfl,hm,fun h=>absurd h (by decide),fun _=>⟨Nat.zero_le _,_,rfl,?_⟩⟩,?_⟩⟩
 ·obtain⟨r,hr,hwr,hd,hme⟩:=row_at q2 (i:=i) (by omega)
  obtain⟨_,rfl,hc⟩:=hwr.one
  obtain⟨t,rfl,-⟩:=hc.str_inv
  rw[hr]
  simp only[List.getD_cons_zero]
  rw[i64_id (n:=(i:Int)+1) (by omega) (by omega)]
  refine⟨⟨i+1,k,b,n,s,nl,ys,ml,rs,rfl,hm,fun _=>⟨by omega,?_⟩,fun h=>absurd rfl h⟩,?_⟩
  ·rw[List.take_add_one,hme];simp[keyLen]
  ·show (ys.length-((i:Int)+1)).toNat+rs.length+1<(ys.length-(i:Int)).toNat+rs.length+1
   omega
 ·rw[List.take_of_length_le (by omega)];rfl
 ·show (rs.length-(0:Int)).toNat<(ys.length-(i:Int)).toNat+rs.length+1
  omega
theorem sizeX1 {m:Nat}:Vc (· < ·) sizeM (tbZ m) 9 sizec1.ks (sizeI m) (fun c r=>r=sizeF c) 1 sizet1:=by
 rintro c0 cls E hE hw ⟨i,k,b,n,s,nl,ys,ml,rs,rfl,hm,-,hv⟩
 obtain⟨hi,z,hz,rfl⟩:=hv (by decide)
 have hw':Wts ([.int .i64,.int .i64,.int .i64,.int .i64,.int .i64]++vK) ([.int z.1,.int z.2.1,.int z.2.2.1,.int z.2.2.2,.int i]++[.int k,.bool b,.int n,.str s,.sl nl ys,.sl ml rs]):=hw
 obtain⟨_,_,e,ha,hb⟩:=wts_app hw'
 obtain⟨_,_,rfl,_,h1⟩:=ha.cons_inv
 obtain⟨_,_,rfl,_,h2⟩:=h1.cons_inv
 obtain⟨_,_,rfl,_,h3⟩:=h2.cons_inv
 obtain⟨_,_,rfl,_,h5⟩:=h3.cons_inv
 obtain⟨_,rfl,_⟩:=h5.one
 simp only[List.cons_append,List.nil_append,List.cons.injEq,true_and] at e
 obtain⟨-,-,-,-,-,rfl⟩:=e
 obtain⟨_,_,_,_,_,_,_,_,e,hl,-⟩:=row6 hb
 simp only[List.cons.injEq,Cl.int.injEq,Cl.bool.injEq,Cl.str.injEq,Cl.sl.injEq,and_true,true_and] at e
 obtain⟨-,-,-,-,⟨-,rfl⟩,-,rfl⟩:=e
 obtain⟨q1,q2,q3,q4⟩:=ls2 hl
 simp only[maxLen] at q1 q3
 have h4:(0:Int)≤(i:Int):=by omega
 simp only[List.cons_append,List.nil_append,sizet1,Tr.vc,To.goodT,List.map_cons,List.map_nil,hE.v,hE.a,X.d_cons,X.d_nil,X.c_int,X.c_bool,X.c_bin,X.c_len,X.c_inr,X.c_el,lenC,inrD,elD,X.kd,isCmp,cond_true,cond_false,binD,intD,List.getD_cons_zero,List.getD_cons_succ,Cl.bool.injEq,exists_eq',true_and,and_true,decide_eq_true_eq,decide_eq_false_iff_not,h4,Int.toNat_natCast]
 refine⟨fun hlt=>⟨hlt,?_⟩,fun hge=>?_⟩
 ·obtain⟨r,hr,hwr,hd,hme⟩:=row_at q4 (i:=i) (by omega)
  obtain⟨ka,ba,na,sa,nla,ya,mla,ra,rfl,-⟩:=row6 hwr
  rw[hr]
  simp only[List.getD_cons_zero,List.getD_cons_succ]
  have hsz:SizeOf.sizeOf [Cl.int ka,.bool ba,.int na,.str sa,.sl nla ya,.sl mla ra]<m:=by
   have z1:=List.sizeOf_lt_of_mem (List.mem_of_getElem? hme)
   simp only[List.cons.sizeOf_spec,List.nil.sizeOf_spec,Cl.sl.sizeOf_spec] at z1 hm ⊢
   omega
  generalize hx:szR [Cl.int ka,.bool ba,.int na,.str sa,.sl nla ya,.sl mla ra]=x
  have hstep:=szRs_take (a:=(1,0,ys.foldl keyLen (s.length:Int),(rs.length:Int))) hme
  rw[← hz,hx] at hstep
  have t0:∀ j,j<4→tbZ m j [.int ka,.bool ba,.int na,.str sa,.sl nla ya,.sl mla ra]=[Cl.int x.1,.int x.2.1,.int x.2.2.1,.int x.2.2.2].getD j .no:=fun j hj=>by unfold tbZ sizeF;rw[if_neg (by omega),hx]
  rw[t0 0 (by omega),t0 1 (by omega),t0 2 (by omega),t0 3 (by omega)]
  simp only[List.getD_cons_zero,List.getD_cons_succ,Cl.bool.injEq,exists_eq',true_and]
  rw[i64_id (n:=(i:Int)+1) (by omega) (by omega)]
  refine⟨by unfold tbZ;rw[if_pos rfl,decide_eq_true hsz],?_⟩
  have fin:∀ a b' c' d':Int,(a,b',c',d')=szAdd z x→sizeI m 1 [.int k,.bool b,.int n,.str s,.sl nl ys,.sl ml rs] [.int a,.int b',.int c',.int d',.int ((i:Int)+1),.int k,.bool b,.int n,.str s,.sl nl ys,.sl ml rs]:=fun a b' c' d' e=>
   ⟨i+1,k,b,n,s,nl,ys,ml,rs,rfl,hm,fun h=>absurd h (by decide),fun _=>⟨by omega,(a,b',c',d'),by rw[hstep,← e],rfl⟩⟩
  have mea:∀ a b' c' d' a2 b2 c2 d2:Int,sizeM 1 [.int a,.int b',.int c',.int d',.int ((i:Int)+1),.int k,.bool b,.int n,.str s,.sl nl ys,.sl ml rs]<sizeM 1 [.int a2,.int b2,.int c2,.int d2,.int (i:Int),.int k,.bool b,.int n,.str s,.sl nl ys,.sl ml rs]:=fun a b' c' d' a2 b2 c2 d2=>by
   show (rs.length-((i:Int)+1)).toNat<(rs.length-(i:Int)).toNat
   omega
  exact⟨fun ha=>⟨fun hb=>⟨fin _ _ _ _ (by have ha:=of_decide_eq_true ha;have hb:=of_decide_eq_true hb;simp only[szAdd];rw[if_pos ha,if_pos hb]),mea _ _ _ _ _ _ _ _⟩,fun hb=>⟨fin _ _ _ _ (by have ha:=of_decide_eq_true ha;have hb:=of_decide_eq_false hb;simp only[szAdd];rw[if_pos ha,if_neg hb]),mea _ _ _ _ _ _ _ _⟩⟩,fun ha=>⟨fun hb=>⟨fin _ _ _ _ (by have ha:=of_decide_eq_false ha;have hb:=of_decide_eq_true hb;simp only[szAdd];rw[if_neg ha,if_pos hb]),mea _ _ _ _ _ _ _ _⟩,fun hb=>⟨fin _ _ _ _ (by have ha:=of_decide_eq_false ha;have hb:=of_decide_eq_false hb;simp only[szAdd];rw[if_neg ha,if_neg hb]),mea _ _ _ _ _ _ _ _⟩⟩⟩
 ·rw[List.take_of_length_le (by omega)] at hz
  unfold sizeF
  rw[szR_eq,← hz]
theorem size_x (hG:Gd0 k G)(hk0:0<k)(hsz:Tryz.prog.globals.size≤k):∀ n,∃ tb,Ksize.Sound Tryz.prog k G tb (fun c=>SizeOf.sizeOf c<n) sizeF:=by
 intro n
 induction n with
 |zero=>exact⟨fun _ _=>.no,fun w old hold φ pls cls xs _ _ _ _ _ _ _ hp=>absurd hp (by omega)⟩
 |succ m ih=>
  obtain⟨tb,hS⟩:=ih
  letI:Tb:=⟨some (9,tbZ m)⟩
  exact⟨_,Ctr.ofT (hk:=hkSize) Nat.lt_wfRel.wf sizeM (sizeI m) hG (fun D=>@Hooks.ctr _ (dcOf D) _ _ _ _ 9 (by kernel_rfl) _ _ _ _ hS (by kernel_rfl) _ _ (by
     intro cls j c h
     have hj:j<4:=(List.getElem?_eq_some_iff.1 h).1
     rw[Nat.zero_add]
     unfold tbZ
     rw[if_neg (by omega),List.getD_eq_getElem?_getD,h];rfl) (some 1000000) (by
     intro cls h
     simpa[tbZ] using h) hG hk0 hsz rfl) hsz (L:=9) (by kernel_rfl) rfl (K:=Ksize) (cuts:=sizecuts) (trs:=[sizet0,sizet1]) (by kernel_rfl) sizet_ok sizeX ⟨⟨sizet0_ok,sizeX0⟩,⟨sizet1_ok,sizeX1⟩,trivial⟩⟩
end Go.Proofs.Wo

namespace Go.Proofs.Wo
open Go.Exo Go.Exo.Wo
set_option maxRecDepth 100000
set_option linter.all false
variable {k:Nat}{G:World→Prop}
set_option maxHeartbeats 4000000
def uOf (Fu:List Cl→List Cl)(s:List UInt8):Bool:=match (Fu [.str s]).getD 0 .no with|.bool b=>b|_=>false
theorem uOf_eq {Fu:List Cl→List Cl}(hu:∀ c,Bool1 c (Fu c))(s:List UInt8):(Fu [.str s]).getD 0 .no=.bool (uOf Fu s):=by
 obtain⟨b,e⟩:=hu [.str s]
 simp[uOf,e]
def ltO (p:Option (List UInt8))(s:List UInt8):Bool:=match p with|none=>true|some q=>Op.bytesLess q s
theorem keysB_cons (u:List UInt8→Bool)(p:Option (List UInt8))(s:List UInt8)(r:List (List Cl)):keysB u p ([.str s]::r)=(u s&&ltO p s&&keysB u (some s) r):=by
 cases p<;>rfl
def prevK (ys:List (List Cl))(i:Nat):Option (List UInt8):=match i with
 |0=>none
 |i+1=>match ys[i]? with|some [.str s]=>some s|_=>none
def mayIX (u:List UInt8→Bool)(m:Nat)(j:Nat)(c0 c:List Cl):Prop:=∃ (i:Nat)(k:Int)(b:Bool)(n:Int)(s:List UInt8)(nl:Bool)(ys:List (List Cl))(ml:Bool)(rs:List (List Cl)),c0=[.int k,.bool b,.int n,.str s,.sl nl ys,.sl ml rs]∧SizeOf.sizeOf c0<m+1∧c=.int i::c0∧
 (j=0→i≤ys.length∧mayR u c0=(keysB u (prevK ys i) (ys.drop i)&&rs.all (mayR u)))∧
 (j≠0→i≤rs.length∧mayR u c0=(rs.drop i).all (mayR u))
theorem mayX {m:Nat}{Fu:List Cl→List Cl}(hu:∀ c,Bool1 c (Fu c)):Vc0 (tbY bareF Fu (fun c=>[.bool (mayR (uOf Fu) c)]) m) 9 Kmay.ks (fun c=>SizeOf.sizeOf c<m+1) (mayIX (uOf Fu) m) (fun c r=>r=[.bool (mayR (uOf Fu) c)]) mayt:=by
 intro cls E hE hw hm
 obtain⟨k,b,n,s,nl,ys,ml,rs,rfl,hl,-⟩:=row6 hw
 obtain⟨q1,q2,q3,q4⟩:=ls2 hl
 simp only[maxLen] at q1 q3
 have t0:tbY bareF Fu (fun c=>[.bool (mayR (uOf Fu) c)]) m 0 [.int k,.bool b,.int n,.str s,.sl nl ys,.sl ml rs]=.bool (bareB [.int k,.bool b,.int n,.str s,.sl nl ys,.sl ml rs]):=by simp[tbY,bareF]
 have t1:tbY bareF Fu (fun c=>[.bool (mayR (uOf Fu) c)]) m 1 [.str s]=.bool (uOf Fu s):=by simpa[tbY] using uOf_eq hu s
 have t2:tbY bareF Fu (fun c=>[.bool (mayR (uOf Fu) c)]) m 1000001 [.str s]=.bool true:=by simp[tbY]
 have e0:=mayR_eq (uOf Fu) k b n s nl ys ml rs
 have fin:mayR (uOf Fu) [.int k,.bool b,.int n,.str s,.sl nl ys,.sl ml rs]=(keysB (uOf Fu) none ys&&rs.all (mayR (uOf Fu)))→mayIX (uOf Fu) m 0 [.int k,.bool b,.int n,.str s,.sl nl ys,.sl ml rs] [.int 0,.int k,.bool b,.int n,.str s,.sl nl ys,.sl ml rs]:=fun e=>⟨0,k,b,n,s,nl,ys,ml,rs,rfl,hm,rfl,fun _=>⟨Nat.zero_le _,e⟩,fun h=>absurd rfl h⟩
 simp only[mayt,Tr.vc,To.goodT,List.map_cons,List.map_nil,hE.v,hE.a,X.d_cons,X.d_nil,X.c_int,X.c_bool,X.c_bin,X.c_len,lenC,X.kd,isCmp,cond_true,cond_false,binD,intD,List.getD_cons_zero,List.getD_cons_succ,t0,t1,t2,Cl.bool.injEq,exists_eq',true_and,and_true,List.cons.injEq,implies_true,decide_eq_true_eq,decide_eq_false_iff_not]
 generalize mayR (uOf Fu) [.int k,.bool b,.int n,.str s,.sl nl ys,.sl ml rs]=M at e0 fin ⊢
 generalize bareB [.int k,.bool b,.int n,.str s,.sl nl ys,.sl ml rs]=B at e0 ⊢
 generalize keysB (uOf Fu) none ys=Ky at e0 fin
 generalize rs.all (mayR (uOf Fu))=Kd at e0 fin
 generalize uOf Fu s=U at e0 ⊢
 subst e0
 have el:(!((ys.length:Int)==(rs.length:Int)))=(ys.length != rs.length):=by
  rw[Bool.eq_iff_iff];simp;omega
 rw[el]
 refine⟨fun h=>by simp[show ¬ 0≤k by omega],fun h=>⟨fun h2=>by simp[show ¬ k≤7 by omega],fun h2=>?_⟩⟩
 have d1:decide (0≤k)=true:=decide_eq_true (by omega)
 have d2:decide (k≤7)=true:=decide_eq_true (by omega)
 rw[d1,d2] at fin ⊢
 have g6:(k==6)=true→(k==5)=false:=by simp;omega
 have g7:(k==7)=true→(k==5)=false:=by simp;omega
 generalize (k==5)=a5 at fin g6 g7 ⊢
 generalize (k==6)=a6 at fin g6 ⊢
 generalize (k==7)=a7 at fin g7 ⊢
 generalize (ys.length != rs.length)=L at fin ⊢
 clear el d1 d2 t0 t1 t2 hE hw hl hm
 refine⟨fun h3=>⟨fun h4=>⟨fun h5=>by simp[h4,h5],fun h5=>⟨fun h6=>fin (by simp[h3,h4,h5,h6,g6 h4]),fun h6=>by simp[h6]⟩⟩,fun h4=>⟨fun h5=>⟨fun h6=>by simp[h5,h6],fun h6=>⟨fun h7=>fin (by simp[h3,h5,h6,h7,g7 h5]),fun h7=>by simp[h7]⟩⟩,fun h5=>⟨fun h6=>⟨fun h7=>⟨fun h8=>by simp[h7,h8],fun h8=>fin (by simp[h3,h4,h5,h6,h7,h8])⟩,fun h7=>fin (by simp[h3,h4,h5,h6,h7])⟩,fun h6=>by simp[h6]⟩⟩⟩,fun h3=>by simp[h3]⟩
theorem mayX0 {m:Nat}{Fu:List Cl→List Cl}(hu:∀ c,Bool1 c (Fu c)):Vc (· < ·) mayM (tbY bareF Fu (fun c=>[.bool (mayR (uOf Fu) c)]) m) 9 mayc0.ks (mayIX (uOf Fu) m) (fun c r=>r=[.bool (mayR (uOf Fu) c)]) 0 mayt0:=by
 rintro c0 cls E hE hw ⟨i,k,b,n,s,nl,ys,ml,rs,rfl,hm,rfl,hv,-⟩
 obtain⟨hi,hM⟩:=hv rfl
 have hw':Wts (.int .i64::vK) (.int i::[.int k,.bool b,.int n,.str s,.sl nl ys,.sl ml rs]):=hw
 obtain⟨_,_,e,_,hb⟩:=hw'.cons_inv
 simp only[List.cons.injEq] at e
 obtain⟨-,rfl⟩:=e
 obtain⟨_,_,_,_,_,_,_,_,e,hl,-⟩:=row6 hb
 simp only[List.cons.injEq,Cl.int.injEq,Cl.bool.injEq,Cl.str.injEq,Cl.sl.injEq,and_true,true_and] at e
 obtain⟨-,-,-,-,⟨-,rfl⟩,-,rfl⟩:=e
 obtain⟨q1,q2,q3,q4⟩:=ls2 hl
 simp only[maxLen] at q1 q3
 have h4:(0:Int)≤(i:Int):=by omega
 simp only[mayt0,Tr.vc,To.goodT,List.map_cons,List.map_nil,hE.v,hE.a,X.d_cons,X.d_nil,X.c_int,X.c_bool,X.c_bin,X.c_len,X.c_inr,X.c_el,lenC,inrD,elD,X.kd,isCmp,cond_true,cond_false,binD,intD,List.getD_cons_zero,List.getD_cons_succ,Cl.bool.injEq,exists_eq',true_and,and_true,decide_eq_true_eq,decide_eq_false_iff_not,h4,Int.toNat_natCast,List.cons.injEq]
 refine⟨fun hlt=>⟨hlt,?_⟩,fun hge=>⟨⟨0,k,b,n,s,nl,ys,ml,rs,rfl,hm,rfl,fun h=>absurd h (by decide),fun _=>⟨Nat.zero_le _,?_⟩⟩,?_⟩⟩
 ·obtain⟨r,hr,hwr,hd,hme⟩:=row_at q2 (i:=i) (by omega)
  obtain⟨_,rfl,hc⟩:=hwr.one
  obtain⟨t,rfl,-⟩:=hc.str_inv
  have t1:tbY bareF Fu (fun c=>[.bool (mayR (uOf Fu) c)]) m 1 [.str t]=.bool (uOf Fu t):=by simpa[tbY] using uOf_eq hu t
  have t2:tbY bareF Fu (fun c=>[.bool (mayR (uOf Fu) c)]) m 1000001 [.str t]=.bool true:=by simp[tbY]
  rw[hr]
  simp only[List.getD_cons_zero,t1,t2,Cl.bool.injEq,exists_eq',true_and]
  have hdr:ys.drop i=[.str t]::ys.drop (i+1):=by
   obtain⟨hlt',e⟩:=List.getElem?_eq_some_iff.1 hme
   rw[List.drop_eq_getElem_cons hlt',e]
  have hpk:prevK ys (i+1)=some t:=by simp[prevK,hme]
  rw[hdr,keysB_cons] at hM
  rw[i64_id (n:=(i:Int)+1) (by omega) (by omega)]
  have fin:uOf Fu t=true→ltO (prevK ys i) t=true→mayIX (uOf Fu) m 0 [.int k,.bool b,.int n,.str s,.sl nl ys,.sl ml rs] [.int ((i:Int)+1),.int k,.bool b,.int n,.str s,.sl nl ys,.sl ml rs]:=fun x1 x2=>
   ⟨i+1,k,b,n,s,nl,ys,ml,rs,rfl,hm,rfl,fun _=>⟨by omega,by rw[hM,hpk,x1,x2];rfl⟩,fun h=>absurd rfl h⟩
  have mea:mayM 0 [.int ((i:Int)+1),.int k,.bool b,.int n,.str s,.sl nl ys,.sl ml rs]<mayM 0 [.int (i:Int),.int k,.bool b,.int n,.str s,.sl nl ys,.sl ml rs]:=by
   show (ys.length-((i:Int)+1)).toNat+rs.length+1<(ys.length-(i:Int)).toNat+rs.length+1
   omega
  refine⟨fun x1=>⟨fun hp=>?_,fun hp=>⟨fin x1 ?_,mea⟩⟩,fun x1=>by rw[hM,x1];simp⟩
  ·rw[i64_id (n:=(i:Int)-1) (by omega) (by omega)]
   obtain⟨r',hr',hwr',_,hme'⟩:=row_at q2 (i:=((i:Int)-1).toNat) (by omega)
   obtain⟨_,rfl,hc'⟩:=hwr'.one
   obtain⟨t',rfl,-⟩:=hc'.str_inv
   rw[hr']
   have hpv:prevK ys i=some t':=by
    obtain⟨i',rfl⟩:∃ i',i=i'+1:=⟨i-1,by omega⟩
    have:(((i'+1:Nat):Int)-1).toNat=i':=by omega
    rw[this] at hme'
    simp[prevK,hme']
   simp only[List.getD_cons_zero,strD,Cl.bool.injEq,exists_eq',true_and]
   rw[hpv] at hM fin
   refine⟨⟨by omega,by omega⟩,fun x2=>?_,fun x2=>⟨fin x1 ?_,mea⟩⟩
   ·have x3:ltO (some t') t=false:=by simpa[ltO] using x2
    rw[hM,x3];simp
   ·simpa[ltO] using x2
  ·have:i=0:=by omega
   subst this;rfl
 ·rw[hM,List.drop_of_length_le (by omega)];simp[keysB]
 ·show (rs.length-(0:Int)).toNat<(ys.length-(i:Int)).toNat+rs.length+1
  omega
theorem mayX1 {m:Nat}{Fu:List Cl→List Cl}:Vc (· < ·) mayM (tbY bareF Fu (fun c=>[.bool (mayR (uOf Fu) c)]) m) 9 mayc1.ks (mayIX (uOf Fu) m) (fun c r=>r=[.bool (mayR (uOf Fu) c)]) 1 mayt1:=by
 rintro c0 cls E hE hw ⟨i,k,b,n,s,nl,ys,ml,rs,rfl,hm,rfl,-,hv⟩
 obtain⟨hi,hM⟩:=hv (by decide)
 have hw':Wts (.int .i64::vK) (.int i::[.int k,.bool b,.int n,.str s,.sl nl ys,.sl ml rs]):=hw
 obtain⟨_,_,e,_,hb⟩:=hw'.cons_inv
 simp only[List.cons.injEq] at e
 obtain⟨-,rfl⟩:=e
 obtain⟨_,_,_,_,_,_,_,_,e,hl,-⟩:=row6 hb
 simp only[List.cons.injEq,Cl.int.injEq,Cl.bool.injEq,Cl.str.injEq,Cl.sl.injEq,and_true,true_and] at e
 obtain⟨-,-,-,-,⟨-,rfl⟩,-,rfl⟩:=e
 obtain⟨q1,q2,q3,q4⟩:=ls2 hl
 simp only[maxLen] at q1 q3
 have h4:(0:Int)≤(i:Int):=by omega
 simp only[mayt1,Tr.vc,To.goodT,List.map_cons,List.map_nil,hE.v,hE.a,X.d_cons,X.d_nil,X.c_int,X.c_bool,X.c_bin,X.c_len,X.c_inr,X.c_el,lenC,inrD,elD,X.kd,isCmp,cond_true,cond_false,binD,intD,List.getD_cons_zero,List.getD_cons_succ,Cl.bool.injEq,exists_eq',true_and,and_true,decide_eq_true_eq,decide_eq_false_iff_not,h4,Int.toNat_natCast,List.cons.injEq]
 refine⟨fun hlt=>⟨hlt,?_⟩,fun hge=>?_⟩
 ·obtain⟨r,hr,hwr,hd,hme⟩:=row_at q4 (i:=i) (by omega)
  obtain⟨ka,ba,na,sa,nla,ya,mla,ra,rfl,-⟩:=row6 hwr
  rw[hr]
  simp only[List.getD_cons_zero,List.getD_cons_succ]
  have hsz:SizeOf.sizeOf [Cl.int ka,.bool ba,.int na,.str sa,.sl nla ya,.sl mla ra]<m:=by
   have z1:=List.sizeOf_lt_of_mem (List.mem_of_getElem? hme)
   simp only[List.cons.sizeOf_spec,List.nil.sizeOf_spec,Cl.sl.sizeOf_spec] at z1 hm ⊢
   omega
  have hdr:rs.drop i=[Cl.int ka,.bool ba,.int na,.str sa,.sl nla ya,.sl mla ra]::rs.drop (i+1):=by
   obtain⟨hlt',e⟩:=List.getElem?_eq_some_iff.1 hme
   rw[List.drop_eq_getElem_cons hlt',e]
  rw[hdr,List.all_cons] at hM
  have t0:tbY bareF Fu (fun c=>[.bool (mayR (uOf Fu) c)]) m 2 [.int ka,.bool ba,.int na,.str sa,.sl nla ya,.sl mla ra]=.bool (mayR (uOf Fu) [.int ka,.bool ba,.int na,.str sa,.sl nla ya,.sl mla ra]):=by simp[tbY]
  rw[t0]
  simp only[Cl.bool.injEq,exists_eq',true_and]
  rw[i64_id (n:=(i:Int)+1) (by omega) (by omega)]
  refine⟨by unfold tbY;rw[if_pos rfl,decide_eq_true hsz],fun x1=>⟨⟨i+1,k,b,n,s,nl,ys,ml,rs,rfl,hm,rfl,fun h=>absurd h (by decide),fun _=>⟨by omega,by rw[hM,x1];rfl⟩⟩,?_⟩,fun x1=>by rw[hM,x1];rfl⟩
  show (rs.length-((i:Int)+1)).toNat<(rs.length-(i:Int)).toNat
  omega
 ·rw[hM,List.drop_of_length_le (by omega)];rfl
theorem sizeF4 (c:List Cl):Int4 c (sizeF c):=⟨_,_,_,_,rfl⟩
theorem checkX {m:Nat}{u:List UInt8→Bool}:Vc0 (tbC (fun c=>[.bool (mayR u c)]) sizeF m) 9 Kcheck.ks (fun c=>SizeOf.sizeOf c<m) (fun _ _ _=>True) (fun c r=>r=[.int (checkN u c)]) checkt:=by
 intro cls E hE hw hm
 obtain⟨k,b,n,s,nl,ys,ml,rs,rfl,-⟩:=row6 hw
 have t0:tbC (fun c=>[.bool (mayR u c)]) sizeF m 0 [.int k,.bool b,.int n,.str s,.sl nl ys,.sl ml rs]=.bool (mayR u [.int k,.bool b,.int n,.str s,.sl nl ys,.sl ml rs]):=by simp[tbC]
 generalize hx:szR [.int k,.bool b,.int n,.str s,.sl nl ys,.sl ml rs]=x
 have t1:∀ j,j<4→tbC (fun c=>[.bool (mayR u c)]) sizeF m (j+1) [.int k,.bool b,.int n,.str s,.sl nl ys,.sl ml rs]=[Cl.int x.1,.int x.2.1,.int x.2.2.1,.int x.2.2.2].getD j .no:=fun j hj=>by unfold tbC sizeF;rw[if_neg (by omega),if_neg (by omega),if_neg (by omega),hx];rfl
 have t2:tbC (fun c=>[.bool (mayR u c)]) sizeF m 1000000 [.int k,.bool b,.int n,.str s,.sl nl ys,.sl ml rs]=.bool true:=by unfold tbC;rw[if_pos rfl,decide_eq_true hm]
 have t3:tbC (fun c=>[.bool (mayR u c)]) sizeF m 1000001 [.int k,.bool b,.int n,.str s,.sl nl ys,.sl ml rs]=.bool true:=by unfold tbC;rw[if_neg (by decide),if_pos rfl,decide_eq_true hm]
 have u1:=t1 1 (by omega)
 have u2:=t1 2 (by omega)
 have u3:=t1 3 (by omega)
 simp only[checkt,Tr.vc,To.goodT,List.map_cons,List.map_nil,hE.v,hE.a,X.d_cons,X.d_nil,X.c_int,X.c_bool,X.c_bin,X.kd,isCmp,cond_true,cond_false,binD,intD,List.getD_cons_zero,List.getD_cons_succ,t0,t2,t3,u1,u2,u3,Nat.reduceAdd,Cl.bool.injEq,exists_eq',true_and,and_true,List.cons.injEq,implies_true,Cl.int.injEq,decide_eq_true_eq,decide_eq_false_iff_not]
 unfold checkN
 rw[hx]
 refine⟨fun h1=>⟨fun h2=>?_,fun h2=>⟨fun h3=>?_,fun h3=>⟨fun h4=>?_,fun h4=>?_⟩⟩⟩,fun h1=>?_⟩
 ·rw[if_pos h1,if_pos (.inl h2)]
 ·rw[if_pos h1,if_pos (.inr (.inl h3))]
 ·rw[if_pos h1,if_pos (.inr (.inr h4))]
 ·rw[if_pos h1,if_neg (by omega)]
 ·rw[h1];rfl
end Go.Proofs.Wo

namespace Go.Proofs.Wo
open Go.Exo Go.Exo.Wo
set_option maxRecDepth 100000
set_option linter.all false
variable {k:Nat}{G:World→Prop}
end Go.Proofs.Wo

namespace Go.Proofs.Wo
open Go.Exo Go.Exo.Wo
set_option linter.all false
variable {k:Nat}{G:World→Prop}
end Go.Proofs.Wo

namespace Go.Proofs.Wo
open Go.Exo Go.Exo.Wo Go.RowKit
set_option linter.all false
def Dat (φ:Nat→Nat→Option Value)(w:World):Prop:=∀ b o v,φ b o=some v→w.cell? ⟨b,o,none⟩=some v
theorem Dat.lt {φ:Nat→Nat→Option Value}{w:World}(h:Dat φ w){b o:Nat}{v:Value}(hv:φ b o=some v):b<w.heap.size:=World.block_lt_of_cell? w ⟨b,o,none⟩ (h b o v hv)
theorem Dat.below {φ:Nat→Nat→Option Value}{w w':World}(h:Dat φ w)(hb:Below w.heap.size w w'):Dat φ w':=fun b o v hv=>by
 have:=h.lt hv
 rw[hb.cell (p:=⟨b,o,none⟩) this];exact h b o v hv
theorem slice_form {F:Nat→Nat→Value→Prop}{x:Value}{nl:Bool}{rows:List (List Cl)}(h:CR F (.sl 31) x (.sl nl rows)):∃ a cap,x=.slice a rows.length cap∧rows.length≤maxLen∧
  ∀ (i:Nat)(r:List Cl),rows[i]? = some r→∃ blk off y0 y1 y2 y3 y4 y5,a=some ⟨blk,off,none⟩∧F blk (off+i*6) y0∧F blk (off+i*6+1) y1∧F blk (off+i*6+2) y2∧F blk (off+i*6+3) y3∧F blk (off+i*6+4) y4∧F blk (off+i*6+5) y5∧CRs F vK [y0,y1,y2,y3,y4,y5] r:=by
 cases h with
 |nil=>exact⟨none,0,rfl,Nat.zero_le _,fun i r h=>by simp at h⟩
 |e0 _ a=>exact⟨some a,0,rfl,Nat.zero_le _,fun i r h=>by simp at h⟩
 |sl _ blk off len cap _ vs a1 a2 a3 a4 a5 a6=>
  subst a1
  refine⟨_,cap,rfl,by omega,fun i r hr=>?_⟩
  have hl:r.length=6:=a4 i r hr
  obtain⟨c0,c1,c2,c3,c4,c5,rfl⟩:∃ c0 c1 c2 c3 c4 c5,r=[c0,c1,c2,c3,c4,c5]:=by
   match r,hl with
   |[c0,c1,c2,c3,c4,c5],_=>exact⟨_,_,_,_,_,_,rfl⟩
  exact⟨blk,off,vs i 0,vs i 1,vs i 2,vs i 3,vs i 4,vs i 5,rfl,a5 i _ 0 _ hr rfl,a5 i _ 1 _ hr rfl,a5 i _ 2 _ hr rfl,a5 i _ 3 _ hr rfl,a5 i _ 4 _ hr rfl,a5 i _ 5 _ hr rfl,
   .cons (a6 i _ 0 _ _ hr rfl rfl) (.cons (a6 i _ 1 _ _ hr rfl rfl) (.cons (a6 i _ 2 _ _ hr rfl rfl) (.cons (a6 i _ 3 _ _ hr rfl rfl) (.cons (a6 i _ 4 _ _ hr rfl rfl) (.cons (a6 i _ 5 _ _ hr rfl rfl) .nil)))))⟩
variable {k:Nat}{G:World→Prop}
theorem row_form {F:Nat→Nat→Value→Prop}{y0 y1 y2 y3 y4 y5:Value}{r:List Cl}(h:CRs F vK [y0,y1,y2,y3,y4,y5] r):∃ k b n s a4 l4 c4 a5 l5 c5,y0=.int .i64 k∧y1=.bool b∧y2=.int .i64 n∧y3=.string s∧y4=.slice a4 l4 c4∧y5=.slice a5 l5 c5:=by
 have sl:∀ {e:TypeId}{v:Value}{c:Cl},CR F (.sl e) v c→∃ a l c',v=.slice a l c':=fun h=>by cases h<;>exact⟨_,_,_,rfl⟩
 cases h with|cons h0 h=>cases h with|cons h1 h=>cases h with|cons h2 h=>cases h with|cons h3 h=>cases h with|cons h4 h=>cases h with|cons h5 h=>
  obtain⟨a4,l4,c4,rfl⟩:=sl h4
  obtain⟨a5,l5,c5,rfl⟩:=sl h5
  cases h0;cases h1;cases h2;cases h3
  exact⟨_,_,_,_,_,_,_,_,_,_,rfl,rfl,rfl,rfl,rfl,rfl⟩
abbrev c6 (k:Int)(b:Bool)(n:Int)(s:ByteArray)(a4:Option Addr)(l4 c4:Nat)(a5:Option Addr)(l5 c5:Nat):List Value:=[.int .i64 k,.bool b,.int .i64 n,.string s,.slice a4 l4 c4,.slice a5 l5 c5]
end Go.Proofs.Wo
