/-
  utf8.ValidString, on data. Own text.
-/
import Derived.Test.YtihaakenfdkgnaaGreatDoorPart19
import Derived.Test.YtihaakenfdkgnaaGreatDoorPart20
import Derived.Test.YtihaakenfdkgnaaGreatDoorPart18
import Derived.WalkKit
import Derived.LoopN
import Derived.OwnWalk
import Derived.Maps.AppendAt
import Derived.Lib.Hide
import Derived.RangeFuncRecord
import Derived.Shelf.Abstract
import Derived.RangeFuncNested
import Derived.RangeFuncBound
import Derived.RangeFuncCalls
import Derived.RangeFuncLeaves
set_option linter.all false
noncomputable section
namespace Go.Proofs.Wo
open Go.Exo Go.Exo.Wo Go.Lib
variable {k:Nat}{G:World->Prop}
theorem xO (hT:∀ w,G w->Go.Lib.Utf8Tabs 1 2 w):Go.Exo.Spec Tryz.prog G 176 [.one .str] (.one (.one .bool)) (fun _=>True) dY:=by
 intro w φ args cls hG hφ ha _;cases ha with
 |one h1 h2=>
 cases h2;cases h1 with
 |str s hs=>
 have h:=Any.utf8_ValidString Tryz.laysValid s w (by simpa[maxLen] using hs) (hT w hG);refine Calls.mono (show Calls Tryz.prog 176 #[.string s] w _ from h) ?_;rintro e w' ⟨rfl,hb⟩;have hx:=fc hb;refine⟨_,φ,rfl,fun b o v h=>h,fun b o v h=>?_,fun b o v h _=>h,hx,.one (.bool _) .nil⟩;have h1:=hφ b o v h;rw[<- h1];exact World.cell?_of_block (hx.old b (World.block_lt_of_cell? w ⟨b,o,none⟩ h1))
theorem pmay_ok (hG:Gd0 k G)(hk0:0<k)(hsz:Tryz.prog.globals.size<=k)(hT:∀ w,G w->Go.Lib.Utf8Tabs 1 2 w):∃ tb,qN.Sound Tryz.prog k G tb (fun _=>True) oZ:=pmay_x hG hk0 hsz (xO hT)
end Go.Proofs.Wo
end

noncomputable section
namespace Go.Proofs.Wo
open Go.Exo Go.Exo.Wo Go.Lib
set_option maxRecDepth 100000
def vcmpcuts:List Ct:=[]
def vcmpt:Tr:=(fun(a b d e f g h:X)(c:Kd)=>.must (.app 9 1000000 b .bool) true <| .ask (.bin .neq (.app 9 0 b c) d) (.leaf 55 (.ret [] [d])) (.must (.app 9 1000000 a .bool) true <| .ask (.bin .neq (.app 9 0 a c) d) (.leaf 79 (.ret [] [d])) (.must (.app 9 1000001 (.cons (.var 9 0 c) (.cons g (.cons (.var 9 2 c) (.cons h (.cons f (.cons e a)))))) .bool) true <| .leaf 90 (.ret [] [(.app 9 1 (.cons (.var 9 0 c) (.cons g (.cons (.var 9 2 c) (.cons h (.cons f (.cons e a)))))) c)])))) (.cons (.var 9 6 (.int .i64)) (.cons (.var 9 7 .bool) (.cons (.var 9 8 (.int .i64)) (.cons (.var 9 9 .str) (.cons (.var 9 10 (.sl 9)) (.cons (.var 9 11 (.sl 29)) .nilA)))))) (.cons (.var 9 0 (.int .i64)) (.cons (.var 9 1 .bool) (.cons (.var 9 2 (.int .i64)) (.cons (.var 9 3 .str) (.cons (.var 9 4 (.sl 9)) (.cons (.var 9 5 (.sl 29)) .nilA)))))) (.int .i64 (0)) (.var 9 5 (.sl 29)) (.var 9 4 (.sl 9)) (.var 9 1 .bool) (.var 9 3 .str) (.int .i64)
theorem vcmpt_ok:Pth.allS Tryz.prog hkVcmp 9 Kvcmp vcmpcuts (vcmpt.paths []):=
 ⟨Pth.rS,Pth.rS,Pth.rS,
  trivial⟩
def o6:Ct:=(fun(a b:Kd)=>(⟨bf (outS Tryz.prog tg 9 qO [] 7),[.x (.var 9 0 b),.x (.var 9 1 b),.func (.func 44) [] [],.junk,.junk,.junk,.junk,.junk,.junk,.junk,.junk,.x (.var 9 0 b),.x (.var 9 2 a),.x (.var 9 3 a),.junk,.junk,.junk,.junk,.junk,.junk,.junk,.junk,.junk,.junk,.junk,.junk,.junk,.junk,.junk,.junk,.junk,.junk,.junk,.junk,.junk,.junk,.junk,.junk,.junk],[],[b,b,a,a]⟩:Ct)) (.int .i64) (.sl 29)
def vR:List Ct:=[o6]
def cmpft:Tr:=(fun(a:X)=>.leaf 7 (.cut 0 [] [a,(.var 9 1 (.sl 29)),(.len a),(.int .i64 (0))])) (.var 9 0 (.sl 29))
def tE:Tr:=(fun(a b c d f g:X)(e:Kd)=>.ask (.bin .lss b (.var 9 2 e)) (.must (.inr b (.len d)) true <| .ask (.bin .geq b (.len c)) (.leaf 16 (.ret [] [f])) (.must (.inr b (.len c)) true <| .must (.app 9 1000000 a .bool) true <| .ask (.bin .neq (.app 9 0 a e) g) (.leaf 25 (.ret [] [(.app 9 0 a e)])) (.leaf 26 (.cut 0 [] [d,c,(.var 9 2 e),(.bin .add b f)])))) (.ask (.bin .lss (.len d) (.len c)) (.leaf 12 (.ret [] [(.int .i64 (-1))])) (.leaf 13 (.ret [] [g])))) (.cons (.el (.var 9 0 (.sl 29)) (.var 9 3 (.int .i64)) 0 (.int .i64)) (.cons (.el (.var 9 0 (.sl 29)) (.var 9 3 (.int .i64)) 1 .bool) (.cons (.el (.var 9 0 (.sl 29)) (.var 9 3 (.int .i64)) 2 (.int .i64)) (.cons (.el (.var 9 0 (.sl 29)) (.var 9 3 (.int .i64)) 3 .str) (.cons (.el (.var 9 0 (.sl 29)) (.var 9 3 (.int .i64)) 4 (.sl 9)) (.cons (.el (.var 9 0 (.sl 29)) (.var 9 3 (.int .i64)) 5 (.sl 29)) (.cons (.el (.var 9 1 (.sl 29)) (.var 9 3 (.int .i64)) 0 (.int .i64)) (.cons (.el (.var 9 1 (.sl 29)) (.var 9 3 (.int .i64)) 1 .bool) (.cons (.el (.var 9 1 (.sl 29)) (.var 9 3 (.int .i64)) 2 (.int .i64)) (.cons (.el (.var 9 1 (.sl 29)) (.var 9 3 (.int .i64)) 3 .str) (.cons (.el (.var 9 1 (.sl 29)) (.var 9 3 (.int .i64)) 4 (.sl 9)) (.cons (.el (.var 9 1 (.sl 29)) (.var 9 3 (.int .i64)) 5 (.sl 29)) .nilA)))))))))))) (.var 9 3 (.int .i64)) (.var 9 1 (.sl 29)) (.var 9 0 (.sl 29)) (.int .i64 (1)) (.int .i64 (0)) (.int .i64)
theorem cmpft_ok:Pth.allS Tryz.prog tg 9 qO vR (cmpft.paths []):=
 ⟨Pth.cS o6 rfl,
  trivial⟩
theorem AT:Pth.allC Tryz.prog tg 9 qO vR o6 (tE.paths []):=
 ⟨Pth.rC,Pth.rC,Pth.cC o6 rfl,Pth.rC,Pth.rC,
  trivial⟩
def mcmpcuts:List Ct:=[]
def mcmpt:Tr:=(fun(a:X)=>.must (.app 9 1000000 a .bool) true <| .leaf 6 (.ret [] [(.app 9 0 a (.int .i64))])) (.cons (.var 9 0 (.sl 29)) (.cons (.var 9 1 (.sl 29)) .nilA))
theorem mcmpt_ok:Pth.allS Tryz.prog hkMcmp 9 Kmcmp mcmpcuts (mcmpt.paths []):=
 ⟨Pth.rS,
  trivial⟩
def lesscuts:List Ct:=[]
def lesst:Tr:=(fun(a:X)=>.must (.app 9 1000000 a .bool) true <| .leaf 6 (.ret [] [(.bin .lss (.app 9 0 a (.int .i64)) (.int .i64 (0)))])) (.cons (.var 9 0 (.sl 29)) (.cons (.var 9 1 (.sl 29)) .nilA))
theorem lesst_ok:Pth.allS Tryz.prog hkLess 9 Kless lesscuts (lesst.paths []):=
 ⟨Pth.rS,
  trivial⟩
variable {k:Nat}{G:World->Prop}
def vcN (C:List Cl->Int)(n:Nat)(a b:List Cl):Int:=if C a=0 then if C b=0 then cmpN n a b else 0 else 0
def o7 (C:List Cl->Int)(n:Nat)(c:List Cl):List Cl:=[.int (vcN C n (c.take 6) (c.drop 6))]
def tbVc (C:List Cl->Int)(n:Nat)(f:Nat)(c:List Cl):Cl:=if f=1000000 then .bool (decide (SizeOf.sizeOf c<n)) else if f=1000001 then .bool (decide (SizeOf.sizeOf c<n)) else if f=0 then .int (C c) else (e8 n c).getD 0 .no
theorem vcmpV {C:List Cl->Int}{n:Nat}:Vc0 (tbVc C n) 9 Kvcmp.ks (fun c=>SizeOf.sizeOf c<n) (fun _ _ _=>True) (fun c r=>r=o7 C n c) vcmpt:=by
 intro cls E hE hw hm;have hw':Wts (vK++vK) cls:=hw;obtain⟨a,b,rfl,ha,hb⟩:=ck hw';obtain⟨k,b0,i,s,nl,ys,ml,rs,rfl,-⟩:=row6 ha;obtain⟨k',b0',i',s',nl',ys',ml',rs',rfl,-⟩:=row6 hb;simp only[List.cons_append,List.nil_append] at hm
 have h1:SizeOf.sizeOf [Cl.int k,.bool b0,.int i,.str s,.sl nl ys,.sl ml rs]<n:=by
  simp only[List.cons.sizeOf_spec,List.nil.sizeOf_spec] at hm ⊢;omega
 have h2:SizeOf.sizeOf [Cl.int k',.bool b0',.int i',.str s',.sl nl' ys',.sl ml' rs']<n:=by
  simp only[List.cons.sizeOf_spec,List.nil.sizeOf_spec] at hm ⊢;omega
 have n0:∀ c,SizeOf.sizeOf c<n->tbVc C n 1000000 c=.bool true:=fun c h=>by simp only[tbVc,if_true,h,decide_true]
 have n1:∀ c,SizeOf.sizeOf c<n->tbVc C n 1000001 c=.bool true:=fun c h=>by simp only[tbVc,if_true,h,decide_true,show ¬ (1000001=1000000) by decide,if_false]
 have e0:∀ c,tbVc C n 0 c=.int (C c):=fun c=>by simp[tbVc]
 have e1:tbVc C n 1 [.int k,.bool b0,.int i,.str s,.sl nl ys,.sl ml rs,.int k',.bool b0',.int i',.str s',.sl nl' ys',.sl ml' rs']=.int (cmpN n [.int k,.bool b0,.int i,.str s,.sl nl ys,.sl ml rs] [.int k',.bool b0',.int i',.str s',.sl nl' ys',.sl ml' rs']):=by simp[tbVc,e8]
 have ef:o7 C n [.int k,.bool b0,.int i,.str s,.sl nl ys,.sl ml rs,.int k',.bool b0',.int i',.str s',.sl nl' ys',.sl ml' rs']=[.int (vcN C n [.int k,.bool b0,.int i,.str s,.sl nl ys,.sl ml rs] [.int k',.bool b0',.int i',.str s',.sl nl' ys',.sl ml' rs'])]:=by simp[o7]
 simp only[vcmpt,Tr.vc,To.goodT,List.map_cons,List.map_nil,hE.v,hE.a,X.d_cons,X.d_nil,X.c_int,X.c_bool,X.c_bin,X.kd,aL,cond_true,cond_false,binD,intD,ak,al,List.cons_append,List.nil_append,n0 _ h1,n0 _ h2,n1 _ hm,e0,e1,ef,Cl.bool.injEq,exists_eq',true_and,and_true,Bool.not_eq_true',Bool.not_eq_false',beq_iff_eq,beq_eq_false_iff_ne,ne_eq];refine⟨fun h=>?_,fun h=>⟨fun h'=>?_,fun h'=>?_⟩⟩
 ·simp[vcN,h]
 ·simp[vcN,h,h']
 ·simp[vcN,h,h']
theorem vcmp_x (hG:Gd0 k G)(hk0:0<k)(hsz:Tryz.prog.globals.size<=k){C:List Cl->Int}{n:Nat}(hC:Go.Exo.Spec Tryz.prog G 79 [vA] (.one (.one iK)) (fun c=>SizeOf.sizeOf c<n) (fun c=>[.int (C c)])):∃ tb,Kvcmp.Sound Tryz.prog k G tb (fun c=>SizeOf.sizeOf c<n) (o7 C n):=by
 obtain⟨tb5,h5⟩:=comp_ok hG hk0 hsz n
 letI:Tb:=⟨some (9,tbVc C n)⟩
 exact⟨_,Ctr.ofT (hk:=hkVcmp) Nat.lt_wfRel.wf (fun _ _=>0) (fun _ _ _=>True) hG (fun D=>@aq.or _ (dcOf D) _ _ _ _ _ _
    (aq.specP hC (bm (fun c=>by simp) (fun c=>by simp[tbVc])) (fun c h=>by simpa[tbVc] using h) hG hk0 rfl D)
    (@aq.ctr _ (dcOf D) _ _ _ _ 9 (by kernel_rfl) _ _ _ _ h5 (by kernel_rfl) _ _ (bm (fun c=>by simp[e8]) (fun c=>by simp[tbVc])) (some 1000001) (fun c h=>by simpa[tbVc] using h) hG hk0 hsz rfl))
   hsz (L:=9) (by kernel_rfl) rfl (trs:=[]) (by kernel_rfl) vcmpt_ok vcmpV trivial⟩
def cO (C:List Cl->Int)(n:Nat):List Cl->List Cl|[.sl _ A,.sl _ B]=>[.int (lsC (vcN C n) A B)]|_=>[]
def tF (C:List Cl->Int)(m n:Nat)(_:Nat)(c0 c:List Cl):Prop:=∃ nl A ml B i,c0=[.sl nl A,.sl ml B]/\c=[.sl nl A,.sl ml B,.int A.length,.int i]/\0<=i/\i<=A.length/\lsC (vcN C n) A B=lsC (vcN C n) (A.drop i.toNat) (B.drop i.toNat)/\i<=B.length/\SizeOf.sizeOf c0<m
def tbCf (C:List Cl->Int)(m n:Nat)(f:Nat)(c:List Cl):Cl:=if f=1000000 then .bool (decide (SizeOf.sizeOf c<m)) else if f=0 then (o7 C n c).getD 0 .no else .no
theorem cmpfV {C:List Cl->Int}{m n:Nat}:Vc0 (tbCf C m n) 9 qO.ks (fun c=>SizeOf.sizeOf c<m) (tF C m n) (fun c r=>r=cO C n c) cmpft:=by
 intro cls E hE hw hm;have hw':Wts [.sl 29,.sl 29] cls:=hw;obtain⟨a,_,rfl,h1,hw'⟩:=hw'.cons_inv;obtain⟨b,rfl,h2⟩:=hw'.one;obtain⟨nl,A,rfl,-,-,-⟩:=h1.sl_inv;obtain⟨ml,B,rfl,-,-,-⟩:=h2.sl_inv;simp only[cmpft,Tr.vc,To.goodT,List.map_cons,List.map_nil,hE.v,X.c_int,X.c_len,lenC,ak,al,and_true];exact⟨nl,A,ml,B,0,rfl,rfl,by omega,by omega,by simp,by omega,hm⟩
theorem cmpfV0 {C:List Cl->Int}{m n:Nat}:Vc (· < ·) kJ (tbCf C m n) 9 o6.ks (tF C m n) (fun c r=>r=cO C n c) 0 tE:=by
 rintro c0 cls E hE hw ⟨nl,A,ml,B,i,rfl,rfl,h1,h2,h3,h4,h5⟩;have hw':Wts [.sl 29,.sl 29,.int .i64,.int .i64] [.sl nl A,.sl ml B,.int A.length,.int i]:=hw;obtain⟨_,_,e,g,hw'⟩:=hw'.cons_inv;cases e;obtain⟨_,_,e,hlen,-,hA⟩:=g.sl_inv;cases e;obtain⟨_,_,e,g,hw'⟩:=hw'.cons_inv;cases e;obtain⟨_,_,e,hlen2,-,hB⟩:=g.sl_inv;cases e;have hlen':(A.length:Int)<=9223372036854775807:=by simp only[maxLen] at hlen;omega
 simp only[tE,Tr.vc,To.goodT,List.map_cons,List.map_nil,hE.v,hE.a,X.d_cons,X.d_nil,X.c_len,X.c_int,X.c_bool,X.c_bin,X.c_inr,X.c_el,X.kd,aL,cond_true,cond_false,ak,al,lenC,binD,intD,inrD,elD,Cl.bool.injEq,decide_eq_true_eq,decide_eq_false_iff_not,exists_eq',true_and,h1];refine⟨fun hlt=>⟨hlt,fun hge=>?_,fun hge=>?_⟩,fun hge=>⟨fun hl=>?_,fun hl=>?_⟩⟩
 ·have e1:B.drop i.toNat=[]:=List.drop_eq_nil_of_le (by omega)
  obtain⟨r,hr,hwr,hd,_⟩:=aE hA (i:=i.toNat) (by omega);simp only[cO,h3,hd,e1,lsC]
 ·obtain⟨r,hr,hwr,hd,hm⟩:=aE hA (i:=i.toNat) (by omega)
  obtain⟨r',hr',hwr',hd',hm'⟩:=aE hB (i:=i.toNat) (by omega);obtain⟨ka,ba,na,sa,nla,ya,mla,ra,rfl,-⟩:=row6 hwr;obtain⟨ka',ba',na',sa',nla',ya',mla',ra',rfl,-⟩:=row6 hwr';rw[hr,hr'];have e2:(i+1).toNat=i.toNat+1:=by omega
  have hsz:SizeOf.sizeOf [Cl.int ka,.bool ba,.int na,.str sa,.sl nla ya,.sl mla ra,.int ka',.bool ba',.int na',.str sa',.sl nla' ya',.sl mla' ra']<m:=by
   have z1:=List.sizeOf_lt_of_mem (List.mem_of_getElem? hm);have z2:=List.sizeOf_lt_of_mem (List.mem_of_getElem? hm');simp only[List.cons.sizeOf_spec,List.nil.sizeOf_spec,Cl.sl.sizeOf_spec] at z1 z2 h5 ⊢;omega
  have et:tbCf C m n 0 [Cl.int ka,.bool ba,.int na,.str sa,.sl nla ya,.sl mla ra,.int ka',.bool ba',.int na',.str sa',.sl nla' ya',.sl mla' ra']=.int (vcN C n [Cl.int ka,.bool ba,.int na,.str sa,.sl nla ya,.sl mla ra] [.int ka',.bool ba',.int na',.str sa',.sl nla' ya',.sl mla' ra']):=by simp[tbCf,o7]
  have en:tbCf C m n 1000000 [Cl.int ka,.bool ba,.int na,.str sa,.sl nla ya,.sl mla ra,.int ka',.bool ba',.int na',.str sa',.sl nla' ya',.sl mla' ra']=.bool true:=by simp only[tbCf,if_true,hsz,decide_true]
  generalize hc:vcN C n [Cl.int ka,.bool ba,.int na,.str sa,.sl nla ya,.sl mla ra] [.int ka',.bool ba',.int na',.str sa',.sl nla' ya',.sl mla' ra']=q at et;simp only[ak,al,et,en,intD,Cl.bool.injEq,exists_eq',true_and,Bool.not_eq_true',Bool.not_eq_false',beq_iff_eq,beq_eq_false_iff_ne,ne_eq];rw[aH (by omega) (by omega)];refine⟨by omega,fun hm=>?_,fun hm=>⟨⟨nl,A,ml,B,i+1,rfl,rfl,by omega,by omega,?_,by omega,h5⟩,by simp only[kJ];omega⟩⟩
  ·simp[cO,h3,hd,hd',lsC,hc,hm]
  ·rw[h3,hd,hd',e2];simp[lsC,hc,hm]
 ·have e1:A.drop i.toNat=[]:=List.drop_eq_nil_of_le (by omega)
  obtain⟨r',hr',hwr',hd',_⟩:=aE hB (i:=i.toNat) (by omega);simp only[cO,h3,e1,hd',lsC]
 ·have e1:A.drop i.toNat=[]:=List.drop_eq_nil_of_le (by omega)
  have e2:B.drop i.toNat=[]:=List.drop_eq_nil_of_le (by omega);simp only[cO,h3,e1,e2,lsC]
theorem cmpf_x (hG:Gd0 k G)(hk0:0<k)(hsz:Tryz.prog.globals.size<=k){C:List Cl->Int}{n:Nat}(hC:Go.Exo.Spec Tryz.prog G 79 [vA] (.one (.one iK)) (fun c=>SizeOf.sizeOf c<n) (fun c=>[.int (C c)])):∃ tb,qO.Sound Tryz.prog k G tb (fun c=>SizeOf.sizeOf c<n) (cO C n):=by
 obtain⟨tbv,hv⟩:=vcmp_x hG hk0 hsz hC
 letI:Tb:=⟨some (9,tbCf C n n)⟩
 exact⟨_,Ctr.ofT (hk:=tg) Nat.lt_wfRel.wf kJ (tF C n n) hG (fun D=>@aq.ctr _ (dcOf D) _ _ _ _ 9 (by kernel_rfl) _ _ _ _ hv (by kernel_rfl) _ _ (bm (fun c=>by simp[o7]) (fun c=>by simp[tbCf])) (some 1000000) (fun c h=>by simpa[tbCf] using h) hG hk0 hsz rfl) hsz (L:=9) (by kernel_rfl) rfl (trs:=[tE]) (by kernel_rfl) cmpft_ok cmpfV ⟨⟨AT,cmpfV0⟩,trivial⟩⟩
def tbMc (C:List Cl->Int)(n:Nat)(f:Nat)(c:List Cl):Cl:=if f=1000000 then .bool (decide (SizeOf.sizeOf c<n)) else (cO C n c).getD 0 .no
theorem re (C:List Cl->Int)(n:Nat)(c:List Cl):(cO C n c).length<=1:=by unfold cO;split<;>simp
theorem mcmpV {C:List Cl->Int}{n:Nat}:Vc0 (tbMc C n) 9 Kmcmp.ks (fun c=>SizeOf.sizeOf c<n) (fun _ _ _=>True) (fun c r=>r=cO C n c) mcmpt:=by
 intro cls E hE hw hm;have hw':Wts [.sl 29,.sl 29] cls:=hw;obtain⟨a,_,rfl,h1,hw'⟩:=hw'.cons_inv;obtain⟨b,rfl,h2⟩:=hw'.one;obtain⟨nl,A,rfl,-,-,-⟩:=h1.sl_inv;obtain⟨ml,B,rfl,-,-,-⟩:=h2.sl_inv;have n0:tbMc C n 1000000 [.sl nl A,.sl ml B]=.bool true:=by simp only[tbMc,if_true,hm,decide_true]
 have e0:tbMc C n 0 [.sl nl A,.sl ml B]=.int (lsC (vcN C n) A B):=by simp[tbMc,cO]
 simp only[mcmpt,Tr.vc,To.goodT,List.map_cons,List.map_nil,hE.v,hE.a,X.d_cons,X.d_nil,X.c_int,X.c_bool,ak,al,n0,e0,Cl.bool.injEq,exists_eq',true_and,and_true,cO]
theorem mcmp_x (hG:Gd0 k G)(hk0:0<k)(hsz:Tryz.prog.globals.size<=k){C:List Cl->Int}{n:Nat}(hC:Go.Exo.Spec Tryz.prog G 79 [vA] (.one (.one iK)) (fun c=>SizeOf.sizeOf c<n) (fun c=>[.int (C c)])):∃ tb,Kmcmp.Sound Tryz.prog k G tb (fun c=>SizeOf.sizeOf c<n) (cO C n):=by
 obtain⟨tbv,hv⟩:=cmpf_x hG hk0 hsz hC
 letI:Tb:=⟨some (9,tbMc C n)⟩
 exact⟨_,Ctr.ofT (hk:=hkMcmp) Nat.lt_wfRel.wf (fun _ _=>0) (fun _ _ _=>True) hG (fun D=>@aq.ctr _ (dcOf D) _ _ _ _ 9 (by kernel_rfl) _ _ _ _ hv (by kernel_rfl) _ _ (bm (re C n) (fun c=>by simp[tbMc])) (some 1000000) (fun c h=>by simpa[tbMc] using h) hG hk0 hsz rfl) hsz (L:=9) (by kernel_rfl) rfl (trs:=[]) (by kernel_rfl) mcmpt_ok mcmpV trivial⟩
def rf (C:List Cl->Int)(n:Nat):List Cl->List Cl|[.sl _ A,.sl _ B]=>[.bool (decide (lsC (vcN C n) A B<0))]|_=>[]
theorem lessV {C:List Cl->Int}{n:Nat}:Vc0 (tbMc C n) 9 Kless.ks (fun c=>SizeOf.sizeOf c<n) (fun _ _ _=>True) (fun c r=>r=rf C n c) lesst:=by
 intro cls E hE hw hm;have hw':Wts [.sl 29,.sl 29] cls:=hw;obtain⟨a,_,rfl,h1,hw'⟩:=hw'.cons_inv;obtain⟨b,rfl,h2⟩:=hw'.one;obtain⟨nl,A,rfl,-,-,-⟩:=h1.sl_inv;obtain⟨ml,B,rfl,-,-,-⟩:=h2.sl_inv;have n0:tbMc C n 1000000 [.sl nl A,.sl ml B]=.bool true:=by simp only[tbMc,if_true,hm,decide_true]
 have e0:tbMc C n 0 [.sl nl A,.sl ml B]=.int (lsC (vcN C n) A B):=by simp[tbMc,cO]
 simp only[lesst,Tr.vc,To.goodT,List.map_cons,List.map_nil,hE.v,hE.a,X.d_cons,X.d_nil,X.c_int,X.c_bool,X.c_bin,X.kd,aL,cond_true,cond_false,binD,intD,ak,al,n0,e0,Cl.bool.injEq,exists_eq',true_and,and_true,rf]
theorem less_x (hG:Gd0 k G)(hk0:0<k)(hsz:Tryz.prog.globals.size<=k){C:List Cl->Int}{n:Nat}(hC:Go.Exo.Spec Tryz.prog G 79 [vA] (.one (.one iK)) (fun c=>SizeOf.sizeOf c<n) (fun c=>[.int (C c)])):∃ tb,Kless.Sound Tryz.prog k G tb (fun c=>SizeOf.sizeOf c<n) (rf C n):=by
 obtain⟨tbv,hv⟩:=mcmp_x hG hk0 hsz hC
 letI:Tb:=⟨some (9,tbMc C n)⟩
 exact⟨_,Ctr.ofT (hk:=hkLess) Nat.lt_wfRel.wf (fun _ _=>0) (fun _ _ _=>True) hG (fun D=>@aq.ctr _ (dcOf D) _ _ _ _ 9 (by kernel_rfl) _ _ _ _ hv (by kernel_rfl) _ _ (bm (re C n) (fun c=>by simp[tbMc])) (some 1000000) (fun c h=>by simpa[tbMc] using h) hG hk0 hsz rfl) hsz (L:=9) (by kernel_rfl) rfl (trs:=[]) (by kernel_rfl) lesst_ok lessV trivial⟩
end Go.Proofs.Wo
end

noncomputable section
namespace Go.Proofs.Wo
open Go.Exo Go.Exo.Wo Go.Lib
set_option maxRecDepth 100000
def AU:List Ct:=[]
def xP:Tr:=(fun(a:Kd)=>.ask (.bin .lss (.var 9 0 a) (.var 9 1 a)) (.leaf 9 (.ret [] [(.int .i64 (-1))])) (.ask (.bin .gtr (.var 9 0 a) (.var 9 1 a)) (.leaf 14 (.ret [] [(.int .i64 (1))])) (.leaf 15 (.ret [] [(.int .i64 (0))])))) (.int .i64)
theorem AV:Pth.allS Tryz.prog hk0 9 mD AU (xP.paths []):=
 ⟨Pth.rS,Pth.rS,Pth.rS,
  trivial⟩
def kO:Ct:=(fun(a:Kd)=>(⟨bf (outS Tryz.prog th 9 kF [] 7),[.x (.var 9 0 a),.x (.var 9 1 a),.junk,.junk,.junk,.x (.var 9 2 (.int .i64)),.junk,.junk,.junk,.junk,.junk,.junk,.junk,.junk,.junk,.junk,.junk,.junk,.junk,.junk,.junk,.junk,.junk,.junk,.junk,.junk,.junk,.junk,.junk,.junk,.junk,.junk,.junk,.junk,.junk,.junk],[],[a,a,(.int .i64)]⟩:Ct)) (.sl 29)
def rh:List Ct:=[kO]
def xQ:Tr:=.leaf 7 (.cut 0 [] [(.var 9 0 (.sl 29)),(.var 9 1 (.sl 29)),(.int .i64 (0))])
def m9:Tr:=(fun(a b c d e:X)=>.ask (.bin .lss c (.len d)) (.ask (.bin .lss c (.len e)) (.must (.inr c (.len d)) true <| .must (.inr c (.len e)) true <| .must (.app 9 1000000 a .bool) true <| .ask (.bin .neq (.app 9 0 a (.int .i64)) (.int .i64 (0))) (.leaf 16 (.ret [] [(.app 9 0 a (.int .i64))])) (.leaf 17 (.cut 0 [] [d,e,(.bin .add c (.int .i64 (1)))]))) (.leaf 9 (.ret [] [b]))) (.leaf 9 (.ret [] [b]))) (.cons (.el (.var 9 0 (.sl 29)) (.var 9 2 (.int .i64)) 0 (.int .i64)) (.cons (.el (.var 9 0 (.sl 29)) (.var 9 2 (.int .i64)) 1 .bool) (.cons (.el (.var 9 0 (.sl 29)) (.var 9 2 (.int .i64)) 2 (.int .i64)) (.cons (.el (.var 9 0 (.sl 29)) (.var 9 2 (.int .i64)) 3 .str) (.cons (.el (.var 9 0 (.sl 29)) (.var 9 2 (.int .i64)) 4 (.sl 9)) (.cons (.el (.var 9 0 (.sl 29)) (.var 9 2 (.int .i64)) 5 (.sl 29)) (.cons (.el (.var 9 1 (.sl 29)) (.var 9 2 (.int .i64)) 0 (.int .i64)) (.cons (.el (.var 9 1 (.sl 29)) (.var 9 2 (.int .i64)) 1 .bool) (.cons (.el (.var 9 1 (.sl 29)) (.var 9 2 (.int .i64)) 2 (.int .i64)) (.cons (.el (.var 9 1 (.sl 29)) (.var 9 2 (.int .i64)) 3 .str) (.cons (.el (.var 9 1 (.sl 29)) (.var 9 2 (.int .i64)) 4 (.sl 9)) (.cons (.el (.var 9 1 (.sl 29)) (.var 9 2 (.int .i64)) 5 (.sl 29)) .nilA)))))))))))) (.app 9 1 (.cons (.len (.var 9 0 (.sl 29))) (.cons (.len (.var 9 1 (.sl 29))) .nilA)) (.int .i64)) (.var 9 2 (.int .i64)) (.var 9 0 (.sl 29)) (.var 9 1 (.sl 29))
theorem AW:Pth.allS Tryz.prog th 9 kF rh (xQ.paths []):=
 ⟨Pth.cS kO rfl,
  trivial⟩
theorem xR:Pth.allC Tryz.prog th 9 kF rh kO (m9.paths []):=
 ⟨Pth.rC,Pth.cC kO rfl,Pth.rC,Pth.rC,
  trivial⟩
variable {k:Nat}{G:World->Prop}
theorem rintsV {tb:Nat->List Cl->Cl}:Vc0 tb 9 mD.ks (fun _=>True) (fun _ _ _=>True) (fun c r=>r=bv c) xP:=by
 intro cls E hE hw _;have hw':Wts [.int .i64,.int .i64] cls:=hw;obtain⟨_,_,rfl,h1,hw'⟩:=hw'.cons_inv;obtain⟨_,rfl,h2⟩:=hw'.one;obtain⟨n,rfl,-,-⟩:=h1.int_inv;obtain⟨m,rfl,-,-⟩:=h2.int_inv;simp only[xP,Tr.vc,To.goodT,List.map_cons,List.map_nil,hE.v,X.c_int,X.c_bin,X.kd,aL,cond_true,binD,intD,ak,al,Cl.bool.injEq,exists_eq',true_and,and_true,decide_eq_true_eq,decide_eq_false_iff_not,bv,sgn];refine⟨fun h=>by simp[h],fun h=>⟨fun h'=>by simp[h,h'],fun h'=>by simp[h,h']⟩⟩
theorem vS [Tb](hG:Gd0 k G)(hsz:Tryz.prog.globals.size<=k){tb:Nat->List Cl->Cl}(htb:Tb.tab=some (9,tb)):mD.Sound Tryz.prog k G tb (fun _=>True) bv:=
 Ctr.ofT (hk:=hk0) Nat.lt_wfRel.wf (fun _ _=>0) (fun _ _ _=>True) hG (fun D=>@aq.nil _ (dcOf D) _ _ _ _) hsz (L:=9) (by kernel_rfl) htb (trs:=[]) (by kernel_rfl) AV rintsV trivial
theorem lsC_nils {o:List Cl->List Cl->Int}{A B:List (List Cl)}(h:A=[]\/B=[]):lsC o A B=sgn A.length B.length:=by
 rcases h with rfl|rfl
 ·cases B with
  |nil=>simp[lsC,sgn]
  |cons=>simp only[lsC,sgn,List.length_nil,List.length_cons];split<;>(try split)<;>omega
 ·cases A with
  |nil=>simp[lsC,sgn]
  |cons=>simp only[lsC,sgn,List.length_nil,List.length_cons];split<;>(try split)<;>omega
theorem o8 {o:List Cl->List Cl->Int}{A B:List (List Cl)}{i:Nat}(h1:i<=A.length)(h2:i<=B.length)(h:A.length<=i\/B.length<=i):lsC o (A.drop i) (B.drop i)=sgn A.length B.length:=by
 rw[lsC_nils (h.imp List.drop_eq_nil_of_le List.drop_eq_nil_of_le)];simp only[List.length_drop,sgn];split<;>split<;>(try split)<;>(try split)<;>omega
def bN (o:List Cl->List Cl->Int):List Cl->List Cl|[.sl _ A,.sl _ B]=>[.int (lsC o A B)]|_=>[]
def o9 (o:List Cl->List Cl->Int)(m:Nat)(_:Nat)(c0 c:List Cl):Prop:=∃ nl A ml B i,c0=[.sl nl A,.sl ml B]/\c=[.sl nl A,.sl ml B,.int i]/\0<=i/\i<=A.length/\lsC o A B=lsC o (A.drop i.toNat) (B.drop i.toNat)/\i<=B.length/\SizeOf.sizeOf c0<m
def xS (_:Nat)(c:List Cl):Nat:=match c with|[.sl _ A,_,.int i]=>(A.length-i).toNat|_=>0
def tbRr (o:List Cl->List Cl->Int)(m:Nat)(f:Nat)(c:List Cl):Cl:=if f=1000000 then .bool (decide (SizeOf.sizeOf c<m)) else if f=0 then .int (o (c.take 6) (c.drop 6)) else (bv c).getD 0 .no
theorem rrowsV {o:List Cl->List Cl->Int}{m:Nat}:Vc0 (tbRr o m) 9 kF.ks (fun c=>SizeOf.sizeOf c<m) (o9 o m) (fun c r=>r=bN o c) xQ:=by
 intro cls E hE hw hm;have hw':Wts [.sl 29,.sl 29] cls:=hw;obtain⟨a,_,rfl,h1,hw'⟩:=hw'.cons_inv;obtain⟨b,rfl,h2⟩:=hw'.one;obtain⟨nl,A,rfl,-,-,-⟩:=h1.sl_inv;obtain⟨ml,B,rfl,-,-,-⟩:=h2.sl_inv;simp only[xQ,Tr.vc,To.goodT,List.map_cons,List.map_nil,hE.v,X.c_int,X.c_len,lenC,ak,al,and_true];exact⟨nl,A,ml,B,0,rfl,rfl,by omega,by omega,by simp,by omega,hm⟩
theorem rrowsV0 {o:List Cl->List Cl->Int}{m:Nat}:Vc (· < ·) xS (tbRr o m) 9 kO.ks (o9 o m) (fun c r=>r=bN o c) 0 m9:=by
 rintro c0 cls E hE hw ⟨nl,A,ml,B,i,rfl,rfl,h1,h2,h3,h4,h5⟩;have hw':Wts [.sl 29,.sl 29,.int .i64] [.sl nl A,.sl ml B,.int i]:=hw;obtain⟨_,_,e,g,hw'⟩:=hw'.cons_inv;cases e;obtain⟨_,_,e,hlen,-,hA⟩:=g.sl_inv;cases e;obtain⟨_,_,e,g,hw'⟩:=hw'.cons_inv;cases e;obtain⟨_,_,e,hlen2,-,hB⟩:=g.sl_inv;cases e;have hlen':(A.length:Int)<=9223372036854775807:=by simp only[maxLen] at hlen;omega
 have el:tbRr o m 1 [.int A.length,.int B.length]=.int (sgn A.length B.length):=by simp[tbRr,bv]
 simp only[m9,Tr.vc,To.goodT,List.map_cons,List.map_nil,hE.v,hE.a,X.d_cons,X.d_nil,X.c_len,X.c_int,X.c_bool,X.c_bin,X.c_inr,X.c_el,X.kd,aL,cond_true,cond_false,ak,al,lenC,binD,intD,inrD,elD,el,Cl.bool.injEq,decide_eq_true_eq,decide_eq_false_iff_not,exists_eq',true_and,h1];refine⟨fun hlt=>⟨fun hge=>⟨hlt,hge,?_⟩,fun hge=>?_⟩,fun hge=>?_⟩
 ·obtain⟨r,hr,hwr,hd,hm⟩:=aE hA (i:=i.toNat) (by omega)
  obtain⟨r',hr',hwr',hd',hm'⟩:=aE hB (i:=i.toNat) (by omega);obtain⟨ka,ba,na,sa,nla,ya,mla,ra,rfl,-⟩:=row6 hwr;obtain⟨ka',ba',na',sa',nla',ya',mla',ra',rfl,-⟩:=row6 hwr';rw[hr,hr'];have e2:(i+1).toNat=i.toNat+1:=by omega
  have hsz:SizeOf.sizeOf [Cl.int ka,.bool ba,.int na,.str sa,.sl nla ya,.sl mla ra,.int ka',.bool ba',.int na',.str sa',.sl nla' ya',.sl mla' ra']<m:=by
   have z1:=List.sizeOf_lt_of_mem (List.mem_of_getElem? hm);have z2:=List.sizeOf_lt_of_mem (List.mem_of_getElem? hm');simp only[List.cons.sizeOf_spec,List.nil.sizeOf_spec,Cl.sl.sizeOf_spec] at z1 z2 h5 ⊢;omega
  have et:tbRr o m 0 [Cl.int ka,.bool ba,.int na,.str sa,.sl nla ya,.sl mla ra,.int ka',.bool ba',.int na',.str sa',.sl nla' ya',.sl mla' ra']=.int (o [Cl.int ka,.bool ba,.int na,.str sa,.sl nla ya,.sl mla ra] [.int ka',.bool ba',.int na',.str sa',.sl nla' ya',.sl mla' ra']):=by simp[tbRr]
  have en:tbRr o m 1000000 [Cl.int ka,.bool ba,.int na,.str sa,.sl nla ya,.sl mla ra,.int ka',.bool ba',.int na',.str sa',.sl nla' ya',.sl mla' ra']=.bool true:=by simp only[tbRr,if_true,hsz,decide_true]
  generalize hc:o [Cl.int ka,.bool ba,.int na,.str sa,.sl nla ya,.sl mla ra] [.int ka',.bool ba',.int na',.str sa',.sl nla' ya',.sl mla' ra']=q at et;simp only[ak,al,et,en,intD,Cl.bool.injEq,exists_eq',true_and,Bool.not_eq_true',Bool.not_eq_false',beq_iff_eq,beq_eq_false_iff_ne,ne_eq];rw[aH (by omega) (by omega)];refine⟨fun hm=>?_,fun hm=>⟨⟨nl,A,ml,B,i+1,rfl,rfl,by omega,by omega,?_,by omega,h5⟩,by simp only[xS];omega⟩⟩
  ·simp[bN,h3,hd,hd',lsC,hc,hm]
  ·rw[h3,hd,hd',e2];simp[lsC,hc,hm]
 ·simp only[bN,h3];rw[o8 (by omega) (by omega) (.inr (by omega))]
 ·simp only[bN,h3];rw[o8 (by omega) (by omega) (.inl (by omega))]
end Go.Proofs.Wo
end

noncomputable section
namespace Go.Proofs.Wo
open Go.Exo Go.Exo.Wo Go.Lib
set_option maxRecDepth 100000
def ic:Ct:=⟨bf (outS Tryz.prog mY 9 lL [] 7),[.x (.var 9 0 .str),.x (.var 9 1 .str),.junk,.junk,.junk,.x (.var 9 2 (.int .i64)),.junk,.junk,.junk,.junk,.junk,.junk,.junk,.junk,.junk,.junk,.junk,.junk,.junk,.junk,.junk,.junk,.junk,.junk,.junk,.junk,.junk,.junk,.junk,.junk,.junk,.junk,.junk,.junk,.junk,.junk,.junk,.junk,.junk],[],[.str,.str,(.int .i64)]⟩
def pe:List Ct:=[ic]
def tG:Tr:=.leaf 7 (.cut 0 [] [(.var 9 0 .str),(.var 9 1 .str),(.int .i64 (0))])
def kP:Tr:=(fun(a b c d:X)=>.ask (.bin .lss a (.len c)) (.ask (.bin .lss a (.len d)) (.must (.inr a (.len c)) true <| .must (.inr a (.len d)) true <| .ask (.bin .neq (.atx c a) (.atx d a)) (.leaf 14 (.ret [] [(.app 9 0 (.cons (.conv .i64 (.atx c a)) (.cons (.conv .i64 (.atx d a)) .nilA)) (.int .i64))])) (.leaf 14 (.cut 0 [] [c,d,(.bin .add a (.int .i64 (1)))]))) (.leaf 9 (.ret [] [b]))) (.leaf 9 (.ret [] [b]))) (.var 9 2 (.int .i64)) (.app 9 0 (.cons (.len (.var 9 0 .str)) (.cons (.len (.var 9 1 .str)) .nilA)) (.int .i64)) (.var 9 0 .str) (.var 9 1 .str)
theorem xT:Pth.allS Tryz.prog mY 9 lL pe (tG.paths []):=
 ⟨Pth.cS ic rfl,
  trivial⟩
theorem vT:Pth.allC Tryz.prog mY 9 lL pe ic (kP.paths []):=
 ⟨Pth.rC,Pth.cC ic rfl,Pth.rC,Pth.rC,
  trivial⟩
variable {k:Nat}{G:World->Prop}
theorem kQ {a b:UInt8}{r s:List UInt8}:cmpB (a::r) (b::s)=if a=b then cmpB r s else sgn a.toNat b.toNat:=by
 have e:a=b<->a.toNat=b.toNat:=⟨fun h=>h ▸ rfl,fun h=>UInt8.toNat_inj.1 h⟩
 have c1:∀ {m n:Nat},Nat.ble m n=decide (m<=n):=fun {m n}=>by
  by_cases h:m<=n
  ·rw[decide_eq_true h];exact an h
  ·rw[decide_eq_false h];cases hb:Nat.ble m n with
   |false=>rfl
   |true=>exact absurd (ab hb) h
 simp only[cmpB,c1,e,sgn];by_cases h1:a.toNat+1<=b.toNat
 ·rw[decide_eq_true h1,if_neg (by omega),if_pos (by omega)];rfl
 ·rw[decide_eq_false h1]
  by_cases h2:b.toNat+1<=a.toNat
  ·rw[decide_eq_true h2,if_neg (by omega),if_neg (by omega),if_pos (by omega)];rfl
  ·rw[decide_eq_false h2,if_pos (by omega)];rfl
theorem AX {A B:List UInt8}(h:A=[]\/B=[]):cmpB A B=sgn A.length B.length:=by
 rcases h with rfl|rfl
 ·cases B with
  |nil=>rfl
  |cons=>simp only[cmpB,sgn,List.length_nil,List.length_cons];rw[if_pos (by omega)];rfl
 ·cases A with
  |nil=>rfl
  |cons=>simp only[cmpB,sgn,List.length_nil,List.length_cons];rw[if_neg (by omega),if_pos (by omega)];rfl
theorem ri {A B:List UInt8}{i:Nat}(h1:i<=A.length)(h2:i<=B.length)(h:A.length<=i\/B.length<=i):cmpB (A.drop i) (B.drop i)=sgn A.length B.length:=by
 rw[AX (h.imp List.drop_eq_nil_of_le List.drop_eq_nil_of_le)];simp only[List.length_drop,sgn];split<;>split<;>(try split)<;>(try split)<;>omega
def lP (_:Nat)(c0 c:List Cl):Prop:=∃ A B i,c0=[.str A,.str B]/\c=[.str A,.str B,.int i]/\0<=i/\i<=A.length/\cmpB A B=cmpB (A.drop i.toNat) (B.drop i.toNat)/\i<=B.length
def tH (_:Nat)(c:List Cl):Nat:=match c with|[.str A,_,.int i]=>(A.length-i).toNat|_=>0
def tbRt (_:Nat)(c:List Cl):Cl:=(bv c).getD 0 .no
theorem rtextsV:Vc0 tbRt 9 lL.ks (fun _=>True) lP (fun c r=>r=cC c) tG:=by
 intro cls E hE hw _;have hw':Wts [.str,.str] cls:=hw;obtain⟨_,_,rfl,h1,hw'⟩:=hw'.cons_inv;obtain⟨_,rfl,h2⟩:=hw'.one;obtain⟨A,rfl,-⟩:=h1.str_inv;obtain⟨B,rfl,-⟩:=h2.str_inv;simp only[tG,Tr.vc,To.goodT,List.map_cons,List.map_nil,hE.v,X.c_int,ak,al,and_true];exact⟨A,B,0,rfl,rfl,by omega,by omega,by simp,by omega⟩
theorem rtextsV0:Vc (· < ·) tH tbRt 9 ic.ks lP (fun c r=>r=cC c) 0 kP:=by
 rintro c0 cls E hE hw ⟨A,B,i,rfl,rfl,h1,h2,h3,h4⟩;have hw':Wts [.str,.str,.int .i64] [.str A,.str B,.int i]:=hw;obtain⟨_,_,e,g,hw'⟩:=hw'.cons_inv;cases e;obtain⟨_,e,hlen⟩:=g.str_inv;cases e;obtain⟨_,_,e,g,hw'⟩:=hw'.cons_inv;cases e;obtain⟨_,e,hlen2⟩:=g.str_inv;cases e;have hlen':(A.length:Int)<=9223372036854775807:=by simp only[maxLen] at hlen;omega
 have el:∀ a b:Int,tbRt 0 [.int a,.int b]=.int (sgn a b):=fun a b=>rfl
 have hb:∀ x:UInt8,IntKind.wrap .i64 (x.toNat:Int)=x.toNat:=fun x=>aH (by omega) (by have:=x.toNat_lt;omega)
 simp only[kP,Tr.vc,To.goodT,List.map_cons,List.map_nil,hE.v,hE.a,X.d_cons,X.d_nil,X.c_len,X.c_int,X.c_bool,X.c_bin,X.c_inr,X.c_at,X.c_conv,convD,atD,X.kd,aL,cond_true,cond_false,ak,al,lenC,binD,intD,inrD,el,hb,Cl.bool.injEq,decide_eq_true_eq,decide_eq_false_iff_not,exists_eq',true_and,h1,Bool.not_eq_true',Bool.not_eq_false',beq_iff_eq,beq_eq_false_iff_ne,ne_eq];refine⟨fun hlt=>⟨fun hge=>⟨hlt,hge,?_⟩,fun hge=>?_⟩,fun hge=>?_⟩
 ·have ha:i.toNat<A.length:=by omega
  have hbl:i.toNat<B.length:=by omega
  have e2:(i+1).toNat=i.toNat+1:=by omega
  have g1:A.getD i.toNat 0=A[i.toNat]:=by simp[List.getD,ha]
  have g2:B.getD i.toNat 0=B[i.toNat]:=by simp[List.getD,hbl]
  have d1:A.drop i.toNat=A[i.toNat]::A.drop (i.toNat+1):=List.drop_eq_getElem_cons ha;have d2:B.drop i.toNat=B[i.toNat]::B.drop (i.toNat+1):=List.drop_eq_getElem_cons hbl;rw[d1,d2,kQ] at h3;rw[g1,g2,aH (by omega) (by omega)];refine⟨fun hm=>?_,fun hm=>⟨⟨A,B,i+1,rfl,rfl,by omega,by omega,?_,by omega⟩,by simp only[tH];omega⟩⟩
  ·rw[if_neg (fun h=>hm (by rw[h]))] at h3;simp only[cC,h3]
  ·rw[if_pos (UInt8.toNat_inj.1 (by omega))] at h3;rw[e2,h3]
 ·simp only[cC,h3];rw[ri (by omega) (by omega) (.inr (by omega))]
 ·simp only[cC,h3];rw[ri (by omega) (by omega) (.inl (by omega))]
theorem rtexts_x (hG:Gd0 k G)(hk0:0<k)(hsz:Tryz.prog.globals.size<=k):∃ tb,lL.Sound Tryz.prog k G tb (fun _=>True) cC:=by
 letI:Tb:=⟨some (9,tbRt)⟩
 have h0:mD.Sound Tryz.prog k G tbRt (fun _=>True) bv:=vS hG hsz rfl;exact⟨_,Ctr.ofT (hk:=mY) Nat.lt_wfRel.wf tH lP hG (fun D=>@aq.ctr _ (dcOf D) _ _ _ _ 9 (by kernel_rfl) _ _ _ _ h0 (by kernel_rfl) _ _ (bm (fun c=>by unfold bv;split<;>simp) (fun c=>rfl)) none (fun _=>trivial) hG hk0 hsz rfl) hsz (L:=9) (by kernel_rfl) rfl (trs:=[kP]) (by kernel_rfl) xT rtextsV ⟨⟨vT,rtextsV0⟩,trivial⟩⟩
end Go.Proofs.Wo
end

noncomputable section
namespace Go.Proofs.Wo
open Go.Exo Go.Exo.Wo
def aQ (a b:Sz):Sz:=(a.1+b.1,if a.2.1<b.2.1 then b.2.1 else a.2.1,a.2.2.1+b.2.2.1,if a.2.2.2<b.2.2.2 then b.2.2.2 else a.2.2.2)
def kl (n:Int)(r:List Cl):Int:=match r with|[.str s]=>n+s.length|_=>n
def trR:List Cl->Sz
 |[.int _,.bool _,.int _,.str s,.sl _ ys,.sl _ rs]=>
  (fun z:Sz=>(z.1,z.2.1+1,z.2.2.1,z.2.2.2)) (rs.attach.foldl (fun a r=>aQ a (trR r.1)) (1,0,ys.foldl kl (s.length:Int),(rs.length:Int)))
 |_=>(0,0,0,0)
termination_by r=>SizeOf.sizeOf r
decreasing_by
 have h:=List.sizeOf_lt_of_mem r.2;simp only[List.cons.sizeOf_spec,Cl.sl.sizeOf_spec] at h ⊢;omega
def trRs (a:Sz)(rs:List (List Cl)):Sz:=rs.foldl (fun a r=>aQ a (trR r)) a
theorem jL (k:Int)(b:Bool)(n:Int)(s:List UInt8)(nl:Bool)(ys:List (List Cl))(ml:Bool)(rs:List (List Cl)) :
  trR [.int k,.bool b,.int n,.str s,.sl nl ys,.sl ml rs]=(fun z:Sz=>(z.1,z.2.1+1,z.2.2.1,z.2.2.2)) (trRs (1,0,ys.foldl kl (s.length:Int),(rs.length:Int)) rs):=by
 rw[trR];congr 1;unfold trRs;rw[List.foldl_subtype (g:=fun a r=>aQ a (trR r)) (by intros;rfl)];simp
theorem vU:∀ (ys:List (List Cl))(n:Int),n<=ys.foldl kl n
 |[],n=>Int.le_refl _
 |y::ys,n=>by
  have h:=vU ys (kl n y);have:n<=kl n y:=by unfold kl;split<;>omega
  simp only[List.foldl_cons];omega
theorem xU:∀ (ys:List (List Cl))(n m:Int),ys.foldl kl (n+m)=n+ys.foldl kl m
 |[],n,m=>rfl
 |y::ys,n,m=>by
  have:kl (n+m) y=n+kl m y:=by unfold kl;split<;>omega
  simp only[List.foldl_cons,this];exact xU ys n _
theorem kR (a b:Sz)(hb:0<=b.1/\0<=b.2.2.1):a.1<=(aQ a b).1/\a.2.1<=(aQ a b).2.1/\b.2.1<=(aQ a b).2.1/\a.2.2.1<=(aQ a b).2.2.1:=by
 unfold aQ;refine⟨by simp only;omega,?_,?_,by simp only;omega⟩<;>simp only<;>split<;>omega
mutual
theorem trR_nn (n:Nat):∀ r:List Cl,SizeOf.sizeOf r<n->0<=(trR r).1/\0<=(trR r).2.1/\0<=(trR r).2.2.1:=by
 induction n with
 |zero=>intro r h;omega
 |succ n ih=>
  intro r h;unfold trR;split
  ·rename_i k b i s nl ys ml rs
   have hh:=jL k b i s nl ys ml rs;unfold trR at hh;rw[hh];have hk:=vU ys (s.length:Int)
   have key:∀ (l:List (List Cl))(a:Sz),(∀ x∈l,x∈rs)->a.1<=(trRs a l).1/\a.2.1<=(trRs a l).2.1/\a.2.2.1<=(trRs a l).2.2.1:=by
    intro l;induction l with
    |nil=>intro a _;exact⟨Int.le_refl _,Int.le_refl _,Int.le_refl _⟩
    |cons x l ihl=>
     intro a hx;have z:=List.sizeOf_lt_of_mem (hx x (.head _));simp only[List.cons.sizeOf_spec,Cl.sl.sizeOf_spec] at h;have hz:=ih x (by omega);have g:=kR a (trR x) ⟨hz.1,hz.2.2⟩;have q:=ihl (aQ a (trR x)) fun y hy=>hx y (.tail _ hy)
     show a.1<=(trRs (aQ a (trR x)) l).1/\a.2.1<=(trRs (aQ a (trR x)) l).2.1/\a.2.2.1<=(trRs (aQ a (trR x)) l).2.2.1;exact⟨by omega,by omega,by omega⟩
   have q:=key rs (1,0,ys.foldl kl (s.length:Int),(rs.length:Int)) fun _ h=>h
   simp only at q ⊢;omega
  ·exact⟨Int.le_refl _,Int.le_refl _,Int.le_refl _⟩
end
theorem trR_0 (r:List Cl):0<=(trR r).1/\0<=(trR r).2.1/\0<=(trR r).2.2.1:=trR_nn _ r (Nat.lt_succ_self _)
theorem kS:∀ (l:List (List Cl))(a:Sz),a.1<=(trRs a l).1/\a.2.1<=(trRs a l).2.1/\a.2.2.1<=(trRs a l).2.2.1
 |[],a=>⟨Int.le_refl _,Int.le_refl _,Int.le_refl _⟩
 |x::l,a=>by
  have hz:=trR_0 x;have g:=kR a (trR x) ⟨hz.1,hz.2.2⟩;have q:=kS l (aQ a (trR x));show a.1<=(trRs (aQ a (trR x)) l).1/\a.2.1<=(trRs (aQ a (trR x)) l).2.1/\a.2.2.1<=(trRs (aQ a (trR x)) l).2.2.1;exact⟨by omega,by omega,by omega⟩
abbrev big:Int:=4611686018427387904
theorem jM {x:Int}(h0:0<=x)(h1:x<big):w64 x=x:=aH (by omega) (by simp only[big] at h1;omega)
theorem xV:∀ (ys:List (List Cl))(n:Int),0<=n->ys.foldl kl n<big->ys.foldl bC n=ys.foldl kl n
 |[],n,_,_=>rfl
 |y::ys,n,h0,h1=>by
  have hy:n<=kl n y:=by unfold kl;split<;>omega
  have hl:=vU ys (kl n y);simp only[List.foldl_cons] at h1 ⊢
  have e:bC n y=kl n y:=by
   have e1:bC n y=kl n y\/bC n y=w64 (kl n y):=by
    by_cases hh:∃ t,y=[.str t]
    ·obtain⟨t,rfl⟩:=hh
     exact .inr rfl
    ·left
     unfold bC kl;split
     ·exact absurd ⟨_,rfl⟩ hh
     ·split
      ·exact absurd ⟨_,rfl⟩ hh
      ·rfl
   rcases e1 with e1|e1
   ·exact e1
   ·rw[e1];exact jM (by omega) (by omega)
  rw[e];exact xV ys _ (by omega) h1
theorem szs_tr:∀ (l:List (List Cl))(a:Sz),(∀ x∈l,(trR x).1<big->(trR x).2.1<big->(trR x).2.2.1<big->szR x=trR x)->0<=a.1->0<=a.2.1->0<=a.2.2.1->(trRs a l).1<big->(trRs a l).2.1<big->(trRs a l).2.2.1<big->szRs a l=trRs a l
 |[],a,_,_,_,_,_,_,_=>rfl
 |x::l,a,hx,h1,h2,h3,g1,g2,g3=>by
  have hz:=trR_0 x;have g:=kR a (trR x) ⟨hz.1,hz.2.2⟩;have q:=kS l (aQ a (trR x));have g1':(trRs (aQ a (trR x)) l).1<big:=g1;have g2':(trRs (aQ a (trR x)) l).2.1<big:=g2;have g3':(trRs (aQ a (trR x)) l).2.2.1<big:=g3;have b1:(aQ a (trR x)).1=a.1+(trR x).1:=rfl;have b3:(aQ a (trR x)).2.2.1=a.2.2.1+(trR x).2.2.1:=rfl;have e:szR x=trR x:=hx x (.head _) (by omega) (by omega) (by omega)
  have e2:cD a (szR x)=aQ a (trR x):=by
   rw[e];unfold cD aQ;rw[jM (x:=a.1+(trR x).1) (by omega) (by omega),jM (x:=a.2.2.1+(trR x).2.2.1) (by omega) (by omega)]
  show szRs (cD a (szR x)) l=trRs (aQ a (trR x)) l;rw[e2];exact szs_tr l _ (fun y hy=>hx y (.tail _ hy)) (by omega) (by omega) (by omega) g1' g2' g3'
theorem sz_tr:∀ (m:Nat)(r:List Cl),SizeOf.sizeOf r<m->Wts vK r->(trR r).1<big->(trR r).2.1<big->(trR r).2.2.1<big->szR r=trR r:=by
 intro m;induction m with
 |zero=>intro r h;omega
 |succ m ih=>
  intro r hm hw g1 g2 g3;obtain⟨k,b,n,s,nl,ys,ml,rs,rfl,hl,-⟩:=row6 hw;obtain⟨-,-,-,q4⟩:=ls2 hl;rw[jL] at g1 g2 g3;simp only at g1 g2 g3;have hq:=kS rs (1,0,ys.foldl kl (s.length:Int),(rs.length:Int));have hk:=vU ys (s.length:Int);simp only at hq;rw[oX,jL];have ek:ys.foldl bC (s.length:Int)=ys.foldl kl (s.length:Int):=xV ys _ (by omega) (by omega)
  rw[ek,szs_tr rs _ (fun x hx=>ih x (by
   have z:=List.sizeOf_lt_of_mem hx
   simp only[List.cons.sizeOf_spec,Cl.sl.sizeOf_spec] at hm
   omega) (q4 x hx)) (by simp only;omega) (by simp only;omega) (by simp only;omega) g1 (by omega) g3]
  simp only;rw[jM (by omega) g2]
end Go.Proofs.Wo
end

noncomputable section
namespace Go.Proofs.Wo
open Go.Exo Go.Exo.Wo
def pf (d:Int)(r:List Cl)(st:Int×Bool):Int×Bool:=match r with
 |[.int _,.bool _,.int _,.str s,.sl _ ys,.sl _ rs]=>
  (ys.foldl bC (w64 (st.1+s.length)),st.2 || decide (64<d) || decide (65536<(rs.length:Int)) || decide (1048576<ys.foldl bC (w64 (st.1+s.length))))
 |_=>st
def goN (u:List UInt8->Bool):Nat->Int->List Cl->Int×Bool->Option (Int×Bool)
 |n+1,d,[.int k,.bool b,.int i,.str s,.sl nl ys,.sl ml rs],st=>
  if mayB u [.int k,.bool b,.int i,.str s,.sl nl ys,.sl ml rs] then rs.foldl (fun o r=>o.bind (goN u n (w64 (d+1)) r)) (some (pf d [.int k,.bool b,.int i,.str s,.sl nl ys,.sl ml rs] st)) else none
 |_,_,_,_=>none
def stOf (d b0:Int)(o0:Bool)(a:Sz):Int×Bool:=(b0+a.2.2.1,o0 || decide (64<d+a.2.1) || decide (65536<a.2.2.2) || decide (1048576<b0+a.2.2.1))
theorem d7 {α β:Type}(f:Option α->β->Option α)(hf:∀ b,f none b=none):∀ l:List β,l.foldl f none=none
 |[]=>rfl
 |b::l=>by rw[List.foldl_cons,hf];exact d7 f hf l
theorem AY (d b0:Int)(o0:Bool)(a z:Sz)(hz:0<=z.2.2.1):((stOf d b0 o0 a).1+z.2.2.1,(stOf d b0 o0 a).2 || decide (64<(d+1)+z.2.1-1) || decide (65536<z.2.2.2) || decide (1048576<(stOf d b0 o0 a).1+z.2.2.1))=stOf d b0 o0 (aQ a z):=by
 unfold stOf aQ;simp only[Prod.mk.injEq];refine⟨by omega,?_⟩;rw[Bool.eq_iff_iff];simp only[Bool.or_eq_true,decide_eq_true_eq];constructor
 ·rintro ((((((h|h)|h)|h)|h)|h)|h)
  ·exact .inl (.inl (.inl h))
  ·left;left;right;split<;>omega
  ·left;right;split<;>omega
  ·right;omega
  ·left;left;right;split<;>omega
  ·left;right;split<;>omega
  ·right;omega
 ·rintro (((h|h)|h)|h)
  ·exact .inl (.inl (.inl (.inl (.inl (.inl h)))))
  ·split at h
   ·exact .inl (.inl (.inr (by omega)))
   ·exact .inl (.inl (.inl (.inl (.inl (.inr h)))))
  ·split at h
   ·exact .inl (.inr h)
   ·exact .inl (.inl (.inl (.inl (.inr h))))
  ·exact .inr (by omega)
theorem zw (u:List UInt8->Bool)(n:Nat)(d b0:Int)(o0:Bool)(hd:0<=d)(hd1:d+1<big)(hb0:0<=b0):∀ (l:List (List Cl))(a:Sz),0<=a.2.1->0<=a.2.2.1->
  (∀ r∈l,∀ (b:Int)(o:Bool),0<=b->b+(trR r).2.2.1<big->(d+1)+(trR r).2.1<big->goN u n (d+1) r (b,o)=if mayR u r then some (b+(trR r).2.2.1,o || decide (64<(d+1)+(trR r).2.1-1) || decide (65536<(trR r).2.2.2) || decide (1048576<b+(trR r).2.2.1)) else none)->
  b0+(trRs a l).2.2.1<big->(d+1)+(trRs a l).2.1<big->
  l.foldl (fun o r=>o.bind (goN u n (w64 (d+1)) r)) (some (stOf d b0 o0 a))=if l.all (mayR u) then some (stOf d b0 o0 (trRs a l)) else none
 |[],a,_,_,_,_,_=>by simp[trRs]
 |x::l,a,ha,ha2,hx,h1,h2=>by
  have hz:=trR_0 x;have g:=kR a (trR x) ⟨hz.1,hz.2.2⟩;have q:=kS l (aQ a (trR x));have h1':b0+(trRs (aQ a (trR x)) l).2.2.1<big:=h1;have h2':(d+1)+(trRs (aQ a (trR x)) l).2.1<big:=h2;have b3:(aQ a (trR x)).2.2.1=a.2.2.1+(trR x).2.2.1:=rfl;have e:=hx x (.head _) (stOf d b0 o0 a).1 (stOf d b0 o0 a).2 (by show 0<=b0+a.2.2.1;omega) (by show b0+a.2.2.1+_<_;omega) (by omega);rw[AY d b0 o0 a (trR x) hz.2.2] at e;simp only[List.foldl_cons,Option.bind_some,jM (x:=d+1) (by omega) hd1];rw[show ((stOf d b0 o0 a).1,(stOf d b0 o0 a).2)=stOf d b0 o0 a from rfl] at e;rw[e];by_cases hm:mayR u x=true
  rotate_left
  ·rw[if_neg hm,d7 _ (fun _=>rfl) l,if_neg (show ¬ (x::l).all (mayR u)=true from fun h=>hm (List.all_eq_true.1 h x (.head _)))]
  ·rw[if_pos hm]
   have ih:=zw u n d b0 o0 hd hd1 hb0 l (aQ a (trR x)) (by omega) (by omega) (fun r hr=>hx r (.tail _ hr)) h1' h2';rw[jM (x:=d+1) (by omega) hd1] at ih;rw[ih];by_cases hl:l.all (mayR u)=true
   ·rw[if_pos hl,if_pos (show (x::l).all (mayR u)=true from List.all_eq_true.2 fun y hy=>by
     cases hy with
     |head=>exact hm
     |tail _ hy=>exact List.all_eq_true.1 hl y hy)];rfl
   ·rw[if_neg hl,if_neg (show ¬ (x::l).all (mayR u)=true from fun h=>hl (List.all_eq_true.2 fun y hy=>List.all_eq_true.1 h y (.tail _ hy)))]
theorem go_tr (u:List UInt8->Bool):∀ (n:Nat)(r:List Cl),SizeOf.sizeOf r<n->Wts vK r->∀ (d b:Int)(o:Bool),0<=d->0<=b->b+(trR r).2.2.1<big->d+(trR r).2.1<big->
  goN u n d r (b,o)=if mayR u r then some (b+(trR r).2.2.1,o || decide (64<d+(trR r).2.1-1) || decide (65536<(trR r).2.2.2) || decide (1048576<b+(trR r).2.2.1)) else none:=by
 intro n;induction n with
 |zero=>intro r h;omega
 |succ n ih=>
  intro r hm hw d b o hd hb g3 g2;obtain⟨k,b1,i,s,nl,ys,ml,rs,rfl,hl,-⟩:=row6 hw;obtain⟨-,-,-,q4⟩:=ls2 hl;rw[jL] at g2 g3 ⊢;simp only at g2 g3 ⊢;have hq:=kS rs (1,0,ys.foldl kl (s.length:Int),(rs.length:Int));have hk:=vU ys (s.length:Int);simp only at hq
  have ek:ys.foldl bC (w64 (b+(s.length:Int)))=b+ys.foldl kl (s.length:Int):=by
   rw[jM (by omega) (by omega),<- xU];exact xV ys _ (by omega) (by rw[xU];omega)
  have es:pf d [.int k,.bool b1,.int i,.str s,.sl nl ys,.sl ml rs] (b,o)=stOf d b o (1,0,ys.foldl kl (s.length:Int),(rs.length:Int)):=by
   simp only[pf,ek,stOf];simp
  rw[mayR_B];simp only[goN,es]
  have f:=zw u n d b o hd (by omega) hb rs (1,0,ys.foldl kl (s.length:Int),(rs.length:Int)) (by simp only;omega) (by simp only;omega) (fun x hx b' o' hb' k1 k2=>ih x (by
   have z:=List.sizeOf_lt_of_mem hx
   simp only[List.cons.sizeOf_spec,Cl.sl.sizeOf_spec] at hm
   omega) (q4 x hx) (d+1) b' o' (by omega) hb' k1 k2) g3 (by omega)
  rw[f];cases mayB u [.int k,.bool b1,.int i,.str s,.sl nl ys,.sl ml rs] with
  |false=>simp
  |true=>
   simp only[if_true,Bool.true_and];cases rs.all (mayR u) with
   |false=>simp
   |true=>
    simp only[if_true,stOf];rw[show d+((trRs (1,0,ys.foldl kl (s.length:Int),(rs.length:Int)) rs).2.1+1)-1=d+(trRs (1,0,ys.foldl kl (s.length:Int),(rs.length:Int)) rs).2.1 by omega]
def chkN (u:List UInt8->Bool)(n:Nat)(r:List Cl):Int:=match goN u n 1 r (0,false) with
 |none=>110
 |some (_,o)=>if o then 3 else 0
theorem AZ (u:List UInt8->Bool)(n:Nat)(r:List Cl)(hm:SizeOf.sizeOf r<n)(hw:Wts vK r)(g1:(trR r).1<big)(g2:1+(trR r).2.1<big)(g3:(trR r).2.2.1<big):chkN u n r=aI u r:=by
 have e:=go_tr u n r hm hw 1 0 false (by omega) (by omega) (by omega) g2;have es:=sz_tr n r hm hw g1 (by omega) g3;unfold chkN aI;rw[e,es];cases mayR u r with
 |false=>rfl
 |true=>
  simp only[if_true,Bool.false_or,Bool.or_eq_true,decide_eq_true_eq];rw[show 1+(trR r).2.1-1=(trR r).2.1 by omega,show 0+(trR r).2.2.1=(trR r).2.2.1 by omega];split<;>split<;>first|rfl|omega
end Go.Proofs.Wo
end

noncomputable section
namespace Go.Proofs.Wo
open Go.Exo Go.Exo.Wo
def flat:Nat->Int->List Cl->List (Int×List Cl)
 |n+1,d,[.int k,.bool b,.int i,.str s,.sl nl ys,.sl ml rs]=>(d,[.int k,.bool b,.int i,.str s,.sl nl ys,.sl ml rs])::rs.flatMap (flat n (w64 (d+1)))
 |_,_,_=>[]
def kT (u:List UInt8->Bool)(o:Option (Int×Bool))(x:Int×List Cl):Option (Int×Bool):=o.bind fun st=>if mayB u x.2 then some (pf x.1 x.2 st) else none
theorem go_flat (u:List UInt8->Bool):∀ (n:Nat)(r:List Cl),SizeOf.sizeOf r<n->Wts vK r->∀ (d:Int)(o:Option (Int×Bool)),(flat n d r).foldl (kT u) o=o.bind (goN u n d r):=by
 intro n;induction n with
 |zero=>intro r h;omega
 |succ n ih=>
  intro r hm hw d o;obtain⟨k,b1,i,s,nl,ys,ml,rs,rfl,hl,-⟩:=row6 hw;obtain⟨-,-,-,q4⟩:=ls2 hl;cases o with
  |none=>exact d7 _ (fun _=>rfl) _
  |some st=>
   have key:∀ (l:List (List Cl)),(∀ x∈l,x∈rs)->∀ o,(l.flatMap (flat n (w64 (d+1)))).foldl (kT u) o=l.foldl (fun o r=>o.bind (goN u n (w64 (d+1)) r)) o:=by
    intro l;induction l with
    |nil=>intro _ o;rfl
    |cons x l ihl=>
     intro hx o;have z:=List.sizeOf_lt_of_mem (hx x (.head _));simp only[List.cons.sizeOf_spec,Cl.sl.sizeOf_spec] at hm;rw[List.flatMap_cons,List.foldl_append,ih x (by omega) (q4 x (hx x (.head _))),List.foldl_cons];exact ihl (fun y hy=>hx y (.tail _ hy)) _
   simp only[flat,List.foldl_cons,Option.bind_some,goN,kT];by_cases hb:mayB u [.int k,.bool b1,.int i,.str s,.sl nl ys,.sl ml rs]=true
   ·rw[if_pos hb,if_pos hb]
    exact key rs (fun _ h=>h) _
   ·rw[if_neg hb,if_neg hb]
    exact d7 _ (fun _=>rfl) _
theorem rj (u:List UInt8->Bool):∀ (l:List (Int×List Cl))(o:Option (Int×Bool))(x:Int×List Cl),x∈l->mayB u x.2=false->l.foldl (kT u) o=none
 |y::l,o,x,h,hb=>by
  rw[List.foldl_cons];rcases List.mem_cons.1 h with rfl|h
  ·have e:kT u o x=none:=by
    unfold kT;cases o with
    |none=>rfl
    |some st=>rw[Option.bind_some,hb];rfl
   rw[e];exact d7 _ (fun _=>rfl) _
  ·exact rj u l _ x h hb
theorem chk_flat (u:List UInt8->Bool)(n:Nat)(r:List Cl)(hm:SizeOf.sizeOf r<n)(hw:Wts vK r):chkN u n r=match (flat n 1 r).foldl (kT u) (some (0,false)) with|none=>110|some (_,o)=>if o then 3 else 0:=by
 rw[go_flat u n r hm hw 1 (some (0,false))];rfl
end Go.Proofs.Wo
end

noncomputable section
namespace Go.Proofs.Wo
open Go.Exo Go.Exo.Wo
theorem nrm6 {k:Int}{b:Bool}{n:Int}{s:List UInt8}{nl:Bool}{ys:List (List Cl)}{ml:Bool}{rs:List (List Cl)}{k':Int}{b':Bool}{n':Int}{s':List UInt8}{nl':Bool}{ys':List (List Cl)}{ml':Bool}{rs':List (List Cl)} :
  nrmR [.int k,.bool b,.int n,.str s,.sl nl ys,.sl ml rs]=nrmR [.int k',.bool b',.int n',.str s',.sl nl' ys',.sl ml' rs']<->k=k'/\b=b'/\n=n'/\s=s'/\az ys=az ys'/\az rs=az rs':=by
 simp[nrmR,nrm]
end Go.Proofs.Wo
end

noncomputable section
namespace Go.Proofs.Wo
open Go.Exo Go.Exo.Wo
variable {k:Nat}{G:World->Prop}
theorem A0 (hG:Gd0 k G)(hk0:0<k)(hsz:Tryz.prog.globals.size<=k)(n:Nat):∃ F,Go.Exo.Spec Tryz.prog G 18 [vA] (.one vA) (eJ n) F/\∀ c,cN c (F c):=by
 obtain⟨⟨tb,F,h1,h2⟩,_⟩:=copy_n hG hk0 hsz n;exact⟨F,Ctr.Sound.spec (by kernel_rfl) hG hk0 hsz h1 rfl,h2⟩
end Go.Proofs.Wo
end

noncomputable section
namespace Go.Proofs.Wo
open Go.Exo Go.Exo.Wo Go.RowKit
def Dat (φ:Nat->Nat->Option Value)(w:World):Prop:=∀ b o v,φ b o=some v->w.cell? ⟨b,o,none⟩=some v
structure Grows (w w':World)(φ φ':Nat->Nat->Option Value):Prop where
 sub:∀ b o v,φ b o=some v->φ' b o=some v
 dat:Dat φ' w'
 new:∀ b o v,φ' b o=some v->b<w.heap.size->φ b o=some v
theorem Dat.lt {φ:Nat->Nat->Option Value}{w:World}(h:Dat φ w){b o:Nat}{v:Value}(hv:φ b o=some v):b<w.heap.size:=World.block_lt_of_cell? w ⟨b,o,none⟩ (h b o v hv)
theorem Grows.refl {w:World}{φ:Nat->Nat->Option Value}(h:Dat φ w):Grows w w φ φ:=⟨fun _ _ _ h=>h,h,fun _ _ _ h _=>h⟩
theorem Grows.trans {a b c:World}{φ φ' φ'':Nat->Nat->Option Value}(h:Grows a b φ φ')(h':Grows b c φ' φ'')(hs:a.heap.size<=b.heap.size):Grows a c φ φ'':=
 ⟨fun b o v hv=>h'.sub _ _ _ (h.sub _ _ _ hv),h'.dat,fun b o v hv hb=>h.new _ _ _ (h'.new _ _ _ hv (Nat.lt_of_lt_of_le hb hs)) hb⟩
theorem Dat.below {φ:Nat->Nat->Option Value}{w w':World}(h:Dat φ w)(hb:Below w.heap.size w w'):Dat φ w':=fun b o v hv=>by
 have:=h.lt hv;rw[hb.cell (p:=⟨b,o,none⟩) this];exact h b o v hv
theorem Dat.but {φ:Nat->Nat->Option Value}{w w':World}(h:Dat φ w){row:Option Nat}(hg:w.grownBy w' row)(hn:∀ b o v,φ b o=some v->row≠some b):Dat φ w':=fun b o v hv=>by
 have h1:=hg.block b (h.lt hv) (fun e=>hn b o v hv e.symm);have h2:=h b o v hv;unfold World.cell? at h2 ⊢;rw[h1];exact h2
theorem Grows.below {w w' w'':World}{φ φ':Nat->Nat->Option Value}(h:Grows w w' φ φ')(hb:Below w'.heap.size w' w''):Grows w w'' φ φ':=⟨h.sub,h.dat.below hb,h.new⟩
theorem Grows.but {w w' w'':World}{φ φ':Nat->Nat->Option Value}(h:Grows w w' φ φ'){row:Option Nat}(hg:w'.grownBy w'' row)(hn:∀ b o v,φ' b o=some v->row≠some b):Grows w w'' φ φ':=⟨h.sub,h.dat.but hg hn,h.new⟩
theorem Below.ofExt {w w':World}(h:Ext w w'):Below w.heap.size w w':=⟨h.os,h.tape,h.output,h.size,h.old⟩
theorem kU {k:Nat}{G:World->Prop}(hG:Gd0 k G){B:Nat}{w w':World}(h:G w)(hB:k<=B)(hb:Below B w w'):G w':=hG.keep _ _ (fun b hb'=>hb.block b (by omega)) h
theorem jO {F:Nat->Nat->Value->Prop}{k:Kd}{v:Value}{c:Cl}(h:CR F k v c):v.oneCell'=true:=by
 cases h<;>first|rfl|assumption
theorem crs6 {F:Nat->Nat->Value->Prop}{xs:List Value}{cs:List Cl}(h:CRs F vK xs cs):∃ y0 y1 y2 y3 y4 y5,xs=[y0,y1,y2,y3,y4,y5]:=by
 cases h with|cons _ h=>cases h with|cons _ h=>cases h with|cons _ h=>cases h with|cons _ h=>cases h with|cons _ h=>cases h with|cons _ h=>cases h;exact⟨_,_,_,_,_,_,rfl⟩
theorem crs_one {F:Nat->Nat->Value->Prop}{ks:List Kd}{xs:List Value}{cs:List Cl}(h:CRs F ks xs cs):∀ u∈xs,u.oneCell'=true:=by
 induction h with
 |nil=>intro u hu;cases hu
 |cons h1 _ ih=>
  intro u hu;cases hu with
  |head=>exact jO h1
  |tail _ hu=>exact ih u hu
def fg (F:Nat->Nat->Value->Prop)(xs:List Value)(out:List (List Cl)):Prop:=
 xs.length=out.length*6/\∀ (i:Nat)(r:List Cl),out[i]? = some r->∃ y0 y1 y2 y3 y4 y5,xs[i*6]? = some y0/\xs[i*6+1]? = some y1/\xs[i*6+2]? = some y2/\xs[i*6+3]? = some y3/\xs[i*6+4]? = some y4/\xs[i*6+5]? = some y5/\CRs F vK [y0,y1,y2,y3,y4,y5] r
theorem fg.nil {F:Nat->Nat->Value->Prop}:fg F [] []:=⟨rfl,fun i r h=>by simp at h⟩
theorem fg.mono {F F':Nat->Nat->Value->Prop}(hF:∀ b o v,F b o v->F' b o v){xs:List Value}{out:List (List Cl)}(h:fg F xs out):fg F' xs out:=
 ⟨h.1,fun i r hr=>by
  obtain⟨y0,y1,y2,y3,y4,y5,a0,a1,a2,a3,a4,a5,hc⟩:=h.2 i r hr
  exact⟨y0,y1,y2,y3,y4,y5,a0,a1,a2,a3,a4,a5,hc.mono hF⟩⟩
theorem fg.snoc {F:Nat->Nat->Value->Prop}{xs:List Value}{out:List (List Cl)}{y0 y1 y2 y3 y4 y5:Value}{r:List Cl}(h:fg F xs out)(hc:CRs F vK [y0,y1,y2,y3,y4,y5] r):fg F (xs++[y0,y1,y2,y3,y4,y5]) (out++[r]):=by
 refine⟨by simp[h.1];omega,fun i r' hr=>?_⟩;by_cases hi:i<out.length
 ·rw[List.getElem?_append_left hi] at hr
  obtain⟨z0,z1,z2,z3,z4,z5,a0,a1,a2,a3,a4,a5,hc⟩:=h.2 i r' hr;have hl:=h.1
  exact⟨z0,z1,z2,z3,z4,z5,by rw[List.getElem?_append_left (by omega)];exact a0,by rw[List.getElem?_append_left (by omega)];exact a1,by rw[List.getElem?_append_left (by omega)];exact a2,
   by rw[List.getElem?_append_left (by omega)];exact a3,by rw[List.getElem?_append_left (by omega)];exact a4,by rw[List.getElem?_append_left (by omega)];exact a5,hc⟩
 ·have h1:=(ae.1 hr).1
  have hi':i=out.length:=by simp at h1;omega
  subst hi';simp at hr;subst hr;have hl:=h.1;refine⟨y0,y1,y2,y3,y4,y5,?_,?_,?_,?_,?_,?_,hc⟩<;>(rw[List.getElem?_append_right (by omega)];simp[hl])
theorem jP {F:Nat->Nat->Value->Prop}{x:Value}{nl:Bool}{rows:List (List Cl)}(h:CR F (.sl 29) x (.sl nl rows)):∃ a cap,x=.slice a rows.length cap/\rows.length<=maxLen/\
  ∀ (i:Nat)(r:List Cl),rows[i]? = some r->∃ blk off y0 y1 y2 y3 y4 y5,a=some ⟨blk,off,none⟩/\F blk (off+i*6) y0/\F blk (off+i*6+1) y1/\F blk (off+i*6+2) y2/\F blk (off+i*6+3) y3/\F blk (off+i*6+4) y4/\F blk (off+i*6+5) y5/\CRs F vK [y0,y1,y2,y3,y4,y5] r:=by
 cases h with
 |nil=>exact⟨none,0,rfl,Nat.zero_le _,fun i r h=>by simp at h⟩
 |e0 _ a=>exact⟨some a,0,rfl,Nat.zero_le _,fun i r h=>by simp at h⟩
 |sl _ blk off len cap _ vs a1 a2 a3 a4 a5 a6=>
  subst a1;refine⟨_,cap,rfl,by omega,fun i r hr=>?_⟩;have hl:r.length=6:=a4 i r hr
  obtain⟨c0,c1,c2,c3,c4,c5,rfl⟩:∃ c0 c1 c2 c3 c4 c5,r=[c0,c1,c2,c3,c4,c5]:=by
   match r,hl with
   |[c0,c1,c2,c3,c4,c5],_=>exact⟨_,_,_,_,_,_,rfl⟩
  exact⟨blk,off,vs i 0,vs i 1,vs i 2,vs i 3,vs i 4,vs i 5,rfl,a5 i _ 0 _ hr rfl,a5 i _ 1 _ hr rfl,a5 i _ 2 _ hr rfl,a5 i _ 3 _ hr rfl,a5 i _ 4 _ hr rfl,a5 i _ 5 _ hr rfl,.cons (a6 i _ 0 _ _ hr rfl rfl) (.cons (a6 i _ 1 _ _ hr rfl rfl) (.cons (a6 i _ 2 _ _ hr rfl rfl) (.cons (a6 i _ 3 _ _ hr rfl rfl) (.cons (a6 i _ 4 _ _ hr rfl rfl) (.cons (a6 i _ 5 _ _ hr rfl rfl) .nil)))))⟩
theorem A1 {w:World}{base:Nat}{v:Value}{xs:List Value}{out:List (List Cl)}{φ:Nat->Nat->Option Value}(ho:w.ownsRow base 29 6 v out.length xs)(hr:fg (rel φ) xs out)(hd:Dat φ w)(hn:∀ b o u,φ b o=some u->v.ownBlock≠some b) :
  ∃ φ' nl,(∀ b o u,φ b o=some u->φ' b o=some u)/\Dat φ' w/\(∀ b o u,φ' b o=some u->b<base->φ b o=some u)/\CR (rel φ') (.sl 29) v (.sl nl out):=by
 rcases ho.2 with⟨rfl,h0⟩|⟨g,cap,cur,rfl,hg,hh,hncp,hcpm,hcs,htake⟩
 ·have:out=[]:=List.length_eq_zero_iff.1 h0
  subst this;exact⟨φ,true,fun _ _ _ h=>h,hd,fun _ _ _ h _=>h,.nil 29⟩
 ·have hne:∀ b o u,φ b o=some u->b≠g:=fun b o u h e=>hn b o u h (by rw[e];rfl)
  refine⟨fun b o=>if b=g/\o<out.length*6 then xs[o]? else φ b o,false,fun b o u h=>?_,fun b o u h=>?_,fun b o u h hb=>?_,?_⟩
  ·show (if b=g/\o<out.length*6 then xs[o]? else φ b o)=some u
   rw[if_neg (fun e=>hne b o u h e.1)];exact h
  ·simp only at h
   split at h
   ·rename_i e
    obtain⟨rfl,h3⟩:=e;rw[<- htake,List.getElem?_take_of_lt h3] at h;simpa[World.cell?,hh] using h
   ·exact hd b o u h
  ·simp only at h
   split at h
   ·rename_i e;omega
   ·exact h
  ·have hsub:∀ b o u,rel φ b o u->(fun b o=>if b=g/\o<out.length*6 then xs[o]? else φ b o) b o=some u:=fun b o u h=>by
    show (if b=g/\o<out.length*6 then xs[o]? else φ b o)=some u;rw[if_neg (fun e=>hne b o u h e.1)];exact h
   have hrow:∀ (i:Nat)(r:List Cl),out[i]? = some r->∃ ys,xs[i*6]? = ys[0]? /\ xs[i*6+1]? = ys[1]? /\ xs[i*6+2]? = ys[2]? /\ xs[i*6+3]? = ys[3]? /\ xs[i*6+4]? = ys[4]? /\ xs[i*6+5]? = ys[5]? /\ CRs (rel φ) vK ys r:=fun i r h=>by
    obtain⟨y0,y1,y2,y3,y4,y5,a0,a1,a2,a3,a4,a5,hc⟩:=hr.2 i r h;exact⟨[y0,y1,y2,y3,y4,y5],a0,a1,a2,a3,a4,a5,hc⟩
   have hlen:∀ (i:Nat)(r:List Cl),out[i]? = some r->r.length=6:=fun i r h=>by
    obtain⟨ys,_,_,_,_,_,_,hc⟩:=hrow i r h;exact hc.wt.length.symm
   have hcr:∀ {ks:List Kd}{ys:List Value}{r:List Cl},CRs (rel φ) ks ys r->∀ (j:Nat) c k,r[j]? = some c->ks[j]? = some k->∃ y,ys[j]? = some y/\CR (rel φ) k y c:=by
    intro ks ys r h;induction h with
    |nil=>intro j c k h;simp at h
    |cons h1 _ ih=>
     intro j c k hc hk;cases j with
     |zero=>simp at hc hk;subst hc;subst hk;exact⟨_,rfl,h1⟩
     |succ j=>simp at hc hk;simpa using ih j c k hc hk
   have hxs:∀ (i:Nat)(r:List Cl)(j:Nat),out[i]? = some r->j<6->∀ ys,xs[i*6]? = ys[0]? -> xs[i*6+1]? = ys[1]? -> xs[i*6+2]? = ys[2]? -> xs[i*6+3]? = ys[3]? -> xs[i*6+4]? = ys[4]? -> xs[i*6+5]? = ys[5]? -> xs[i*6+j]? = (ys:List Value)[j]? := by
    intro i r j _ hj ys a0 a1 a2 a3 a4 a5
    match j,hj with
    |0,_=>exact a0
    |1,_=>exact a1
    |2,_=>exact a2
    |3,_=>exact a3
    |4,_=>exact a4
    |5,_=>exact a5
   refine .sl 29 g 0 out.length cap out (fun i j=>(xs[i*6+j]?).getD .nilIface) rfl hncp hcpm hlen (fun i r j c h1 h2=>?_) (fun i r j c k h1 h2 h3=>?_)
   ·have hi:i<out.length:=(ae.1 h1).1
    have hj:j<6:=by have:=(ae.1 h2).1;have:=hlen i r h1;omega
    show (if g=g/\0+i*6+j<out.length*6 then xs[0+i*6+j]? else φ g (0+i*6+j))=some ((xs[i*6+j]?).getD .nilIface);rw[if_pos ⟨rfl,by omega⟩,Nat.zero_add];have hl:=hr.1;rw[ah (by omega)];rfl
   ·obtain⟨ys,a0,a1,a2,a3,a4,a5,hc⟩:=hrow i r h1
    have hj:j<6:=by have:=(ae.1 h2).1;have:=hlen i r h1;omega
    obtain⟨y,hy,hyc⟩:=hcr hc j c k h2 h3;have e:=hxs i r j h1 hj ys a0 a1 a2 a3 a4 a5;simp only[e,hy,Option.getD_some];exact hyc.mono hsub
variable {k:Nat}{G:World->Prop}
theorem kV {F:Nat->Nat->Value->Prop}{y0 y1 y2 y3 y4 y5:Value}{r:List Cl}(h:CRs F vK [y0,y1,y2,y3,y4,y5] r):∃ k b n s a4 l4 c4 a5 l5 c5,y0=.int .i64 k/\y1=.bool b/\y2=.int .i64 n/\y3=.string s/\y4=.slice a4 l4 c4/\y5=.slice a5 l5 c5:=by
 have sl:∀ {e:TypeId}{v:Value}{c:Cl},CR F (.sl e) v c->∃ a l c',v=.slice a l c':=fun h=>by cases h<;>exact⟨_,_,_,rfl⟩
 cases h with|cons h0 h=>cases h with|cons h1 h=>cases h with|cons h2 h=>cases h with|cons h3 h=>cases h with|cons h4 h=>cases h with|cons h5 h=>
  obtain⟨a4,l4,c4,rfl⟩:=sl h4;obtain⟨a5,l5,c5,rfl⟩:=sl h5;cases h0;cases h1;cases h2;cases h3;exact⟨_,_,_,_,_,_,_,_,_,_,rfl,rfl,rfl,rfl,rfl,rfl⟩
abbrev c6 (k:Int)(b:Bool)(n:Int)(s:ByteArray)(a4:Option Addr)(l4 c4:Nat)(a5:Option Addr)(l5 c5:Nat):List Value:=[.int .i64 k,.bool b,.int .i64 n,.string s,.slice a4 l4 c4,.slice a5 l5 c5]
def CopyC (w:World)(φ:Nat->Nat->Option Value)(ds:List Cl)(e:Ending)(w':World):Prop:=
 ∃ k b n s a4 l4 c4 a5 l5 c5 φ',e=.returned (.agg #[.int .i64 k,.bool b,.int .i64 n,.string s,.slice a4 l4 c4,.slice a5 l5 c5])/\Below w.heap.size w w'/\Hid (Grows w w' φ φ'/\CRs (rel φ') vK (c6 k b n s a4 l4 c4 a5 l5 c5) ds)
theorem spec_vA {f n:Nat}{Pre:Nat->List Cl->Prop}{F:List Cl->List Cl}(hS:Go.Exo.Spec Tryz.prog G f [vA] (.one vA) (Pre n) F){w:World}{φ:Nat->Nat->Option Value}(hGw:G w)(hφ:Dat φ w){y0 y1 y2 y3 y4 y5:Value}{r:List Cl}(hy:CRs (rel φ) vK [y0,y1,y2,y3,y4,y5] r)(hp:Pre n r) :
  Calls Tryz.prog f #[.agg #[y0,y1,y2,y3,y4,y5]] w (CopyC w φ (F r)):=by
 have ha:ArgR (rel φ) [vA] [.agg [y0,y1,y2,y3,y4,y5].toArray] (r++[]):=.agg hy .nil;rw[List.append_nil] at ha;refine (hS w φ _ r hGw hφ ha hp).mono ?_;rintro e w' ⟨x,φ',rfl,h1,h2,h3,h4,h5⟩;have h5':ArgR (rel φ') [vA] [x] (F r):=h5;generalize F r=d at h5' ⊢;cases h5' with
 |agg h6 h7=>
  cases h7;obtain⟨z0,z1,z2,z3,z4,z5,rfl⟩:=crs6 h6;obtain⟨k,b,n,s,a4,l4,c4,a5,l5,c5,rfl,rfl,rfl,rfl,rfl,rfl⟩:=kV h6;rw[List.append_nil];exact⟨_,_,_,_,_,_,_,_,_,_,φ',rfl,Below.ofExt h4,⟨⟨h1,h2,h3⟩,h6⟩⟩
end Go.Proofs.Wo
end

noncomputable section
namespace Go.Proofs.Wo
open Go.Exo Go.Exo.Wo Go.RowKit
attribute [local go_sem] Oper.semAt_some
theorem aA {W:World}{B o:Nat}{c:Array Value}{t:TypeId}{fr:Nat×Nat}{v:Value}(h:W.heap[B]? = some (.cells c t fr))(hv:c[o]? = some v):W.cell? ⟨B,o,none⟩=some v:=by simp[World.cell?,h,hv]
theorem kW {W:World}{B o:Nat}{c:Array Value}{t:TypeId}(h:W.heap[B]? = some (.cells c t (0,0))):W.frozen? ⟨B,o,none⟩=false:=by simp[World.frozen?,h]
theorem cW (W:World)(c:Array Value)(t:TypeId):(W.alloc (.cells c t)).heap[W.heap.size]? = some (.cells c t (0,0)):=World.alloc_heap_new W _
structure Node (φ:Nat->Nat->Option Value) where
 d:Int
 ka:Int
 ba:Bool
 na:Int
 sa:ByteArray
 a4:Option Addr
 l4:Nat
 c4:Nat
 a5:Option Addr
 l5:Nat
 c5:Nat
 cl:List Cl
 h:CRs (rel φ) vK [.int .i64 ka,.bool ba,.int .i64 na,.string sa,.slice a4 l4 c4,.slice a5 l5 c5] cl
def Node.vs {φ:Nat->Nat->Option Value}(x:Node φ):Array Value:=#[.int .i64 x.ka,.bool x.ba,.int .i64 x.na,.string x.sa,.slice x.a4 x.l4 x.c4,.slice x.a5 x.l5 x.c5]
def Node.enc {φ:Nat->Nat->Option Value}(x:Node φ):Array Value:=#[.int .i64 x.d,.agg x.vs]
def Node.p {φ:Nat->Nat->Option Value}(x:Node φ):Int×List Cl:=(x.d,x.cl)
set_option maxRecDepth 100000 in
theorem all_q (F:Fence)(n:Nat)(h60:F.fn 132)(hro:F.round=none){φ:Nat->Nat->Option Value}(x:Node φ)(w:World) :
  CallsIn F n Tryz.prog 132 #[.agg x.vs] w fun e w'=>e=.returned (.func (.func 179) #[] #[.pointer (some ⟨w.heap.size,0,none⟩)])/\w'=w.alloc (.cells x.vs 29):=by
 have hmf:∀ (fn:Fn)(first cap:Array Value)(w:World),(Instr.makeFunc fn first cap).run Tryz.prog w=.ok (.func fn first cap) w:=fun _ _ _ _=>rfl
 obtain⟨d,ka,ba,na,sa,a4,l4,c4,a5,l5,c5,cl,hc⟩:=x;dsimp only[Node.vs];clear hc;refine callsIn_of_wp Tryz.func132 rfl h60 ?_ hro;simp only[Tryz.ntmps132,List.size_toArray,List.length_cons,List.length_nil,Nat.reduceAdd,Nat.reduceSub,Array.replicate_succ,Array.replicate_zero,List.push_toArray,List.append_toArray,List.nil_append,List.cons_append]
 gi_wp2
 go_ret;exact⟨rfl,rfl⟩
end Go.Proofs.Wo
end
