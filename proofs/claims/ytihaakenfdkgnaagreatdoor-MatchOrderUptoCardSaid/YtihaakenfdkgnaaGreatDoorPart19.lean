/-
  QuerySame: the order of values. Own text; the trees by a program of mine.
-/
import Derived.Test.YtihaakenfdkgnaaGreatDoorPart18
import Derived.Shelf.Unicode.ValidAny
import Derived.Ground.NamesProg
import Derived.Test.YtihaakenfdkgnaaGreatDoorProg
import Derived.Lib.ValidLaws
import Derived.Ground.Names2Prog
import Derived.Shelf.Slices.Clone
set_option linter.all false
noncomputable section
namespace Go.Proofs.Wo
open Go.Exo Go.Exo.Wo
set_option maxRecDepth 100000
def oT:Ct:=(fun(a b:Kd)=>(⟨bf (outS Tryz.prog tc 9 qM [] 7),[.x (.var 9 0 b),.x (.var 9 1 b),.func (.func 70) [] [],.junk,.junk,.junk,.junk,.junk,.junk,.junk,.junk,.x (.var 9 0 b),.x (.var 9 2 a),.x (.var 9 3 a),.junk,.junk,.junk,.junk,.junk,.junk,.junk,.junk,.junk,.junk,.junk,.junk,.junk,.junk,.junk,.junk,.junk,.junk,.junk,.junk,.junk,.junk,.junk,.junk,.junk],[],[b,b,a,a]⟩:Ct)) (.int .i64) (.sl 29)
def vG:List Ct:=[oT]
def lvalt:Tr:=(fun(a:X)=>.leaf 7 (.cut 0 [] [a,(.var 9 1 (.sl 29)),(.len a),(.int .i64 (0))])) (.var 9 0 (.sl 29))
def tu:Tr:=(fun(a b c d f g:X)(e:Kd)=>.ask (.bin .lss b (.var 9 2 e)) (.must (.inr b (.len d)) true <| .ask (.bin .geq b (.len c)) (.leaf 16 (.ret [] [f])) (.must (.inr b (.len c)) true <| .must (.app 9 1000000 a .bool) true <| .ask (.bin .neq (.app 9 0 a e) g) (.leaf 25 (.ret [] [(.app 9 0 a e)])) (.leaf 26 (.cut 0 [] [d,c,(.var 9 2 e),(.bin .add b f)])))) (.ask (.bin .lss (.len d) (.len c)) (.leaf 12 (.ret [] [(.int .i64 (-1))])) (.leaf 13 (.ret [] [g])))) (.cons (.el (.var 9 0 (.sl 29)) (.var 9 3 (.int .i64)) 0 (.int .i64)) (.cons (.el (.var 9 0 (.sl 29)) (.var 9 3 (.int .i64)) 1 .bool) (.cons (.el (.var 9 0 (.sl 29)) (.var 9 3 (.int .i64)) 2 (.int .i64)) (.cons (.el (.var 9 0 (.sl 29)) (.var 9 3 (.int .i64)) 3 .str) (.cons (.el (.var 9 0 (.sl 29)) (.var 9 3 (.int .i64)) 4 (.sl 9)) (.cons (.el (.var 9 0 (.sl 29)) (.var 9 3 (.int .i64)) 5 (.sl 29)) (.cons (.el (.var 9 1 (.sl 29)) (.var 9 3 (.int .i64)) 0 (.int .i64)) (.cons (.el (.var 9 1 (.sl 29)) (.var 9 3 (.int .i64)) 1 .bool) (.cons (.el (.var 9 1 (.sl 29)) (.var 9 3 (.int .i64)) 2 (.int .i64)) (.cons (.el (.var 9 1 (.sl 29)) (.var 9 3 (.int .i64)) 3 .str) (.cons (.el (.var 9 1 (.sl 29)) (.var 9 3 (.int .i64)) 4 (.sl 9)) (.cons (.el (.var 9 1 (.sl 29)) (.var 9 3 (.int .i64)) 5 (.sl 29)) .nilA)))))))))))) (.var 9 3 (.int .i64)) (.var 9 1 (.sl 29)) (.var 9 0 (.sl 29)) (.int .i64 (1)) (.int .i64 (0)) (.int .i64)
theorem lvalt_ok:Pth.allS Tryz.prog tc 9 qM vG (lvalt.paths []):=
 ⟨Pth.cS oT rfl,
  trivial⟩
theorem AC:Pth.allC Tryz.prog tc 9 qM vG oT (tu.paths []):=
 ⟨Pth.rC,Pth.rC,Pth.cC oT rfl,Pth.rC,Pth.rC,
  trivial⟩
def compcuts:List Ct:=[]
def compt:Tr:=(fun(b c d e f:X)(a:Kd)=>.ask (.bin .neq c e) (.leaf 14 (.ret [] [c])) (.ask (.bin .eql (.var 9 0 a) (.int .i64 (1))) (.leaf 23 (.ret [] [(.app 9 6 (.cons (.var 9 1 .bool) (.cons (.var 9 7 .bool) .nilA)) a)])) (.ask (.bin .eql (.var 9 0 a) (.int .i64 (3))) (.leaf 26 (.ret [] [(.app 9 2 (.cons (.var 9 3 .str) (.cons (.var 9 9 .str) .nilA)) a)])) (.must (.app 9 1000000 b .bool) true <| .ask (.bin .neq d e) (.leaf 70 (.ret [] [d])) (.ask (.bin .neq (.app 9 5 b a) e) (.leaf 86 (.ret [] [(.app 9 5 b a)])) (.ask (.bin .neq f e) (.leaf 102 (.ret [] [f])) (.leaf 111 (.ret [] [e])))))))) (.cons (.var 9 5 (.sl 29)) (.cons (.var 9 11 (.sl 29)) .nilA)) (.app 9 1 (.cons (.app 9 0 (.cons (.var 9 0 (.int .i64)) .nilA) (.int .i64)) (.cons (.app 9 0 (.cons (.var 9 6 (.int .i64)) .nilA) (.int .i64)) .nilA)) (.int .i64)) (.app 9 4 (.cons (.var 9 4 (.sl 9)) (.cons (.var 9 10 (.sl 9)) .nilA)) (.int .i64)) (.int .i64 (0)) (.app 9 3 (.cons (.var 9 2 (.int .i64)) (.cons (.var 9 8 (.int .i64)) .nilA)) (.int .i64)) (.int .i64)
theorem compt_ok:Pth.allS Tryz.prog hkComp 9 oM compcuts (compt.paths []):=
 ⟨Pth.rS,Pth.rS,Pth.rS,Pth.rS,Pth.rS,Pth.rS,Pth.rS,
  trivial⟩
variable {k:Nat}{G:World->Prop}
def tru (a b:Bool):Int:=sgn (cond a 1 0) (cond b 1 0)
def oU:List Cl->List Cl|[.bool a,.bool b]=>[.int (tru a b)]|_=>[]
def cmpN:Nat->List Cl->List Cl->Int
 |n+1,[.int k,.bool b,.int i,.str s,.sl _ ys,.sl _ rs],[.int k',.bool b',.int i',.str s',.sl _ ys',.sl _ rs']=>
  if sgn (rk k) (rk k')=0 then if k=1 then tru b b' else if k=3 then cmpB s s' else if lsC cmpR ys ys'=0 then if lsC (cmpN n) rs rs'=0 then sgn i i' else lsC (cmpN n) rs rs' else lsC cmpR ys ys' else sgn (rk k) (rk k')
 |_,_,_=>0
def e8 (n:Nat)(c:List Cl):List Cl:=[.int (cmpN n (c.take 6) (c.drop 6))]
def i6 (n:Nat):List Cl->List Cl|[.sl _ A,.sl _ B]=>[.int (lsC (cmpN n) A B)]|_=>[]
def tv (m n:Nat)(_:Nat)(c0 c:List Cl):Prop:=∃ nl A ml B i,c0=[.sl nl A,.sl ml B]/\c=[.sl nl A,.sl ml B,.int A.length,.int i]/\0<=i/\i<=A.length/\lsC (cmpN n) A B=lsC (cmpN n) (A.drop i.toNat) (B.drop i.toNat)/\i<=B.length/\SizeOf.sizeOf c0<m
def tbLv (m n:Nat)(f:Nat)(c:List Cl):Cl:=if f=1000000 then .bool (decide (SizeOf.sizeOf c<m)) else if f=0 then (e8 n c).getD 0 .no else .no
theorem lvalV {m n:Nat}:Vc0 (tbLv m n) 9 qM.ks (fun c=>SizeOf.sizeOf c<m) (tv m n) (fun c r=>r=i6 n c) lvalt:=by
 intro cls E hE hw hm;have hw':Wts [.sl 29,.sl 29] cls:=hw;obtain⟨a,_,rfl,h1,hw'⟩:=hw'.cons_inv;obtain⟨b,rfl,h2⟩:=hw'.one;obtain⟨nl,A,rfl,-,-,-⟩:=h1.sl_inv;obtain⟨ml,B,rfl,-,-,-⟩:=h2.sl_inv;simp only[lvalt,Tr.vc,To.goodT,List.map_cons,List.map_nil,hE.v,X.c_int,X.c_len,lenC,ak,al,and_true];exact⟨nl,A,ml,B,0,rfl,rfl,by omega,by omega,by simp,by omega,hm⟩
theorem lvalV0 {m n:Nat}:Vc (· < ·) kJ (tbLv m n) 9 oT.ks (tv m n) (fun c r=>r=i6 n c) 0 tu:=by
 rintro c0 cls E hE hw ⟨nl,A,ml,B,i,rfl,rfl,h1,h2,h3,h4,h5⟩;have hw':Wts [.sl 29,.sl 29,.int .i64,.int .i64] [.sl nl A,.sl ml B,.int A.length,.int i]:=hw;obtain⟨_,_,e,g,hw'⟩:=hw'.cons_inv;cases e;obtain⟨_,_,e,hlen,-,hA⟩:=g.sl_inv;cases e;obtain⟨_,_,e,g,hw'⟩:=hw'.cons_inv;cases e;obtain⟨_,_,e,hlen2,-,hB⟩:=g.sl_inv;cases e;have hlen':(A.length:Int)<=9223372036854775807:=by simp only[maxLen] at hlen;omega
 simp only[tu,Tr.vc,To.goodT,List.map_cons,List.map_nil,hE.v,hE.a,X.d_cons,X.d_nil,X.c_len,X.c_int,X.c_bool,X.c_bin,X.c_inr,X.c_el,X.kd,aL,cond_true,cond_false,ak,al,lenC,binD,intD,inrD,elD,Cl.bool.injEq,decide_eq_true_eq,decide_eq_false_iff_not,exists_eq',true_and,h1];refine⟨fun hlt=>⟨hlt,fun hge=>?_,fun hge=>?_⟩,fun hge=>⟨fun hl=>?_,fun hl=>?_⟩⟩
 ·have e1:B.drop i.toNat=[]:=List.drop_eq_nil_of_le (by omega)
  obtain⟨r,hr,hwr,hd,_⟩:=aE hA (i:=i.toNat) (by omega);simp only[i6,h3,hd,e1,lsC]
 ·obtain⟨r,hr,hwr,hd,hm⟩:=aE hA (i:=i.toNat) (by omega)
  obtain⟨r',hr',hwr',hd',hm'⟩:=aE hB (i:=i.toNat) (by omega);obtain⟨ka,ba,na,sa,nla,ya,mla,ra,rfl,-⟩:=row6 hwr;obtain⟨ka',ba',na',sa',nla',ya',mla',ra',rfl,-⟩:=row6 hwr';rw[hr,hr'];have e2:(i+1).toNat=i.toNat+1:=by omega
  have hsz:SizeOf.sizeOf [Cl.int ka,.bool ba,.int na,.str sa,.sl nla ya,.sl mla ra,.int ka',.bool ba',.int na',.str sa',.sl nla' ya',.sl mla' ra']<m:=by
   have z1:=List.sizeOf_lt_of_mem (List.mem_of_getElem? hm);have z2:=List.sizeOf_lt_of_mem (List.mem_of_getElem? hm');simp only[List.cons.sizeOf_spec,List.nil.sizeOf_spec,Cl.sl.sizeOf_spec] at z1 z2 h5 ⊢;omega
  have et:tbLv m n 0 [Cl.int ka,.bool ba,.int na,.str sa,.sl nla ya,.sl mla ra,.int ka',.bool ba',.int na',.str sa',.sl nla' ya',.sl mla' ra']=.int (cmpN n [Cl.int ka,.bool ba,.int na,.str sa,.sl nla ya,.sl mla ra] [.int ka',.bool ba',.int na',.str sa',.sl nla' ya',.sl mla' ra']):=by simp[tbLv,e8]
  have en:tbLv m n 1000000 [Cl.int ka,.bool ba,.int na,.str sa,.sl nla ya,.sl mla ra,.int ka',.bool ba',.int na',.str sa',.sl nla' ya',.sl mla' ra']=.bool true:=by simp only[tbLv,if_true,hsz,decide_true]
  generalize hc:cmpN n [Cl.int ka,.bool ba,.int na,.str sa,.sl nla ya,.sl mla ra] [.int ka',.bool ba',.int na',.str sa',.sl nla' ya',.sl mla' ra']=q at et;simp only[ak,al,et,en,intD,Cl.bool.injEq,exists_eq',true_and,Bool.not_eq_true',Bool.not_eq_false',beq_iff_eq,beq_eq_false_iff_ne,ne_eq];rw[aH (by omega) (by omega)];refine⟨by omega,fun hm=>?_,fun hm=>⟨⟨nl,A,ml,B,i+1,rfl,rfl,by omega,by omega,?_,by omega,h5⟩,by simp only[kJ];omega⟩⟩
  ·simp[i6,h3,hd,hd',lsC,hc,hm]
  ·rw[h3,hd,hd',e2];simp[lsC,hc,hm]
 ·have e1:A.drop i.toNat=[]:=List.drop_eq_nil_of_le (by omega)
  obtain⟨r',hr',hwr',hd',_⟩:=aE hB (i:=i.toNat) (by omega);simp only[i6,h3,e1,hd',lsC]
 ·have e1:A.drop i.toNat=[]:=List.drop_eq_nil_of_le (by omega)
  have e2:B.drop i.toNat=[]:=List.drop_eq_nil_of_le (by omega);simp only[i6,h3,e1,e2,lsC]
theorem lval_s (hG:Gd0 k G)(hk0:0<k)(hsz:Tryz.prog.globals.size<=k){m n:Nat}{tb:Nat->List Cl->Cl}(ih:oM.Sound Tryz.prog k G tb (fun c=>SizeOf.sizeOf c<m) (e8 n)):∃ tb,qM.Sound Tryz.prog k G tb (fun c=>SizeOf.sizeOf c<m) (i6 n):=by
 letI:Tb:=⟨some (9,tbLv m n)⟩
 exact⟨_,Ctr.ofT (hk:=tc) Nat.lt_wfRel.wf kJ (tv m n) hG (fun D=>@aq.ctr _ (dcOf D) _ _ _ _ 9 (by kernel_rfl) _ _ _ _ ih (by kernel_rfl) _ 0 (by
     intro cls j c h
     cases j with
     |zero=>simp[e8] at h;subst h;simp[tbLv,e8]
     |succ j=>simp[e8] at h) (some 1000000) (by
     intro cls h
     simpa[tbLv] using h) hG hk0 hsz rfl) hsz (L:=9) (by kernel_rfl) rfl (trs:=[tu]) (by kernel_rfl) lvalt_ok lvalV ⟨⟨AC,lvalV0⟩,trivial⟩⟩
def tbCo (m n:Nat)(f:Nat)(c:List Cl):Cl:=if f=1000000 then .bool (decide (SizeOf.sizeOf c<m)) else if f=0 then (qR c).getD 0 .no else if f=1 then (bv c).getD 0 .no else if f=2 then (cC c).getD 0 .no else if f=3 then (bv c).getD 0 .no else if f=4 then (i5 c).getD 0 .no else if f=5 then (i6 n c).getD 0 .no else if f=6 then (oU c).getD 0 .no else .no
theorem compV {m n:Nat}:Vc0 (tbCo m n) 9 oM.ks (fun c=>SizeOf.sizeOf c<m+1) (fun _ _ _=>True) (fun c r=>r=e8 (n+1) c) compt:=by
 intro cls E hE hw hm;have hw':Wts (vK++vK) cls:=hw;obtain⟨a,b,rfl,ha,hb⟩:=ck hw';obtain⟨k,b,i,s,nl,ys,ml,rs,rfl,-⟩:=row6 ha;obtain⟨k',b',i',s',nl',ys',ml',rs',rfl,-⟩:=row6 hb;simp only[List.cons_append,List.nil_append] at hm
 have hm':SizeOf.sizeOf [Cl.sl ml rs,.sl ml' rs']<m:=by
  simp only[List.cons.sizeOf_spec,List.nil.sizeOf_spec,Cl.sl.sizeOf_spec] at hm ⊢;omega
 have e0:∀ j,tbCo m n 0 [.int j]=.int (rk j):=fun j=>by simp[tbCo,qR]
 have e1:∀ j l,tbCo m n 1 [.int j,.int l]=.int (sgn j l):=fun j l=>by simp[tbCo,bv]
 have e2:tbCo m n 2 [.str s,.str s']=.int (cmpB s s'):=by simp[tbCo,cC]
 have e3:∀ j l,tbCo m n 3 [.int j,.int l]=.int (sgn j l):=fun j l=>by simp[tbCo,bv]
 have e4:tbCo m n 4 [.sl nl ys,.sl nl' ys']=.int (lsC cmpR ys ys'):=by simp[tbCo,i5]
 have e5:tbCo m n 5 [.sl ml rs,.sl ml' rs']=.int (lsC (cmpN n) rs rs'):=by simp[tbCo,i6]
 have e6:tbCo m n 6 [.bool b,.bool b']=.int (tru b b'):=by simp[tbCo,oU]
 have en:tbCo m n 1000000 [.sl ml rs,.sl ml' rs']=.bool true:=by simp only[tbCo,if_true,hm',decide_true]
 have ef:e8 (n+1) [.int k,.bool b,.int i,.str s,.sl nl ys,.sl ml rs,.int k',.bool b',.int i',.str s',.sl nl' ys',.sl ml' rs']=[.int (if sgn (rk k) (rk k')=0 then if k=1 then tru b b' else if k=3 then cmpB s s' else if lsC cmpR ys ys'=0 then if lsC (cmpN n) rs rs'=0 then sgn i i' else lsC (cmpN n) rs rs' else lsC cmpR ys ys' else sgn (rk k) (rk k'))]:=rfl;simp only[compt,Tr.vc,To.goodT,List.map_cons,List.map_nil,hE.v,hE.a,X.d_cons,X.d_nil,X.c_int,X.c_bool,X.c_bin,X.kd,aL,cond_true,cond_false,binD,intD,ak,al,List.cons_append,List.nil_append,Cl.bool.injEq,exists_eq',true_and,and_true,Bool.not_eq_true',Bool.not_eq_false',beq_iff_eq,beq_eq_false_iff_ne,ne_eq,e0,e1,e2,e3,e4,e5,e6,en,ef,List.cons.injEq,Cl.int.injEq];refine⟨fun h=>by rw[if_neg h],fun h=>⟨fun h1=>by rw[if_pos h,if_pos h1],fun h1=>⟨fun h2=>by rw[if_pos h,if_neg h1,if_pos h2],fun h2=>⟨fun h3=>by rw[if_pos h,if_neg h1,if_neg h2,if_neg h3],fun h3=>⟨fun h4=>by rw[if_pos h,if_neg h1,if_neg h2,if_pos h3,if_neg h4],fun h4=>⟨fun h5=>by rw[if_pos h,if_neg h1,if_neg h2,if_pos h3,if_pos h4],fun h5=>by rw[if_pos h,if_neg h1,if_neg h2,if_pos h3,if_pos h4,h5]⟩⟩⟩⟩⟩⟩
theorem bm {F:List Cl->List Cl}{fn:Nat->List Cl->Cl}{fi:Nat}(hl:∀ c,(F c).length<=1)(h:∀ c,fn fi c=(F c).getD 0 .no)(cls:List Cl)(j:Nat)(c:Cl)(e:(F cls)[j]? = some c):fn (fi+j) cls=c:=by
 have:=hl cls;have hj:=(ae.1 e).1;have:j=0:=by omega
 subst this;rw[Nat.add_zero,h,List.getD_eq_getElem?_getD,e];rfl
theorem comp_n (hG:Gd0 k G)(hk0:0<k)(hsz:Tryz.prog.globals.size<=k)(hT:Go.Exo.Spec Tryz.prog G 116 [.one .bool,.one .bool] (.one (.one iK)) (fun _=>True) oU):∀ n,∃ tb,oM.Sound Tryz.prog k G tb (fun c=>SizeOf.sizeOf c<n) (e8 n):=by
 intro n;induction n with
 |zero=>exact⟨fun _ _=>.no,fun w old hold φ pls cls xs _ _ _ _ _ _ _ hp=>absurd hp (by omega)⟩
 |succ m ih=>
  obtain⟨tb,ih⟩:=ih;obtain⟨tb5,h5⟩:=lval_s hG hk0 hsz ih;obtain⟨tb4,h4⟩:=lstr_ok hG hk0 hsz
  letI:Tb:=⟨some (9,tbCo m m)⟩
  have q0:=rank_ok (k:=k) (G:=G) hG hsz rfl;have q1:=cmpi_ok (k:=k) (G:=G) hG hsz rfl;have q2:=zu (k:=k) (G:=G) hG hsz rfl;have q3:=cmpl_ok (k:=k) (G:=G) hG hsz rfl;refine⟨tbCo m m,Ctr.ofT (hk:=hkComp) Nat.lt_wfRel.wf (fun _ _=>0) (fun _ _ _=>True) hG (fun D=>?_) hsz (L:=9) (by kernel_rfl) rfl (trs:=[]) (by kernel_rfl) compt_ok compV trivial⟩
  letI:=dcOf D
  refine aq.or (aq.ctr (by kernel_rfl) q0 (by kernel_rfl) ?_ none (fun _=>trivial) hG hk0 hsz rfl) (aq.or (aq.ctr (by kernel_rfl) q1 (by kernel_rfl) ?_ none (fun _=>trivial) hG hk0 hsz rfl) (aq.or (aq.ctr (by kernel_rfl) q2 (by kernel_rfl) ?_ none (fun _=>trivial) hG hk0 hsz rfl) (aq.or (aq.ctr (by kernel_rfl) q3 (by kernel_rfl) ?_ none (fun _=>trivial) hG hk0 hsz rfl) (aq.or (aq.ctr (by kernel_rfl) h4 (by kernel_rfl) ?_ none (fun _=>trivial) hG hk0 hsz rfl) (aq.or (aq.ctr (by kernel_rfl) h5 (by kernel_rfl) ?_ (some 1000000) ?_ hG hk0 hsz rfl) (aq.spec hT ?_ hG hk0 rfl D))))))
  ·exact bm (fun c=>by unfold qR;split<;>simp) fun c=>by simp[tbCo]
  ·exact bm (fun c=>by unfold bv;split<;>simp) fun c=>by simp[tbCo]
  ·exact bm (fun c=>by unfold cC;split<;>simp) fun c=>by simp[tbCo]
  ·exact bm (fun c=>by unfold bv;split<;>simp) fun c=>by simp[tbCo]
  ·exact bm (fun c=>by unfold i5;split<;>simp) fun c=>by simp[tbCo]
  ·exact bm (fun c=>by unfold i6;split<;>simp) fun c=>by simp[tbCo]
  ·intro cls h;simpa[tbCo] using h
  ·exact bm (fun c=>by unfold oU;split<;>simp) fun c=>by simp[tbCo]
end Go.Proofs.Wo
end

noncomputable section
namespace Go.Exo
variable [Sx]{P:Program}{k:Nat}{G:World->Prop}
theorem tx {E:Env}{L:Nat}{vl:Nat->Cl}{fn:Nat->List Cl->Cl}(h:DatE E L vl fn):∀ {ks:List Kd}{r:List Cl}(i:Nat),r.length=ks.length->(∀ j,vl (i+j)=r.getD j .no)->(oq L ks i).map (X.c E)=r
 |[],r,_,hl,_=>by
  have:r=[]:=List.length_eq_zero_iff.1 hl;subst this;rfl
 |k::ks,[],_,hl,_=>by simp at hl
 |k::ks,c::r,i,hl,hv=>by
  show (X.var L i k).c E::(oq L ks (i+1)).map (X.c E)=c::r;have h0:=hv 0;simp only[Nat.add_zero,ak] at h0;rw[h.v,h0,tx h (i+1) (r:=r) (by simpa using hl) (fun j=>by have:=hv (j+1);rw[show i+1+j=i+(j+1) by omega,this];simp)]
theorem Ctr.Sound.spec {L f:Nat}{shs:List Ash}{rsh:Rsh}{tb:Nat->List Cl->Cl}{Pre:List Cl->Prop}{F:List Cl->List Cl}(hL:P.globals.size=L)(hG:Gd0 k G)(hk0:0<k)(hsz:P.globals.size<=k)
  (h:(Ctr.fn L f shs rsh).Sound P k G tb Pre F)(hx:rshX rsh (resVx L rsh)=some (oq L (kinds rsh.l) 0)):Spec P G f shs rsh Pre F:=by
 subst hL;intro w φ args cls hw hφ ha hp;have hkw:=hG.size w hw;have hpl:∀ p∈([]:List Pl),p.ob=noOb:=fun p hp=>by cases hp
 have hst : @WR _ (dcOf []) ⟨w,fun b=>b<w.heap.size,fun b hb=>hb,ax P (ghOf φ cls tb) []⟩ (ax P (ghOf φ cls tb) []) .e (P.globals.size+1) w:=by
  letI:=dcOf []
  have e0:ax P (ghOf φ cls tb) []=eF P (ghOf φ cls tb):=by
   funext l;unfold ax eF;split<;>rename_i h1
   ·first|rfl|(rw[if_pos h1])
   ·split<;>rename_i h2
    ·simp
    ·simp
  rw[e0]
  exact WR.startX (P:=P) (w:=w) (g:=ghOf φ cls tb) (nx:=Nat.succ P.globals.size) (by omega) (by omega) (Nat.lt_succ_self _) hφ fun t b hdd=>by
   have e:gV [] t=some b:=hdd;rw[lH] at e;cases e
 have hargs:VRs (ax P (ghOf φ cls tb) []) (argV P.globals.size shs 0) args:=sQ bj 0 (ha.mono fun b o v hv=>(bo hpl).2 hv) fun j c hc=>by
  show cls.getD (0+j) .no=c;simp[List.getD,hc]
 refine (h w (fun b=>b<w.heap.size) (fun b hb=>hb) φ [] cls args hw (fun i hi=>by show i<w.heap.size;omega) hpl rfl hst hargs ha.wt hp).mono ?_;rintro e w' ⟨x,φ',pls',hlt,rfl,hpl',h01,h10,hext,hwr,hres,hwt,_⟩
 letI:=dcOf []
 have hdat:DatE (ax P (ghOf φ' (F cls) tb) pls') P.globals.size (fun i=>(F cls).getD i .no) tb:=⟨_,bj,rfl,rfl⟩
 have hr:=(y7 (r:=rsh) hres hx).2;rw[tx hdat (ks:=kinds rsh.l) 0 hwt.length.symm (fun j=>by rw[Nat.zero_add])] at hr;refine⟨x,φ',rfl,h01,fun b o v hv=>kc hwr ((bo hpl').2 hv),fun b o v hv hb=>h10 b o v hv hb,⟨fun b hb=>hext.old b hb,hext.size,hext.os,hext.output,hext.tape⟩,?_⟩;cases rsh with
 |one s=>exact ArgR.mono (fun b o v hv=>(bo hpl').1 hv) hr
 |tup l=>
  obtain⟨xs,e1,e2⟩:=hr;exact⟨xs,e1,ArgR.mono (fun b o v hv=>(bo hpl').1 hv) e2⟩
end Go.Exo
end

noncomputable section
namespace Go.Proofs.Wo
open Go.Exo Go.Exo.Wo
set_option maxRecDepth 100000
def Ktru (a b:Bool):Ctr:={ f:=116,args:=[.bool a,.bool b],box:=[],ks:=[],res:=.x (.var 9 0 iK),box':=[],ks':=[iK] }
def AD:List Ct:=[]
def trufft:Tr:=.leaf 52 (.ret [] [(.int .i64 (0))])
theorem AE:Pth.allS Tryz.prog hk0 9 (Ktru false false) AD (trufft.paths []):=
 ⟨Pth.rS,
  trivial⟩
def AF:List Ct:=[]
def truftt:Tr:=.leaf 46 (.ret [] [(.int .i64 (-1))])
theorem AG:Pth.allS Tryz.prog hk0 9 (Ktru false true) AF (truftt.paths []):=
 ⟨Pth.rS,
  trivial⟩
def AH:List Ct:=[]
def trutft:Tr:=.leaf 51 (.ret [] [(.int .i64 (1))])
theorem AI:Pth.allS Tryz.prog hk0 9 (Ktru true false) AH (trutft.paths []):=
 ⟨Pth.rS,
  trivial⟩
def AJ:List Ct:=[]
def truttt:Tr:=.leaf 52 (.ret [] [(.int .i64 (0))])
theorem AK:Pth.allS Tryz.prog hk0 9 (Ktru true true) AJ (truttt.paths []):=
 ⟨Pth.rS,
  trivial⟩
variable {k:Nat}{G:World->Prop}
theorem tru_k (hG:Gd0 k G)(hsz:Tryz.prog.globals.size<=k)(a b:Bool):∃ tb,(Ktru a b).Sound Tryz.prog k G tb (fun _=>True) (fun _=>[.int (tru a b)]):=by
 letI:Tb:=⟨some (9,fun _ _=>.no)⟩
 refine⟨fun _ _=>.no,?_⟩
 have hv:∀ {a b:Bool}{t:Tr}{n:Nat},t=.leaf n (.ret [] [.int .i64 (tru a b)])->Vc0 (fun _ _=>Cl.no) 9 (Ktru a b).ks (fun _=>True) (fun _ _ _=>True) (fun _ r=>r=[.int (tru a b)]) t:=by
  rintro a b t n rfl cls E hE hw -;simp only[Tr.vc,To.goodT,List.map_cons,List.map_nil,X.c_int]
 cases a<;>cases b
 ·exact Ctr.ofT (hk:=hk0) Nat.lt_wfRel.wf (fun _ _=>0) (fun _ _ _=>True) hG (fun D=>@aq.nil _ (dcOf D) _ _ _ _) hsz (L:=9) (by kernel_rfl) rfl (trs:=[]) (by kernel_rfl) AE (hv rfl) trivial
 ·exact Ctr.ofT (hk:=hk0) Nat.lt_wfRel.wf (fun _ _=>0) (fun _ _ _=>True) hG (fun D=>@aq.nil _ (dcOf D) _ _ _ _) hsz (L:=9) (by kernel_rfl) rfl (trs:=[]) (by kernel_rfl) AG (hv rfl) trivial
 ·exact Ctr.ofT (hk:=hk0) Nat.lt_wfRel.wf (fun _ _=>0) (fun _ _ _=>True) hG (fun D=>@aq.nil _ (dcOf D) _ _ _ _) hsz (L:=9) (by kernel_rfl) rfl (trs:=[]) (by kernel_rfl) AI (hv rfl) trivial
 ·exact Ctr.ofT (hk:=hk0) Nat.lt_wfRel.wf (fun _ _=>0) (fun _ _ _=>True) hG (fun D=>@aq.nil _ (dcOf D) _ _ _ _) hsz (L:=9) (by kernel_rfl) rfl (trs:=[]) (by kernel_rfl) AK (hv rfl) trivial
theorem tru_spec (hG:Gd0 k G)(hk0:0<k)(hsz:Tryz.prog.globals.size<=k):Go.Exo.Spec Tryz.prog G 116 [.one .bool,.one .bool] (.one (.one iK)) (fun _=>True) oU:=by
 have hL:Tryz.prog.globals.size=9:=by kernel_rfl
 intro w φ args cls hw hφ ha _;cases ha with
 |one h1 ha=>
 cases ha with
 |one h2 ha=>
 cases ha;cases h1 with
 |bool a=>
 cases h2 with
 |bool b=>
 obtain⟨tb,h⟩:=tru_k hG hsz a b;have hkw:=hG.size w hw;have hpl:∀ p∈([]:List Pl),p.ob=noOb:=fun p hp=>by cases hp
 have hst : @WR _ (dcOf []) ⟨w,fun b=>b<w.heap.size,fun b hb=>hb,ax Tryz.prog (ghOf φ [] tb) []⟩ (ax Tryz.prog (ghOf φ [] tb) []) .e (Tryz.prog.globals.size+1) w:=by
  letI:=dcOf []
  have e0:ax Tryz.prog (ghOf φ [] tb) []=eF Tryz.prog (ghOf φ [] tb):=by
   funext l;unfold ax eF;split<;>rename_i h1
   ·first|rfl|(rw[if_pos h1])
   ·split<;>rename_i h2
    ·simp
    ·simp
  rw[e0]
  exact WR.startX (P:=Tryz.prog) (w:=w) (g:=ghOf φ [] tb) (nx:=Nat.succ Tryz.prog.globals.size) (by omega) (by omega) (Nat.lt_succ_self _) hφ fun t b hdd=>by
   have e:gV [] t=some b:=hdd;rw[lH] at e;cases e
 refine (h w (fun b=>b<w.heap.size) (fun b hb=>hb) φ [] [] [.bool a,.bool b] hw (fun i hi=>by show i<w.heap.size;omega) hpl rfl hst (.cons _ _ _ _ (.bool a) (.cons _ _ _ _ (.bool b) .nil)) .nil trivial).mono ?_;rintro e w' ⟨x,φ',pls',hlt,rfl,hpl',h01,h10,hext,hwr,hres,hwt,_⟩
 letI:=dcOf []
 have hdat:DatE (ax Tryz.prog (ghOf φ' [.int (tru a b)] tb) pls') Tryz.prog.globals.size (fun i=>[Cl.int (tru a b)].getD i .no) tb:=⟨_,bj,rfl,rfl⟩
 have hr:=(y7 (r:=.one (.one iK)) (ts:=oq 9 [iK] 0) hres rfl).2;have hvx:=tx hdat (ks:=[iK]) 0 hwt.length.symm (fun j=>by rw[Nat.zero_add]);rw[hL] at hvx;rw[hvx] at hr;exact⟨x,φ',rfl,h01,fun b o v hv=>kc hwr ((bo hpl').2 hv),fun b o v hv hb=>h10 b o v hv hb,⟨fun b hb=>hext.old b hb,hext.size,hext.os,hext.output,hext.tape⟩,ArgR.mono (fun b o v hv=>(bo hpl').1 hv) hr⟩
theorem comp_ok (hG:Gd0 k G)(hk0:0<k)(hsz:Tryz.prog.globals.size<=k)(n:Nat):∃ tb,oM.Sound Tryz.prog k G tb (fun c=>SizeOf.sizeOf c<n) (e8 n):=comp_n hG hk0 hsz (tru_spec hG hk0 hsz) n
end Go.Proofs.Wo
end

noncomputable section
namespace Go.Proofs
open Go.Shelf
def Tryz.laysValid_ren:Go.Shelf.Ren:=⟨fun|196=>176|259=>246|n=>n,fun|9=>9|4=>4|3=>3|5=>5|12=>12|119=>316|0=>0|46=>145|139=>319|138=>318|53=>201|n=>n,fun|3=>1|4=>2|n=>n⟩
theorem Tryz.laysValid:Go.Proofs.Lays.n196 Tryz.prog Tryz.laysValid_ren:={
 mixed:=by kernel_rfl
 f196:=Tryz.func176.trans (congrArg some (by kernel_rfl))
 f259:=Tryz.func246.trans (congrArg some (by kernel_rfl))
 t0:=Tryz.underlying0
 a0:=Tryz.isAgg0
 z0:=Tryz.sizeOf0
 v0:=Tryz.zeroValue0
 t3:=Tryz.underlying3
 a3:=Tryz.isAgg3
 z3:=Tryz.sizeOf3
 v3:=Tryz.zeroValue3
 t4:=Tryz.underlying4
 a4:=Tryz.isAgg4
 z4:=Tryz.sizeOf4
 v4:=Tryz.zeroValue4
 t5:=Tryz.underlying5
 a5:=Tryz.isAgg5
 z5:=Tryz.sizeOf5
 v5:=Tryz.zeroValue5
 t9:=Tryz.underlying9
 a9:=Tryz.isAgg9
 z9:=Tryz.sizeOf9
 v9:=Tryz.zeroValue9
 t12:=Tryz.underlying12
 a12:=Tryz.isAgg12
 z12:=Tryz.sizeOf12
 v12:=Tryz.zeroValue12
 t46:=Tryz.underlying145
 a46:=Tryz.isAgg145
 z46:=Tryz.sizeOf145
 v46:=Tryz.zeroValue145
 t53:=Tryz.underlying201
 a53:=Tryz.isAgg201
 z53:=Tryz.sizeOf201
 v53:=Tryz.zeroValue201
 t119:=Tryz.underlying316
 a119:=Tryz.isAgg316
 z119:=Tryz.sizeOf316
 t138:=Tryz.underlying318
 a138:=Tryz.isAgg318
 z138:=Tryz.sizeOf318
 v138:=Tryz.zeroValue318
 t139:=Tryz.underlying319
 a139:=Tryz.isAgg319
 z139:=Tryz.sizeOf319
 v139:=Tryz.zeroValue319
 g3:=by kernel_rfl
 g4:=by kernel_rfl }
end Go.Proofs
end

noncomputable section
namespace Go.Proofs.Wo
open Go.Exo Go.Exo.Wo
set_option maxRecDepth 100000
variable {k:Nat}{G:World->Prop}
def rnF (len i x0 x1 x2 x3:Int):Int:=
 if x0<128 then 1
 else if 194<=x0/\x0<=223/\i+1<len/\128<=x1/\x1<=191 then 2
 else if 224<=x0/\x0<=239/\(i+1<len/\128<=x1/\x1<=191)/\(i+2<len/\128<=x2/\x2<=191) then (if (x0=224/\x1<160)\/(x0=237/\159<x1) then 0 else 3)
 else if 240<=x0/\x0<=244/\(i+1<len/\128<=x1/\x1<=191)/\(i+2<len/\128<=x2/\x2<=191)/\(i+3<len/\128<=x3/\x3<=191) then (if (x0=240/\x1<144)\/(x0=244/\143<x1) then 0 else 4)
 else 0
def bT (s:List UInt8)(i:Int):Int:=((s.getD i.toNat 0).toNat:Int)
def eI (s:List UInt8)(i:Int):Int:=rnF s.length i (bT s i) (bT s (i+1)) (bT s (i+2)) (bT s (i+3))
def oV:List Cl->List Cl
 |[.str s,.int i]=>[.int (eI s i)]
 |_=>[]
set_option maxHeartbeats 4000000 in
theorem runeXV {tb:Nat->List Cl->Cl}:Vc0 tb 9 Krune.ks (fun c=>∃ s i,c=[.str s,.int i]/\0<=i/\i<s.length) (fun _ _ _=>True) (fun cls r=>r=oV cls) runet:=by
 rintro cls E hE hw ⟨s,i,rfl,h0,h1⟩;have hw':Wts [.str,.int .i64] [.str s,.int i]:=hw;obtain⟨_,_,e,h2,_⟩:=hw'.cons_inv;cases e;obtain⟨_,e,h3⟩:=h2.str_inv;cases e;simp only[maxLen] at h3;have w1:IntKind.wrap .i64 (i+1)=i+1:=aH (by omega) (by omega);have w2:i+1<s.length->IntKind.wrap .i64 (i+2)=i+2:=fun h=>aH (by omega) (by omega)
 have w3:i+2<s.length->IntKind.wrap .i64 (i+3)=i+3:=fun h=>aH (by omega) (by omega)
 simp only[runet,Tr.vc,To.goodT,List.map_cons,List.map_nil,hE.v,X.c_int,X.c_bool,X.c_bin,X.c_len,X.c_inr,X.c_at,lenC,inrD,atD,X.kd,binD,intD,ak,al,aL,cond_true,cond_false,Cl.bool.injEq,exists_eq',true_and,and_true,decide_eq_true_eq,decide_eq_false_iff_not,h0,h1,w1,List.cons.injEq,Cl.int.injEq,exists_eq_left',decide_true,beq_iff_eq,beq_eq_false_iff_ne,ne_eq,implies_true,Cl.str.injEq,and_imp,forall_eq',oV,eI];have v2:i+1<s.length->((s.getD (IntKind.wrap .i64 (i+2)).toNat 0).toNat:Int)=bT s (i+2):=fun h=>by rw[w2 h];rfl
 have v3:i+2<s.length->((s.getD (IntKind.wrap .i64 (i+3)).toNat 0).toNat:Int)=bT s (i+3):=fun h=>by rw[w3 h];rfl
 have v0:((s.getD i.toNat 0).toNat:Int)=bT s i:=rfl;have v1:((s.getD (i+1).toNat 0).toNat:Int)=bT s (i+1):=rfl;simp only[v0,v1];generalize ((s.getD (IntKind.wrap .i64 (i+2)).toNat 0).toNat:Int)=b2 at v2 ⊢;generalize ((s.getD (IntKind.wrap .i64 (i+3)).toNat 0).toNat:Int)=b3 at v3 ⊢;generalize IntKind.wrap .i64 (i+2)=a2 at w2 ⊢;generalize IntKind.wrap .i64 (i+3)=a3 at w3 ⊢;generalize bT s i=x0;generalize bT s (i+1)=x1;generalize bT s (i+2)=x2 at v2 ⊢;generalize bT s (i+3)=x3 at v3 ⊢;generalize (s.length:Int)=len at *
 repeat' (first|(refine⟨?_,?_⟩)|intro _)
 all_goals first|omega|(unfold rnF;repeat' split)<;>omega
theorem rune_x (hG:Gd0 k G)(hsz:Tryz.prog.globals.size<=k):∃ tb,Krune.Sound Tryz.prog k G tb (fun c=>∃ s i,c=[.str s,.int i]/\0<=i/\i<s.length) oV:=by
 letI:Tb:=⟨some (9,fun _ _=>.no)⟩
 exact⟨_,Ctr.ofT (hk:=hk0) Nat.lt_wfRel.wf (fun _ _=>0) (fun _ _ _=>True) hG (fun D=>@aq.nil _ (dcOf D) _ _ _ _) hsz (L:=9) (by kernel_rfl) rfl (trs:=[]) (by kernel_rfl) runet_ok runeXV trivial⟩
end Go.Proofs.Wo
end

noncomputable section
namespace Go.Proofs.Wo
open Go.Exo Go.Exo.Wo Go.Lib
set_option maxRecDepth 100000
set_option maxHeartbeats 4000000 in
theorem rn_lead (n:Nat)(len i:Int)(hn:len=i+n)(x0 x1 x2 x3:Nat)(h0:128<=x0)(h0':x0<256) :
  (checkN n x1 x2 x3 (firstT x0 % 8) (accLo (firstT x0 / 16)) (accHi (firstT x0 / 16))=none/\rnF len i x0 x1 x2 x3=0)\/
  ∃ k:Nat,0<k/\checkN n x1 x2 x3 (firstT x0 % 8) (accLo (firstT x0 / 16)) (accHi (firstT x0 / 16))=some k/\rnF len i x0 x1 x2 x3=k:=by
 have bad:firstT x0=241->(x0<194\/244<x0)->(checkN n x1 x2 x3 (firstT x0 % 8) (accLo (firstT x0 / 16)) (accHi (firstT x0 / 16))=none/\rnF len i x0 x1 x2 x3=0)\/
  ∃ k:Nat,0<k/\checkN n x1 x2 x3 (firstT x0 % 8) (accLo (firstT x0 / 16)) (accHi (firstT x0 / 16))=some k/\rnF len i x0 x1 x2 x3=k:=by
  intro e hb;left;refine⟨by rw[e];simp[checkN],?_⟩;unfold rnF;repeat' split
  all_goals omega
 have two:∀ e:Nat,firstT x0=e->e % 8=2->accLo (e / 16)=128->accHi (e / 16)=191->194<=x0->x0<224->(checkN n x1 x2 x3 (firstT x0 % 8) (accLo (firstT x0 / 16)) (accHi (firstT x0 / 16))=none/\rnF len i x0 x1 x2 x3=0)\/
  ∃ k:Nat,0<k/\checkN n x1 x2 x3 (firstT x0 % 8) (accLo (firstT x0 / 16)) (accHi (firstT x0 / 16))=some k/\rnF len i x0 x1 x2 x3=k:=by
  intro e e0 e1 e2 e3 h1 h2;rw[e0,e1,e2,e3];by_cases c:n<2\/x1<128\/191<x1
  ·left
   refine⟨by simp only[checkN,if_true,if_pos c],?_⟩;unfold rnF;repeat' split
   all_goals omega
  ·right
   refine⟨2,by omega,by simp only[checkN,if_true,if_neg c],?_⟩;unfold rnF;repeat' split
   all_goals omega
 have three:∀ (e lo hi:Nat),firstT x0=e->e % 8=3->accLo (e / 16)=lo->accHi (e / 16)=hi->224<=x0->x0<240->(x0=224->lo=160/\hi=191)->(x0=237->lo=128/\hi=159)->(x0≠224->x0≠237->lo=128/\hi=191)->(checkN n x1 x2 x3 (firstT x0 % 8) (accLo (firstT x0 / 16)) (accHi (firstT x0 / 16))=none/\rnF len i x0 x1 x2 x3=0)\/
  ∃ k:Nat,0<k/\checkN n x1 x2 x3 (firstT x0 % 8) (accLo (firstT x0 / 16)) (accHi (firstT x0 / 16))=some k/\rnF len i x0 x1 x2 x3=k:=by
  intro e lo hi e0 e1 e2 e3 h1 h2 h3 h4 h5;rw[e0,e1,e2,e3];by_cases c:n<3\/x1<lo\/hi<x1\/x2<128\/191<x2
  ·left
   refine⟨by simp only[checkN,if_true,if_pos c,show ¬ (3=2) by decide,if_false],?_⟩;unfold rnF;repeat' split
   all_goals omega
  ·right
   refine⟨3,by omega,by simp only[checkN,if_true,if_neg c,show ¬ (3=2) by decide,if_false],?_⟩;unfold rnF;repeat' split
   all_goals omega
 have four:∀ (e lo hi:Nat),firstT x0=e->e % 8=4->accLo (e / 16)=lo->accHi (e / 16)=hi->240<=x0->x0<245->(x0=240->lo=144/\hi=191)->(x0=244->lo=128/\hi=143)->(x0≠240->x0≠244->lo=128/\hi=191)->(checkN n x1 x2 x3 (firstT x0 % 8) (accLo (firstT x0 / 16)) (accHi (firstT x0 / 16))=none/\rnF len i x0 x1 x2 x3=0)\/
  ∃ k:Nat,0<k/\checkN n x1 x2 x3 (firstT x0 % 8) (accLo (firstT x0 / 16)) (accHi (firstT x0 / 16))=some k/\rnF len i x0 x1 x2 x3=k:=by
  intro e lo hi e0 e1 e2 e3 h1 h2 h3 h4 h5;rw[e0,e1,e2,e3];by_cases c:n<4\/x1<lo\/hi<x1\/x2<128\/191<x2\/x3<128\/191<x3
  ·left
   refine⟨by simp only[checkN,if_true,if_pos c,show ¬ (4=2) by decide,show ¬ (4=3) by decide,if_false],?_⟩;unfold rnF;repeat' split
   all_goals omega
  ·right
   refine⟨4,by omega,by simp only[checkN,if_true,if_neg c,show ¬ (4=2) by decide,show ¬ (4=3) by decide,if_false],?_⟩;unfold rnF;repeat' split
   all_goals omega
 have a0:¬ x0<128:=by omega
 by_cases c0:x0<194
 ·exact bad (by simp[firstT,a0,c0]) (.inl c0)
 by_cases c1:x0<224
 ·exact two 2 (by simp[firstT,a0,c0,c1]) rfl rfl rfl (by omega) c1
 by_cases c2:x0=224
 ·exact three 19 160 191 (by simp[firstT,c2]) rfl rfl rfl (by omega) (by omega) (by omega) (by omega) (by omega)
 by_cases c3:x0<237
 ·exact three 3 128 191 (by simp[firstT,a0,c0,c1,c2,c3]) rfl rfl rfl (by omega) (by omega) (by omega) (by omega) (by omega)
 by_cases c4:x0=237
 ·exact three 35 128 159 (by simp[firstT,c4]) rfl rfl rfl (by omega) (by omega) (by omega) (by omega) (by omega)
 by_cases c5:x0<240
 ·exact three 3 128 191 (by simp[firstT,a0,c0,c1,c2,c3,c4,c5]) rfl rfl rfl (by omega) (by omega) (by omega) (by omega) (by omega)
 by_cases c6:x0=240
 ·exact four 52 144 191 (by simp[firstT,c6]) rfl rfl rfl (by omega) (by omega) (by omega) (by omega) (by omega)
 by_cases c7:x0<244
 ·exact four 4 128 191 (by simp[firstT,a0,c0,c1,c2,c3,c4,c5,c6,c7]) rfl rfl rfl (by omega) (by omega) (by omega) (by omega) (by omega)
 by_cases c8:x0=244
 ·exact four 68 128 143 (by simp[firstT,c8]) rfl rfl rfl (by omega) (by omega) (by omega) (by omega) (by omega)
 ·exact bad (by simp[firstT,a0,c0,c1,c2,c3,c4,c5,c6,c7,c8]) (.inr (by omega))
theorem fT (s:List UInt8)(i j:Nat):bT s ((i:Int)+j)=(((s.drop i).getD j 0).toNat:Int):=by
 have e:((i:Int)+j).toNat=i+j:=by omega
 simp only[bT,List.getD_eq_getElem?_getD,List.getElem?_drop,e]
theorem zv (s:List UInt8)(i:Nat)(hi:i<s.length):0<=eI s i/\(eI s i=0->validD (s.drop i)=false)/\(eI s i≠0->validD (s.drop i)=validD (s.drop (i+(eI s i).toNat))):=by
 have hne:s.drop i≠[]:=fun h=>by have:=congrArg List.length h;simp at this;omega
 have b0:bT s i=(((s.drop i).getD 0 0).toNat:Int):=by simpa using fT s i 0
 have b1:bT s ((i:Int)+1)=_:=fT s i 1;have b2:bT s ((i:Int)+2)=_:=fT s i 2;have b3:bT s ((i:Int)+3)=_:=fT s i 3;unfold eI;by_cases h0:((s.drop i).getD 0 0).toNat<128
 ·have e:rnF s.length i (bT s i) (bT s (i+1)) (bT s (i+2)) (bT s (i+3))=1:=by
   rw[b0];unfold rnF;rw[if_pos (by omega)]
  rw[e];refine⟨by decide,fun h=>absurd h (by decide),fun _=>?_⟩;rw[List.drop_eq_getElem_cons hi] at h0 ⊢;rw[validD_cons _ _ (by simpa[ah hi] using h0)];rfl
 ·have hh:=rn_lead (s.drop i).length s.length i (by simp;omega) ((s.drop i).getD 0 0).toNat ((s.drop i).getD 1 0).toNat ((s.drop i).getD 2 0).toNat ((s.drop i).getD 3 0).toNat (by omega) (UInt8.toNat_lt _)
  have hl:=validD_lead (s.drop i) hne (by omega);rw[b0,b1,b2,b3];rcases hh with⟨e1,e2⟩|⟨k,hk,e1,e2⟩
  ·rw[e1] at hl
   rw[e2];exact⟨by decide,fun _=>hl,fun h=>absurd rfl h⟩
  ·rw[e1] at hl
   rw[e2];refine⟨by omega,fun h=>by omega,fun _=>?_⟩;rw[hl];show validD (List.drop k (List.drop i s))=_;rw[List.drop_drop];simp
variable {k:Nat}{G:World->Prop}
open Classical in
def tbUx (f:Nat)(c:List Cl):Cl:=if f=0 then (oV c).getD 0 .no else .bool (decide (∃ s i,c=[.str s,.int i]/\0<=i/\i<(s.length:Int)))
def dY:List Cl->List Cl
 |[.str s]=>[.bool (validD s)]
 |_=>[.bool true]
def tz (_:Nat)(c0 c:List Cl):Prop:=∃ s i,c0=[.str s]/\c=[.str s,.int i]/\0<=i/\validD s=validD (s.drop i.toNat)
theorem utfXV:Vc0 tbUx 9 Kutf.ks (fun _=>True) tz (fun c r=>r=dY c) utft:=by
 intro cls E hE hw _;have hw':Wts [.str] cls:=hw;obtain⟨_,rfl,h1⟩:=hw'.one;obtain⟨s,rfl,h2⟩:=h1.str_inv;simp only[utft,Tr.vc,To.goodT,List.map_cons,List.map_nil,hE.v,X.c_int,ak,al,and_true];exact⟨s,0,rfl,rfl,by omega,rfl⟩
open Classical in
theorem utfXV0:Vc (· < ·) utfM tbUx 9 vE.ks tz (fun c r=>r=dY c) 0 utft0:=by
 rintro c0 cls E hE hw ⟨s,i,rfl,rfl,h0,hv⟩;have hw':Wts [.str,.int .i64] [.str s,.int i]:=hw;obtain⟨_,_,e,h2,h4⟩:=hw'.cons_inv;cases e;obtain⟨_,e,h3⟩:=h2.str_inv;cases e;obtain⟨_,e,h5⟩:=h4.one;cases e;obtain⟨_,e,h6,h7⟩:=h5.int_inv;cases e;simp only[maxLen] at h3;have t0:tbUx 0 [.str s,.int i]=.int (eI s i):=by simp[tbUx,oV]
 have t1:i<s.length->tbUx 1000000 [.str s,.int i]=.bool true:=fun h=>by unfold tbUx;rw[if_neg (by decide),decide_eq_true ⟨s,i,rfl,h0,h⟩]
 have ei:((i.toNat:Nat):Int)=i:=by omega
 have hr:i<s.length->0<=eI s i/\i+eI s i<=s.length:=fun h=>by
  unfold eI rnF;repeat' split
  all_goals omega
 simp only[utft0,Tr.vc,To.goodT,List.map_cons,List.map_nil,hE.v,hE.a,X.d_cons,X.d_nil,t0,X.c_int,X.c_bool,X.c_bin,X.c_len,lenC,X.kd,binD,intD,ak,al,aL,cond_true,cond_false,Cl.bool.injEq,exists_eq',true_and,and_true,decide_eq_true_eq,decide_eq_false_iff_not,beq_iff_eq,beq_eq_false_iff_ne,ne_eq,List.cons.injEq,implies_true,dY];refine⟨fun hlt=>⟨t1 hlt,fun hn=>?_,fun hn=>⟨⟨s,_,rfl,rfl,?_,?_⟩,?_⟩⟩,fun hge=>?_⟩
 ·obtain⟨-,q2,-⟩:=zv s i.toNat (by omega)
  rw[ei] at q2;rw[hv,q2 hn]
 ·have:=hr hlt;rw[aH (by omega) (by omega)];omega
 ·have:=hr hlt
  obtain⟨-,-,q3⟩:=zv s i.toNat (by omega);rw[ei] at q3;rw[aH (by omega) (by omega),hv,q3 hn,show (i+eI s i).toNat=i.toNat+(eI s i).toNat by omega]
 ·have:=hr hlt
  rw[aH (by omega) (by omega)];show (s.length-(i+eI s i)).toNat<(s.length-i).toNat;omega
 ·rw[hv,List.drop_eq_nil_of_le (by omega)];rfl
theorem utf_x (hG:Gd0 k G)(hk0':0<k)(hsz:Tryz.prog.globals.size<=k):∃ tb,Kutf.Sound Tryz.prog k G tb (fun _=>True) dY:=by
 obtain⟨tb,hS⟩:=rune_x hG hsz
 letI:Tb:=⟨some (9,tbUx)⟩
 exact⟨_,Ctr.ofT (hk:=hkUtf) Nat.lt_wfRel.wf utfM tz hG (fun D=>@aq.ctr _ (dcOf D) _ _ _ _ 9 (by kernel_rfl) _ _ _ _ hS (by kernel_rfl) _ 0 (by
     intro cls j c h
     unfold oV at h
     split at h
     ·cases j with
      |zero=>simp at h;subst h;simp[tbUx,oV]
      |succ j=>simp at h
     ·simp at h) (some 1000000) (by
     intro cls h
     simpa[tbUx] using h) hG hk0' hsz rfl) hsz (L:=9) (by kernel_rfl) rfl (trs:=[utft0]) (by kernel_rfl) utft_ok utfXV ⟨⟨utft0_ok,utfXV0⟩,trivial⟩⟩
end Go.Proofs.Wo
end

noncomputable section
namespace Go.Proofs.Wo
open Go.Exo Go.Exo.Wo
set_option maxRecDepth 100000
def jH:Ct:=(fun(a:Kd)=>(⟨bf (outS Tryz.prog jG 9 eZ [] 9),[.junk,.ptr 10 0,.junk,.junk,.junk,.junk,.int .i64 (1),.int .i64 (0),.x (.var 9 0 a),.x (.var 9 1 a),.x (.var 9 2 a),.junk,.junk,.junk,.junk,.junk,.junk,.junk,.junk,.junk,.junk,.junk,.junk,.junk,.junk,.junk,.junk,.junk,.junk,.junk,.junk,.junk,.junk,.junk,.junk,.junk,.junk,.junk,.junk,.junk,.junk,.junk,.junk,.junk,.junk,.junk,.junk,.junk,.junk,.junk,.junk,.junk,.junk,.junk,.junk,.junk,.junk,.junk,.junk,.junk,.junk,.junk,.junk,.junk,.junk,.junk,.junk,.junk,.junk,.junk,.junk,.junk],[some (.cells 29 [.x (.var 9 3 a),.x (.var 9 4 .bool),.x (.var 9 5 a),.x (.var 9 6 .str),.x (.var 9 7 (.sl 9)),.x (.var 9 8 (.sl 29))] 0 false)],[a,a,a,a,.bool,a,.str,(.sl 9),(.sl 29)]⟩:Ct)) (.int .i64)
def fU:Ct:=(fun(a:Kd)=>(⟨bf (outC Tryz.prog jG 9 16 jH [((.bin .lss (.var 9 2 a) (.len (.var 9 7 (.sl 9)))),false)] 10),[.junk,.ptr 10 0,.junk,.junk,.junk,.junk,.x (.var 9 0 a),.x (.var 9 1 a),.x (.var 9 2 a),.x (.var 9 3 a),.junk,.x (.var 9 4 a),.junk,.junk,.junk,.junk,.junk,.junk,.junk,.junk,.junk,.junk,.junk,.junk,.junk,.junk,.junk,.junk,.junk,.junk,.junk,.junk,.junk,.junk,.junk,.junk,.junk,.junk,.junk,.junk,.junk,.junk,.junk,.junk,.junk,.junk,.junk,.junk,.junk,.junk,.junk,.junk,.junk,.junk,.junk,.junk,.junk,.junk,.junk,.junk,.junk,.junk,.junk,.junk,.junk,.junk,.junk,.junk,.junk,.junk,.junk,.junk],[some (.cells 29 [.x (.var 9 5 a),.x (.var 9 6 .bool),.x (.var 9 7 a),.x (.var 9 8 .str),.x (.var 9 9 (.sl 9)),.x (.var 9 10 (.sl 29))] 0 false)],[a,a,a,a,a,a,.bool,a,.str,(.sl 9),(.sl 29)]⟩:Ct)) (.int .i64)
def hQ:List Ct:=[jH,fU]
def vH:Tr:=(fun(a b:X)=>.leaf 9 (.cut 0 [10] [(.len b),(.len a),(.int .i64 (0)),(.var 9 0 (.int .i64)),(.var 9 1 .bool),(.var 9 2 (.int .i64)),b,(.var 9 4 (.sl 9)),a])) (.var 9 5 (.sl 29)) (.var 9 3 .str)
def jI:Tr:=(fun(b c d e f g h:X)(a:Kd)=>.ask (.bin .lss c (.len b)) (.must (.inr c (.len b)) true <| .leaf 11 (.cut 0 [10] [(.bin .add (.var 9 0 a) (.len (.el b c 0 .str))),(.var 9 1 a),(.bin .add c f),(.var 9 3 a),e,(.var 9 5 a),g,b,d])) (.leaf 10 (.cut 1 [10] [f,h,(.var 9 0 a),(.var 9 1 a),h,(.var 9 3 a),e,(.var 9 5 a),g,b,d]))) (.var 9 7 (.sl 9)) (.var 9 2 (.int .i64)) (.var 9 8 (.sl 29)) (.var 9 4 .bool) (.int .i64 (1)) (.var 9 6 .str) (.int .i64 (0)) (.int .i64)
def jJ:Tr:=(fun(a c d e f g h i j k l m:X)(b:Kd)=>.ask (.bin .lss (.var 9 4 b) (.len d)) (.must (.inr (.var 9 4 b) (.len d)) true <| .must (.app 9 1000000 a .bool) true <| .ask (.bin .lss k (.app 9 1 a b)) (.ask (.bin .lss h (.app 9 3 a b)) (.leaf 14 (.cut 1 [10] [(.bin .add i (.app 9 0 a b)),(.app 9 1 a b),(.bin .add j (.app 9 2 a b)),(.app 9 3 a b),c,l,f,m,g,e,d])) (.leaf 14 (.cut 1 [10] [(.bin .add i (.app 9 0 a b)),(.app 9 1 a b),(.bin .add j (.app 9 2 a b)),h,c,l,f,m,g,e,d]))) (.ask (.bin .lss h (.app 9 3 a b)) (.leaf 14 (.cut 1 [10] [(.bin .add i (.app 9 0 a b)),k,(.bin .add j (.app 9 2 a b)),(.app 9 3 a b),c,l,f,m,g,e,d])) (.leaf 14 (.cut 1 [10] [(.bin .add i (.app 9 0 a b)),k,(.bin .add j (.app 9 2 a b)),h,c,l,f,m,g,e,d])))) (.leaf 8 (.ret [] [i,(.bin .add k (.int .i64 (1))),j,h]))) (.cons (.el (.var 9 10 (.sl 29)) (.var 9 4 (.int .i64)) 0 (.int .i64)) (.cons (.el (.var 9 10 (.sl 29)) (.var 9 4 (.int .i64)) 1 .bool) (.cons (.el (.var 9 10 (.sl 29)) (.var 9 4 (.int .i64)) 2 (.int .i64)) (.cons (.el (.var 9 10 (.sl 29)) (.var 9 4 (.int .i64)) 3 .str) (.cons (.el (.var 9 10 (.sl 29)) (.var 9 4 (.int .i64)) 4 (.sl 9)) (.cons (.el (.var 9 10 (.sl 29)) (.var 9 4 (.int .i64)) 5 (.sl 29)) .nilA)))))) (.bin .add (.var 9 4 (.int .i64)) (.int .i64 (1))) (.var 9 10 (.sl 29)) (.var 9 9 (.sl 9)) (.var 9 6 .bool) (.var 9 8 .str) (.var 9 3 (.int .i64)) (.var 9 0 (.int .i64)) (.var 9 2 (.int .i64)) (.var 9 1 (.int .i64)) (.var 9 5 (.int .i64)) (.var 9 7 (.int .i64)) (.int .i64)
theorem vI:Pth.allS Tryz.prog jG 9 eZ hQ (vH.paths []):=
 ⟨Pth.cS jH rfl,
  trivial⟩
theorem qS:Pth.allC Tryz.prog jG 9 eZ hQ jH (jI.paths []):=
 ⟨Pth.cC jH rfl,Pth.cC fU rfl,
  trivial⟩
theorem qT:Pth.allC Tryz.prog jG 9 eZ hQ fU (jJ.paths []):=
 ⟨Pth.cC fU rfl,Pth.cC fU rfl,Pth.cC fU rfl,Pth.cC fU rfl,Pth.rC,
  trivial⟩
variable {k:Nat}{G:World->Prop}
set_option maxHeartbeats 4000000
def Int4 (_ r:List Cl):Prop:=∃ a b c d,r=[.int a,.int b,.int c,.int d]
def tbS (F:List Cl->List Cl)(m:Nat)(f:Nat)(c:List Cl):Cl:=if f=1000000 then .bool (decide (SizeOf.sizeOf c<m)) else (F c).getD f .no
def isVal (m:Nat)(c:List Cl):Prop:=∃ (k:Int)(b:Bool)(n:Int)(s:List UInt8)(nl:Bool)(ys:List (List Cl))(ml:Bool)(rs:List (List Cl)),c=[.int k,.bool b,.int n,.str s,.sl nl ys,.sl ml rs]/\SizeOf.sizeOf c<m+1
def kK (m:Nat)(j:Nat)(_ c:List Cl):Prop :=
 (j=0->∃ a b i v,c=.int a::.int b::.int i::v/\isVal m v/\0<=i)/\(j≠0->∃ a b c' d i v,c=.int a::.int b::.int c'::.int d::.int i::v/\isVal m v/\0<=i)
def i7 (j:Nat)(c:List Cl):Nat:=match c with
 |[_,_,.int i,_,_,_,_,.sl _ ys,.sl _ rs]=>(ys.length-i).toNat+rs.length+1
 |[_,_,_,_,.int i,_,_,_,_,_,.sl _ rs]=>(rs.length-i).toNat
 |_=>0
theorem sizeV {m:Nat}{tb:Nat->List Cl->Cl}:Vc0 tb 9 eZ.ks (fun c=>SizeOf.sizeOf c<m+1) (kK m) Int4 vH:=by
 intro cls E hE hw hm;obtain⟨k,b,n,s,nl,ys,ml,rs,rfl,-⟩:=row6 hw;simp only[vH,Tr.vc,To.goodT,List.map_cons,List.map_nil,hE.v,X.c_int,X.c_len,lenC,ak,al,and_true];exact⟨fun _=>⟨_,_,_,_,rfl,⟨k,b,n,s,nl,ys,ml,rs,rfl,hm⟩,by omega⟩,fun h=>absurd rfl h⟩
theorem sizeV0 {m:Nat}{tb:Nat->List Cl->Cl}:Vc (· < ·) i7 tb 9 jH.ks (kK m) Int4 0 jI:=by
 rintro c0 cls E hE hw ⟨hv,-⟩;obtain⟨a,b',i,v,rfl,⟨k,b,n,s,nl,ys,ml,rs,rfl,hm⟩,h4⟩:=hv rfl;have hw':Wts ([.int .i64,.int .i64,.int .i64]++vK) ([.int a,.int b',.int i]++[.int k,.bool b,.int n,.str s,.sl nl ys,.sl ml rs]):=hw;obtain⟨_,_,e,ha,hb⟩:=ck hw';obtain⟨_,_,rfl,_,h1⟩:=ha.cons_inv;obtain⟨_,_,rfl,_,h2⟩:=h1.cons_inv;obtain⟨_,rfl,_⟩:=h2.one;simp only[List.cons_append,List.nil_append,List.cons.injEq,true_and] at e;obtain⟨-,-,-,rfl⟩:=e;obtain⟨_,_,_,_,_,_,_,_,e,hl,-⟩:=row6 hb;simp only[List.cons.injEq,Cl.int.injEq,Cl.bool.injEq,Cl.str.injEq,Cl.sl.injEq,and_true,true_and] at e;obtain⟨-,-,-,-,⟨-,rfl⟩,-,rfl⟩:=e;obtain⟨q1,q2,q3,q4⟩:=ls2 hl;simp only[maxLen] at q1 q3;simp only[jI,Tr.vc,To.goodT,List.map_cons,List.map_nil,hE.v,X.c_int,X.c_bool,X.c_bin,X.c_len,X.c_inr,X.c_el,lenC,inrD,elD,X.kd,aL,cond_true,cond_false,binD,intD,ak,al,Cl.bool.injEq,exists_eq',true_and,and_true,decide_eq_true_eq,decide_eq_false_iff_not,h4];refine⟨fun hlt=>⟨hlt,?_⟩,fun hge=>⟨⟨fun h=>absurd h (by decide),fun _=>⟨_,_,_,_,_,_,rfl,⟨k,b,n,s,nl,ys,ml,rs,rfl,hm⟩,by omega⟩⟩,?_⟩⟩
 ·obtain⟨r,hr,hwr,hd,_⟩:=aE q2 (i:=i.toNat) (by omega)
  obtain⟨_,rfl,hc⟩:=hwr.one;obtain⟨t,rfl,-⟩:=hc.str_inv;rw[hr];simp only[ak];rw[aH (n:=i+1) (by omega) (by omega)];refine⟨⟨fun _=>⟨_,_,_,_,rfl,⟨k,b,n,s,nl,ys,ml,rs,rfl,hm⟩,by omega⟩,fun h=>absurd rfl h⟩,?_⟩;show (ys.length-(i+1)).toNat+rs.length+1<(ys.length-i).toNat+rs.length+1;omega
 ·show (rs.length-(0:Int)).toNat<(ys.length-i).toNat+rs.length+1
  omega
theorem sizeV1 {m:Nat}{F:List Cl->List Cl}(hF:∀ c,Int4 c (F c)):Vc (· < ·) i7 (tbS F m) 9 fU.ks (kK m) Int4 1 jJ:=by
 rintro c0 cls E hE hw ⟨-,hv⟩;obtain⟨a,b',c',d',i,v,rfl,⟨k,b,n,s,nl,ys,ml,rs,rfl,hm⟩,h4⟩:=hv (by decide);have hw':Wts ([.int .i64,.int .i64,.int .i64,.int .i64,.int .i64]++vK) ([.int a,.int b',.int c',.int d',.int i]++[.int k,.bool b,.int n,.str s,.sl nl ys,.sl ml rs]):=hw;obtain⟨_,_,e,ha,hb⟩:=ck hw';obtain⟨_,_,rfl,_,h1⟩:=ha.cons_inv;obtain⟨_,_,rfl,_,h2⟩:=h1.cons_inv;obtain⟨_,_,rfl,_,h3⟩:=h2.cons_inv;obtain⟨_,_,rfl,_,h5⟩:=h3.cons_inv;obtain⟨_,rfl,_⟩:=h5.one;simp only[List.cons_append,List.nil_append,List.cons.injEq,true_and] at e;obtain⟨-,-,-,-,-,rfl⟩:=e;obtain⟨_,_,_,_,_,_,_,_,e,hl,-⟩:=row6 hb;simp only[List.cons.injEq,Cl.int.injEq,Cl.bool.injEq,Cl.str.injEq,Cl.sl.injEq,and_true,true_and] at e;obtain⟨-,-,-,-,⟨-,rfl⟩,-,rfl⟩:=e;obtain⟨q1,q2,q3,q4⟩:=ls2 hl;simp only[maxLen] at q1 q3;simp only[jJ,Tr.vc,To.goodT,List.map_cons,List.map_nil,hE.v,hE.a,X.d_cons,X.d_nil,X.c_int,X.c_bool,X.c_bin,X.c_len,X.c_inr,X.c_el,lenC,inrD,elD,X.kd,aL,cond_true,cond_false,binD,intD,ak,al,Cl.bool.injEq,exists_eq',true_and,and_true,decide_eq_true_eq,decide_eq_false_iff_not,h4];refine⟨fun hlt=>⟨hlt,?_⟩,fun hge=>⟨_,_,_,_,rfl⟩⟩;obtain⟨r,hr,hwr,hd,hme⟩:=aE q4 (i:=i.toNat) (by omega);obtain⟨ka,ba,na,sa,nla,ya,mla,ra,rfl,-⟩:=row6 hwr;rw[hr];simp only[ak,al]
 have hsz:SizeOf.sizeOf [Cl.int ka,.bool ba,.int na,.str sa,.sl nla ya,.sl mla ra]<m:=by
  have z1:=List.sizeOf_lt_of_mem (List.mem_of_getElem? hme);simp only[List.cons.sizeOf_spec,List.nil.sizeOf_spec,Cl.sl.sizeOf_spec] at z1 hm ⊢;omega
 obtain⟨x0,x1,x2,x3,e⟩:=hF [.int ka,.bool ba,.int na,.str sa,.sl nla ya,.sl mla ra];have t0:∀ j,j<4->tbS F m j [.int ka,.bool ba,.int na,.str sa,.sl nla ya,.sl mla ra]=[Cl.int x0,.int x1,.int x2,.int x3].getD j .no:=fun j hj=>by unfold tbS;rw[if_neg (by omega),e]
 rw[t0 0 (by omega),t0 1 (by omega),t0 2 (by omega),t0 3 (by omega)];simp only[ak,al,Cl.bool.injEq,exists_eq',true_and];rw[aH (n:=i+1) (by omega) (by omega)];refine⟨by unfold tbS;rw[if_pos rfl,decide_eq_true hsz],?_⟩;have fin:∀ a b' c' d':Int,kK m 1 c0 [.int a,.int b',.int c',.int d',.int (i+1),.int k,.bool b,.int n,.str s,.sl nl ys,.sl ml rs]:=fun a b' c' d'=>⟨fun h=>absurd h (by decide),fun _=>⟨_,_,_,_,_,_,rfl,⟨k,b,n,s,nl,ys,ml,rs,rfl,hm⟩,by omega⟩⟩
 have mea:∀ a b' c' d' a2 b2 c2 d2:Int,i7 1 [.int a,.int b',.int c',.int d',.int (i+1),.int k,.bool b,.int n,.str s,.sl nl ys,.sl ml rs]<i7 1 [.int a2,.int b2,.int c2,.int d2,.int i,.int k,.bool b,.int n,.str s,.sl nl ys,.sl ml rs]:=fun a b' c' d' a2 b2 c2 d2=>by
  show (rs.length-(i+1)).toNat<(rs.length-i).toNat;omega
 exact⟨fun _=>⟨fun _=>⟨fin _ _ _ _,mea _ _ _ _ _ _ _ _⟩,fun _=>⟨fin _ _ _ _,mea _ _ _ _ _ _ _ _⟩⟩,fun _=>⟨fun _=>⟨fin _ _ _ _,mea _ _ _ _ _ _ _ _⟩,fun _=>⟨fin _ _ _ _,mea _ _ _ _ _ _ _ _⟩⟩⟩
theorem size_n (hG:Gd0 k G)(hk0:0<k)(hsz:Tryz.prog.globals.size<=k):∀ n,∃ tb F,eZ.Sound Tryz.prog k G tb (fun c=>SizeOf.sizeOf c<n) F/\∀ c,Int4 c (F c):=by
 intro n;induction n with
 |zero=>exact⟨fun _ _=>.no,fun _=>[.int 0,.int 0,.int 0,.int 0],fun w old hold φ pls cls xs _ _ _ _ _ _ _ hp=>absurd hp (by omega),fun _=>⟨_,_,_,_,rfl⟩⟩
 |succ m ih=>
  obtain⟨tb,F,hS,hF⟩:=ih
  letI:Tb:=⟨some (9,tbS F m)⟩
  obtain⟨F',h1,h2⟩:=Ctr.total (hk:=jG) Nat.lt_wfRel.wf i7 (kK m) Int4 hG (fun D=>@aq.ctr _ (dcOf D) _ _ _ _ 9 (by kernel_rfl) _ _ _ _ hS (by kernel_rfl) _ _ (by
     intro cls j c h
     obtain⟨x0,x1,x2,x3,e⟩:=hF cls
     have hj:j<4:=by
      have:=(ae.1 h).1
      rw[e] at this;simpa using this
     rw[Nat.zero_add]
     unfold tbS
     rw[if_neg (by omega),List.getD_eq_getElem?_getD,h];rfl) (some 1000000) (by
     intro cls h
     simpa[tbS] using h) hG hk0 hsz rfl) hsz (L:=9) (by kernel_rfl) rfl (K:=eZ) (cuts:=hQ) (trs:=[jI,jJ]) (by kernel_rfl) vI sizeV ⟨⟨qS,sizeV0⟩,⟨qT,sizeV1 hF⟩,trivial⟩ (fun _=>⟨_,0,0,0,0,rfl⟩)
  exact⟨_,F',h1,h2⟩
end Go.Proofs.Wo
end

noncomputable section
namespace Go.Proofs.Wo
open Go.Exo Go.Exo.Wo
set_option maxRecDepth 100000
def ja:Ct:=(fun(b c d:X)(a e:Kd)=>(⟨bf (outS Tryz.prog qJ 9 Kmay [((.bin .lss b d),false),((.bin .gtr b (.int .i64 (7))),false),((.app 9 0 (.cons b (.cons (.var 9 1 .bool) (.cons (.var 9 2 a) (.cons c (.cons (.var 9 4 (.sl 9)) (.cons (.var 9 5 e) .nilA)))))) .bool),true),((.bin .eql b (.int .i64 (6))),true),((.bin .lss (.var 9 2 a) d),false),((.app 9 1000001 (.cons c .nilA) .bool),true),((.app 9 1 (.cons c .nilA) .bool),true)] 14),[.junk,.ptr 10 0,.junk,.x b,.junk,.junk,.junk,.junk,.junk,.junk,.junk,.junk,.junk,.junk,.junk,.junk,.junk,.junk,.junk,.junk,.junk,.junk,.junk,.junk,.junk,.junk,.junk,.junk,.junk,.junk,.junk,.junk,.junk,.junk,.junk,.junk,.junk,.junk,.junk,.junk,.junk,.junk,.junk,.junk,.junk,.junk,.junk,.junk,.junk,.junk,.junk,.junk,.junk,.junk,.junk,.junk,.junk,.junk,.junk,.junk,.junk,.junk,.junk,.junk,.junk,.junk,.junk,.junk,.junk,.junk,.junk,.junk,.junk,.junk,.junk,.junk,.junk,.junk,.junk,.junk,.junk,.junk,.junk,.junk,.junk,.junk,.junk,.junk,.junk,.junk,.junk,.junk,.junk,.junk,.junk,.junk,.junk,.junk,.junk],[some (.cells 29 [.x (.var 9 1 a),.x (.var 9 2 .bool),.x (.var 9 3 a),.x (.var 9 4 .str),.x (.var 9 5 (.sl 9)),.x (.var 9 6 e)] 0 false)],[a,a,.bool,a,.str,(.sl 9),e]⟩:Ct)) (.var 9 0 (.int .i64)) (.var 9 3 .str) (.int .i64 (0)) (.int .i64) (.sl 29)
def vJ:Ct:=(fun(b:X)(a:Kd)=>(⟨bf (outC Tryz.prog qJ 9 17 ja [((.bin .lss (.var 9 0 a) (.len b)),false)] 10),[.junk,.ptr 10 0,.junk,.junk,.x (.var 9 0 a),.junk,.junk,.junk,.junk,.junk,.junk,.junk,.junk,.junk,.junk,.junk,.junk,.junk,.junk,.junk,.junk,.junk,.junk,.junk,.junk,.junk,.junk,.junk,.junk,.junk,.junk,.junk,.junk,.junk,.junk,.junk,.junk,.junk,.junk,.junk,.junk,.junk,.junk,.junk,.junk,.junk,.junk,.junk,.junk,.junk,.junk,.junk,.junk,.junk,.junk,.junk,.junk,.junk,.junk,.junk,.junk,.junk,.junk,.junk,.junk,.junk,.junk,.junk,.junk,.junk,.junk,.junk,.junk,.junk,.junk,.junk,.junk,.junk,.junk,.junk,.junk,.junk,.junk,.junk,.junk,.junk,.junk,.junk,.junk,.junk,.junk,.junk,.junk,.junk,.junk,.junk,.junk,.junk,.junk],[some (.cells 29 [.x (.var 9 1 a),.x (.var 9 2 .bool),.x (.var 9 3 a),.x (.var 9 4 .str),.x b,.x (.var 9 6 (.sl 29))] 0 false)],[a,a,.bool,a,.str,(.sl 9),(.sl 29)]⟩:Ct)) (.var 9 5 (.sl 9)) (.int .i64)
def m8:List Ct:=[ja,vJ]
def mayt:Tr:=(fun(a b c d e f g h i j k:X)=>.ask (.bin .lss a g) (.leaf 9 (.ret [] [d])) (.ask (.bin .gtr a k) (.leaf 9 (.ret [] [d])) (.ask (.app 9 0 (.cons a (.cons i (.cons c (.cons b (.cons f (.cons e .nilA)))))) .bool) (.ask (.bin .eql a (.int .i64 (6))) (.ask (.bin .lss c g) (.leaf 10 (.ret [] [d])) (.must h true <| .ask j (.leaf 14 (.cut 0 [10] [g,a,i,c,b,f,e])) (.leaf 11 (.ret [] [d])))) (.ask (.bin .eql a k) (.ask (.bin .lss c g) (.leaf 10 (.ret [] [d])) (.must h true <| .ask j (.leaf 14 (.cut 0 [10] [g,a,i,c,b,f,e])) (.leaf 11 (.ret [] [d])))) (.must h true <| .ask j (.ask (.bin .eql a (.int .i64 (5))) (.ask (.bin .neq (.len f) (.len e)) (.leaf 11 (.ret [] [d])) (.leaf 14 (.cut 0 [10] [g,a,i,c,b,f,e]))) (.leaf 14 (.cut 0 [10] [g,a,i,c,b,f,e]))) (.leaf 11 (.ret [] [d]))))) (.leaf 10 (.ret [] [d]))))) (.var 9 0 (.int .i64)) (.var 9 3 .str) (.var 9 2 (.int .i64)) (.bool false) (.var 9 5 (.sl 29)) (.var 9 4 (.sl 9)) (.int .i64 (0)) (.app 9 1000001 (.cons (.var 9 3 .str) .nilA) .bool) (.var 9 1 .bool) (.app 9 1 (.cons (.var 9 3 .str) .nilA) .bool) (.int .i64 (7))
def mayt0:Tr:=(fun(a b d e f g h i j:X)(c:Kd)=>.ask (.bin .lss a (.len b)) (.must (.inr a (.len b)) true <| .must (.app 9 1000001 (.cons (.el b a 0 .str) .nilA) .bool) true <| .ask (.app 9 1 (.cons (.el b a 0 .str) .nilA) .bool) (.ask (.bin .gtr a j) (.must (.inr (.bin .sub a d) (.len b)) true <| .ask (.bin .geq (.el b (.bin .sub a d) 0 .str) (.el b a 0 .str)) (.leaf 14 (.ret [] [(.bool false)])) (.leaf 15 (.cut 0 [10] [(.bin .add a d),h,f,i,g,b,e]))) (.leaf 15 (.cut 0 [10] [(.bin .add a d),h,f,i,g,b,e]))) (.leaf 14 (.ret [] [(.bool false)]))) (.leaf 10 (.cut 1 [10] [j,h,f,i,g,b,e]))) (.var 9 0 (.int .i64)) (.var 9 5 (.sl 9)) (.int .i64 (1)) (.var 9 6 (.sl 29)) (.var 9 2 .bool) (.var 9 4 .str) (.var 9 1 (.int .i64)) (.var 9 3 (.int .i64)) (.int .i64 (0)) (.int .i64)
def mayt1:Tr:=(fun(a b c:X)=>.ask (.bin .lss b (.len c)) (.must (.inr b (.len c)) true <| .must (.app 9 1000000 a .bool) true <| .ask (.app 9 2 a .bool) (.leaf 15 (.cut 1 [10] [(.bin .add b (.int .i64 (1))),(.var 9 1 (.int .i64)),(.var 9 2 .bool),(.var 9 3 (.int .i64)),(.var 9 4 .str),(.var 9 5 (.sl 9)),c])) (.leaf 14 (.ret [] [(.bool false)]))) (.leaf 8 (.ret [] [(.bool true)]))) (.cons (.el (.var 9 6 (.sl 29)) (.var 9 0 (.int .i64)) 0 (.int .i64)) (.cons (.el (.var 9 6 (.sl 29)) (.var 9 0 (.int .i64)) 1 .bool) (.cons (.el (.var 9 6 (.sl 29)) (.var 9 0 (.int .i64)) 2 (.int .i64)) (.cons (.el (.var 9 6 (.sl 29)) (.var 9 0 (.int .i64)) 3 .str) (.cons (.el (.var 9 6 (.sl 29)) (.var 9 0 (.int .i64)) 4 (.sl 9)) (.cons (.el (.var 9 6 (.sl 29)) (.var 9 0 (.int .i64)) 5 (.sl 29)) .nilA)))))) (.var 9 0 (.int .i64)) (.var 9 6 (.sl 29))
theorem mayt_ok:Pth.allS Tryz.prog qJ 9 Kmay m8 (mayt.paths []):=
 ⟨Pth.rS,Pth.rS,Pth.rS,Pth.cS ja rfl,Pth.rS,Pth.rS,Pth.cS ja rfl,Pth.rS,Pth.rS,Pth.cS ja rfl,Pth.cS ja rfl,Pth.rS,Pth.rS,
  trivial⟩
theorem mayt0_ok:Pth.allC Tryz.prog qJ 9 Kmay m8 ja (mayt0.paths []):=
 ⟨Pth.rC,Pth.cC ja rfl,Pth.cC ja rfl,Pth.rC,Pth.cC vJ rfl,
  trivial⟩
theorem mayt1_ok:Pth.allC Tryz.prog qJ 9 Kmay m8 vJ (mayt1.paths []):=
 ⟨Pth.cC vJ rfl,Pth.rC,Pth.rC,
  trivial⟩
def qU:List Ct:=[]
def xG:Tr:=(fun(a b:X)(c:Kd)=>.must (.app 9 1000000 a .bool) true <| .ask (.app 9 0 a .bool) (.must (.app 9 1000001 a .bool) true <| .ask (.bin .gtr (.app 9 2 a c) (.int .i64 (64))) (.leaf 18 (.ret [] [b])) (.ask (.bin .gtr (.app 9 3 a c) (.int .i64 (1048576))) (.leaf 18 (.ret [] [b])) (.ask (.bin .gtr (.app 9 4 a c) (.int .i64 (65536))) (.leaf 18 (.ret [] [b])) (.leaf 19 (.ret [] [(.int .i64 (0))]))))) (.leaf 10 (.ret [] [(.int .i64 (110))]))) (.cons (.var 9 0 (.int .i64)) (.cons (.var 9 1 .bool) (.cons (.var 9 2 (.int .i64)) (.cons (.var 9 3 .str) (.cons (.var 9 4 (.sl 9)) (.cons (.var 9 5 (.sl 29)) .nilA)))))) (.int .i64 (3)) (.int .i64)
theorem AL:Pth.allS Tryz.prog zp 9 oK qU (xG.paths []):=
 ⟨Pth.rS,Pth.rS,Pth.rS,Pth.rS,Pth.rS,
  trivial⟩
def qV:List Ct:=[]
def xH:Tr:=(fun(a:X)=>.must (.app 9 1000000 a .bool) true <| .ask (.bin .gtr (.app 9 0 a (.int .i64)) (.int .i64 (50))) (.leaf 8 (.ret [] [(.bool true)])) (.leaf 8 (.ret [] [(.bin .gtr (.app 9 2 a (.int .i64)) (.int .i64 (1000)))]))) (.cons (.var 9 0 (.int .i64)) (.cons (.var 9 1 .bool) (.cons (.var 9 2 (.int .i64)) (.cons (.var 9 3 .str) (.cons (.var 9 4 (.sl 9)) (.cons (.var 9 5 (.sl 29)) .nilA))))))
theorem AM:Pth.allS Tryz.prog zq 9 oL qV (xH.paths []):=
 ⟨Pth.rS,Pth.rS,
  trivial⟩
variable {k:Nat}{G:World->Prop}
set_option maxHeartbeats 4000000
def jb (_ r:List Cl):Prop:=∃ b,r=[Cl.bool b]
def tbY (Fb Fu F:List Cl->List Cl)(m:Nat)(f:Nat)(c:List Cl):Cl:=if f=1000000 then .bool (decide (SizeOf.sizeOf c<m)) else if f=1000001 then .bool true else if f=0 then (Fb c).getD 0 .no else if f=1 then (Fu c).getD 0 .no else (F c).getD 0 .no
def mayM (j:Nat)(c:List Cl):Nat:=match c with
 |[.int i,_,_,_,_,.sl _ ys,.sl _ rs]=>cond (Nat.beq j 0) ((ys.length-i).toNat+rs.length+1) (rs.length-i).toNat
 |_=>0
theorem hfn1 {F:List Cl->List Cl}(hF:∀ c,jb c (F c)){fn:Nat->List Cl->Cl}{fi:Nat}(h:∀ c,fn fi c=(F c).getD 0 .no):∀ cls (j:Nat) c,(F cls)[j]? = some c->fn (fi+j) cls=c:=by
 intro cls j c hj;obtain⟨b,e⟩:=hF cls;cases j with
 |zero=>rw[Nat.add_zero,h,List.getD_eq_getElem?_getD,hj];rfl
 |succ j=>rw[e] at hj;simp at hj
def tbC (Fm Fs:List Cl->List Cl)(m:Nat)(f:Nat)(c:List Cl):Cl:=if f=1000000 then .bool (decide (SizeOf.sizeOf c<m)) else if f=1000001 then .bool (decide (SizeOf.sizeOf c<m)) else if f=0 then (Fm c).getD 0 .no else (Fs c).getD (f-1) .no
theorem hfn4 {F:List Cl->List Cl}(hF:∀ c,Int4 c (F c)){fn:Nat->List Cl->Cl}{fi:Nat}(h:∀ j,j<4->∀ c,fn (fi+j) c=(F c).getD j .no):∀ cls (j:Nat) c,(F cls)[j]? = some c->fn (fi+j) cls=c:=by
 intro cls j c hj;obtain⟨x0,x1,x2,x3,e⟩:=hF cls
 have hj4:j<4:=by
  have:=(ae.1 hj).1;rw[e] at this;simpa using this
 rw[h j hj4,List.getD_eq_getElem?_getD,hj];rfl
theorem greatV {m:Nat}{Fs:List Cl->List Cl}(hs:∀ c,Int4 c (Fs c)):Vc0 (tbS Fs m) 9 oL.ks (fun c=>SizeOf.sizeOf c<m) (fun _ _ _=>True) jb xH:=by
 intro cls E hE hw hm;obtain⟨k,b,n,s,nl,ys,ml,rs,rfl,-⟩:=row6 hw;obtain⟨x0,x1,x2,x3,e1⟩:=hs [.int k,.bool b,.int n,.str s,.sl nl ys,.sl ml rs];have t1:∀ j,j<4->tbS Fs m j [.int k,.bool b,.int n,.str s,.sl nl ys,.sl ml rs]=[Cl.int x0,.int x1,.int x2,.int x3].getD j .no:=fun j hj=>by unfold tbS;rw[if_neg (by omega),e1]
 have t2:tbS Fs m 1000000 [.int k,.bool b,.int n,.str s,.sl nl ys,.sl ml rs]=.bool true:=by unfold tbS;rw[if_pos rfl,decide_eq_true hm]
 have u1:=t1 0 (by omega);have u2:=t1 2 (by omega);simp only[xH,Tr.vc,To.goodT,List.map_cons,List.map_nil,hE.v,hE.a,X.d_cons,X.d_nil,X.c_int,X.c_bool,X.c_bin,X.kd,aL,cond_true,cond_false,binD,intD,ak,al,t2,u1,u2,Cl.bool.injEq,exists_eq',true_and,and_true,jb,List.cons.injEq,implies_true]
theorem great_n (hG:Gd0 k G)(hk0:0<k)(hsz:Tryz.prog.globals.size<=k)(m:Nat):∃ tb F,oL.Sound Tryz.prog k G tb (fun c=>SizeOf.sizeOf c<m) F/\∀ c,jb c (F c):=by
 obtain⟨tbs,Fs,hSs,hFs⟩:=size_n hG hk0 hsz m
 letI:Tb:=⟨some (9,tbS Fs m)⟩
 obtain⟨F',h1,h2⟩:=Ctr.total (hk:=zq) Nat.lt_wfRel.wf (fun _ _=>0) (fun _ _ _=>True) jb hG (fun D =>
    (@aq.ctr _ (dcOf D) _ _ _ _ 9 (by kernel_rfl) _ _ _ _ hSs (by kernel_rfl) _ _ (hfn4 hFs (fun j hj c=>by unfold tbS;rw[if_neg (by omega),Nat.zero_add])) (some 1000000) (fun c h=>by simpa[tbS] using h) hG hk0 hsz rfl))
   hsz (L:=9) (by kernel_rfl) rfl (K:=oL) (cuts:=qV) (trs:=[]) (by kernel_rfl) AM (greatV hFs) trivial (fun _=>⟨_,true,rfl⟩)
 exact⟨_,F',h1,h2⟩
end Go.Proofs.Wo
end

noncomputable section
namespace Go.Proofs
open Go.Shelf
def Tryz.laysNm216_ren:Go.Shelf.Ren:=⟨fun|16=>40|n=>n,fun|24=>27|9=>9|4=>4|n=>n,fun|n=>n⟩
theorem Tryz.laysNm216:Go.Proofs.Lays2.n16 Tryz.prog Tryz.laysNm216_ren:={
 mixed:=by kernel_rfl
 f16:=Tryz.func40.trans (congrArg some (by kernel_rfl))
 t4:=Tryz.underlying4
 a4:=Tryz.isAgg4
 z4:=Tryz.sizeOf4
 v4:=Tryz.zeroValue4
 t9:=Tryz.underlying9
 a9:=Tryz.isAgg9
 z9:=Tryz.sizeOf9
 v9:=Tryz.zeroValue9
 t24:=Tryz.underlying27
 a24:=Tryz.isAgg27
 z24:=Tryz.sizeOf27
 v24:=Tryz.zeroValue27
 i9:=by kernel_rfl }
open Go.RowKit Go.Lib in
theorem Tryz.slices_Clone_string (b off n c:Nat)(zs:List ByteArray)(w:World)(hz:n<=zs.length)(hbig:n*16<=140737488355328)(hc:∀ j,j<zs.length->w.cell? ⟨b,off+j,none⟩=some (.string (zs.getD j ByteArray.empty))) :
  Calls Tryz.prog 40 #[.slice (some ⟨b,off,none⟩) n c] w fun e w'=>∃ v',e=.returned v'/\w'.ownsRow w.heap.size 9 1 v' n ((zs.take n).map (Value.string))/\v'≠.slice none 0 0/\Below w.heap.size w w':=Any.slices_Clone_string Tryz.laysNm216 b off n c zs w hz hbig hc
open Go.RowKit Go.Lib in
theorem Tryz.slices_Clone_string_nil (n c:Nat)(w:World) :
  Calls Tryz.prog 40 #[.slice none n c] w fun e w'=>e=.returned (.slice none 0 0)/\w'=w:=Any.slices_Clone_string_nil Tryz.laysNm216 n c w
open Go.RowKit Go.Lib in
theorem Tryz.slices_Clone_string_zero (a:Addr)(c:Nat)(w:World) :
  Calls Tryz.prog 40 #[.slice (some a) 0 c] w fun e w'=>∃ v',e=.returned v'/\w'.ownsRow w.heap.size 9 1 v' 0 []/\v'≠.slice none 0 0/\Below w.heap.size w w':=Any.slices_Clone_string_zero Tryz.laysNm216 a c w
end Go.Proofs
end
