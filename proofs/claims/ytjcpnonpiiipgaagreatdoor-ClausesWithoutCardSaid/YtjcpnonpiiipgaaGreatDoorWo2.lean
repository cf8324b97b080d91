/-
  Plain law: what Without answers, twice and of nothing. Own text.
-/
import Derived.Test.YtjcpnonpiiipgaaGreatDoorWo1
import Derived.Test.YtjcpnonpiiipgaaGreatDoorSx2
set_option linter.all false
namespace Go.Proofs.Wo
open Go.Exo Go.Exo.Wo
set_option linter.all false
theorem nrmRs_ext {a b:List (List Cl)}(hl:a.length=b.length)(h:∀ (i:Nat) r r',a[i]? = some r→b[i]? = some r'→nrmR r=nrmR r'):nrmRs a=nrmRs b:=by
 rw[nrmRs_eq,nrmRs_eq]
 apply List.ext_getElem?
 intro i
 simp only[List.getElem?_map]
 by_cases hi:i<a.length
 ·rw[List.getElem?_eq_getElem hi,List.getElem?_eq_getElem (by omega)]
  simp only[Option.map_some,Option.some.injEq]
  exact h i _ _ (List.getElem?_eq_getElem hi) (List.getElem?_eq_getElem (by omega))
 ·rw[List.getElem?_eq_none (by omega),List.getElem?_eq_none (by omega)]
theorem nrmRs_get {a b:List (List Cl)}(h:nrmRs a=nrmRs b){i:Nat}{r r':List Cl}(h1:a[i]? = some r)(h2:b[i]? = some r'):nrmR r=nrmR r':=by
 rw[nrmRs_eq,nrmRs_eq] at h
 have:=congrArg (fun l=>l[i]?) h
 simpa[List.getElem?_map,h1,h2] using this
theorem nrm6 {k:Int}{b:Bool}{n:Int}{s:List UInt8}{nl:Bool}{ys:List (List Cl)}{ml:Bool}{rs:List (List Cl)}{k':Int}{b':Bool}{n':Int}{s':List UInt8}{nl':Bool}{ys':List (List Cl)}{ml':Bool}{rs':List (List Cl)} :
  nrmR [.int k,.bool b,.int n,.str s,.sl nl ys,.sl ml rs]=nrmR [.int k',.bool b',.int n',.str s',.sl nl' ys',.sl ml' rs']↔k=k'∧b=b'∧n=n'∧s=s'∧nrmRs ys=nrmRs ys'∧nrmRs rs=nrmRs rs':=by
 simp[nrmR,nrm]
theorem wor_det {N R:List (List Cl)}{a b:List Cl}(h:WoR N R a b):∀ {a' b':List Cl},WoR N R a' b'→nrmR a=nrmR a'→nrmR b=nrmR b':=by
 induction h with
 |gone hg he=>
  intro a' b' h' e
  cases h' with
  |gone _ he'=>rw[he,he']
  |kept hg'=>rw[nrm6] at e;rw[e.1,e.2.2.1,hg'] at hg;cases hg
 |kept hg hy hl hr ih=>
  intro a' b' h' e
  cases h' with
  |gone hg'=>rw[nrm6] at e;rw[e.1,e.2.2.1,hg'] at hg;cases hg
  |kept hg' hy' hl' hr'=>
   rw[nrm6] at e ⊢
   obtain⟨e1,e2,e3,e4,e5,e6⟩:=e
   have hlen:=nrm_len e6
   refine⟨e1,e2,e3,e4,by rw[hy,hy',e5],nrmRs_ext (by omega) fun i r r' h1 h2=>?_⟩
   have hi:i<_:=(List.getElem?_eq_some_iff.1 h1).1
   have g1:=List.getElem?_eq_getElem (l:=_) (i:=i) (show i<_ by rw[← hl];exact hi)
   have g2:=List.getElem?_eq_getElem (l:=_) (i:=i) (show i<_ by rw[← hlen,← hl];exact hi)
   exact ih i _ _ g1 h1 (hr' i _ _ g2 h2) (nrmRs_get e6 g1 g2)
theorem wor_twice {N R:List (List Cl)}{a b:List Cl}(h:WoR N R a b):∀ {c:List Cl},WoR N R b c→nrmR b=nrmR c:=by
 induction h with
 |gone hg he=>
  intro c h'
  cases h' with
  |gone hg' _=>
   rw[show zeroR=[.int 0,.bool false,.int 0,.str [],.sl true [],.sl true []] from rfl,nrm6] at he
   rw[he.1] at hg'
   simp[goes] at hg'
  |kept hg' hy hl hr=>
   rw[show zeroR=[.int 0,.bool false,.int 0,.str [],.sl true [],.sl true []] from rfl,nrm6] at he
   rw[nrm6]
   have hlen:=nrm_len he.2.2.2.2.2
   simp only[List.length_nil] at hlen
   exact⟨rfl,rfl,rfl,rfl,hy.symm,nrmRs_ext (by omega) fun i r r' h1 h2=>by
    have:=(List.getElem?_eq_some_iff.1 h1).1
    omega⟩
 |kept hg hy hl hr ih=>
  intro c h'
  cases h' with
  |gone hg'=>rw[hg'] at hg;cases hg
  |kept hg' hy' hl' hr'=>
   rw[nrm6]
   refine⟨rfl,rfl,rfl,rfl,hy'.symm,nrmRs_ext (by omega) fun i r r' h1 h2=>?_⟩
   have hi:i<_:=(List.getElem?_eq_some_iff.1 h1).1
   have g1:=List.getElem?_eq_getElem (l:=_) (i:=i) (show i<_ by rw[← hl];exact hi)
   exact ih i _ _ g1 h1 (hr' i _ _ h1 h2)
theorem wor_none {a b:List Cl}(h:WoR [] [] a b):nrmR a=nrmR b:=by
 induction h with
 |gone hg _=>simp[goes,hasN] at hg
 |kept hg hy hl hr ih=>
  rw[nrm6]
  refine⟨rfl,rfl,rfl,rfl,hy.symm,nrmRs_ext (by omega) fun i r r' h1 h2=>ih i _ _ h1 h2⟩
end Go.Proofs.Wo

namespace Go.Proofs.Wo
open Go.Exo Go.Exo.Wo
set_option maxRecDepth 100000
set_option linter.all false
noncomputable def contcuts:List Ct:=[]
def contt:Tr:=.leaf 7 (.ret [] [(.bin .geq (.app 9 0 (.cons (.var 9 0 (.sl 2)) (.cons (.var 9 1 (.int .i64)) .nilA)) (.int .i64)) (.int .i64 (0)))])
theorem contt_ok:Pth.allS Tryz.prog hkCont 9 Kcont contcuts (contt.paths []):=
 ⟨Pth.okS_ret (by kernel_rfl) (by kernel_rfl),
  trivial⟩
variable {k:Nat}{G:World→Prop}
def contTb (f:Nat)(c:List Cl):Cl:=if f=0 then (indexF c).getD 0 .no else .no
theorem contV:Vc0 contTb 9 Kcont.ks (fun _=>True) (fun _ _ _=>True) (fun c r=>r=hasF c) contt:=by
 intro cls E hE hw _
 have hw':Wts [.sl 2,.int .i64] cls:=hw
 obtain⟨a,_,rfl,h1,hw2⟩:=hw'.cons_inv
 obtain⟨b,rfl,h2⟩:=hw2.one
 obtain⟨nl,rows,rfl,-,-,-⟩:=h1.sl_inv
 obtain⟨n,rfl,-,-⟩:=h2.int_inv
 have t:contTb 0 [.sl nl rows,.int n]=.int (idxN n rows 0):=rfl
 simp only[contt,Tr.vc,To.goodT,List.map_cons,List.map_nil,hE.v,hE.a,X.d_cons,X.d_nil,X.c_int,X.c_bin,X.kd,binD,intD,List.getD_cons_zero,List.getD_cons_succ,t,hasF]
 letI:Tb:=⟨none⟩
 obtain⟨h3,h4⟩:=idxN_ge n rows 0 (by omega)
 cases h:hasN rows n with
 |true=>rw[decide_eq_true (h3 h)]
 |false=>rw[h4 h];rfl
theorem indexS (hG:Gd0 k G)(hsz:Tryz.prog.globals.size≤k):Kindex.Sound Tryz.prog k G (fun _ _=>.no) (fun _=>True) indexF:=by
 letI:Tb:=⟨some (9,fun _ _=>.no)⟩
 exact index_ok hG hsz rfl
theorem cont_ok (hG:Gd0 k G)(hk0:0<k)(hsz:Tryz.prog.globals.size≤k):Kcont.Sound Tryz.prog k G contTb (fun _=>True) hasF:=by
 letI:Tb:=⟨some (9,contTb)⟩
 exact Ctr.ofT (hk:=hkCont) Nat.lt_wfRel.wf (fun _ _=>0) (fun _ _ _=>True) hG (fun D=>@Hooks.ctr _ (dcOf D) _ _ _ _ 9 (by kernel_rfl) _ _ _ _ (indexS hG hsz) (by kernel_rfl) _ _ (fun cls j c h=>by
   have hj:j=0:=by
    have:=(List.getElem?_eq_some_iff.1 h).1
    have h2:(indexF cls).length≤1:=by unfold indexF;split<;>simp
    omega
   subst hj
   simp[contTb,List.getD_eq_getElem?_getD,h]) none (fun _=>trivial) hG hk0 hsz rfl) hsz (L:=9) (by kernel_rfl) rfl (cuts:=contcuts) (trs:=[]) (by kernel_rfl) contt_ok contV trivial
end Go.Proofs.Wo

namespace Go.Proofs.Wo
open Go.Exo Go.Exo.Wo
set_option linter.all false
variable {k:Nat}{G:World→Prop}
theorem copy_spec (hG:Gd0 k G)(hk0:0<k)(hsz:Tryz.prog.globals.size≤k)(n:Nat):∃ F,Go.Exo.Spec Tryz.prog G 16 [vA] (.one vA) (copyPre n) F∧∀ c,copyPost c (F c):=by
 obtain⟨⟨tb,F,h1,h2⟩,_⟩:=copy_n hG hk0 hsz n
 exact⟨F,Ctr.Sound.spec (by kernel_rfl) hG hk0 hsz h1 rfl,h2⟩
theorem cont_spec (hG:Gd0 k G)(hk0:0<k)(hsz:Tryz.prog.globals.size≤k):Go.Exo.Spec Tryz.prog G 15 [.one (.sl 2),.one iK] (.one (.one .bool)) (fun _=>True) hasF:=
 Ctr.Sound.spec (by kernel_rfl) hG hk0 hsz (cont_ok hG hk0 hsz) rfl
end Go.Proofs.Wo

namespace Go.Proofs.Wo
open Go.Exo Go.Exo.Wo
set_option linter.all false
def bareB:List Cl→Bool
 |[.int k,.bool b,.int n,.str s,.sl _ ys,.sl _ rs]=>(k==1 || !b)&&(k==2 || k==6 || k==7 || n==0)&&(k==3 || s.isEmpty)&&(k==5 || ys.isEmpty)&&(k==4 || k==5 || rs.isEmpty)
 |_=>false
def keysB (u:List UInt8→Bool):Option (List UInt8)→List (List Cl)→Bool
 |_,[]=>true
 |p,[.str s]::r=>u s&&(match p with|none=>true|some q=>Op.bytesLess q s)&&keysB u (some s) r
 |_,_=>false
def mayR (u:List UInt8→Bool):List Cl→Bool
 |[.int k,.bool b,.int n,.str s,.sl nl ys,.sl ml rs]=>
  decide (0≤k)&&decide (k≤7)&&bareB [.int k,.bool b,.int n,.str s,.sl nl ys,.sl ml rs] && !((k==6 || k==7)&&decide (n<0))&&u s && !(k==5&&ys.length != rs.length)&&keysB u none ys&&rs.attach.all (fun r=>mayR u r.1)
 |_=>false
termination_by r=>SizeOf.sizeOf r
decreasing_by
 have h:=List.sizeOf_lt_of_mem r.2
 simp only[List.cons.sizeOf_spec,Cl.sl.sizeOf_spec] at h ⊢
 omega
theorem mayR_eq (u:List UInt8→Bool)(k:Int)(b:Bool)(n:Int)(s:List UInt8)(nl:Bool)(ys:List (List Cl))(ml:Bool)(rs:List (List Cl)) :
  mayR u [.int k,.bool b,.int n,.str s,.sl nl ys,.sl ml rs]=(decide (0≤k)&&decide (k≤7)&&bareB [.int k,.bool b,.int n,.str s,.sl nl ys,.sl ml rs] && !((k==6 || k==7)&&decide (n<0))&&u s && !(k==5&&ys.length != rs.length)&&keysB u none ys&&rs.all (mayR u)):=by
 rw[mayR]
 congr 1
 rw[Bool.eq_iff_iff]
 simp[List.all_eq_true]
abbrev Sz:=Int×Int×Int×Int
abbrev w64 (n:Int):Int:=IntKind.wrap .i64 n
def szAdd (a b:Sz):Sz:=(w64 (a.1+b.1),if a.2.1<b.2.1 then b.2.1 else a.2.1,w64 (a.2.2.1+b.2.2.1),if a.2.2.2<b.2.2.2 then b.2.2.2 else a.2.2.2)
def keyLen (n:Int)(r:List Cl):Int:=match r with|[.str s]=>w64 (n+s.length)|_=>n
def szR:List Cl→Sz
 |[.int _,.bool _,.int _,.str s,.sl _ ys,.sl _ rs]=>
  (fun z:Sz=>(z.1,w64 (z.2.1+1),z.2.2.1,z.2.2.2)) (rs.attach.foldl (fun a r=>szAdd a (szR r.1)) (1,0,ys.foldl keyLen (s.length:Int),(rs.length:Int)))
 |_=>(0,0,0,0)
termination_by r=>SizeOf.sizeOf r
decreasing_by
 have h:=List.sizeOf_lt_of_mem r.2
 simp only[List.cons.sizeOf_spec,Cl.sl.sizeOf_spec] at h ⊢
 omega
def szRs (a:Sz)(rs:List (List Cl)):Sz:=rs.foldl (fun a r=>szAdd a (szR r)) a
theorem szR_eq (k:Int)(b:Bool)(n:Int)(s:List UInt8)(nl:Bool)(ys:List (List Cl))(ml:Bool)(rs:List (List Cl)) :
  szR [.int k,.bool b,.int n,.str s,.sl nl ys,.sl ml rs]=(fun z:Sz=>(z.1,w64 (z.2.1+1),z.2.2.1,z.2.2.2)) (szRs (1,0,ys.foldl keyLen (s.length:Int),(rs.length:Int)) rs):=by
 rw[szR]
 congr 1
 unfold szRs
 rw[List.foldl_subtype (g:=fun a r=>szAdd a (szR r)) (by intros;rfl)]
 simp
theorem szRs_snoc (a:Sz)(rs:List (List Cl))(r:List Cl):szRs a (rs++[r])=szAdd (szRs a rs) (szR r):=by simp[szRs]
theorem szRs_take {a:Sz}{rs:List (List Cl)}{r:List Cl}{i:Nat}(h:rs[i]? = some r):szRs a (rs.take (i+1))=szAdd (szRs a (rs.take i)) (szR r):=by
 rw[List.take_add_one,h];exact szRs_snoc _ _ _
def checkN (u:List UInt8→Bool)(r:List Cl):Int:=if mayR u r then (if 64<(szR r).2.1∨1048576<(szR r).2.2.1∨65536<(szR r).2.2.2 then 3 else 0) else 110
def greatB (r:List Cl):Bool:=decide (50<(szR r).1) || decide (1000<(szR r).2.2.1)
theorem szAdd_long (a b:Sz):a.2.2.2≤(szAdd a b).2.2.2∧b.2.2.2≤(szAdd a b).2.2.2:=by
 unfold szAdd;simp only
 split<;>omega
theorem szRs_long:∀ (rs:List (List Cl))(a:Sz),a.2.2.2≤(szRs a rs).2.2.2∧∀ r∈rs,(szR r).2.2.2≤(szRs a rs).2.2.2
 |[],a=>⟨Int.le_refl _,fun r h=>by cases h⟩
 |q::rs,a=>by
  obtain⟨h1,h2⟩:=szRs_long rs (szAdd a (szR q))
  have h3:=szAdd_long a (szR q)
  have e:szRs a (q::rs)=szRs (szAdd a (szR q)) rs:=rfl
  rw[e]
  refine⟨by omega,fun r hr=>?_⟩
  cases hr with
  |head=>omega
  |tail _ hr=>exact h2 r hr
theorem szR_long {k:Int}{b:Bool}{n:Int}{s:List UInt8}{nl:Bool}{ys:List (List Cl)}{ml:Bool}{rs:List (List Cl)} :
  (rs.length:Int)≤(szR [.int k,.bool b,.int n,.str s,.sl nl ys,.sl ml rs]).2.2.2∧∀ r∈rs,(szR r).2.2.2≤(szR [.int k,.bool b,.int n,.str s,.sl nl ys,.sl ml rs]).2.2.2:=by
 rw[szR_eq]
 exact szRs_long rs _
theorem fits_of (u:List UInt8→Bool):∀ (m:Nat)(r:List Cl),SizeOf.sizeOf r<m→Wts vK r→mayR u r=true→(szR r).2.2.2≤65536→Bws vK r:=by
 intro m
 induction m with
 |zero=>intro r h;omega
 |succ m ih=>
  intro r hm hw hmay hl
  obtain⟨k,b,n,s,nl,ys,ml,rs,rfl,hl2,-⟩:=row6 hw
  obtain⟨q1,q2,q3,q4⟩:=ls2 hl2
  rw[mayR_eq] at hmay
  simp only[Bool.and_eq_true] at hmay
  obtain⟨⟨⟨⟨⟨⟨_,hbare⟩,_⟩,_⟩,hmap⟩,_⟩,hkids⟩:=hmay
  obtain⟨z1,z2⟩:=szR_long (k:=k) (b:=b) (n:=n) (s:=s) (nl:=nl) (ys:=ys) (ml:=ml) (rs:=rs)
  have hys:ys.length≤rs.length∨ys=[]:=by
   by_cases h5:k=5
   ·subst h5
    simp at hmap
    exact .inl (by omega)
   ·right
    simp[bareB,h5] at hbare
    exact hbare.1.2
  have hyl:ys.length≤65536:=by
   rcases hys with h|h
   ·omega
   ·rw[h];simp
  intro j c kk hc hk
  match j,hc,hk with
  |0,hc,hk=>simp at hc hk;subst hc;subst hk;exact .sc rfl
  |1,hc,hk=>simp at hc hk;subst hc;subst hk;exact .sc rfl
  |2,hc,hk=>simp at hc hk;subst hc;subst hk;exact .sc rfl
  |3,hc,hk=>simp at hc hk;subst hc;subst hk;exact .sc rfl
  |4,hc,hk=>
   simp at hc hk;subst hc;subst hk
   refine .sl (by show ys.length*16≤_;omega) fun r hr j c k hc hk=>?_
   match j,hk with
   |0,hk=>have:k=.str:=(by simpa[Sx.row,rowOf,rowsL] using hk.symm);subst this;exact .sc rfl
   |j+1,hk=>simp[Sx.row,rowOf,rowsL] at hk
  |5,hc,hk=>
   simp at hc hk;subst hc;subst hk
   refine .sl (by show rs.length*88≤_;omega) fun r hr=>?_
   have hk2:=List.all_eq_true.1 hkids r hr
   refine ih r ?_ (q4 r hr) hk2 (by have:=z2 r hr;omega)
   have h1:=List.sizeOf_lt_of_mem hr
   simp only[List.cons.sizeOf_spec,List.nil.sizeOf_spec,Cl.sl.sizeOf_spec] at h1 hm
   omega
  |j+6,hc,hk=>simp at hc
theorem check_fits {u:List UInt8→Bool}{r:List Cl}(hw:Wts vK r)(h:checkN u r=0):Bws vK r:=by
 unfold checkN at h
 by_cases h1:mayR u r=true
 ·rw[if_pos h1] at h
  by_cases h2:64<(szR r).2.1∨1048576<(szR r).2.2.1∨65536<(szR r).2.2.2
  ·rw[if_pos h2] at h;cases h
  ·exact fits_of u _ r (Nat.lt_succ_self _) hw h1 (by omega)
 ·rw[if_neg h1] at h;cases h
end Go.Proofs.Wo

namespace Go.Proofs.Wo
open Go.Exo Go.Exo.Wo
set_option maxRecDepth 100000
set_option linter.all false
variable {k:Nat}{G:World→Prop}
set_option maxHeartbeats 4000000
def bareF (c:List Cl):List Cl:=[.bool (bareB c)]
theorem bareX {tb:Nat→List Cl→Cl}:Vc0 tb 9 Kbare.ks (fun _=>True) (fun _ _ _=>True) (fun c r=>r=bareF c) baret:=by
 intro cls E hE hw _
 obtain⟨k,b,n,s,nl,ys,ml,rs,rfl,-⟩:=row6 hw
 simp only[baret,Tr.vc,To.goodT,List.map_cons,List.map_nil,hE.v,X.c_int,X.c_bool,X.c_str,X.c_bin,X.c_un,X.c_len,lenC,X.kd,binD,intD,strD,unD,List.getD_cons_zero,List.getD_cons_succ,isCmp,cond_true,cond_false,Cl.bool.injEq,exists_eq',true_and,and_true,implies_true,List.cons.injEq,bareF,bareB]
 have e1:((ys.length:Int)==0)=ys.isEmpty:=by cases ys<;>simp;omega
 have e2:((rs.length:Int)==0)=rs.isEmpty:=by cases rs<;>simp;omega
 have e3:(s==sB 0 0)=s.isEmpty:=by cases s<;>rfl
 rw[e1,e2,e3]
 generalize (k==1)=a1
 generalize (k==2)=a2
 generalize (k==3)=a3
 generalize (k==4)=a4
 generalize (k==5)=a5
 generalize (k==6)=a6
 generalize (k==7)=a7
 generalize (n==0)=n0
 generalize ys.isEmpty=y0
 generalize rs.isEmpty=r0
 generalize s.isEmpty=s0
 clear e1 e2 e3 hE hw
 cases a1<;>cases a2<;>cases a3<;>cases a4<;>cases a5<;>cases a6<;>cases a7<;>simp<;>cases n0<;>cases y0<;>cases r0<;>cases s0<;>cases b<;>simp
theorem bare_x (hG:Gd0 k G)(hsz:Tryz.prog.globals.size≤k):∃ tb,Kbare.Sound Tryz.prog k G tb (fun _=>True) bareF:=by
 letI:Tb:=⟨some (9,fun _ _=>.no)⟩
 exact⟨_,Ctr.ofT (hk:=hk0) Nat.lt_wfRel.wf (fun _ _=>0) (fun _ _ _=>True) hG (fun D=>@Hooks.nil _ (dcOf D) _ _ _ _) hsz (L:=9) (by kernel_rfl) rfl (cuts:=[]) (trs:=[]) (by kernel_rfl) baret_ok bareX trivial⟩
def sizeF (c:List Cl):List Cl:=[.int (szR c).1,.int (szR c).2.1,.int (szR c).2.2.1,.int (szR c).2.2.2]
noncomputable def tbZ (m:Nat)(f:Nat)(c:List Cl):Cl:=if f=1000000 then .bool (decide (SizeOf.sizeOf c<m)) else (sizeF c).getD f .no
def sizeI (m:Nat)(j:Nat)(c0 c:List Cl):Prop:=∃ (i:Nat)(k:Int)(b:Bool)(n:Int)(s:List UInt8)(nl:Bool)(ys:List (List Cl))(ml:Bool)(rs:List (List Cl)),c0=[.int k,.bool b,.int n,.str s,.sl nl ys,.sl ml rs]∧SizeOf.sizeOf c0<m+1∧
 (j=0→i≤ys.length∧c=[.int ((ys.take i).foldl keyLen s.length),.int rs.length,.int i]++c0)∧
 (j≠0→i≤rs.length∧∃ z,z=szRs (1,0,ys.foldl keyLen s.length,rs.length) (rs.take i)∧c=[.int z.1,.int z.2.1,.int z.2.2.1,.int z.2.2.2,.int i]++c0)
theorem sizeX {m:Nat}{tb:Nat→List Cl→Cl}:Vc0 tb 9 Ksize.ks (fun c=>SizeOf.sizeOf c<m+1) (sizeI m) (fun c r=>r=sizeF c) sizet:=by
 intro cls E hE hw hm
 obtain⟨k,b,n,s,nl,ys,ml,rs,rfl,-⟩:=row6 hw
 simp only[sizet,Tr.vc,To.goodT,List.map_cons,List.map_nil,hE.v,X.c_int,X.c_len,lenC,List.getD_cons_zero,List.getD_cons_succ,and_true]
 exact⟨0,k,b,n,s,nl,ys,ml,rs,rfl,hm,fun _=>⟨Nat.zero_le _,rfl⟩,fun h=>absurd rfl h⟩
theorem sizeX0 {m:Nat}{tb:Nat→List Cl→Cl}:Vc (· < ·) sizeM tb 9 sizec0.ks (sizeI m) (fun c r=>r=sizeF c) 0 sizet0:=by
 rintro c0 cls E hE hw ⟨i,k,b,n,s,nl,ys,ml,rs,rfl,hm,hv,-⟩
 obtain⟨hi,rfl⟩:=hv rfl
 have hw':Wts ([.int .i64,.int .i64,.int .i64]++vK) ([.int ((ys.take i).foldl keyLen s.length),.int rs.length,.int i]++[.int k,.bool b,.int n,.str s,.sl nl ys,.sl ml rs]):=hw
 obtain⟨_,_,e,ha,hb⟩:=wts_app hw'
 obtain⟨_,_,rfl,_,h1⟩:=ha.cons_inv
 obtain⟨_,_,rfl,_,h2⟩:=h1.cons_inv
 obtain⟨_,rfl,_⟩:=h2.one
 simp only[List.cons_append,List.nil_append,List.cons.injEq,true_and] at e
 obtain⟨-,-,-,rfl⟩:=e
 obtain⟨_,_,_,_,_,_,_,_,e,hl,-⟩:=row6 hb
 simp only[List.cons.injEq,Cl.int.injEq,Cl.bool.injEq,Cl.str.injEq,Cl.sl.injEq,and_true,true_and] at e
 obtain⟨-,-,-,-,⟨-,rfl⟩,-,rfl⟩:=e
 obtain⟨q1,q2,q3,q4⟩:=ls2 hl
 simp only[maxLen] at q1 q3
 have h4:(0:Int)≤(i:Int):=by omega
 simp only[List.cons_append,List.nil_append,sizet0,Tr.vc,To.goodT,List.map_cons,List.map_nil,hE.v,X.c_int,X.c_bool,X.c_bin,X.c_len,X.c_inr,X.c_el,lenC,inrD,elD,X.kd,isCmp,cond_true,cond_false,binD,intD,List.getD_cons_zero,List.getD_cons_succ,Cl.bool.injEq,exists_eq',true_and,and_true,decide_eq_true_eq,decide_eq_false_iff_not,h4,Int.toNat_natCast]
 refine⟨fun hlt=>⟨hlt,?_⟩,fun hge=>⟨⟨0,k,b,n,s,nl,ys,ml,rs,rfl,hm,fun h=>absurd h (by decide),fun _=>⟨Nat.zero_le _,_,rfl,?_⟩⟩,?_⟩⟩
 ·obtain⟨r,hr,hwr,hd,hme⟩:=row_at q2 (i:=i) (by omega)
  obtain⟨_,rfl,hc⟩:=hwr.one
  obtain⟨t,rfl,-⟩:=hc.str_inv
  rw[hr]
  simp only[List.getD_cons_zero]
  rw[i64_id (n:=(i:Int)+1) (by omega) (by omega)]
  refine⟨⟨i+1,k,b,n,s,nl,ys,ml,rs,rfl,hm,fun _=>⟨by omega,?_⟩,fun h=>absurd rfl h⟩,?_⟩
  ·rw[List.take_add_one,hme];simp[keyLen]
  ·show (ys.length-((i:Int)+1)).toNat+rs.length+1<(ys.length-(i:Int)).toNat+rs.length+1
   omega
 ·rw[List.take_of_length_le (by omega)];rfl
 ·show (rs.length-(0:Int)).toNat<(ys.length-(i:Int)).toNat+rs.length+1
  omega
theorem sizeX1 {m:Nat}:Vc (· < ·) sizeM (tbZ m) 9 sizec1.ks (sizeI m) (fun c r=>r=sizeF c) 1 sizet1:=by
 rintro c0 cls E hE hw ⟨i,k,b,n,s,nl,ys,ml,rs,rfl,hm,-,hv⟩
 obtain⟨hi,z,hz,rfl⟩:=hv (by decide)
 have hw':Wts ([.int .i64,.int .i64,.int .i64,.int .i64,.int .i64]++vK) ([.int z.1,.int z.2.1,.int z.2.2.1,.int z.2.2.2,.int i]++[.int k,.bool b,.int n,.str s,.sl nl ys,.sl ml rs]):=hw
 obtain⟨_,_,e,ha,hb⟩:=wts_app hw'
 obtain⟨_,_,rfl,_,h1⟩:=ha.cons_inv
 obtain⟨_,_,rfl,_,h2⟩:=h1.cons_inv
 obtain⟨_,_,rfl,_,h3⟩:=h2.cons_inv
 obtain⟨_,_,rfl,_,h5⟩:=h3.cons_inv
 obtain⟨_,rfl,_⟩:=h5.one
 simp only[List.cons_append,List.nil_append,List.cons.injEq,true_and] at e
 obtain⟨-,-,-,-,-,rfl⟩:=e
 obtain⟨_,_,_,_,_,_,_,_,e,hl,-⟩:=row6 hb
 simp only[List.cons.injEq,Cl.int.injEq,Cl.bool.injEq,Cl.str.injEq,Cl.sl.injEq,and_true,true_and] at e
 obtain⟨-,-,-,-,⟨-,rfl⟩,-,rfl⟩:=e
 obtain⟨q1,q2,q3,q4⟩:=ls2 hl
 simp only[maxLen] at q1 q3
 have h4:(0:Int)≤(i:Int):=by omega
 simp only[List.cons_append,List.nil_append,sizet1,Tr.vc,To.goodT,List.map_cons,List.map_nil,hE.v,hE.a,X.d_cons,X.d_nil,X.c_int,X.c_bool,X.c_bin,X.c_len,X.c_inr,X.c_el,lenC,inrD,elD,X.kd,isCmp,cond_true,cond_false,binD,intD,List.getD_cons_zero,List.getD_cons_succ,Cl.bool.injEq,exists_eq',true_and,and_true,decide_eq_true_eq,decide_eq_false_iff_not,h4,Int.toNat_natCast]
 refine⟨fun hlt=>⟨hlt,?_⟩,fun hge=>?_⟩
 ·obtain⟨r,hr,hwr,hd,hme⟩:=row_at q4 (i:=i) (by omega)
  obtain⟨ka,ba,na,sa,nla,ya,mla,ra,rfl,-⟩:=row6 hwr
  rw[hr]
  simp only[List.getD_cons_zero,List.getD_cons_succ]
  have hsz:SizeOf.sizeOf [Cl.int ka,.bool ba,.int na,.str sa,.sl nla ya,.sl mla ra]<m:=by
   have z1:=List.sizeOf_lt_of_mem (List.mem_of_getElem? hme)
   simp only[List.cons.sizeOf_spec,List.nil.sizeOf_spec,Cl.sl.sizeOf_spec] at z1 hm ⊢
   omega
  generalize hx:szR [Cl.int ka,.bool ba,.int na,.str sa,.sl nla ya,.sl mla ra]=x
  have hstep:=szRs_take (a:=(1,0,ys.foldl keyLen (s.length:Int),(rs.length:Int))) hme
  rw[← hz,hx] at hstep
  have t0:∀ j,j<4→tbZ m j [.int ka,.bool ba,.int na,.str sa,.sl nla ya,.sl mla ra]=[Cl.int x.1,.int x.2.1,.int x.2.2.1,.int x.2.2.2].getD j .no:=fun j hj=>by unfold tbZ sizeF;rw[if_neg (by omega),hx]
  rw[t0 0 (by omega),t0 1 (by omega),t0 2 (by omega),t0 3 (by omega)]
  simp only[List.getD_cons_zero,List.getD_cons_succ,Cl.bool.injEq,exists_eq',true_and]
  rw[i64_id (n:=(i:Int)+1) (by omega) (by omega)]
  refine⟨by unfold tbZ;rw[if_pos rfl,decide_eq_true hsz],?_⟩
  have fin:∀ a b' c' d':Int,(a,b',c',d')=szAdd z x→sizeI m 1 [.int k,.bool b,.int n,.str s,.sl nl ys,.sl ml rs] [.int a,.int b',.int c',.int d',.int ((i:Int)+1),.int k,.bool b,.int n,.str s,.sl nl ys,.sl ml rs]:=fun a b' c' d' e=>
   ⟨i+1,k,b,n,s,nl,ys,ml,rs,rfl,hm,fun h=>absurd h (by decide),fun _=>⟨by omega,(a,b',c',d'),by rw[hstep,← e],rfl⟩⟩
  have mea:∀ a b' c' d' a2 b2 c2 d2:Int,sizeM 1 [.int a,.int b',.int c',.int d',.int ((i:Int)+1),.int k,.bool b,.int n,.str s,.sl nl ys,.sl ml rs]<sizeM 1 [.int a2,.int b2,.int c2,.int d2,.int (i:Int),.int k,.bool b,.int n,.str s,.sl nl ys,.sl ml rs]:=fun a b' c' d' a2 b2 c2 d2=>by
   show (rs.length-((i:Int)+1)).toNat<(rs.length-(i:Int)).toNat
   omega
  exact⟨fun ha=>⟨fun hb=>⟨fin _ _ _ _ (by have ha:=of_decide_eq_true ha;have hb:=of_decide_eq_true hb;simp only[szAdd];rw[if_pos ha,if_pos hb]),mea _ _ _ _ _ _ _ _⟩,fun hb=>⟨fin _ _ _ _ (by have ha:=of_decide_eq_true ha;have hb:=of_decide_eq_false hb;simp only[szAdd];rw[if_pos ha,if_neg hb]),mea _ _ _ _ _ _ _ _⟩⟩,fun ha=>⟨fun hb=>⟨fin _ _ _ _ (by have ha:=of_decide_eq_false ha;have hb:=of_decide_eq_true hb;simp only[szAdd];rw[if_neg ha,if_pos hb]),mea _ _ _ _ _ _ _ _⟩,fun hb=>⟨fin _ _ _ _ (by have ha:=of_decide_eq_false ha;have hb:=of_decide_eq_false hb;simp only[szAdd];rw[if_neg ha,if_neg hb]),mea _ _ _ _ _ _ _ _⟩⟩⟩
 ·rw[List.take_of_length_le (by omega)] at hz
  unfold sizeF
  rw[szR_eq,← hz]
theorem size_x (hG:Gd0 k G)(hk0:0<k)(hsz:Tryz.prog.globals.size≤k):∀ n,∃ tb,Ksize.Sound Tryz.prog k G tb (fun c=>SizeOf.sizeOf c<n) sizeF:=by
 intro n
 induction n with
 |zero=>exact⟨fun _ _=>.no,fun w old hold φ pls cls xs _ _ _ _ _ _ _ hp=>absurd hp (by omega)⟩
 |succ m ih=>
  obtain⟨tb,hS⟩:=ih
  letI:Tb:=⟨some (9,tbZ m)⟩
  exact⟨_,Ctr.ofT (hk:=hkSize) Nat.lt_wfRel.wf sizeM (sizeI m) hG (fun D=>@Hooks.ctr _ (dcOf D) _ _ _ _ 9 (by kernel_rfl) _ _ _ _ hS (by kernel_rfl) _ _ (by
     intro cls j c h
     have hj:j<4:=(List.getElem?_eq_some_iff.1 h).1
     rw[Nat.zero_add]
     unfold tbZ
     rw[if_neg (by omega),List.getD_eq_getElem?_getD,h];rfl) (some 1000000) (by
     intro cls h
     simpa[tbZ] using h) hG hk0 hsz rfl) hsz (L:=9) (by kernel_rfl) rfl (K:=Ksize) (cuts:=sizecuts) (trs:=[sizet0,sizet1]) (by kernel_rfl) sizet_ok sizeX ⟨⟨sizet0_ok,sizeX0⟩,⟨sizet1_ok,sizeX1⟩,trivial⟩⟩
end Go.Proofs.Wo

namespace Go.Proofs.Wo
open Go.Exo Go.Exo.Wo
set_option maxRecDepth 100000
set_option linter.all false
variable {k:Nat}{G:World→Prop}
set_option maxHeartbeats 4000000
def uOf (Fu:List Cl→List Cl)(s:List UInt8):Bool:=match (Fu [.str s]).getD 0 .no with|.bool b=>b|_=>false
theorem uOf_eq {Fu:List Cl→List Cl}(hu:∀ c,Bool1 c (Fu c))(s:List UInt8):(Fu [.str s]).getD 0 .no=.bool (uOf Fu s):=by
 obtain⟨b,e⟩:=hu [.str s]
 simp[uOf,e]
def ltO (p:Option (List UInt8))(s:List UInt8):Bool:=match p with|none=>true|some q=>Op.bytesLess q s
theorem keysB_cons (u:List UInt8→Bool)(p:Option (List UInt8))(s:List UInt8)(r:List (List Cl)):keysB u p ([.str s]::r)=(u s&&ltO p s&&keysB u (some s) r):=by
 cases p<;>rfl
def prevK (ys:List (List Cl))(i:Nat):Option (List UInt8):=match i with
 |0=>none
 |i+1=>match ys[i]? with|some [.str s]=>some s|_=>none
def mayIX (u:List UInt8→Bool)(m:Nat)(j:Nat)(c0 c:List Cl):Prop:=∃ (i:Nat)(k:Int)(b:Bool)(n:Int)(s:List UInt8)(nl:Bool)(ys:List (List Cl))(ml:Bool)(rs:List (List Cl)),c0=[.int k,.bool b,.int n,.str s,.sl nl ys,.sl ml rs]∧SizeOf.sizeOf c0<m+1∧c=.int i::c0∧
 (j=0→i≤ys.length∧mayR u c0=(keysB u (prevK ys i) (ys.drop i)&&rs.all (mayR u)))∧
 (j≠0→i≤rs.length∧mayR u c0=(rs.drop i).all (mayR u))
theorem mayX {m:Nat}{Fu:List Cl→List Cl}(hu:∀ c,Bool1 c (Fu c)):Vc0 (tbY bareF Fu (fun c=>[.bool (mayR (uOf Fu) c)]) m) 9 Kmay.ks (fun c=>SizeOf.sizeOf c<m+1) (mayIX (uOf Fu) m) (fun c r=>r=[.bool (mayR (uOf Fu) c)]) mayt:=by
 intro cls E hE hw hm
 obtain⟨k,b,n,s,nl,ys,ml,rs,rfl,hl,-⟩:=row6 hw
 obtain⟨q1,q2,q3,q4⟩:=ls2 hl
 simp only[maxLen] at q1 q3
 have t0:tbY bareF Fu (fun c=>[.bool (mayR (uOf Fu) c)]) m 0 [.int k,.bool b,.int n,.str s,.sl nl ys,.sl ml rs]=.bool (bareB [.int k,.bool b,.int n,.str s,.sl nl ys,.sl ml rs]):=by simp[tbY,bareF]
 have t1:tbY bareF Fu (fun c=>[.bool (mayR (uOf Fu) c)]) m 1 [.str s]=.bool (uOf Fu s):=by simpa[tbY] using uOf_eq hu s
 have t2:tbY bareF Fu (fun c=>[.bool (mayR (uOf Fu) c)]) m 1000001 [.str s]=.bool true:=by simp[tbY]
 have e0:=mayR_eq (uOf Fu) k b n s nl ys ml rs
 have fin:mayR (uOf Fu) [.int k,.bool b,.int n,.str s,.sl nl ys,.sl ml rs]=(keysB (uOf Fu) none ys&&rs.all (mayR (uOf Fu)))→mayIX (uOf Fu) m 0 [.int k,.bool b,.int n,.str s,.sl nl ys,.sl ml rs] [.int 0,.int k,.bool b,.int n,.str s,.sl nl ys,.sl ml rs]:=fun e=>⟨0,k,b,n,s,nl,ys,ml,rs,rfl,hm,rfl,fun _=>⟨Nat.zero_le _,e⟩,fun h=>absurd rfl h⟩
 simp only[mayt,Tr.vc,To.goodT,List.map_cons,List.map_nil,hE.v,hE.a,X.d_cons,X.d_nil,X.c_int,X.c_bool,X.c_bin,X.c_len,lenC,X.kd,isCmp,cond_true,cond_false,binD,intD,List.getD_cons_zero,List.getD_cons_succ,t0,t1,t2,Cl.bool.injEq,exists_eq',true_and,and_true,List.cons.injEq,implies_true,decide_eq_true_eq,decide_eq_false_iff_not]
 generalize mayR (uOf Fu) [.int k,.bool b,.int n,.str s,.sl nl ys,.sl ml rs]=M at e0 fin ⊢
 generalize bareB [.int k,.bool b,.int n,.str s,.sl nl ys,.sl ml rs]=B at e0 ⊢
 generalize keysB (uOf Fu) none ys=Ky at e0 fin
 generalize rs.all (mayR (uOf Fu))=Kd at e0 fin
 generalize uOf Fu s=U at e0 ⊢
 subst e0
 have el:(!((ys.length:Int)==(rs.length:Int)))=(ys.length != rs.length):=by
  rw[Bool.eq_iff_iff];simp;omega
 rw[el]
 refine⟨fun h=>by simp[show ¬ 0≤k by omega],fun h=>⟨fun h2=>by simp[show ¬ k≤7 by omega],fun h2=>?_⟩⟩
 have d1:decide (0≤k)=true:=decide_eq_true (by omega)
 have d2:decide (k≤7)=true:=decide_eq_true (by omega)
 rw[d1,d2] at fin ⊢
 have g6:(k==6)=true→(k==5)=false:=by simp;omega
 have g7:(k==7)=true→(k==5)=false:=by simp;omega
 generalize (k==5)=a5 at fin g6 g7 ⊢
 generalize (k==6)=a6 at fin g6 ⊢
 generalize (k==7)=a7 at fin g7 ⊢
 generalize (ys.length != rs.length)=L at fin ⊢
 clear el d1 d2 t0 t1 t2 hE hw hl hm
 refine⟨fun h3=>⟨fun h4=>⟨fun h5=>by simp[h4,h5],fun h5=>⟨fun h6=>fin (by simp[h3,h4,h5,h6,g6 h4]),fun h6=>by simp[h6]⟩⟩,fun h4=>⟨fun h5=>⟨fun h6=>by simp[h5,h6],fun h6=>⟨fun h7=>fin (by simp[h3,h5,h6,h7,g7 h5]),fun h7=>by simp[h7]⟩⟩,fun h5=>⟨fun h6=>⟨fun h7=>⟨fun h8=>by simp[h7,h8],fun h8=>fin (by simp[h3,h4,h5,h6,h7,h8])⟩,fun h7=>fin (by simp[h3,h4,h5,h6,h7])⟩,fun h6=>by simp[h6]⟩⟩⟩,fun h3=>by simp[h3]⟩
theorem mayX0 {m:Nat}{Fu:List Cl→List Cl}(hu:∀ c,Bool1 c (Fu c)):Vc (· < ·) mayM (tbY bareF Fu (fun c=>[.bool (mayR (uOf Fu) c)]) m) 9 mayc0.ks (mayIX (uOf Fu) m) (fun c r=>r=[.bool (mayR (uOf Fu) c)]) 0 mayt0:=by
 rintro c0 cls E hE hw ⟨i,k,b,n,s,nl,ys,ml,rs,rfl,hm,rfl,hv,-⟩
 obtain⟨hi,hM⟩:=hv rfl
 have hw':Wts (.int .i64::vK) (.int i::[.int k,.bool b,.int n,.str s,.sl nl ys,.sl ml rs]):=hw
 obtain⟨_,_,e,_,hb⟩:=hw'.cons_inv
 simp only[List.cons.injEq] at e
 obtain⟨-,rfl⟩:=e
 obtain⟨_,_,_,_,_,_,_,_,e,hl,-⟩:=row6 hb
 simp only[List.cons.injEq,Cl.int.injEq,Cl.bool.injEq,Cl.str.injEq,Cl.sl.injEq,and_true,true_and] at e
 obtain⟨-,-,-,-,⟨-,rfl⟩,-,rfl⟩:=e
 obtain⟨q1,q2,q3,q4⟩:=ls2 hl
 simp only[maxLen] at q1 q3
 have h4:(0:Int)≤(i:Int):=by omega
 simp only[mayt0,Tr.vc,To.goodT,List.map_cons,List.map_nil,hE.v,hE.a,X.d_cons,X.d_nil,X.c_int,X.c_bool,X.c_bin,X.c_len,X.c_inr,X.c_el,lenC,inrD,elD,X.kd,isCmp,cond_true,cond_false,binD,intD,List.getD_cons_zero,List.getD_cons_succ,Cl.bool.injEq,exists_eq',true_and,and_true,decide_eq_true_eq,decide_eq_false_iff_not,h4,Int.toNat_natCast,List.cons.injEq]
 refine⟨fun hlt=>⟨hlt,?_⟩,fun hge=>⟨⟨0,k,b,n,s,nl,ys,ml,rs,rfl,hm,rfl,fun h=>absurd h (by decide),fun _=>⟨Nat.zero_le _,?_⟩⟩,?_⟩⟩
 ·obtain⟨r,hr,hwr,hd,hme⟩:=row_at q2 (i:=i) (by omega)
  obtain⟨_,rfl,hc⟩:=hwr.one
  obtain⟨t,rfl,-⟩:=hc.str_inv
  have t1:tbY bareF Fu (fun c=>[.bool (mayR (uOf Fu) c)]) m 1 [.str t]=.bool (uOf Fu t):=by simpa[tbY] using uOf_eq hu t
  have t2:tbY bareF Fu (fun c=>[.bool (mayR (uOf Fu) c)]) m 1000001 [.str t]=.bool true:=by simp[tbY]
  rw[hr]
  simp only[List.getD_cons_zero,t1,t2,Cl.bool.injEq,exists_eq',true_and]
  have hdr:ys.drop i=[.str t]::ys.drop (i+1):=by
   obtain⟨hlt',e⟩:=List.getElem?_eq_some_iff.1 hme
   rw[List.drop_eq_getElem_cons hlt',e]
  have hpk:prevK ys (i+1)=some t:=by simp[prevK,hme]
  rw[hdr,keysB_cons] at hM
  rw[i64_id (n:=(i:Int)+1) (by omega) (by omega)]
  have fin:uOf Fu t=true→ltO (prevK ys i) t=true→mayIX (uOf Fu) m 0 [.int k,.bool b,.int n,.str s,.sl nl ys,.sl ml rs] [.int ((i:Int)+1),.int k,.bool b,.int n,.str s,.sl nl ys,.sl ml rs]:=fun x1 x2=>
   ⟨i+1,k,b,n,s,nl,ys,ml,rs,rfl,hm,rfl,fun _=>⟨by omega,by rw[hM,hpk,x1,x2];rfl⟩,fun h=>absurd rfl h⟩
  have mea:mayM 0 [.int ((i:Int)+1),.int k,.bool b,.int n,.str s,.sl nl ys,.sl ml rs]<mayM 0 [.int (i:Int),.int k,.bool b,.int n,.str s,.sl nl ys,.sl ml rs]:=by
   show (ys.length-((i:Int)+1)).toNat+rs.length+1<(ys.length-(i:Int)).toNat+rs.length+1
   omega
  refine⟨fun x1=>⟨fun hp=>?_,fun hp=>⟨fin x1 ?_,mea⟩⟩,fun x1=>by rw[hM,x1];simp⟩
  ·rw[i64_id (n:=(i:Int)-1) (by omega) (by omega)]
   obtain⟨r',hr',hwr',_,hme'⟩:=row_at q2 (i:=((i:Int)-1).toNat) (by omega)
   obtain⟨_,rfl,hc'⟩:=hwr'.one
   obtain⟨t',rfl,-⟩:=hc'.str_inv
   rw[hr']
   have hpv:prevK ys i=some t':=by
    obtain⟨i',rfl⟩:∃ i',i=i'+1:=⟨i-1,by omega⟩
    have:(((i'+1:Nat):Int)-1).toNat=i':=by omega
    rw[this] at hme'
    simp[prevK,hme']
   simp only[List.getD_cons_zero,strD,Cl.bool.injEq,exists_eq',true_and]
   rw[hpv] at hM fin
   refine⟨⟨by omega,by omega⟩,fun x2=>?_,fun x2=>⟨fin x1 ?_,mea⟩⟩
   ·have x3:ltO (some t') t=false:=by simpa[ltO] using x2
    rw[hM,x3];simp
   ·simpa[ltO] using x2
  ·have:i=0:=by omega
   subst this;rfl
 ·rw[hM,List.drop_of_length_le (by omega)];simp[keysB]
 ·show (rs.length-(0:Int)).toNat<(ys.length-(i:Int)).toNat+rs.length+1
  omega
theorem mayX1 {m:Nat}{Fu:List Cl→List Cl}:Vc (· < ·) mayM (tbY bareF Fu (fun c=>[.bool (mayR (uOf Fu) c)]) m) 9 mayc1.ks (mayIX (uOf Fu) m) (fun c r=>r=[.bool (mayR (uOf Fu) c)]) 1 mayt1:=by
 rintro c0 cls E hE hw ⟨i,k,b,n,s,nl,ys,ml,rs,rfl,hm,rfl,-,hv⟩
 obtain⟨hi,hM⟩:=hv (by decide)
 have hw':Wts (.int .i64::vK) (.int i::[.int k,.bool b,.int n,.str s,.sl nl ys,.sl ml rs]):=hw
 obtain⟨_,_,e,_,hb⟩:=hw'.cons_inv
 simp only[List.cons.injEq] at e
 obtain⟨-,rfl⟩:=e
 obtain⟨_,_,_,_,_,_,_,_,e,hl,-⟩:=row6 hb
 simp only[List.cons.injEq,Cl.int.injEq,Cl.bool.injEq,Cl.str.injEq,Cl.sl.injEq,and_true,true_and] at e
 obtain⟨-,-,-,-,⟨-,rfl⟩,-,rfl⟩:=e
 obtain⟨q1,q2,q3,q4⟩:=ls2 hl
 simp only[maxLen] at q1 q3
 have h4:(0:Int)≤(i:Int):=by omega
 simp only[mayt1,Tr.vc,To.goodT,List.map_cons,List.map_nil,hE.v,hE.a,X.d_cons,X.d_nil,X.c_int,X.c_bool,X.c_bin,X.c_len,X.c_inr,X.c_el,lenC,inrD,elD,X.kd,isCmp,cond_true,cond_false,binD,intD,List.getD_cons_zero,List.getD_cons_succ,Cl.bool.injEq,exists_eq',true_and,and_true,decide_eq_true_eq,decide_eq_false_iff_not,h4,Int.toNat_natCast,List.cons.injEq]
 refine⟨fun hlt=>⟨hlt,?_⟩,fun hge=>?_⟩
 ·obtain⟨r,hr,hwr,hd,hme⟩:=row_at q4 (i:=i) (by omega)
  obtain⟨ka,ba,na,sa,nla,ya,mla,ra,rfl,-⟩:=row6 hwr
  rw[hr]
  simp only[List.getD_cons_zero,List.getD_cons_succ]
  have hsz:SizeOf.sizeOf [Cl.int ka,.bool ba,.int na,.str sa,.sl nla ya,.sl mla ra]<m:=by
   have z1:=List.sizeOf_lt_of_mem (List.mem_of_getElem? hme)
   simp only[List.cons.sizeOf_spec,List.nil.sizeOf_spec,Cl.sl.sizeOf_spec] at z1 hm ⊢
   omega
  have hdr:rs.drop i=[Cl.int ka,.bool ba,.int na,.str sa,.sl nla ya,.sl mla ra]::rs.drop (i+1):=by
   obtain⟨hlt',e⟩:=List.getElem?_eq_some_iff.1 hme
   rw[List.drop_eq_getElem_cons hlt',e]
  rw[hdr,List.all_cons] at hM
  have t0:tbY bareF Fu (fun c=>[.bool (mayR (uOf Fu) c)]) m 2 [.int ka,.bool ba,.int na,.str sa,.sl nla ya,.sl mla ra]=.bool (mayR (uOf Fu) [.int ka,.bool ba,.int na,.str sa,.sl nla ya,.sl mla ra]):=by simp[tbY]
  rw[t0]
  simp only[Cl.bool.injEq,exists_eq',true_and]
  rw[i64_id (n:=(i:Int)+1) (by omega) (by omega)]
  refine⟨by unfold tbY;rw[if_pos rfl,decide_eq_true hsz],fun x1=>⟨⟨i+1,k,b,n,s,nl,ys,ml,rs,rfl,hm,rfl,fun h=>absurd h (by decide),fun _=>⟨by omega,by rw[hM,x1];rfl⟩⟩,?_⟩,fun x1=>by rw[hM,x1];rfl⟩
  show (rs.length-((i:Int)+1)).toNat<(rs.length-(i:Int)).toNat
  omega
 ·rw[hM,List.drop_of_length_le (by omega)];rfl
theorem may_x (hG:Gd0 k G)(hk0:0<k)(hsz:Tryz.prog.globals.size≤k):∃ u:List UInt8→Bool,∀ n,∃ tb,Kmay.Sound Tryz.prog k G tb (fun c=>SizeOf.sizeOf c<n) (fun c=>[.bool (mayR u c)]):=by
 obtain⟨tbb,hSb⟩:=bare_x hG hsz
 obtain⟨tbu,Fu,hSu,hFu⟩:=utf_ok hG hk0 hsz
 refine⟨uOf Fu,?_⟩
 intro n
 induction n with
 |zero=>exact⟨fun _ _=>.no,fun w old hold φ pls cls xs _ _ _ _ _ _ _ hp=>absurd hp (by omega)⟩
 |succ m ih=>
  obtain⟨tb,hS⟩:=ih
  letI:Tb:=⟨some (9,tbY bareF Fu (fun c=>[.bool (mayR (uOf Fu) c)]) m)⟩
  exact⟨_,Ctr.ofT (hk:=hkMay) Nat.lt_wfRel.wf mayM (mayIX (uOf Fu) m) hG (fun D=>@Hooks.or _ (dcOf D) _ _ _ _ _ _
    (@Hooks.ctr _ (dcOf D) _ _ _ _ 9 (by kernel_rfl) _ _ _ _ hSb (by kernel_rfl) _ _ (hfn1 (fun c=>⟨_,rfl⟩) (fun c=>by simp[tbY,bareF])) none (fun _=>trivial) hG hk0 hsz rfl)
    (@Hooks.or _ (dcOf D) _ _ _ _ _ _
     (@Hooks.ctr _ (dcOf D) _ _ _ _ 9 (by kernel_rfl) _ _ _ _ hSu (by kernel_rfl) _ _ (hfn1 hFu (fun c=>by simp[tbY])) (some 1000001) (fun _ _=>trivial) hG hk0 hsz rfl)
     (@Hooks.ctr _ (dcOf D) _ _ _ _ 9 (by kernel_rfl) _ _ _ _ hS (by kernel_rfl) _ _ (hfn1 (fun c=>⟨_,rfl⟩) (fun c=>by simp[tbY])) (some 1000000) (fun c h=>by simpa[tbY] using h) hG hk0 hsz rfl)))
   hsz (L:=9) (by kernel_rfl) rfl (K:=Kmay) (cuts:=maycuts) (trs:=[mayt0,mayt1]) (by kernel_rfl) mayt_ok (mayX hFu) ⟨⟨mayt0_ok,mayX0 hFu⟩,⟨mayt1_ok,mayX1⟩,trivial⟩⟩
theorem sizeF4 (c:List Cl):Int4 c (sizeF c):=⟨_,_,_,_,rfl⟩
theorem checkX {m:Nat}{u:List UInt8→Bool}:Vc0 (tbC (fun c=>[.bool (mayR u c)]) sizeF m) 9 Kcheck.ks (fun c=>SizeOf.sizeOf c<m) (fun _ _ _=>True) (fun c r=>r=[.int (checkN u c)]) checkt:=by
 intro cls E hE hw hm
 obtain⟨k,b,n,s,nl,ys,ml,rs,rfl,-⟩:=row6 hw
 have t0:tbC (fun c=>[.bool (mayR u c)]) sizeF m 0 [.int k,.bool b,.int n,.str s,.sl nl ys,.sl ml rs]=.bool (mayR u [.int k,.bool b,.int n,.str s,.sl nl ys,.sl ml rs]):=by simp[tbC]
 generalize hx:szR [.int k,.bool b,.int n,.str s,.sl nl ys,.sl ml rs]=x
 have t1:∀ j,j<4→tbC (fun c=>[.bool (mayR u c)]) sizeF m (j+1) [.int k,.bool b,.int n,.str s,.sl nl ys,.sl ml rs]=[Cl.int x.1,.int x.2.1,.int x.2.2.1,.int x.2.2.2].getD j .no:=fun j hj=>by unfold tbC sizeF;rw[if_neg (by omega),if_neg (by omega),if_neg (by omega),hx];rfl
 have t2:tbC (fun c=>[.bool (mayR u c)]) sizeF m 1000000 [.int k,.bool b,.int n,.str s,.sl nl ys,.sl ml rs]=.bool true:=by unfold tbC;rw[if_pos rfl,decide_eq_true hm]
 have t3:tbC (fun c=>[.bool (mayR u c)]) sizeF m 1000001 [.int k,.bool b,.int n,.str s,.sl nl ys,.sl ml rs]=.bool true:=by unfold tbC;rw[if_neg (by decide),if_pos rfl,decide_eq_true hm]
 have u1:=t1 1 (by omega)
 have u2:=t1 2 (by omega)
 have u3:=t1 3 (by omega)
 simp only[checkt,Tr.vc,To.goodT,List.map_cons,List.map_nil,hE.v,hE.a,X.d_cons,X.d_nil,X.c_int,X.c_bool,X.c_bin,X.kd,isCmp,cond_true,cond_false,binD,intD,List.getD_cons_zero,List.getD_cons_succ,t0,t2,t3,u1,u2,u3,Nat.reduceAdd,Cl.bool.injEq,exists_eq',true_and,and_true,List.cons.injEq,implies_true,Cl.int.injEq,decide_eq_true_eq,decide_eq_false_iff_not]
 unfold checkN
 rw[hx]
 refine⟨fun h1=>⟨fun h2=>?_,fun h2=>⟨fun h3=>?_,fun h3=>⟨fun h4=>?_,fun h4=>?_⟩⟩⟩,fun h1=>?_⟩
 ·rw[if_pos h1,if_pos (.inl h2)]
 ·rw[if_pos h1,if_pos (.inr (.inl h3))]
 ·rw[if_pos h1,if_pos (.inr (.inr h4))]
 ·rw[if_pos h1,if_neg (by omega)]
 ·rw[h1];rfl
theorem check_x (hG:Gd0 k G)(hk0:0<k)(hsz:Tryz.prog.globals.size≤k):∃ u:List UInt8→Bool,∀ m,∃ tb,Kcheck.Sound Tryz.prog k G tb (fun c=>SizeOf.sizeOf c<m) (fun c=>[.int (checkN u c)]):=by
 obtain⟨u,hu⟩:=may_x hG hk0 hsz
 refine⟨u,fun m=>?_⟩
 obtain⟨tbm,hSm⟩:=hu m
 obtain⟨tbs,hSs⟩:=size_x hG hk0 hsz m
 letI:Tb:=⟨some (9,tbC (fun c=>[.bool (mayR u c)]) sizeF m)⟩
 exact⟨_,Ctr.ofT (hk:=hkCheck) Nat.lt_wfRel.wf (fun _ _=>0) (fun _ _ _=>True) hG (fun D=>@Hooks.or _ (dcOf D) _ _ _ _ _ _
    (@Hooks.ctr _ (dcOf D) _ _ _ _ 9 (by kernel_rfl) _ _ _ _ hSm (by kernel_rfl) _ _ (hfn1 (fun c=>⟨_,rfl⟩) (fun c=>by simp[tbC])) (some 1000000) (fun c h=>by simpa[tbC] using h) hG hk0 hsz rfl)
    (@Hooks.ctr _ (dcOf D) _ _ _ _ 9 (by kernel_rfl) _ _ _ _ hSs (by kernel_rfl) _ _ (hfn4 sizeF4 (fun j hj c=>by unfold tbC;rw[if_neg (by omega),if_neg (by omega),if_neg (by omega),show 1+j-1=j by omega])) (some 1000001) (fun c h=>by simpa[tbC] using h) hG hk0 hsz rfl))
   hsz (L:=9) (by kernel_rfl) rfl (K:=Kcheck) (cuts:=checkcuts) (trs:=[]) (by kernel_rfl) checkt_ok checkX trivial⟩
end Go.Proofs.Wo
