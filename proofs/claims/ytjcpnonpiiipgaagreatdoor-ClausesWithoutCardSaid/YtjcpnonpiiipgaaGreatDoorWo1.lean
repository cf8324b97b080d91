/-
  The rows of the types of layer 1. Own text.
-/
import Derived.Test.YtjcpnonpiiipgaaGreatDoorSx2
import Derived.Test.YtjcpnonpiiipgaaGreatDoorProg
import Derived.KernelRfl
import Derived.Ground.Names2Prog
import Derived.Shelf.Slices.Clone
set_option linter.all false
namespace Go.Proofs.Wo
open Go.Exo
def rowsL:List (Nat×List Kd):=[(9,[.str]),(26,[.int .i64,.bool,.int .i64,.str,.sl 9,.sl 26]),(2,[.int .i64]),(24,[.sl 26])]
def rowOf:List (Nat×List Kd)→Nat→List Kd
 |[],_=>[]
 |(a,l)::r,n=>cond (Nat.beq a n) l (rowOf r n)
instance:Sx:=⟨rowOf rowsL⟩
abbrev vK:List Kd:=[.int .i64,.bool,.int .i64,.str,.sl 9,.sl 26]
abbrev vA:Ash:=.agg vK
abbrev iK:Kd:=.int .i64
def hk0:Dc→Hook:=fun _ _ _ _ _=>none
def Kbare:Ctr:=Ctr.fn 9 18 [vA] (.one (.one .bool))
def Kindex:Ctr:=Ctr.fn 9 35 [.one (.sl 2),.one iK] (.one (.one iK))
def Khas:Ctr:=Ctr.fn 9 17 [.one (.sl 2),.one iK] (.one (.one .bool))
def Krune:Ctr:=Ctr.fn 9 38 [.one .str,.one iK] (.one (.one iK))
def Kutf:Ctr:=Ctr.fn 9 19 [.one .str] (.one (.one .bool))
def Kcont:Ctr:=Ctr.fn 9 15 [.one (.sl 2),.one iK] (.one (.one .bool))
def Kalike:Ctr:=Ctr.fn 9 8 [vA,vA] (.one (.one .bool))
def Krwo:Ctr:=Ctr.fn 9 9 [vA,.one (.sl 2),.one (.sl 2)] (.one vA)
def Ksize:Ctr:=Ctr.fn 9 10 [vA] (.tup [.one iK,.one iK,.one iK,.one iK])
def Kmay:Ctr:=Ctr.fn 9 11 [vA] (.one (.one .bool))
def Kcheck:Ctr:=Ctr.fn 9 5 [vA] (.one (.one iK))
def Kgreat:Ctr:=Ctr.fn 9 4 [vA] (.one (.one .bool))
def Kcopies:Ctr:=Ctr.fn 9 37 [.one (.sl 26)] (.one (.one (.sl 26)))
def Kcopy:Ctr:=Ctr.fn 9 16 [vA] (.one vA)
noncomputable def hkUtf:Dc→Hook:=fun d=>@hkCtr d 9 Krune 0 (some 1000000)
noncomputable def hkCont:Dc→Hook:=fun d=>@hkCtr d 9 Kindex 0 none
noncomputable def hkAlike:Dc→Hook:=fun d=>@hkCtr d 9 Kalike 0 (some 1000000)
noncomputable def hkRwo:Dc→Hook:=fun d=>hkOr (@hkCtr d 9 Khas 0 none) (@hkCtr d 9 Krwo 10 (some 1000000))
noncomputable def hkSize:Dc→Hook:=fun d=>@hkCtr d 9 Ksize 0 (some 1000000)
noncomputable def hkMay:Dc→Hook:=fun d=>hkOr (@hkCtr d 9 Kbare 0 none) (hkOr (@hkCtr d 9 Kutf 1 (some 1000001)) (@hkCtr d 9 Kmay 2 (some 1000000)))
noncomputable def hkCheck:Dc→Hook:=fun d=>hkOr (@hkCtr d 9 Kmay 0 (some 1000000)) (@hkCtr d 9 Ksize 1 (some 1000001))
noncomputable def hkGreat:Dc→Hook:=fun d=>@hkCtr d 9 Ksize 0 (some 1000000)
noncomputable def hkCopies:Dc→Hook:=fun d=>@hkCtr d 9 Kcopy 0 (some 1000000)
noncomputable def hkCopy:Dc→Hook:=fun d=>hkOr (@hkSpecP d 9 36 [.one (.sl 9)] (.one (.one (.sl 9))) 10 1000001) (@hkCtr d 9 Kcopies 20 (some 1000000))
end Go.Proofs.Wo

namespace Go.Exo.Wo
open Go.Exo
mutual
def nrm:Cl→Cl
 |.sl _ rows=>.sl false (nrmRs rows)
 |c=>c
def nrmR:List Cl→List Cl
 |[]=>[]
 |c::r=>nrm c::nrmR r
def nrmRs:List (List Cl)→List (List Cl)
 |[]=>[]
 |c::r=>nrmR c::nrmRs r
end
theorem nrmR_eq:∀ l:List Cl,nrmR l=l.map nrm
 |[]=>rfl
 |c::r=>by simp only[nrmR,List.map_cons,nrmR_eq r]
theorem nrmRs_eq:∀ l:List (List Cl),nrmRs l=l.map nrmR
 |[]=>rfl
 |c::r=>by simp only[nrmRs,List.map_cons,nrmRs_eq r]
def hasN (l:List (List Cl))(n:Int):Bool:=l.any fun r=>match r with|[.int m]=>m==n|_=>false
def goes (N R:List (List Cl))(k n:Int):Bool:=(k==6&&hasN N n) || (k==7&&hasN R n)
def zeroR:List Cl:=[.int 0,.bool false,.int 0,.str [],.sl true [],.sl true []]
end Go.Exo.Wo

namespace Go.Proofs.Wo
open Go.Exo Go.Exo.Wo
set_option maxRecDepth 100000
set_option linter.all false
noncomputable def alikec0:Ct:=⟨stTodo (outS Tryz.prog hkAlike 9 Kalike [((.bin .neq (.var 9 0 (.int .i64)) (.var 9 6 (.int .i64))),false),((.bin .eql (.var 9 1 .bool) (.var 9 7 .bool)),true),((.bin .neq (.var 9 2 (.int .i64)) (.var 9 8 (.int .i64))),false),((.bin .neq (.var 9 3 .str) (.var 9 9 .str)),false),((.bin .neq (.len (.var 9 4 (.sl 9))) (.len (.var 9 10 (.sl 9)))),false),((.bin .neq (.len (.var 9 5 (.sl 26))) (.len (.var 9 11 (.sl 26)))),false)] 12),[.junk,.junk,.ptr 10 0,.ptr 11 0,.junk,.x (.var 9 0 (.int .i64)),.junk,.junk,.junk,.junk,.junk,.junk,.junk,.junk,.junk,.junk,.junk,.junk,.junk,.junk,.junk,.junk,.junk,.junk,.junk,.junk,.junk,.junk,.junk,.junk,.junk,.junk,.junk,.junk,.junk,.junk,.junk,.junk,.junk,.junk,.junk,.junk,.junk,.junk,.junk,.junk,.junk,.junk,.junk,.junk,.junk,.junk,.junk,.junk,.junk,.junk,.junk,.junk,.junk,.junk,.junk,.junk,.junk,.junk,.junk,.junk,.junk,.junk,.junk,.junk,.junk,.junk,.junk,.junk,.junk,.junk,.junk,.junk,.junk,.junk,.junk,.junk,.junk,.junk,.junk,.junk,.junk,.junk],[some (.cells 26 [.x (.var 9 1 (.int .i64)),.x (.var 9 2 .bool),.x (.var 9 3 (.int .i64)),.x (.var 9 4 .str),.x (.var 9 5 (.sl 9)),.x (.var 9 6 (.sl 26))] 0 false),some (.cells 26 [.x (.var 9 7 (.int .i64)),.x (.var 9 8 .bool),.x (.var 9 9 (.int .i64)),.x (.var 9 10 .str),.x (.var 9 11 (.sl 9)),.x (.var 9 12 (.sl 26))] 0 false)],[(.int .i64),(.int .i64),.bool,(.int .i64),.str,(.sl 9),(.sl 26),(.int .i64),.bool,(.int .i64),.str,(.sl 9),(.sl 26)]⟩
noncomputable def alikec1:Ct:=⟨stTodo (outC Tryz.prog hkAlike 9 8 alikec0 [((.bin .lss (.var 9 0 (.int .i64)) (.len (.var 9 5 (.sl 9)))),false)] 10),[.junk,.junk,.ptr 10 0,.ptr 11 0,.junk,.junk,.x (.var 9 0 (.int .i64)),.junk,.junk,.junk,.junk,.junk,.junk,.junk,.junk,.junk,.junk,.junk,.junk,.junk,.junk,.junk,.junk,.junk,.junk,.junk,.junk,.junk,.junk,.junk,.junk,.junk,.junk,.junk,.junk,.junk,.junk,.junk,.junk,.junk,.junk,.junk,.junk,.junk,.junk,.junk,.junk,.junk,.junk,.junk,.junk,.junk,.junk,.junk,.junk,.junk,.junk,.junk,.junk,.junk,.junk,.junk,.junk,.junk,.junk,.junk,.junk,.junk,.junk,.junk,.junk,.junk,.junk,.junk,.junk,.junk,.junk,.junk,.junk,.junk,.junk,.junk,.junk,.junk,.junk,.junk,.junk,.junk],[some (.cells 26 [.x (.var 9 1 (.int .i64)),.x (.var 9 2 .bool),.x (.var 9 3 (.int .i64)),.x (.var 9 4 .str),.x (.var 9 5 (.sl 9)),.x (.var 9 6 (.sl 26))] 0 false),some (.cells 26 [.x (.var 9 7 (.int .i64)),.x (.var 9 8 .bool),.x (.var 9 9 (.int .i64)),.x (.var 9 10 .str),.x (.var 9 11 (.sl 9)),.x (.var 9 12 (.sl 26))] 0 false)],[(.int .i64),(.int .i64),.bool,(.int .i64),.str,(.sl 9),(.sl 26),(.int .i64),.bool,(.int .i64),.str,(.sl 9),(.sl 26)]⟩
noncomputable def alikecuts:List Ct:=[alikec0,alikec1]
def aliket:Tr:=.ask (.bin .neq (.var 9 0 (.int .i64)) (.var 9 6 (.int .i64)))
 (.leaf 9 (.ret [] [(.bool false)]))
 (.ask (.bin .eql (.var 9 1 .bool) (.var 9 7 .bool))
 (.ask (.bin .neq (.var 9 2 (.int .i64)) (.var 9 8 (.int .i64)))
 (.leaf 9 (.ret [] [(.bool false)]))
 (.ask (.bin .neq (.var 9 3 .str) (.var 9 9 .str))
 (.leaf 9 (.ret [] [(.bool false)]))
 (.ask (.bin .neq (.len (.var 9 4 (.sl 9))) (.len (.var 9 10 (.sl 9))))
 (.leaf 9 (.ret [] [(.bool false)]))
 (.ask (.bin .neq (.len (.var 9 5 (.sl 26))) (.len (.var 9 11 (.sl 26))))
 (.leaf 9 (.ret [] [(.bool false)]))
 (.leaf 12 (.cut 0 [10,11] [(.int .i64 (0)),(.var 9 0 (.int .i64)),(.var 9 1 .bool),(.var 9 2 (.int .i64)),(.var 9 3 .str),(.var 9 4 (.sl 9)),(.var 9 5 (.sl 26)),(.var 9 6 (.int .i64)),(.var 9 7 .bool),(.var 9 8 (.int .i64)),(.var 9 9 .str),(.var 9 10 (.sl 9)),(.var 9 11 (.sl 26))]))))))
 (.leaf 9 (.ret [] [(.bool false)])))
def aliket0:Tr:=.ask (.bin .lss (.var 9 0 (.int .i64)) (.len (.var 9 5 (.sl 9))))
 (.must (.inr (.var 9 0 (.int .i64)) (.len (.var 9 5 (.sl 9)))) true <|
 .must (.inr (.var 9 0 (.int .i64)) (.len (.var 9 11 (.sl 9)))) true <|
 .ask (.bin .neq (.el (.var 9 5 (.sl 9)) (.var 9 0 (.int .i64)) 0 .str) (.el (.var 9 11 (.sl 9)) (.var 9 0 (.int .i64)) 0 .str))
 (.leaf 13 (.ret [] [(.bool false)]))
 (.leaf 14 (.cut 0 [10,11] [(.bin .add (.var 9 0 (.int .i64)) (.int .i64 (1))),(.var 9 1 (.int .i64)),(.var 9 2 .bool),(.var 9 3 (.int .i64)),(.var 9 4 .str),(.var 9 5 (.sl 9)),(.var 9 6 (.sl 26)),(.var 9 7 (.int .i64)),(.var 9 8 .bool),(.var 9 9 (.int .i64)),(.var 9 10 .str),(.var 9 11 (.sl 9)),(.var 9 12 (.sl 26))])))
 (.leaf 10 (.cut 1 [10,11] [(.int .i64 (0)),(.var 9 1 (.int .i64)),(.var 9 2 .bool),(.var 9 3 (.int .i64)),(.var 9 4 .str),(.var 9 5 (.sl 9)),(.var 9 6 (.sl 26)),(.var 9 7 (.int .i64)),(.var 9 8 .bool),(.var 9 9 (.int .i64)),(.var 9 10 .str),(.var 9 11 (.sl 9)),(.var 9 12 (.sl 26))]))
def aliket1:Tr:=.ask (.bin .lss (.var 9 0 (.int .i64)) (.len (.var 9 6 (.sl 26))))
 (.must (.inr (.var 9 0 (.int .i64)) (.len (.var 9 6 (.sl 26)))) true <|
 .must (.inr (.var 9 0 (.int .i64)) (.len (.var 9 12 (.sl 26)))) true <|
 .must (.app 9 1000000 (.cons (.el (.var 9 6 (.sl 26)) (.var 9 0 (.int .i64)) 0 (.int .i64)) (.cons (.el (.var 9 6 (.sl 26)) (.var 9 0 (.int .i64)) 1 .bool) (.cons (.el (.var 9 6 (.sl 26)) (.var 9 0 (.int .i64)) 2 (.int .i64)) (.cons (.el (.var 9 6 (.sl 26)) (.var 9 0 (.int .i64)) 3 .str) (.cons (.el (.var 9 6 (.sl 26)) (.var 9 0 (.int .i64)) 4 (.sl 9)) (.cons (.el (.var 9 6 (.sl 26)) (.var 9 0 (.int .i64)) 5 (.sl 26)) (.cons (.el (.var 9 12 (.sl 26)) (.var 9 0 (.int .i64)) 0 (.int .i64)) (.cons (.el (.var 9 12 (.sl 26)) (.var 9 0 (.int .i64)) 1 .bool) (.cons (.el (.var 9 12 (.sl 26)) (.var 9 0 (.int .i64)) 2 (.int .i64)) (.cons (.el (.var 9 12 (.sl 26)) (.var 9 0 (.int .i64)) 3 .str) (.cons (.el (.var 9 12 (.sl 26)) (.var 9 0 (.int .i64)) 4 (.sl 9)) (.cons (.el (.var 9 12 (.sl 26)) (.var 9 0 (.int .i64)) 5 (.sl 26)) .nilA)))))))))))) .bool) true <|
 .ask (.app 9 0 (.cons (.el (.var 9 6 (.sl 26)) (.var 9 0 (.int .i64)) 0 (.int .i64)) (.cons (.el (.var 9 6 (.sl 26)) (.var 9 0 (.int .i64)) 1 .bool) (.cons (.el (.var 9 6 (.sl 26)) (.var 9 0 (.int .i64)) 2 (.int .i64)) (.cons (.el (.var 9 6 (.sl 26)) (.var 9 0 (.int .i64)) 3 .str) (.cons (.el (.var 9 6 (.sl 26)) (.var 9 0 (.int .i64)) 4 (.sl 9)) (.cons (.el (.var 9 6 (.sl 26)) (.var 9 0 (.int .i64)) 5 (.sl 26)) (.cons (.el (.var 9 12 (.sl 26)) (.var 9 0 (.int .i64)) 0 (.int .i64)) (.cons (.el (.var 9 12 (.sl 26)) (.var 9 0 (.int .i64)) 1 .bool) (.cons (.el (.var 9 12 (.sl 26)) (.var 9 0 (.int .i64)) 2 (.int .i64)) (.cons (.el (.var 9 12 (.sl 26)) (.var 9 0 (.int .i64)) 3 .str) (.cons (.el (.var 9 12 (.sl 26)) (.var 9 0 (.int .i64)) 4 (.sl 9)) (.cons (.el (.var 9 12 (.sl 26)) (.var 9 0 (.int .i64)) 5 (.sl 26)) .nilA)))))))))))) .bool)
 (.leaf 15 (.cut 1 [10,11] [(.bin .add (.var 9 0 (.int .i64)) (.int .i64 (1))),(.var 9 1 (.int .i64)),(.var 9 2 .bool),(.var 9 3 (.int .i64)),(.var 9 4 .str),(.var 9 5 (.sl 9)),(.var 9 6 (.sl 26)),(.var 9 7 (.int .i64)),(.var 9 8 .bool),(.var 9 9 (.int .i64)),(.var 9 10 .str),(.var 9 11 (.sl 9)),(.var 9 12 (.sl 26))]))
 (.leaf 14 (.ret [] [(.bool false)])))
 (.leaf 8 (.ret [] [(.bool true)]))
theorem aliket_ok:Pth.allS Tryz.prog hkAlike 9 Kalike alikecuts (aliket.paths []):=
 ⟨Pth.okS_ret (by kernel_rfl) (by kernel_rfl),
  Pth.okS_ret (by kernel_rfl) (by kernel_rfl),
  Pth.okS_ret (by kernel_rfl) (by kernel_rfl),
  Pth.okS_ret (by kernel_rfl) (by kernel_rfl),
  Pth.okS_ret (by kernel_rfl) (by kernel_rfl),
  Pth.okS_cut alikec0 rfl (by kernel_rfl) (by kernel_rfl),
  Pth.okS_ret (by kernel_rfl) (by kernel_rfl),
  trivial⟩
theorem aliket0_ok:Pth.allC Tryz.prog hkAlike 9 Kalike alikecuts alikec0 (aliket0.paths []):=
 ⟨Pth.okC_ret (by kernel_rfl) (by kernel_rfl),
  Pth.okC_cut alikec0 rfl (by kernel_rfl) (by kernel_rfl),
  Pth.okC_cut alikec1 rfl (by kernel_rfl) (by kernel_rfl),
  trivial⟩
theorem aliket1_ok:Pth.allC Tryz.prog hkAlike 9 Kalike alikecuts alikec1 (aliket1.paths []):=
 ⟨Pth.okC_cut alikec1 rfl (by kernel_rfl) (by kernel_rfl),
  Pth.okC_ret (by kernel_rfl) (by kernel_rfl),
  Pth.okC_ret (by kernel_rfl) (by kernel_rfl),
  trivial⟩
variable {k:Nat}{G:World→Prop}
theorem row6 {r:List Cl}(h:Wts vK r):∃ k b n s nl ys ml rs,r=[.int k,.bool b,.int n,.str s,.sl nl ys,.sl ml rs]∧Wts [.sl 9,.sl 26] [.sl nl ys,.sl ml rs]∧IntKind.min .i64≤k∧k≤IntKind.max .i64∧IntKind.min .i64≤n∧n≤IntKind.max .i64∧s.length≤maxLen:=by
 obtain⟨_,r1,rfl,a1,g1⟩:=h.cons_inv
 obtain⟨k,rfl,k1,k2⟩:=a1.int_inv
 obtain⟨_,r2,rfl,a2,g2⟩:=g1.cons_inv
 obtain⟨b,rfl⟩:=a2.bool_inv
 obtain⟨_,r3,rfl,a3,g3⟩:=g2.cons_inv
 obtain⟨n,rfl,n1,n2⟩:=a3.int_inv
 obtain⟨_,r4,rfl,a4,g4⟩:=g3.cons_inv
 obtain⟨s,rfl,s1⟩:=a4.str_inv
 have g4':=g4
 obtain⟨_,r5,rfl,a5,g5⟩:=g4.cons_inv
 obtain⟨nl,ys,rfl,-,-,-⟩:=a5.sl_inv
 obtain⟨_,rfl,a6⟩:=g5.one
 obtain⟨ml,rs,rfl,-,-,-⟩:=a6.sl_inv
 exact⟨k,b,n,s,nl,ys,ml,rs,rfl,g4',k1,k2,n1,n2,s1⟩
theorem ls2 {nl:Bool}{ys:List (List Cl)}{ml:Bool}{rs:List (List Cl)}(h:Wts [.sl 9,.sl 26] [.sl nl ys,.sl ml rs]):ys.length≤maxLen∧(∀ r∈ys,Wts [.str] r)∧rs.length≤maxLen∧∀ r∈rs,Wts vK r:=by
 obtain⟨_,_,e,h1,h2⟩:=h.cons_inv;cases e
 obtain⟨_,_,e,a1,-,a2⟩:=h1.sl_inv;cases e
 obtain⟨_,e,h3⟩:=h2.one;cases e
 obtain⟨_,_,e,b1,-,b2⟩:=h3.sl_inv;cases e
 exact⟨a1,a2,b1,b2⟩
theorem wts_app:∀ {ks ks':List Kd}{cs:List Cl},Wts (ks++ks') cs→∃ a b,cs=a++b∧Wts ks a∧Wts ks' b
 |[],_,cs,h=>⟨[],cs,rfl,.nil,h⟩
 |_::ks,_,_,h=>by
  obtain⟨c,r,rfl,h1,h2⟩:=Go.Exo.Wts.cons_inv h
  obtain⟨a,b,rfl,h3,h4⟩:=wts_app (ks:=ks) h2
  exact⟨c::a,b,rfl,.cons h1 h3,h4⟩
open Classical in
noncomputable def alikeF (c:List Cl):List Cl:=[.bool (decide (nrmR (c.take 6)=nrmR (c.drop 6)))]
open Classical in
noncomputable def tbA (m:Nat)(f:Nat)(c:List Cl):Cl:=if f=0 then .bool (decide (nrmR (c.take 6)=nrmR (c.drop 6))) else .bool (decide (SizeOf.sizeOf c<m))
def sameTo (a b:List (List Cl))(i:Nat):Prop:=(nrmRs a=nrmRs b↔nrmRs (a.drop i)=nrmRs (b.drop i))
theorem sameTo_next {a b:List (List Cl)}{i:Nat}{r r':List Cl}(h:sameTo a b i)(h1:a.drop i=r::a.drop (i+1))(h2:b.drop i=r'::b.drop (i+1))(h3:nrmR r=nrmR r'):sameTo a b (i+1):=by
 unfold sameTo at h ⊢
 rw[h,h1,h2,nrmRs,nrmRs,h3,List.cons.injEq]
 simp
theorem sameTo_not {a b:List (List Cl)}{i:Nat}{r r':List Cl}(h:sameTo a b i)(h1:a.drop i=r::a.drop (i+1))(h2:b.drop i=r'::b.drop (i+1))(h3:nrmR r≠nrmR r'):nrmRs a≠nrmRs b:=by
 rw[Ne,show _↔_ from h,h1,h2,nrmRs,nrmRs]
 intro e
 exact h3 (List.cons.inj e).1
theorem sameTo_end {a b:List (List Cl)}{i:Nat}(h:sameTo a b i)(hl:a.length=b.length)(h1:a.length≤i):nrmRs a=nrmRs b:=by
 rw[show _↔_ from h,List.drop_eq_nil_of_le h1,List.drop_eq_nil_of_le (hl ▸ h1)]
theorem nrm_len {a b:List (List Cl)}(h:nrmRs a=nrmRs b):a.length=b.length:=by
 have:=congrArg List.length h
 simpa[nrmRs_eq] using this
def alikeInv (m:Nat)(j:Nat)(c0 c:List Cl):Prop:=∃ (k:Int)(b:Bool)(n:Int)(s:List UInt8)(nl:Bool)(ys:List (List Cl))(ml:Bool)(rs:List (List Cl))(nl':Bool)(ys':List (List Cl))(ml':Bool)(rs':List (List Cl))(i:Int),
 c0=[.int k,.bool b,.int n,.str s,.sl nl ys,.sl ml rs,.int k,.bool b,.int n,.str s,.sl nl' ys',.sl ml' rs']∧c=.int i::c0∧ys.length=ys'.length∧rs.length=rs'.length∧SizeOf.sizeOf c0<m+1∧0≤i∧
 (j=0→i≤ys.length∧sameTo ys ys' i.toNat)∧
 (j≠0→i≤rs.length∧nrmRs ys=nrmRs ys'∧sameTo rs rs' i.toNat)
def alikeM (j:Nat)(c:List Cl):Nat:=match c with|[.int i,_,_,_,_,.sl _ ys,.sl _ rs,_,_,_,_,_,_]=>cond (Nat.beq j 0) ((ys.length-i).toNat+rs.length+1) (rs.length-i).toNat|_=>0
section
variable {k:Int}{b:Bool}{n:Int}{s:List UInt8}{nl:Bool}{ys:List (List Cl)}{ml:Bool}{rs:List (List Cl)}{k':Int}{b':Bool}{n':Int}{s':List UInt8}{nl':Bool}{ys':List (List Cl)}{ml':Bool}{rs':List (List Cl)}
theorem alike_iff:(nrmR (List.take 6 [.int k,.bool b,.int n,.str s,.sl nl ys,.sl ml rs,.int k',.bool b',.int n',.str s',.sl nl' ys',.sl ml' rs'])=nrmR (List.drop 6 [.int k,.bool b,.int n,.str s,.sl nl ys,.sl ml rs,.int k',.bool b',.int n',.str s',.sl nl' ys',.sl ml' rs']))↔k=k'∧b=b'∧n=n'∧s=s'∧nrmRs ys=nrmRs ys'∧nrmRs rs=nrmRs rs':=by
 show nrmR [.int k,.bool b,.int n,.str s,.sl nl ys,.sl ml rs]=nrmR [.int k',.bool b',.int n',.str s',.sl nl' ys',.sl ml' rs']↔_
 simp[nrmR,nrm]
open Classical in
theorem alike_t (h:k=k'∧b=b'∧n=n'∧s=s'∧nrmRs ys=nrmRs ys'∧nrmRs rs=nrmRs rs'):[Cl.bool true]=alikeF [.int k,.bool b,.int n,.str s,.sl nl ys,.sl ml rs,.int k',.bool b',.int n',.str s',.sl nl' ys',.sl ml' rs']:=by
 unfold alikeF;rw[decide_eq_true (alike_iff.2 h)]
open Classical in
theorem alike_f (h:¬ (k=k'∧b=b'∧n=n'∧s=s'∧nrmRs ys=nrmRs ys'∧nrmRs rs=nrmRs rs')):[Cl.bool false]=alikeF [.int k,.bool b,.int n,.str s,.sl nl ys,.sl ml rs,.int k',.bool b',.int n',.str s',.sl nl' ys',.sl ml' rs']:=by
 unfold alikeF;rw[decide_eq_false (fun e=>h (alike_iff.1 e))]
open Classical in
theorem tbA0 {m:Nat}:tbA m 0 [.int k,.bool b,.int n,.str s,.sl nl ys,.sl ml rs,.int k',.bool b',.int n',.str s',.sl nl' ys',.sl ml' rs']=.bool true↔nrmR [.int k,.bool b,.int n,.str s,.sl nl ys,.sl ml rs]=nrmR [.int k',.bool b',.int n',.str s',.sl nl' ys',.sl ml' rs']:=by
 unfold tbA
 rw[if_pos rfl,Cl.bool.injEq,decide_eq_true_iff];exact Iff.rfl
open Classical in
theorem tbA_1 {m:Nat}{c:List Cl}(h:SizeOf.sizeOf c<m):tbA m 1000000 c=.bool true:=by
 unfold tbA;rw[if_neg (by decide),decide_eq_true h]
open Classical in
theorem tbA_b {m:Nat}{c:List Cl}:∃ b,tbA m 0 c=.bool b:=⟨_,by unfold tbA;rw[if_pos rfl]⟩
end
set_option maxHeartbeats 1000000
theorem alikeV {m:Nat}:Vc0 (tbA m) 9 Kalike.ks (fun c=>SizeOf.sizeOf c<m+1) (alikeInv m) (fun c r=>r=alikeF c) aliket:=by
 intro cls E hE hw hm
 have hw':Wts (vK++vK) cls:=hw
 obtain⟨a,b,rfl,ha,hb⟩:=wts_app hw'
 obtain⟨k,b,n,s,nl,ys,ml,rs,rfl,hl,k1,k2,n1,n2,s1⟩:=row6 ha
 obtain⟨k',b',n',s',nl',ys',ml',rs',rfl,hl',k1',k2',n1',n2',s1'⟩:=row6 hb
 simp only[aliket,Tr.vc,To.goodT,List.map_cons,List.map_nil,hE.v,X.c_int,X.c_bool,X.c_bin,X.c_len,lenC,X.kd,binD,intD,strD,List.getD_cons_zero,List.getD_cons_succ,List.cons_append,List.nil_append,Cl.bool.injEq,exists_eq',true_and,and_true,Bool.not_eq_true',Bool.not_eq_false',beq_iff_eq,beq_eq_false_iff_ne,ne_eq]
 simp only[List.cons_append,List.nil_append] at hm
 refine⟨fun h=>alike_f fun e=>h e.1,fun h1=>⟨fun h2=>⟨fun h=>alike_f fun e=>h e.2.2.1,fun h3=>⟨fun h=>alike_f fun e=>h e.2.2.2.1,fun h4=>⟨fun h=>alike_f fun e=>h ?_,fun h5=>⟨fun h=>alike_f fun e=>h ?_,fun h6=>?_⟩⟩⟩⟩,fun h=>alike_f fun e=>h e.2.1⟩⟩
 ·have:=nrm_len e.2.2.2.2.1;omega
 ·have:=nrm_len e.2.2.2.2.2;omega
 ·subst h1;subst h2;subst h3;subst h4
  refine⟨k,b,n,s,nl,ys,ml,rs,nl',ys',ml',rs',0,rfl,rfl,by omega,by omega,hm,by omega,fun _=>⟨by omega,by simp[sameTo]⟩,fun h=>absurd rfl h⟩
theorem alikeV0 {m:Nat}:Vc (· < ·) alikeM (tbA m) 9 alikec0.ks (alikeInv m) (fun c r=>r=alikeF c) 0 aliket0:=by
 rintro c0 cls E hE hw ⟨k,b,n,s,nl,ys,ml,rs,nl',ys',ml',rs',i,rfl,rfl,h1,h2,h3,h4,h5,-⟩
 obtain⟨h6,h7⟩:=h5 rfl
 have hw':Wts ((.int .i64::vK)++vK) ([.int i,.int k,.bool b,.int n,.str s,.sl nl ys,.sl ml rs]++[.int k,.bool b,.int n,.str s,.sl nl' ys',.sl ml' rs']):=hw
 obtain⟨_,_,e,ha,hb⟩:=wts_app hw'
 obtain⟨_,a',e1,-,ha'⟩:=ha.cons_inv
 subst e1
 obtain⟨_,_,_,_,_,_,_,_,rfl,hl,-⟩:=row6 ha'
 obtain⟨_,_,_,_,_,_,_,_,rfl,hl',-⟩:=row6 hb
 simp only[List.cons_append,List.nil_append,List.cons.injEq,Cl.int.injEq,Cl.bool.injEq,Cl.str.injEq,Cl.sl.injEq,and_true,true_and] at e
 obtain⟨-,-,-,-,-,⟨-,rfl⟩,⟨-,rfl⟩,-,-,-,-,⟨-,rfl⟩,-,rfl⟩:=e
 obtain⟨q1,q2,q3,q4⟩:=ls2 hl
 obtain⟨q1',q2',q3',q4'⟩:=ls2 hl'
 simp only[maxLen] at q1 q3
 simp only[aliket0,Tr.vc,To.goodT,List.map_cons,List.map_nil,hE.v,X.c_int,X.c_bool,X.c_bin,X.c_len,X.c_inr,X.c_el,lenC,inrD,elD,X.kd,binD,intD,List.getD_cons_zero,List.getD_cons_succ,Cl.bool.injEq,exists_eq',true_and,and_true,decide_eq_true_eq,decide_eq_false_iff_not,h4]
 refine⟨fun hlt=>⟨hlt,by omega,?_⟩,fun hge=>⟨⟨k,b,n,s,nl,ys,ml,rs,nl',ys',ml',rs',0,rfl,rfl,h1,h2,h3,by omega,fun h=>absurd h (by decide),fun _=>⟨by omega,?_,by simp[sameTo]⟩⟩,?_⟩⟩
 ·obtain⟨r,hr,hwr,hd,_⟩:=row_at q2 (i:=i.toNat) (by omega)
  obtain⟨r',hr',hwr',hd',_⟩:=row_at q2' (i:=i.toNat) (by omega)
  obtain⟨_,rfl,hc⟩:=hwr.one
  obtain⟨_,rfl,hc'⟩:=hwr'.one
  obtain⟨t,rfl,-⟩:=hc.str_inv
  obtain⟨t',rfl,-⟩:=hc'.str_inv
  rw[hr,hr']
  simp only[List.getD_cons_zero,strD,Cl.bool.injEq,exists_eq',true_and,Bool.not_eq_true',Bool.not_eq_false',beq_iff_eq,beq_eq_false_iff_ne,ne_eq]
  refine⟨fun hne=>alike_f fun e=>sameTo_not h7 hd hd' (by simpa[nrmR,nrm] using hne) e.2.2.2.2.1,fun he=>⟨⟨k,b,n,s,nl,ys,ml,rs,nl',ys',ml',rs',i+1,rfl,?_,h1,h2,h3,by omega,fun _=>⟨by omega,?_⟩,fun h=>absurd rfl h⟩,?_⟩⟩
  ·rw[i64_id (by omega) (by omega)]
  ·have:=sameTo_next h7 hd hd' (by simp[nrmR,nrm,he])
   rwa [show (i+1).toNat=i.toNat+1 by omega]
  ·rw[i64_id (by omega) (by omega)];simp only[alikeM,Nat.beq_refl,cond_true];omega
 ·exact sameTo_end h7 h1 (by omega)
 ·show (rs.length-(0:Int)).toNat<(ys.length-i).toNat+rs.length+1;omega
theorem alikeV1 {m:Nat}:Vc (· < ·) alikeM (tbA m) 9 alikec1.ks (alikeInv m) (fun c r=>r=alikeF c) 1 aliket1:=by
 rintro c0 cls E hE hw ⟨k,b,n,s,nl,ys,ml,rs,nl',ys',ml',rs',i,rfl,rfl,h1,h2,h3,h4,-,h5⟩
 obtain⟨h6,h8,h7⟩:=h5 (by decide)
 have hw':Wts ((.int .i64::vK)++vK) ([.int i,.int k,.bool b,.int n,.str s,.sl nl ys,.sl ml rs]++[.int k,.bool b,.int n,.str s,.sl nl' ys',.sl ml' rs']):=hw
 obtain⟨_,_,e,ha,hb⟩:=wts_app hw'
 obtain⟨_,a',e1,-,ha'⟩:=ha.cons_inv
 subst e1
 obtain⟨_,_,_,_,_,_,_,_,rfl,hl,-⟩:=row6 ha'
 obtain⟨_,_,_,_,_,_,_,_,rfl,hl',-⟩:=row6 hb
 simp only[List.cons_append,List.nil_append,List.cons.injEq,Cl.int.injEq,Cl.bool.injEq,Cl.str.injEq,Cl.sl.injEq,and_true,true_and] at e
 obtain⟨-,-,-,-,-,⟨-,rfl⟩,⟨-,rfl⟩,-,-,-,-,⟨-,rfl⟩,-,rfl⟩:=e
 obtain⟨q1,q2,q3,q4⟩:=ls2 hl
 obtain⟨q1',q2',q3',q4'⟩:=ls2 hl'
 simp only[maxLen] at q1 q3
 simp only[aliket1,Tr.vc,To.goodT,List.map_cons,List.map_nil,hE.v,hE.a,X.d_cons,X.d_nil,X.c_int,X.c_bool,X.c_bin,X.c_len,X.c_inr,X.c_el,lenC,inrD,elD,X.kd,binD,intD,List.getD_cons_zero,List.getD_cons_succ,Cl.bool.injEq,exists_eq',true_and,and_true,decide_eq_true_eq,decide_eq_false_iff_not,h4]
 refine⟨fun hlt=>⟨hlt,by omega,?_⟩,fun hge=>alike_t ⟨rfl,rfl,rfl,rfl,h8,sameTo_end h7 h2 (by omega)⟩⟩
 obtain⟨r,hr,hwr,hd,hm⟩:=row_at q4 (i:=i.toNat) (by omega)
 obtain⟨r',hr',hwr',hd',hm'⟩:=row_at q4' (i:=i.toNat) (by omega)
 obtain⟨ka,ba,na,sa,nla,ya,mla,ra,rfl,-⟩:=row6 hwr
 obtain⟨ka',ba',na',sa',nla',ya',mla',ra',rfl,-⟩:=row6 hwr'
 rw[hr,hr']
 simp only[List.getD_cons_zero,List.getD_cons_succ]
 refine⟨tbA_1 ?_,tbA_b,fun ht=>⟨⟨k,b,n,s,nl,ys,ml,rs,nl',ys',ml',rs',i+1,rfl,?_,h1,h2,h3,by omega,fun h=>absurd h (by decide),fun _=>⟨by omega,h8,?_⟩⟩,?_⟩,fun hf=>alike_f fun e=>sameTo_not h7 hd hd' (fun q=>?_) e.2.2.2.2.2⟩
 ·have z1:=List.sizeOf_lt_of_mem (List.mem_of_getElem? hm)
  have z2:=List.sizeOf_lt_of_mem (List.mem_of_getElem? hm')
  simp only[List.cons.sizeOf_spec,List.nil.sizeOf_spec,Cl.sl.sizeOf_spec] at z1 z2 h3 ⊢
  omega
 ·rw[i64_id (by omega) (by omega)]
 ·have:=sameTo_next h7 hd hd' (tbA0.1 ht)
  rwa [show (i+1).toNat=i.toNat+1 by omega]
 ·rw[i64_id (by omega) (by omega)];show (rs.length-(i+1)).toNat<(rs.length-i).toNat;omega
 ·rw[tbA0.2 q] at hf;cases hf
theorem alike_n (hG:Gd0 k G)(hk0:0<k)(hsz:Tryz.prog.globals.size≤k):∀ n,∃ tb,Kalike.Sound Tryz.prog k G tb (fun c=>SizeOf.sizeOf c<n) alikeF:=by
 intro n
 induction n with
 |zero=>exact⟨fun _ _=>.no,fun w old hold φ pls cls xs _ _ _ _ _ _ _ hp=>absurd hp (by omega)⟩
 |succ m ih=>
  obtain⟨tb,ih⟩:=ih
  letI:Tb:=⟨some (9,tbA m)⟩
  exact⟨tbA m,Ctr.ofT (hk:=hkAlike) Nat.lt_wfRel.wf alikeM (alikeInv m) hG (fun D=>@Hooks.ctr _ (dcOf D) _ _ _ _ 9 (by kernel_rfl) _ _ _ _ ih (by kernel_rfl) _ _ (by
     intro cls j c h
     cases j with
     |zero=>simp[alikeF] at h;simpa[tbA] using h
     |succ j=>simp[alikeF] at h) (some 1000000) (by
     intro cls h
     simpa[tbA] using h) hG hk0 hsz rfl) hsz (L:=9) (by kernel_rfl) rfl (trs:=[aliket0,aliket1]) (by kernel_rfl) aliket_ok alikeV ⟨⟨aliket0_ok,alikeV0⟩,⟨aliket1_ok,alikeV1⟩,trivial⟩⟩
theorem alike_ok (hG:Gd0 k G)(hk0:0<k)(hsz:Tryz.prog.globals.size≤k)(n:Nat):∃ tb,Kalike.Sound Tryz.prog k G tb (fun c=>SizeOf.sizeOf c<n) alikeF:=alike_n hG hk0 hsz n
end Go.Proofs.Wo

namespace Go.Proofs.Wo
open Go.Exo Go.Exo.Wo
set_option maxRecDepth 100000
set_option linter.all false
noncomputable def runecuts:List Ct:=[]
def runet:Tr:=.must (.inr (.var 9 1 (.int .i64)) (.len (.var 9 0 .str))) true <|
 .ask (.bin .lss (.atx (.var 9 0 .str) (.var 9 1 (.int .i64))) (.int .u8 (128)))
 (.leaf 13 (.ret [] [(.int .i64 (1))]))
 (.ask (.bin .geq (.atx (.var 9 0 .str) (.var 9 1 (.int .i64))) (.int .u8 (194)))
 (.ask (.bin .leq (.atx (.var 9 0 .str) (.var 9 1 (.int .i64))) (.int .u8 (223)))
 (.ask (.bin .lss (.bin .add (.var 9 1 (.int .i64)) (.int .i64 (1))) (.len (.var 9 0 .str)))
 (.must (.inr (.bin .add (.var 9 1 (.int .i64)) (.int .i64 (1))) (.len (.var 9 0 .str))) true <|
 .ask (.bin .geq (.atx (.var 9 0 .str) (.bin .add (.var 9 1 (.int .i64)) (.int .i64 (1)))) (.int .u8 (128)))
 (.ask (.bin .leq (.atx (.var 9 0 .str) (.bin .add (.var 9 1 (.int .i64)) (.int .i64 (1)))) (.int .u8 (191)))
 (.leaf 23 (.ret [] [(.int .i64 (2))]))
 (.leaf 31 (.ret [] [(.int .i64 (0))])))
 (.leaf 31 (.ret [] [(.int .i64 (0))])))
 (.leaf 31 (.ret [] [(.int .i64 (0))])))
 (.ask (.bin .leq (.atx (.var 9 0 .str) (.var 9 1 (.int .i64))) (.int .u8 (239)))
 (.ask (.bin .lss (.bin .add (.var 9 1 (.int .i64)) (.int .i64 (1))) (.len (.var 9 0 .str)))
 (.must (.inr (.bin .add (.var 9 1 (.int .i64)) (.int .i64 (1))) (.len (.var 9 0 .str))) true <|
 .ask (.bin .geq (.atx (.var 9 0 .str) (.bin .add (.var 9 1 (.int .i64)) (.int .i64 (1)))) (.int .u8 (128)))
 (.ask (.bin .leq (.atx (.var 9 0 .str) (.bin .add (.var 9 1 (.int .i64)) (.int .i64 (1)))) (.int .u8 (191)))
 (.ask (.bin .lss (.bin .add (.var 9 1 (.int .i64)) (.int .i64 (2))) (.len (.var 9 0 .str)))
 (.must (.inr (.bin .add (.var 9 1 (.int .i64)) (.int .i64 (2))) (.len (.var 9 0 .str))) true <|
 .ask (.bin .geq (.atx (.var 9 0 .str) (.bin .add (.var 9 1 (.int .i64)) (.int .i64 (2)))) (.int .u8 (128)))
 (.ask (.bin .leq (.atx (.var 9 0 .str) (.bin .add (.var 9 1 (.int .i64)) (.int .i64 (2)))) (.int .u8 (191)))
 (.ask (.bin .eql (.atx (.var 9 0 .str) (.var 9 1 (.int .i64))) (.int .u8 (224)))
 (.ask (.bin .lss (.atx (.var 9 0 .str) (.bin .add (.var 9 1 (.int .i64)) (.int .i64 (1)))) (.int .u8 (160)))
 (.leaf 37 (.ret [] [(.int .i64 (0))]))
 (.leaf 38 (.ret [] [(.int .i64 (3))])))
 (.ask (.bin .eql (.atx (.var 9 0 .str) (.var 9 1 (.int .i64))) (.int .u8 (237)))
 (.ask (.bin .gtr (.atx (.var 9 0 .str) (.bin .add (.var 9 1 (.int .i64)) (.int .i64 (1)))) (.int .u8 (159)))
 (.leaf 37 (.ret [] [(.int .i64 (0))]))
 (.leaf 38 (.ret [] [(.int .i64 (3))])))
 (.leaf 38 (.ret [] [(.int .i64 (3))]))))
 (.leaf 38 (.ret [] [(.int .i64 (0))])))
 (.leaf 38 (.ret [] [(.int .i64 (0))])))
 (.leaf 38 (.ret [] [(.int .i64 (0))])))
 (.leaf 31 (.ret [] [(.int .i64 (0))])))
 (.leaf 31 (.ret [] [(.int .i64 (0))])))
 (.leaf 31 (.ret [] [(.int .i64 (0))])))
 (.ask (.bin .leq (.atx (.var 9 0 .str) (.var 9 1 (.int .i64))) (.int .u8 (244)))
 (.ask (.bin .lss (.bin .add (.var 9 1 (.int .i64)) (.int .i64 (1))) (.len (.var 9 0 .str)))
 (.must (.inr (.bin .add (.var 9 1 (.int .i64)) (.int .i64 (1))) (.len (.var 9 0 .str))) true <|
 .ask (.bin .geq (.atx (.var 9 0 .str) (.bin .add (.var 9 1 (.int .i64)) (.int .i64 (1)))) (.int .u8 (128)))
 (.ask (.bin .leq (.atx (.var 9 0 .str) (.bin .add (.var 9 1 (.int .i64)) (.int .i64 (1)))) (.int .u8 (191)))
 (.ask (.bin .lss (.bin .add (.var 9 1 (.int .i64)) (.int .i64 (2))) (.len (.var 9 0 .str)))
 (.must (.inr (.bin .add (.var 9 1 (.int .i64)) (.int .i64 (2))) (.len (.var 9 0 .str))) true <|
 .ask (.bin .geq (.atx (.var 9 0 .str) (.bin .add (.var 9 1 (.int .i64)) (.int .i64 (2)))) (.int .u8 (128)))
 (.ask (.bin .leq (.atx (.var 9 0 .str) (.bin .add (.var 9 1 (.int .i64)) (.int .i64 (2)))) (.int .u8 (191)))
 (.ask (.bin .lss (.bin .add (.var 9 1 (.int .i64)) (.int .i64 (3))) (.len (.var 9 0 .str)))
 (.must (.inr (.bin .add (.var 9 1 (.int .i64)) (.int .i64 (3))) (.len (.var 9 0 .str))) true <|
 .ask (.bin .geq (.atx (.var 9 0 .str) (.bin .add (.var 9 1 (.int .i64)) (.int .i64 (3)))) (.int .u8 (128)))
 (.ask (.bin .leq (.atx (.var 9 0 .str) (.bin .add (.var 9 1 (.int .i64)) (.int .i64 (3)))) (.int .u8 (191)))
 (.ask (.bin .eql (.atx (.var 9 0 .str) (.var 9 1 (.int .i64))) (.int .u8 (240)))
 (.ask (.bin .lss (.atx (.var 9 0 .str) (.bin .add (.var 9 1 (.int .i64)) (.int .i64 (1)))) (.int .u8 (144)))
 (.leaf 47 (.ret [] [(.int .i64 (0))]))
 (.leaf 48 (.ret [] [(.int .i64 (4))])))
 (.ask (.bin .eql (.atx (.var 9 0 .str) (.var 9 1 (.int .i64))) (.int .u8 (244)))
 (.ask (.bin .gtr (.atx (.var 9 0 .str) (.bin .add (.var 9 1 (.int .i64)) (.int .i64 (1)))) (.int .u8 (143)))
 (.leaf 47 (.ret [] [(.int .i64 (0))]))
 (.leaf 48 (.ret [] [(.int .i64 (4))])))
 (.leaf 48 (.ret [] [(.int .i64 (4))]))))
 (.leaf 45 (.ret [] [(.int .i64 (0))])))
 (.leaf 45 (.ret [] [(.int .i64 (0))])))
 (.leaf 45 (.ret [] [(.int .i64 (0))])))
 (.leaf 38 (.ret [] [(.int .i64 (0))])))
 (.leaf 38 (.ret [] [(.int .i64 (0))])))
 (.leaf 38 (.ret [] [(.int .i64 (0))])))
 (.leaf 31 (.ret [] [(.int .i64 (0))])))
 (.leaf 31 (.ret [] [(.int .i64 (0))])))
 (.leaf 31 (.ret [] [(.int .i64 (0))])))
 (.leaf 24 (.ret [] [(.int .i64 (0))])))))
 (.leaf 24 (.ret [] [(.int .i64 (0))])))
theorem runet_ok:Pth.allS Tryz.prog hk0 9 Krune runecuts (runet.paths []):=
 ⟨Pth.okS_ret (by kernel_rfl) (by kernel_rfl),
  Pth.okS_ret (by kernel_rfl) (by kernel_rfl),
  Pth.okS_ret (by kernel_rfl) (by kernel_rfl),
  Pth.okS_ret (by kernel_rfl) (by kernel_rfl),
  Pth.okS_ret (by kernel_rfl) (by kernel_rfl),
  Pth.okS_ret (by kernel_rfl) (by kernel_rfl),
  Pth.okS_ret (by kernel_rfl) (by kernel_rfl),
  Pth.okS_ret (by kernel_rfl) (by kernel_rfl),
  Pth.okS_ret (by kernel_rfl) (by kernel_rfl),
  Pth.okS_ret (by kernel_rfl) (by kernel_rfl),
  Pth.okS_ret (by kernel_rfl) (by kernel_rfl),
  Pth.okS_ret (by kernel_rfl) (by kernel_rfl),
  Pth.okS_ret (by kernel_rfl) (by kernel_rfl),
  Pth.okS_ret (by kernel_rfl) (by kernel_rfl),
  Pth.okS_ret (by kernel_rfl) (by kernel_rfl),
  Pth.okS_ret (by kernel_rfl) (by kernel_rfl),
  Pth.okS_ret (by kernel_rfl) (by kernel_rfl),
  Pth.okS_ret (by kernel_rfl) (by kernel_rfl),
  Pth.okS_ret (by kernel_rfl) (by kernel_rfl),
  Pth.okS_ret (by kernel_rfl) (by kernel_rfl),
  Pth.okS_ret (by kernel_rfl) (by kernel_rfl),
  Pth.okS_ret (by kernel_rfl) (by kernel_rfl),
  Pth.okS_ret (by kernel_rfl) (by kernel_rfl),
  Pth.okS_ret (by kernel_rfl) (by kernel_rfl),
  Pth.okS_ret (by kernel_rfl) (by kernel_rfl),
  Pth.okS_ret (by kernel_rfl) (by kernel_rfl),
  Pth.okS_ret (by kernel_rfl) (by kernel_rfl),
  Pth.okS_ret (by kernel_rfl) (by kernel_rfl),
  Pth.okS_ret (by kernel_rfl) (by kernel_rfl),
  Pth.okS_ret (by kernel_rfl) (by kernel_rfl),
  Pth.okS_ret (by kernel_rfl) (by kernel_rfl),
  Pth.okS_ret (by kernel_rfl) (by kernel_rfl),
  trivial⟩
noncomputable def utfc0:Ct:=⟨stTodo (outS Tryz.prog hkUtf 9 Kutf [] 8),[.x (.var 9 0 .str),.junk,.junk,.x (.var 9 1 (.int .i64)),.junk,.junk,.junk,.junk,.junk,.junk,.junk,.junk,.junk,.junk,.junk,.junk,.junk],[],[.str,(.int .i64)]⟩
noncomputable def utfcuts:List Ct:=[utfc0]
def utft:Tr:=.leaf 8 (.cut 0 [] [(.var 9 0 .str),(.int .i64 (0))])
def utft0:Tr:=.ask (.bin .lss (.var 9 1 (.int .i64)) (.len (.var 9 0 .str)))
 (.must (.app 9 1000000 (.cons (.var 9 0 .str) (.cons (.var 9 1 (.int .i64)) .nilA)) .bool) true <|
 .ask (.bin .eql (.app 9 0 (.cons (.var 9 0 .str) (.cons (.var 9 1 (.int .i64)) .nilA)) (.int .i64)) (.int .i64 (0)))
 (.leaf 16 (.ret [] [(.bool false)]))
 (.leaf 17 (.cut 0 [] [(.var 9 0 .str),(.bin .add (.var 9 1 (.int .i64)) (.app 9 0 (.cons (.var 9 0 .str) (.cons (.var 9 1 (.int .i64)) .nilA)) (.int .i64)))])))
 (.leaf 8 (.ret [] [(.bool true)]))
theorem utft_ok:Pth.allS Tryz.prog hkUtf 9 Kutf utfcuts (utft.paths []):=
 ⟨Pth.okS_cut utfc0 rfl (by kernel_rfl) (by kernel_rfl),
  trivial⟩
theorem utft0_ok:Pth.allC Tryz.prog hkUtf 9 Kutf utfcuts utfc0 (utft0.paths []):=
 ⟨Pth.okC_ret (by kernel_rfl) (by kernel_rfl),
  Pth.okC_cut utfc0 rfl (by kernel_rfl) (by kernel_rfl),
  Pth.okC_ret (by kernel_rfl) (by kernel_rfl),
  trivial⟩
noncomputable def barecuts:List Ct:=[]
def baret:Tr:=.ask (.bin .eql (.var 9 0 (.int .i64)) (.int .i64 (1)))
 (.ask (.bin .eql (.var 9 0 (.int .i64)) (.int .i64 (2)))
 (.ask (.bin .eql (.var 9 0 (.int .i64)) (.int .i64 (3)))
 (.ask (.bin .eql (.var 9 0 (.int .i64)) (.int .i64 (5)))
 (.ask (.bin .eql (.var 9 0 (.int .i64)) (.int .i64 (4)))
 (.leaf 8 (.ret [] [(.bool true)]))
 (.leaf 8 (.ret [] [(.bool true)])))
 (.ask (.bin .eql (.len (.var 9 4 (.sl 9))) (.int .i64 (0)))
 (.ask (.bin .eql (.var 9 0 (.int .i64)) (.int .i64 (4)))
 (.leaf 8 (.ret [] [(.bool true)]))
 (.leaf 8 (.ret [] [(.bin .eql (.len (.var 9 5 (.sl 26))) (.int .i64 (0)))])))
 (.leaf 8 (.ret [] [(.bool false)]))))
 (.ask (.bin .eql (.var 9 3 .str) (.str 0 0))
 (.ask (.bin .eql (.var 9 0 (.int .i64)) (.int .i64 (5)))
 (.ask (.bin .eql (.var 9 0 (.int .i64)) (.int .i64 (4)))
 (.leaf 8 (.ret [] [(.bool true)]))
 (.leaf 8 (.ret [] [(.bool true)])))
 (.ask (.bin .eql (.len (.var 9 4 (.sl 9))) (.int .i64 (0)))
 (.ask (.bin .eql (.var 9 0 (.int .i64)) (.int .i64 (4)))
 (.leaf 8 (.ret [] [(.bool true)]))
 (.leaf 8 (.ret [] [(.bin .eql (.len (.var 9 5 (.sl 26))) (.int .i64 (0)))])))
 (.leaf 8 (.ret [] [(.bool false)]))))
 (.leaf 8 (.ret [] [(.bool false)]))))
 (.ask (.bin .eql (.var 9 0 (.int .i64)) (.int .i64 (6)))
 (.ask (.bin .eql (.var 9 0 (.int .i64)) (.int .i64 (3)))
 (.ask (.bin .eql (.var 9 0 (.int .i64)) (.int .i64 (5)))
 (.ask (.bin .eql (.var 9 0 (.int .i64)) (.int .i64 (4)))
 (.leaf 8 (.ret [] [(.bool true)]))
 (.leaf 8 (.ret [] [(.bool true)])))
 (.ask (.bin .eql (.len (.var 9 4 (.sl 9))) (.int .i64 (0)))
 (.ask (.bin .eql (.var 9 0 (.int .i64)) (.int .i64 (4)))
 (.leaf 8 (.ret [] [(.bool true)]))
 (.leaf 8 (.ret [] [(.bin .eql (.len (.var 9 5 (.sl 26))) (.int .i64 (0)))])))
 (.leaf 8 (.ret [] [(.bool false)]))))
 (.ask (.bin .eql (.var 9 3 .str) (.str 0 0))
 (.ask (.bin .eql (.var 9 0 (.int .i64)) (.int .i64 (5)))
 (.ask (.bin .eql (.var 9 0 (.int .i64)) (.int .i64 (4)))
 (.leaf 8 (.ret [] [(.bool true)]))
 (.leaf 8 (.ret [] [(.bool true)])))
 (.ask (.bin .eql (.len (.var 9 4 (.sl 9))) (.int .i64 (0)))
 (.ask (.bin .eql (.var 9 0 (.int .i64)) (.int .i64 (4)))
 (.leaf 8 (.ret [] [(.bool true)]))
 (.leaf 8 (.ret [] [(.bin .eql (.len (.var 9 5 (.sl 26))) (.int .i64 (0)))])))
 (.leaf 8 (.ret [] [(.bool false)]))))
 (.leaf 8 (.ret [] [(.bool false)]))))
 (.ask (.bin .eql (.var 9 0 (.int .i64)) (.int .i64 (7)))
 (.ask (.bin .eql (.var 9 0 (.int .i64)) (.int .i64 (3)))
 (.ask (.bin .eql (.var 9 0 (.int .i64)) (.int .i64 (5)))
 (.ask (.bin .eql (.var 9 0 (.int .i64)) (.int .i64 (4)))
 (.leaf 8 (.ret [] [(.bool true)]))
 (.leaf 8 (.ret [] [(.bool true)])))
 (.ask (.bin .eql (.len (.var 9 4 (.sl 9))) (.int .i64 (0)))
 (.ask (.bin .eql (.var 9 0 (.int .i64)) (.int .i64 (4)))
 (.leaf 8 (.ret [] [(.bool true)]))
 (.leaf 8 (.ret [] [(.bin .eql (.len (.var 9 5 (.sl 26))) (.int .i64 (0)))])))
 (.leaf 8 (.ret [] [(.bool false)]))))
 (.ask (.bin .eql (.var 9 3 .str) (.str 0 0))
 (.ask (.bin .eql (.var 9 0 (.int .i64)) (.int .i64 (5)))
 (.ask (.bin .eql (.var 9 0 (.int .i64)) (.int .i64 (4)))
 (.leaf 8 (.ret [] [(.bool true)]))
 (.leaf 8 (.ret [] [(.bool true)])))
 (.ask (.bin .eql (.len (.var 9 4 (.sl 9))) (.int .i64 (0)))
 (.ask (.bin .eql (.var 9 0 (.int .i64)) (.int .i64 (4)))
 (.leaf 8 (.ret [] [(.bool true)]))
 (.leaf 8 (.ret [] [(.bin .eql (.len (.var 9 5 (.sl 26))) (.int .i64 (0)))])))
 (.leaf 8 (.ret [] [(.bool false)]))))
 (.leaf 8 (.ret [] [(.bool false)]))))
 (.ask (.bin .eql (.var 9 2 (.int .i64)) (.int .i64 (0)))
 (.ask (.bin .eql (.var 9 0 (.int .i64)) (.int .i64 (3)))
 (.ask (.bin .eql (.var 9 0 (.int .i64)) (.int .i64 (5)))
 (.ask (.bin .eql (.var 9 0 (.int .i64)) (.int .i64 (4)))
 (.leaf 8 (.ret [] [(.bool true)]))
 (.leaf 8 (.ret [] [(.bool true)])))
 (.ask (.bin .eql (.len (.var 9 4 (.sl 9))) (.int .i64 (0)))
 (.ask (.bin .eql (.var 9 0 (.int .i64)) (.int .i64 (4)))
 (.leaf 8 (.ret [] [(.bool true)]))
 (.leaf 8 (.ret [] [(.bin .eql (.len (.var 9 5 (.sl 26))) (.int .i64 (0)))])))
 (.leaf 8 (.ret [] [(.bool false)]))))
 (.ask (.bin .eql (.var 9 3 .str) (.str 0 0))
 (.ask (.bin .eql (.var 9 0 (.int .i64)) (.int .i64 (5)))
 (.ask (.bin .eql (.var 9 0 (.int .i64)) (.int .i64 (4)))
 (.leaf 8 (.ret [] [(.bool true)]))
 (.leaf 8 (.ret [] [(.bool true)])))
 (.ask (.bin .eql (.len (.var 9 4 (.sl 9))) (.int .i64 (0)))
 (.ask (.bin .eql (.var 9 0 (.int .i64)) (.int .i64 (4)))
 (.leaf 8 (.ret [] [(.bool true)]))
 (.leaf 8 (.ret [] [(.bin .eql (.len (.var 9 5 (.sl 26))) (.int .i64 (0)))])))
 (.leaf 8 (.ret [] [(.bool false)]))))
 (.leaf 8 (.ret [] [(.bool false)]))))
 (.leaf 8 (.ret [] [(.bool false)]))))))
 (.ask (.un .not (.var 9 1 .bool))
 (.ask (.bin .eql (.var 9 0 (.int .i64)) (.int .i64 (2)))
 (.ask (.bin .eql (.var 9 0 (.int .i64)) (.int .i64 (3)))
 (.ask (.bin .eql (.var 9 0 (.int .i64)) (.int .i64 (5)))
 (.ask (.bin .eql (.var 9 0 (.int .i64)) (.int .i64 (4)))
 (.leaf 8 (.ret [] [(.bool true)]))
 (.leaf 8 (.ret [] [(.bool true)])))
 (.ask (.bin .eql (.len (.var 9 4 (.sl 9))) (.int .i64 (0)))
 (.ask (.bin .eql (.var 9 0 (.int .i64)) (.int .i64 (4)))
 (.leaf 8 (.ret [] [(.bool true)]))
 (.leaf 8 (.ret [] [(.bin .eql (.len (.var 9 5 (.sl 26))) (.int .i64 (0)))])))
 (.leaf 8 (.ret [] [(.bool false)]))))
 (.ask (.bin .eql (.var 9 3 .str) (.str 0 0))
 (.ask (.bin .eql (.var 9 0 (.int .i64)) (.int .i64 (5)))
 (.ask (.bin .eql (.var 9 0 (.int .i64)) (.int .i64 (4)))
 (.leaf 8 (.ret [] [(.bool true)]))
 (.leaf 8 (.ret [] [(.bool true)])))
 (.ask (.bin .eql (.len (.var 9 4 (.sl 9))) (.int .i64 (0)))
 (.ask (.bin .eql (.var 9 0 (.int .i64)) (.int .i64 (4)))
 (.leaf 8 (.ret [] [(.bool true)]))
 (.leaf 8 (.ret [] [(.bin .eql (.len (.var 9 5 (.sl 26))) (.int .i64 (0)))])))
 (.leaf 8 (.ret [] [(.bool false)]))))
 (.leaf 8 (.ret [] [(.bool false)]))))
 (.ask (.bin .eql (.var 9 0 (.int .i64)) (.int .i64 (6)))
 (.ask (.bin .eql (.var 9 0 (.int .i64)) (.int .i64 (3)))
 (.ask (.bin .eql (.var 9 0 (.int .i64)) (.int .i64 (5)))
 (.ask (.bin .eql (.var 9 0 (.int .i64)) (.int .i64 (4)))
 (.leaf 8 (.ret [] [(.bool true)]))
 (.leaf 8 (.ret [] [(.bool true)])))
 (.ask (.bin .eql (.len (.var 9 4 (.sl 9))) (.int .i64 (0)))
 (.ask (.bin .eql (.var 9 0 (.int .i64)) (.int .i64 (4)))
 (.leaf 8 (.ret [] [(.bool true)]))
 (.leaf 8 (.ret [] [(.bin .eql (.len (.var 9 5 (.sl 26))) (.int .i64 (0)))])))
 (.leaf 8 (.ret [] [(.bool false)]))))
 (.ask (.bin .eql (.var 9 3 .str) (.str 0 0))
 (.ask (.bin .eql (.var 9 0 (.int .i64)) (.int .i64 (5)))
 (.ask (.bin .eql (.var 9 0 (.int .i64)) (.int .i64 (4)))
 (.leaf 8 (.ret [] [(.bool true)]))
 (.leaf 8 (.ret [] [(.bool true)])))
 (.ask (.bin .eql (.len (.var 9 4 (.sl 9))) (.int .i64 (0)))
 (.ask (.bin .eql (.var 9 0 (.int .i64)) (.int .i64 (4)))
 (.leaf 8 (.ret [] [(.bool true)]))
 (.leaf 8 (.ret [] [(.bin .eql (.len (.var 9 5 (.sl 26))) (.int .i64 (0)))])))
 (.leaf 8 (.ret [] [(.bool false)]))))
 (.leaf 8 (.ret [] [(.bool false)]))))
 (.ask (.bin .eql (.var 9 0 (.int .i64)) (.int .i64 (7)))
 (.ask (.bin .eql (.var 9 0 (.int .i64)) (.int .i64 (3)))
 (.ask (.bin .eql (.var 9 0 (.int .i64)) (.int .i64 (5)))
 (.ask (.bin .eql (.var 9 0 (.int .i64)) (.int .i64 (4)))
 (.leaf 8 (.ret [] [(.bool true)]))
 (.leaf 8 (.ret [] [(.bool true)])))
 (.ask (.bin .eql (.len (.var 9 4 (.sl 9))) (.int .i64 (0)))
 (.ask (.bin .eql (.var 9 0 (.int .i64)) (.int .i64 (4)))
 (.leaf 8 (.ret [] [(.bool true)]))
 (.leaf 8 (.ret [] [(.bin .eql (.len (.var 9 5 (.sl 26))) (.int .i64 (0)))])))
 (.leaf 8 (.ret [] [(.bool false)]))))
 (.ask (.bin .eql (.var 9 3 .str) (.str 0 0))
 (.ask (.bin .eql (.var 9 0 (.int .i64)) (.int .i64 (5)))
 (.ask (.bin .eql (.var 9 0 (.int .i64)) (.int .i64 (4)))
 (.leaf 8 (.ret [] [(.bool true)]))
 (.leaf 8 (.ret [] [(.bool true)])))
 (.ask (.bin .eql (.len (.var 9 4 (.sl 9))) (.int .i64 (0)))
 (.ask (.bin .eql (.var 9 0 (.int .i64)) (.int .i64 (4)))
 (.leaf 8 (.ret [] [(.bool true)]))
 (.leaf 8 (.ret [] [(.bin .eql (.len (.var 9 5 (.sl 26))) (.int .i64 (0)))])))
 (.leaf 8 (.ret [] [(.bool false)]))))
 (.leaf 8 (.ret [] [(.bool false)]))))
 (.ask (.bin .eql (.var 9 2 (.int .i64)) (.int .i64 (0)))
 (.ask (.bin .eql (.var 9 0 (.int .i64)) (.int .i64 (3)))
 (.ask (.bin .eql (.var 9 0 (.int .i64)) (.int .i64 (5)))
 (.ask (.bin .eql (.var 9 0 (.int .i64)) (.int .i64 (4)))
 (.leaf 8 (.ret [] [(.bool true)]))
 (.leaf 8 (.ret [] [(.bool true)])))
 (.ask (.bin .eql (.len (.var 9 4 (.sl 9))) (.int .i64 (0)))
 (.ask (.bin .eql (.var 9 0 (.int .i64)) (.int .i64 (4)))
 (.leaf 8 (.ret [] [(.bool true)]))
 (.leaf 8 (.ret [] [(.bin .eql (.len (.var 9 5 (.sl 26))) (.int .i64 (0)))])))
 (.leaf 8 (.ret [] [(.bool false)]))))
 (.ask (.bin .eql (.var 9 3 .str) (.str 0 0))
 (.ask (.bin .eql (.var 9 0 (.int .i64)) (.int .i64 (5)))
 (.ask (.bin .eql (.var 9 0 (.int .i64)) (.int .i64 (4)))
 (.leaf 8 (.ret [] [(.bool true)]))
 (.leaf 8 (.ret [] [(.bool true)])))
 (.ask (.bin .eql (.len (.var 9 4 (.sl 9))) (.int .i64 (0)))
 (.ask (.bin .eql (.var 9 0 (.int .i64)) (.int .i64 (4)))
 (.leaf 8 (.ret [] [(.bool true)]))
 (.leaf 8 (.ret [] [(.bin .eql (.len (.var 9 5 (.sl 26))) (.int .i64 (0)))])))
 (.leaf 8 (.ret [] [(.bool false)]))))
 (.leaf 8 (.ret [] [(.bool false)]))))
 (.leaf 8 (.ret [] [(.bool false)]))))))
 (.leaf 8 (.ret [] [(.bool false)])))
theorem baret_ok:Pth.allS Tryz.prog hk0 9 Kbare barecuts (baret.paths []):=
 ⟨Pth.okS_ret (by kernel_rfl) (by kernel_rfl),
  Pth.okS_ret (by kernel_rfl) (by kernel_rfl),
  Pth.okS_ret (by kernel_rfl) (by kernel_rfl),
  Pth.okS_ret (by kernel_rfl) (by kernel_rfl),
  Pth.okS_ret (by kernel_rfl) (by kernel_rfl),
  Pth.okS_ret (by kernel_rfl) (by kernel_rfl),
  Pth.okS_ret (by kernel_rfl) (by kernel_rfl),
  Pth.okS_ret (by kernel_rfl) (by kernel_rfl),
  Pth.okS_ret (by kernel_rfl) (by kernel_rfl),
  Pth.okS_ret (by kernel_rfl) (by kernel_rfl),
  Pth.okS_ret (by kernel_rfl) (by kernel_rfl),
  Pth.okS_ret (by kernel_rfl) (by kernel_rfl),
  Pth.okS_ret (by kernel_rfl) (by kernel_rfl),
  Pth.okS_ret (by kernel_rfl) (by kernel_rfl),
  Pth.okS_ret (by kernel_rfl) (by kernel_rfl),
  Pth.okS_ret (by kernel_rfl) (by kernel_rfl),
  Pth.okS_ret (by kernel_rfl) (by kernel_rfl),
  Pth.okS_ret (by kernel_rfl) (by kernel_rfl),
  Pth.okS_ret (by kernel_rfl) (by kernel_rfl),
  Pth.okS_ret (by kernel_rfl) (by kernel_rfl),
  Pth.okS_ret (by kernel_rfl) (by kernel_rfl),
  Pth.okS_ret (by kernel_rfl) (by kernel_rfl),
  Pth.okS_ret (by kernel_rfl) (by kernel_rfl),
  Pth.okS_ret (by kernel_rfl) (by kernel_rfl),
  Pth.okS_ret (by kernel_rfl) (by kernel_rfl),
  Pth.okS_ret (by kernel_rfl) (by kernel_rfl),
  Pth.okS_ret (by kernel_rfl) (by kernel_rfl),
  Pth.okS_ret (by kernel_rfl) (by kernel_rfl),
  Pth.okS_ret (by kernel_rfl) (by kernel_rfl),
  Pth.okS_ret (by kernel_rfl) (by kernel_rfl),
  Pth.okS_ret (by kernel_rfl) (by kernel_rfl),
  Pth.okS_ret (by kernel_rfl) (by kernel_rfl),
  Pth.okS_ret (by kernel_rfl) (by kernel_rfl),
  Pth.okS_ret (by kernel_rfl) (by kernel_rfl),
  Pth.okS_ret (by kernel_rfl) (by kernel_rfl),
  Pth.okS_ret (by kernel_rfl) (by kernel_rfl),
  Pth.okS_ret (by kernel_rfl) (by kernel_rfl),
  Pth.okS_ret (by kernel_rfl) (by kernel_rfl),
  Pth.okS_ret (by kernel_rfl) (by kernel_rfl),
  Pth.okS_ret (by kernel_rfl) (by kernel_rfl),
  Pth.okS_ret (by kernel_rfl) (by kernel_rfl),
  Pth.okS_ret (by kernel_rfl) (by kernel_rfl),
  Pth.okS_ret (by kernel_rfl) (by kernel_rfl),
  Pth.okS_ret (by kernel_rfl) (by kernel_rfl),
  Pth.okS_ret (by kernel_rfl) (by kernel_rfl),
  Pth.okS_ret (by kernel_rfl) (by kernel_rfl),
  Pth.okS_ret (by kernel_rfl) (by kernel_rfl),
  Pth.okS_ret (by kernel_rfl) (by kernel_rfl),
  Pth.okS_ret (by kernel_rfl) (by kernel_rfl),
  Pth.okS_ret (by kernel_rfl) (by kernel_rfl),
  Pth.okS_ret (by kernel_rfl) (by kernel_rfl),
  Pth.okS_ret (by kernel_rfl) (by kernel_rfl),
  Pth.okS_ret (by kernel_rfl) (by kernel_rfl),
  Pth.okS_ret (by kernel_rfl) (by kernel_rfl),
  Pth.okS_ret (by kernel_rfl) (by kernel_rfl),
  Pth.okS_ret (by kernel_rfl) (by kernel_rfl),
  Pth.okS_ret (by kernel_rfl) (by kernel_rfl),
  Pth.okS_ret (by kernel_rfl) (by kernel_rfl),
  Pth.okS_ret (by kernel_rfl) (by kernel_rfl),
  Pth.okS_ret (by kernel_rfl) (by kernel_rfl),
  Pth.okS_ret (by kernel_rfl) (by kernel_rfl),
  Pth.okS_ret (by kernel_rfl) (by kernel_rfl),
  Pth.okS_ret (by kernel_rfl) (by kernel_rfl),
  Pth.okS_ret (by kernel_rfl) (by kernel_rfl),
  Pth.okS_ret (by kernel_rfl) (by kernel_rfl),
  Pth.okS_ret (by kernel_rfl) (by kernel_rfl),
  Pth.okS_ret (by kernel_rfl) (by kernel_rfl),
  Pth.okS_ret (by kernel_rfl) (by kernel_rfl),
  Pth.okS_ret (by kernel_rfl) (by kernel_rfl),
  Pth.okS_ret (by kernel_rfl) (by kernel_rfl),
  Pth.okS_ret (by kernel_rfl) (by kernel_rfl),
  Pth.okS_ret (by kernel_rfl) (by kernel_rfl),
  Pth.okS_ret (by kernel_rfl) (by kernel_rfl),
  Pth.okS_ret (by kernel_rfl) (by kernel_rfl),
  Pth.okS_ret (by kernel_rfl) (by kernel_rfl),
  Pth.okS_ret (by kernel_rfl) (by kernel_rfl),
  Pth.okS_ret (by kernel_rfl) (by kernel_rfl),
  Pth.okS_ret (by kernel_rfl) (by kernel_rfl),
  Pth.okS_ret (by kernel_rfl) (by kernel_rfl),
  Pth.okS_ret (by kernel_rfl) (by kernel_rfl),
  Pth.okS_ret (by kernel_rfl) (by kernel_rfl),
  Pth.okS_ret (by kernel_rfl) (by kernel_rfl),
  Pth.okS_ret (by kernel_rfl) (by kernel_rfl),
  Pth.okS_ret (by kernel_rfl) (by kernel_rfl),
  Pth.okS_ret (by kernel_rfl) (by kernel_rfl),
  Pth.okS_ret (by kernel_rfl) (by kernel_rfl),
  Pth.okS_ret (by kernel_rfl) (by kernel_rfl),
  Pth.okS_ret (by kernel_rfl) (by kernel_rfl),
  Pth.okS_ret (by kernel_rfl) (by kernel_rfl),
  Pth.okS_ret (by kernel_rfl) (by kernel_rfl),
  Pth.okS_ret (by kernel_rfl) (by kernel_rfl),
  trivial⟩
variable {k:Nat}{G:World→Prop}
set_option maxHeartbeats 4000000
theorem boolPost (cls:List Cl):∃ r,(fun (_:List Cl) r=>∃ b,r=[Cl.bool b]) cls r:=⟨_,true,rfl⟩
theorem runeV {tb:Nat→List Cl→Cl}:Vc0 tb 9 Krune.ks (fun c=>∃ s i,c=[.str s,.int i]∧0≤i∧i<s.length) (fun _ _ _=>True) (fun cls r=>∃ n,r=[.int n]∧0≤n∧∀ s i,cls=[Cl.str s,.int i]→0≤i→i<s.length→i+n≤s.length) runet:=by
 rintro cls E hE hw ⟨s,i,rfl,h0,h1⟩
 have hw':Wts [.str,.int .i64] [.str s,.int i]:=hw
 obtain⟨_,_,e,h2,_⟩:=hw'.cons_inv;cases e
 obtain⟨_,e,h3⟩:=h2.str_inv;cases e
 simp only[maxLen] at h3
 have w1:IntKind.wrap .i64 (i+1)=i+1:=i64_id (by omega) (by omega)
 have w2:i+1<s.length→IntKind.wrap .i64 (i+2)=i+2:=fun h=>i64_id (by omega) (by omega)
 have w3:i+2<s.length→IntKind.wrap .i64 (i+3)=i+3:=fun h=>i64_id (by omega) (by omega)
 simp only[runet,Tr.vc,To.goodT,List.map_cons,List.map_nil,hE.v,X.c_int,X.c_bool,X.c_bin,X.c_len,X.c_inr,X.c_at,lenC,inrD,atD,X.kd,binD,intD,List.getD_cons_zero,List.getD_cons_succ,isCmp,cond_true,cond_false,Cl.bool.injEq,exists_eq',true_and,and_true,decide_eq_true_eq,decide_eq_false_iff_not,h0,h1,w1,List.cons.injEq,Cl.int.injEq,exists_eq_left',decide_true,beq_iff_eq,beq_eq_false_iff_ne,ne_eq,implies_true,Cl.str.injEq,and_imp,forall_eq']
 generalize IntKind.wrap .i64 (i+2)=a2 at w2 ⊢
 generalize IntKind.wrap .i64 (i+3)=a3 at w3 ⊢
 repeat' (first|(refine⟨?_,?_⟩)|intro _)
 all_goals first|omega|(subst_vars;omega)
theorem rune_ok (hG:Gd0 k G)(hsz:Tryz.prog.globals.size≤k):∃ tb F,Krune.Sound Tryz.prog k G tb (fun c=>∃ s i,c=[.str s,.int i]∧0≤i∧i<s.length) F∧∀ c,∃ n,F c=[.int n]∧0≤n∧∀ s i,c=[Cl.str s,.int i]→0≤i→i<s.length→i+n≤s.length:=by
 letI:Tb:=⟨some (9,fun _ _=>.no)⟩
 obtain⟨F,h1,h2⟩:=Ctr.total (hk:=hk0) Nat.lt_wfRel.wf (fun _ _=>0) (fun _ _ _=>True) (fun cls r=>∃ n,r=[.int n]∧0≤n∧∀ s i,cls=[Cl.str s,.int i]→0≤i→i<s.length→i+n≤s.length) hG (fun D=>@Hooks.nil _ (dcOf D) _ _ _ _) hsz (L:=9) (by kernel_rfl) rfl (K:=Krune) (cuts:=[]) (trs:=[]) (by kernel_rfl) runet_ok runeV trivial (fun _=>⟨_,0,rfl,by decide,fun _ _ _ _ _=>by omega⟩)
 exact⟨_,F,h1,h2⟩
open Classical in
noncomputable def tbU (F:List Cl→List Cl)(f:Nat)(c:List Cl):Cl:=if f=0 then (F c).getD 0 .no else .bool (decide (∃ s i,c=[.str s,.int i]∧0≤i∧i<(s.length:Int)))
def utfInv (_:Nat)(_ c:List Cl):Prop:=∃ s i,c=[.str s,.int i]∧0≤i
def utfM (_:Nat)(c:List Cl):Nat:=match c with|[.str s,.int i]=>(s.length-i).toNat|_=>0
theorem utfV {tb:Nat→List Cl→Cl}:Vc0 tb 9 Kutf.ks (fun _=>True) utfInv (fun _ r=>∃ b,r=[.bool b]) utft:=by
 intro cls E hE hw _
 have hw':Wts [.str] cls:=hw
 obtain⟨_,rfl,h1⟩:=hw'.one
 obtain⟨s,rfl,h2⟩:=h1.str_inv
 simp only[utft,Tr.vc,To.goodT,List.map_cons,List.map_nil,hE.v,X.c_int,List.getD_cons_zero,List.getD_cons_succ,and_true]
 exact⟨s,0,rfl,by omega⟩
open Classical in
theorem utfV0 {F:List Cl→List Cl}(hF:∀ c,∃ n,F c=[.int n]∧0≤n∧∀ s i,c=[Cl.str s,.int i]→0≤i→i<s.length→i+n≤s.length):Vc (· < ·) utfM (tbU F) 9 utfc0.ks utfInv (fun _ r=>∃ b,r=[.bool b]) 0 utft0:=by
 rintro c0 cls E hE hw ⟨s,i,rfl,h0⟩
 have hw':Wts [.str,.int .i64] [.str s,.int i]:=hw
 obtain⟨_,_,e,h2,h4⟩:=hw'.cons_inv;cases e
 obtain⟨_,e,h3⟩:=h2.str_inv;cases e
 simp only[maxLen] at h3
 obtain⟨n,e,n0,n4⟩:=hF [.str s,.int i]
 have n5:=n4 s i rfl h0
 have t0:tbU F 0 [.str s,.int i]=.int n:=by unfold tbU;rw[if_pos rfl,e];rfl
 have t1:i<s.length→tbU F 1000000 [.str s,.int i]=.bool true:=fun h=>by unfold tbU;rw[if_neg (by decide),decide_eq_true ⟨s,i,rfl,h0,h⟩]
 simp only[utft0,Tr.vc,To.goodT,List.map_cons,List.map_nil,hE.v,hE.a,X.d_cons,X.d_nil,t0,X.c_int,X.c_bool,X.c_bin,X.c_len,lenC,X.kd,binD,intD,List.getD_cons_zero,List.getD_cons_succ,isCmp,cond_true,cond_false,Cl.bool.injEq,exists_eq',true_and,and_true,decide_eq_true_eq,decide_eq_false_iff_not,beq_iff_eq,beq_eq_false_iff_ne,ne_eq,List.cons.injEq,implies_true]
 refine fun hlt=>⟨t1 hlt,fun hn=>⟨⟨s,_,rfl,?_⟩,?_⟩⟩
 ·rw[i64_id (by omega) (by omega)];omega
 ·rw[i64_id (by omega) (by omega)];show (s.length-(i+n)).toNat<(s.length-i).toNat;omega
theorem utf_ok (hG:Gd0 k G)(hk0':0<k)(hsz:Tryz.prog.globals.size≤k):∃ tb F,Kutf.Sound Tryz.prog k G tb (fun _=>True) F∧∀ c,∃ b,F c=[.bool b]:=by
 obtain⟨tb,F,hS,hF⟩:=rune_ok hG hsz
 letI:Tb:=⟨some (9,tbU F)⟩
 obtain⟨F',h1,h2⟩:=Ctr.total (hk:=hkUtf) Nat.lt_wfRel.wf utfM utfInv (fun _ r=>∃ b,r=[.bool b]) hG (fun D=>@Hooks.ctr _ (dcOf D) _ _ _ _ 9 (by kernel_rfl) _ _ _ _ hS (by kernel_rfl) _ _ (by
     intro cls j c h
     obtain⟨n,e,-⟩:=hF cls
     rw[e] at h
     cases j with
     |zero=>simp at h;simp[tbU,e,h]
     |succ j=>simp at h) (some 1000000) (by
     intro cls h
     simpa[tbU] using h) hG hk0' hsz rfl) hsz (L:=9) (by kernel_rfl) rfl (K:=Kutf) (Pre:=fun _=>True) (cuts:=utfcuts) (trs:=[utft0]) (by kernel_rfl) utft_ok utfV ⟨⟨utft0_ok,utfV0 hF⟩,trivial⟩ boolPost
 exact⟨_,F',h1,h2⟩
end Go.Proofs.Wo

namespace Go.Proofs.Wo
open Go.Exo Go.Exo.Wo
set_option maxRecDepth 100000
set_option linter.all false
noncomputable def sizec0:Ct:=⟨stTodo (outS Tryz.prog hkSize 9 Ksize [] 9),[.junk,.ptr 10 0,.junk,.junk,.junk,.junk,.int .i64 (1),.int .i64 (0),.x (.var 9 0 (.int .i64)),.x (.var 9 1 (.int .i64)),.x (.var 9 2 (.int .i64)),.junk,.junk,.junk,.junk,.junk,.junk,.junk,.junk,.junk,.junk,.junk,.junk,.junk,.junk,.junk,.junk,.junk,.junk,.junk,.junk,.junk,.junk,.junk,.junk,.junk,.junk,.junk,.junk,.junk,.junk,.junk,.junk,.junk,.junk,.junk,.junk,.junk,.junk,.junk,.junk,.junk,.junk,.junk,.junk,.junk,.junk,.junk,.junk,.junk,.junk,.junk,.junk,.junk,.junk,.junk,.junk,.junk,.junk,.junk,.junk,.junk],[some (.cells 26 [.x (.var 9 3 (.int .i64)),.x (.var 9 4 .bool),.x (.var 9 5 (.int .i64)),.x (.var 9 6 .str),.x (.var 9 7 (.sl 9)),.x (.var 9 8 (.sl 26))] 0 false)],[(.int .i64),(.int .i64),(.int .i64),(.int .i64),.bool,(.int .i64),.str,(.sl 9),(.sl 26)]⟩
noncomputable def sizec1:Ct:=⟨stTodo (outC Tryz.prog hkSize 9 10 sizec0 [((.bin .lss (.var 9 2 (.int .i64)) (.len (.var 9 7 (.sl 9)))),false)] 10),[.junk,.ptr 10 0,.junk,.junk,.junk,.junk,.x (.var 9 0 (.int .i64)),.x (.var 9 1 (.int .i64)),.x (.var 9 2 (.int .i64)),.x (.var 9 3 (.int .i64)),.junk,.x (.var 9 4 (.int .i64)),.junk,.junk,.junk,.junk,.junk,.junk,.junk,.junk,.junk,.junk,.junk,.junk,.junk,.junk,.junk,.junk,.junk,.junk,.junk,.junk,.junk,.junk,.junk,.junk,.junk,.junk,.junk,.junk,.junk,.junk,.junk,.junk,.junk,.junk,.junk,.junk,.junk,.junk,.junk,.junk,.junk,.junk,.junk,.junk,.junk,.junk,.junk,.junk,.junk,.junk,.junk,.junk,.junk,.junk,.junk,.junk,.junk,.junk,.junk,.junk],[some (.cells 26 [.x (.var 9 5 (.int .i64)),.x (.var 9 6 .bool),.x (.var 9 7 (.int .i64)),.x (.var 9 8 .str),.x (.var 9 9 (.sl 9)),.x (.var 9 10 (.sl 26))] 0 false)],[(.int .i64),(.int .i64),(.int .i64),(.int .i64),(.int .i64),(.int .i64),.bool,(.int .i64),.str,(.sl 9),(.sl 26)]⟩
noncomputable def sizecuts:List Ct:=[sizec0,sizec1]
def sizet:Tr:=.leaf 9 (.cut 0 [10] [(.len (.var 9 3 .str)),(.len (.var 9 5 (.sl 26))),(.int .i64 (0)),(.var 9 0 (.int .i64)),(.var 9 1 .bool),(.var 9 2 (.int .i64)),(.var 9 3 .str),(.var 9 4 (.sl 9)),(.var 9 5 (.sl 26))])
def sizet0:Tr:=.ask (.bin .lss (.var 9 2 (.int .i64)) (.len (.var 9 7 (.sl 9))))
 (.must (.inr (.var 9 2 (.int .i64)) (.len (.var 9 7 (.sl 9)))) true <|
 .leaf 11 (.cut 0 [10] [(.bin .add (.var 9 0 (.int .i64)) (.len (.el (.var 9 7 (.sl 9)) (.var 9 2 (.int .i64)) 0 .str))),(.var 9 1 (.int .i64)),(.bin .add (.var 9 2 (.int .i64)) (.int .i64 (1))),(.var 9 3 (.int .i64)),(.var 9 4 .bool),(.var 9 5 (.int .i64)),(.var 9 6 .str),(.var 9 7 (.sl 9)),(.var 9 8 (.sl 26))]))
 (.leaf 10 (.cut 1 [10] [(.int .i64 (1)),(.int .i64 (0)),(.var 9 0 (.int .i64)),(.var 9 1 (.int .i64)),(.int .i64 (0)),(.var 9 3 (.int .i64)),(.var 9 4 .bool),(.var 9 5 (.int .i64)),(.var 9 6 .str),(.var 9 7 (.sl 9)),(.var 9 8 (.sl 26))]))
def sizet1:Tr:=.ask (.bin .lss (.var 9 4 (.int .i64)) (.len (.var 9 10 (.sl 26))))
 (.must (.inr (.var 9 4 (.int .i64)) (.len (.var 9 10 (.sl 26)))) true <|
 .must (.app 9 1000000 (.cons (.el (.var 9 10 (.sl 26)) (.var 9 4 (.int .i64)) 0 (.int .i64)) (.cons (.el (.var 9 10 (.sl 26)) (.var 9 4 (.int .i64)) 1 .bool) (.cons (.el (.var 9 10 (.sl 26)) (.var 9 4 (.int .i64)) 2 (.int .i64)) (.cons (.el (.var 9 10 (.sl 26)) (.var 9 4 (.int .i64)) 3 .str) (.cons (.el (.var 9 10 (.sl 26)) (.var 9 4 (.int .i64)) 4 (.sl 9)) (.cons (.el (.var 9 10 (.sl 26)) (.var 9 4 (.int .i64)) 5 (.sl 26)) .nilA)))))) .bool) true <|
 .ask (.bin .lss (.var 9 1 (.int .i64)) (.app 9 1 (.cons (.el (.var 9 10 (.sl 26)) (.var 9 4 (.int .i64)) 0 (.int .i64)) (.cons (.el (.var 9 10 (.sl 26)) (.var 9 4 (.int .i64)) 1 .bool) (.cons (.el (.var 9 10 (.sl 26)) (.var 9 4 (.int .i64)) 2 (.int .i64)) (.cons (.el (.var 9 10 (.sl 26)) (.var 9 4 (.int .i64)) 3 .str) (.cons (.el (.var 9 10 (.sl 26)) (.var 9 4 (.int .i64)) 4 (.sl 9)) (.cons (.el (.var 9 10 (.sl 26)) (.var 9 4 (.int .i64)) 5 (.sl 26)) .nilA)))))) (.int .i64)))
 (.ask (.bin .lss (.var 9 3 (.int .i64)) (.app 9 3 (.cons (.el (.var 9 10 (.sl 26)) (.var 9 4 (.int .i64)) 0 (.int .i64)) (.cons (.el (.var 9 10 (.sl 26)) (.var 9 4 (.int .i64)) 1 .bool) (.cons (.el (.var 9 10 (.sl 26)) (.var 9 4 (.int .i64)) 2 (.int .i64)) (.cons (.el (.var 9 10 (.sl 26)) (.var 9 4 (.int .i64)) 3 .str) (.cons (.el (.var 9 10 (.sl 26)) (.var 9 4 (.int .i64)) 4 (.sl 9)) (.cons (.el (.var 9 10 (.sl 26)) (.var 9 4 (.int .i64)) 5 (.sl 26)) .nilA)))))) (.int .i64)))
 (.leaf 14 (.cut 1 [10] [(.bin .add (.var 9 0 (.int .i64)) (.app 9 0 (.cons (.el (.var 9 10 (.sl 26)) (.var 9 4 (.int .i64)) 0 (.int .i64)) (.cons (.el (.var 9 10 (.sl 26)) (.var 9 4 (.int .i64)) 1 .bool) (.cons (.el (.var 9 10 (.sl 26)) (.var 9 4 (.int .i64)) 2 (.int .i64)) (.cons (.el (.var 9 10 (.sl 26)) (.var 9 4 (.int .i64)) 3 .str) (.cons (.el (.var 9 10 (.sl 26)) (.var 9 4 (.int .i64)) 4 (.sl 9)) (.cons (.el (.var 9 10 (.sl 26)) (.var 9 4 (.int .i64)) 5 (.sl 26)) .nilA)))))) (.int .i64))),(.app 9 1 (.cons (.el (.var 9 10 (.sl 26)) (.var 9 4 (.int .i64)) 0 (.int .i64)) (.cons (.el (.var 9 10 (.sl 26)) (.var 9 4 (.int .i64)) 1 .bool) (.cons (.el (.var 9 10 (.sl 26)) (.var 9 4 (.int .i64)) 2 (.int .i64)) (.cons (.el (.var 9 10 (.sl 26)) (.var 9 4 (.int .i64)) 3 .str) (.cons (.el (.var 9 10 (.sl 26)) (.var 9 4 (.int .i64)) 4 (.sl 9)) (.cons (.el (.var 9 10 (.sl 26)) (.var 9 4 (.int .i64)) 5 (.sl 26)) .nilA)))))) (.int .i64)),(.bin .add (.var 9 2 (.int .i64)) (.app 9 2 (.cons (.el (.var 9 10 (.sl 26)) (.var 9 4 (.int .i64)) 0 (.int .i64)) (.cons (.el (.var 9 10 (.sl 26)) (.var 9 4 (.int .i64)) 1 .bool) (.cons (.el (.var 9 10 (.sl 26)) (.var 9 4 (.int .i64)) 2 (.int .i64)) (.cons (.el (.var 9 10 (.sl 26)) (.var 9 4 (.int .i64)) 3 .str) (.cons (.el (.var 9 10 (.sl 26)) (.var 9 4 (.int .i64)) 4 (.sl 9)) (.cons (.el (.var 9 10 (.sl 26)) (.var 9 4 (.int .i64)) 5 (.sl 26)) .nilA)))))) (.int .i64))),(.app 9 3 (.cons (.el (.var 9 10 (.sl 26)) (.var 9 4 (.int .i64)) 0 (.int .i64)) (.cons (.el (.var 9 10 (.sl 26)) (.var 9 4 (.int .i64)) 1 .bool) (.cons (.el (.var 9 10 (.sl 26)) (.var 9 4 (.int .i64)) 2 (.int .i64)) (.cons (.el (.var 9 10 (.sl 26)) (.var 9 4 (.int .i64)) 3 .str) (.cons (.el (.var 9 10 (.sl 26)) (.var 9 4 (.int .i64)) 4 (.sl 9)) (.cons (.el (.var 9 10 (.sl 26)) (.var 9 4 (.int .i64)) 5 (.sl 26)) .nilA)))))) (.int .i64)),(.bin .add (.var 9 4 (.int .i64)) (.int .i64 (1))),(.var 9 5 (.int .i64)),(.var 9 6 .bool),(.var 9 7 (.int .i64)),(.var 9 8 .str),(.var 9 9 (.sl 9)),(.var 9 10 (.sl 26))]))
 (.leaf 14 (.cut 1 [10] [(.bin .add (.var 9 0 (.int .i64)) (.app 9 0 (.cons (.el (.var 9 10 (.sl 26)) (.var 9 4 (.int .i64)) 0 (.int .i64)) (.cons (.el (.var 9 10 (.sl 26)) (.var 9 4 (.int .i64)) 1 .bool) (.cons (.el (.var 9 10 (.sl 26)) (.var 9 4 (.int .i64)) 2 (.int .i64)) (.cons (.el (.var 9 10 (.sl 26)) (.var 9 4 (.int .i64)) 3 .str) (.cons (.el (.var 9 10 (.sl 26)) (.var 9 4 (.int .i64)) 4 (.sl 9)) (.cons (.el (.var 9 10 (.sl 26)) (.var 9 4 (.int .i64)) 5 (.sl 26)) .nilA)))))) (.int .i64))),(.app 9 1 (.cons (.el (.var 9 10 (.sl 26)) (.var 9 4 (.int .i64)) 0 (.int .i64)) (.cons (.el (.var 9 10 (.sl 26)) (.var 9 4 (.int .i64)) 1 .bool) (.cons (.el (.var 9 10 (.sl 26)) (.var 9 4 (.int .i64)) 2 (.int .i64)) (.cons (.el (.var 9 10 (.sl 26)) (.var 9 4 (.int .i64)) 3 .str) (.cons (.el (.var 9 10 (.sl 26)) (.var 9 4 (.int .i64)) 4 (.sl 9)) (.cons (.el (.var 9 10 (.sl 26)) (.var 9 4 (.int .i64)) 5 (.sl 26)) .nilA)))))) (.int .i64)),(.bin .add (.var 9 2 (.int .i64)) (.app 9 2 (.cons (.el (.var 9 10 (.sl 26)) (.var 9 4 (.int .i64)) 0 (.int .i64)) (.cons (.el (.var 9 10 (.sl 26)) (.var 9 4 (.int .i64)) 1 .bool) (.cons (.el (.var 9 10 (.sl 26)) (.var 9 4 (.int .i64)) 2 (.int .i64)) (.cons (.el (.var 9 10 (.sl 26)) (.var 9 4 (.int .i64)) 3 .str) (.cons (.el (.var 9 10 (.sl 26)) (.var 9 4 (.int .i64)) 4 (.sl 9)) (.cons (.el (.var 9 10 (.sl 26)) (.var 9 4 (.int .i64)) 5 (.sl 26)) .nilA)))))) (.int .i64))),(.var 9 3 (.int .i64)),(.bin .add (.var 9 4 (.int .i64)) (.int .i64 (1))),(.var 9 5 (.int .i64)),(.var 9 6 .bool),(.var 9 7 (.int .i64)),(.var 9 8 .str),(.var 9 9 (.sl 9)),(.var 9 10 (.sl 26))])))
 (.ask (.bin .lss (.var 9 3 (.int .i64)) (.app 9 3 (.cons (.el (.var 9 10 (.sl 26)) (.var 9 4 (.int .i64)) 0 (.int .i64)) (.cons (.el (.var 9 10 (.sl 26)) (.var 9 4 (.int .i64)) 1 .bool) (.cons (.el (.var 9 10 (.sl 26)) (.var 9 4 (.int .i64)) 2 (.int .i64)) (.cons (.el (.var 9 10 (.sl 26)) (.var 9 4 (.int .i64)) 3 .str) (.cons (.el (.var 9 10 (.sl 26)) (.var 9 4 (.int .i64)) 4 (.sl 9)) (.cons (.el (.var 9 10 (.sl 26)) (.var 9 4 (.int .i64)) 5 (.sl 26)) .nilA)))))) (.int .i64)))
 (.leaf 14 (.cut 1 [10] [(.bin .add (.var 9 0 (.int .i64)) (.app 9 0 (.cons (.el (.var 9 10 (.sl 26)) (.var 9 4 (.int .i64)) 0 (.int .i64)) (.cons (.el (.var 9 10 (.sl 26)) (.var 9 4 (.int .i64)) 1 .bool) (.cons (.el (.var 9 10 (.sl 26)) (.var 9 4 (.int .i64)) 2 (.int .i64)) (.cons (.el (.var 9 10 (.sl 26)) (.var 9 4 (.int .i64)) 3 .str) (.cons (.el (.var 9 10 (.sl 26)) (.var 9 4 (.int .i64)) 4 (.sl 9)) (.cons (.el (.var 9 10 (.sl 26)) (.var 9 4 (.int .i64)) 5 (.sl 26)) .nilA)))))) (.int .i64))),(.var 9 1 (.int .i64)),(.bin .add (.var 9 2 (.int .i64)) (.app 9 2 (.cons (.el (.var 9 10 (.sl 26)) (.var 9 4 (.int .i64)) 0 (.int .i64)) (.cons (.el (.var 9 10 (.sl 26)) (.var 9 4 (.int .i64)) 1 .bool) (.cons (.el (.var 9 10 (.sl 26)) (.var 9 4 (.int .i64)) 2 (.int .i64)) (.cons (.el (.var 9 10 (.sl 26)) (.var 9 4 (.int .i64)) 3 .str) (.cons (.el (.var 9 10 (.sl 26)) (.var 9 4 (.int .i64)) 4 (.sl 9)) (.cons (.el (.var 9 10 (.sl 26)) (.var 9 4 (.int .i64)) 5 (.sl 26)) .nilA)))))) (.int .i64))),(.app 9 3 (.cons (.el (.var 9 10 (.sl 26)) (.var 9 4 (.int .i64)) 0 (.int .i64)) (.cons (.el (.var 9 10 (.sl 26)) (.var 9 4 (.int .i64)) 1 .bool) (.cons (.el (.var 9 10 (.sl 26)) (.var 9 4 (.int .i64)) 2 (.int .i64)) (.cons (.el (.var 9 10 (.sl 26)) (.var 9 4 (.int .i64)) 3 .str) (.cons (.el (.var 9 10 (.sl 26)) (.var 9 4 (.int .i64)) 4 (.sl 9)) (.cons (.el (.var 9 10 (.sl 26)) (.var 9 4 (.int .i64)) 5 (.sl 26)) .nilA)))))) (.int .i64)),(.bin .add (.var 9 4 (.int .i64)) (.int .i64 (1))),(.var 9 5 (.int .i64)),(.var 9 6 .bool),(.var 9 7 (.int .i64)),(.var 9 8 .str),(.var 9 9 (.sl 9)),(.var 9 10 (.sl 26))]))
 (.leaf 14 (.cut 1 [10] [(.bin .add (.var 9 0 (.int .i64)) (.app 9 0 (.cons (.el (.var 9 10 (.sl 26)) (.var 9 4 (.int .i64)) 0 (.int .i64)) (.cons (.el (.var 9 10 (.sl 26)) (.var 9 4 (.int .i64)) 1 .bool) (.cons (.el (.var 9 10 (.sl 26)) (.var 9 4 (.int .i64)) 2 (.int .i64)) (.cons (.el (.var 9 10 (.sl 26)) (.var 9 4 (.int .i64)) 3 .str) (.cons (.el (.var 9 10 (.sl 26)) (.var 9 4 (.int .i64)) 4 (.sl 9)) (.cons (.el (.var 9 10 (.sl 26)) (.var 9 4 (.int .i64)) 5 (.sl 26)) .nilA)))))) (.int .i64))),(.var 9 1 (.int .i64)),(.bin .add (.var 9 2 (.int .i64)) (.app 9 2 (.cons (.el (.var 9 10 (.sl 26)) (.var 9 4 (.int .i64)) 0 (.int .i64)) (.cons (.el (.var 9 10 (.sl 26)) (.var 9 4 (.int .i64)) 1 .bool) (.cons (.el (.var 9 10 (.sl 26)) (.var 9 4 (.int .i64)) 2 (.int .i64)) (.cons (.el (.var 9 10 (.sl 26)) (.var 9 4 (.int .i64)) 3 .str) (.cons (.el (.var 9 10 (.sl 26)) (.var 9 4 (.int .i64)) 4 (.sl 9)) (.cons (.el (.var 9 10 (.sl 26)) (.var 9 4 (.int .i64)) 5 (.sl 26)) .nilA)))))) (.int .i64))),(.var 9 3 (.int .i64)),(.bin .add (.var 9 4 (.int .i64)) (.int .i64 (1))),(.var 9 5 (.int .i64)),(.var 9 6 .bool),(.var 9 7 (.int .i64)),(.var 9 8 .str),(.var 9 9 (.sl 9)),(.var 9 10 (.sl 26))]))))
 (.leaf 8 (.ret [] [(.var 9 0 (.int .i64)),(.bin .add (.var 9 1 (.int .i64)) (.int .i64 (1))),(.var 9 2 (.int .i64)),(.var 9 3 (.int .i64))]))
theorem sizet_ok:Pth.allS Tryz.prog hkSize 9 Ksize sizecuts (sizet.paths []):=
 ⟨Pth.okS_cut sizec0 rfl (by kernel_rfl) (by kernel_rfl),
  trivial⟩
theorem sizet0_ok:Pth.allC Tryz.prog hkSize 9 Ksize sizecuts sizec0 (sizet0.paths []):=
 ⟨Pth.okC_cut sizec0 rfl (by kernel_rfl) (by kernel_rfl),
  Pth.okC_cut sizec1 rfl (by kernel_rfl) (by kernel_rfl),
  trivial⟩
theorem sizet1_ok:Pth.allC Tryz.prog hkSize 9 Ksize sizecuts sizec1 (sizet1.paths []):=
 ⟨Pth.okC_cut sizec1 rfl (by kernel_rfl) (by kernel_rfl),
  Pth.okC_cut sizec1 rfl (by kernel_rfl) (by kernel_rfl),
  Pth.okC_cut sizec1 rfl (by kernel_rfl) (by kernel_rfl),
  Pth.okC_cut sizec1 rfl (by kernel_rfl) (by kernel_rfl),
  Pth.okC_ret (by kernel_rfl) (by kernel_rfl),
  trivial⟩
variable {k:Nat}{G:World→Prop}
set_option maxHeartbeats 4000000
def Int4 (_ r:List Cl):Prop:=∃ a b c d,r=[.int a,.int b,.int c,.int d]
noncomputable def tbS (F:List Cl→List Cl)(m:Nat)(f:Nat)(c:List Cl):Cl:=if f=1000000 then .bool (decide (SizeOf.sizeOf c<m)) else (F c).getD f .no
def isVal (m:Nat)(c:List Cl):Prop:=∃ (k:Int)(b:Bool)(n:Int)(s:List UInt8)(nl:Bool)(ys:List (List Cl))(ml:Bool)(rs:List (List Cl)),c=[.int k,.bool b,.int n,.str s,.sl nl ys,.sl ml rs]∧SizeOf.sizeOf c<m+1
def sizeInv (m:Nat)(j:Nat)(_ c:List Cl):Prop :=
 (j=0→∃ a b i v,c=.int a::.int b::.int i::v∧isVal m v∧0≤i)∧(j≠0→∃ a b c' d i v,c=.int a::.int b::.int c'::.int d::.int i::v∧isVal m v∧0≤i)
def sizeM (j:Nat)(c:List Cl):Nat:=match c with
 |[_,_,.int i,_,_,_,_,.sl _ ys,.sl _ rs]=>(ys.length-i).toNat+rs.length+1
 |[_,_,_,_,.int i,_,_,_,_,_,.sl _ rs]=>(rs.length-i).toNat
 |_=>0
theorem sizeV {m:Nat}{tb:Nat→List Cl→Cl}:Vc0 tb 9 Ksize.ks (fun c=>SizeOf.sizeOf c<m+1) (sizeInv m) Int4 sizet:=by
 intro cls E hE hw hm
 obtain⟨k,b,n,s,nl,ys,ml,rs,rfl,-⟩:=row6 hw
 simp only[sizet,Tr.vc,To.goodT,List.map_cons,List.map_nil,hE.v,X.c_int,X.c_len,lenC,List.getD_cons_zero,List.getD_cons_succ,and_true]
 exact⟨fun _=>⟨_,_,_,_,rfl,⟨k,b,n,s,nl,ys,ml,rs,rfl,hm⟩,by omega⟩,fun h=>absurd rfl h⟩
theorem sizeV0 {m:Nat}{tb:Nat→List Cl→Cl}:Vc (· < ·) sizeM tb 9 sizec0.ks (sizeInv m) Int4 0 sizet0:=by
 rintro c0 cls E hE hw ⟨hv,-⟩
 obtain⟨a,b',i,v,rfl,⟨k,b,n,s,nl,ys,ml,rs,rfl,hm⟩,h4⟩:=hv rfl
 have hw':Wts ([.int .i64,.int .i64,.int .i64]++vK) ([.int a,.int b',.int i]++[.int k,.bool b,.int n,.str s,.sl nl ys,.sl ml rs]):=hw
 obtain⟨_,_,e,ha,hb⟩:=wts_app hw'
 obtain⟨_,_,rfl,_,h1⟩:=ha.cons_inv
 obtain⟨_,_,rfl,_,h2⟩:=h1.cons_inv
 obtain⟨_,rfl,_⟩:=h2.one
 simp only[List.cons_append,List.nil_append,List.cons.injEq,true_and] at e
 obtain⟨-,-,-,rfl⟩:=e
 obtain⟨_,_,_,_,_,_,_,_,e,hl,-⟩:=row6 hb
 simp only[List.cons.injEq,Cl.int.injEq,Cl.bool.injEq,Cl.str.injEq,Cl.sl.injEq,and_true,true_and] at e
 obtain⟨-,-,-,-,⟨-,rfl⟩,-,rfl⟩:=e
 obtain⟨q1,q2,q3,q4⟩:=ls2 hl
 simp only[maxLen] at q1 q3
 simp only[sizet0,Tr.vc,To.goodT,List.map_cons,List.map_nil,hE.v,X.c_int,X.c_bool,X.c_bin,X.c_len,X.c_inr,X.c_el,lenC,inrD,elD,X.kd,isCmp,cond_true,cond_false,binD,intD,List.getD_cons_zero,List.getD_cons_succ,Cl.bool.injEq,exists_eq',true_and,and_true,decide_eq_true_eq,decide_eq_false_iff_not,h4]
 refine⟨fun hlt=>⟨hlt,?_⟩,fun hge=>⟨⟨fun h=>absurd h (by decide),fun _=>⟨_,_,_,_,_,_,rfl,⟨k,b,n,s,nl,ys,ml,rs,rfl,hm⟩,by omega⟩⟩,?_⟩⟩
 ·obtain⟨r,hr,hwr,hd,_⟩:=row_at q2 (i:=i.toNat) (by omega)
  obtain⟨_,rfl,hc⟩:=hwr.one
  obtain⟨t,rfl,-⟩:=hc.str_inv
  rw[hr]
  simp only[List.getD_cons_zero]
  rw[i64_id (n:=i+1) (by omega) (by omega)]
  refine⟨⟨fun _=>⟨_,_,_,_,rfl,⟨k,b,n,s,nl,ys,ml,rs,rfl,hm⟩,by omega⟩,fun h=>absurd rfl h⟩,?_⟩
  show (ys.length-(i+1)).toNat+rs.length+1<(ys.length-i).toNat+rs.length+1
  omega
 ·show (rs.length-(0:Int)).toNat<(ys.length-i).toNat+rs.length+1
  omega
theorem sizeV1 {m:Nat}{F:List Cl→List Cl}(hF:∀ c,Int4 c (F c)):Vc (· < ·) sizeM (tbS F m) 9 sizec1.ks (sizeInv m) Int4 1 sizet1:=by
 rintro c0 cls E hE hw ⟨-,hv⟩
 obtain⟨a,b',c',d',i,v,rfl,⟨k,b,n,s,nl,ys,ml,rs,rfl,hm⟩,h4⟩:=hv (by decide)
 have hw':Wts ([.int .i64,.int .i64,.int .i64,.int .i64,.int .i64]++vK) ([.int a,.int b',.int c',.int d',.int i]++[.int k,.bool b,.int n,.str s,.sl nl ys,.sl ml rs]):=hw
 obtain⟨_,_,e,ha,hb⟩:=wts_app hw'
 obtain⟨_,_,rfl,_,h1⟩:=ha.cons_inv
 obtain⟨_,_,rfl,_,h2⟩:=h1.cons_inv
 obtain⟨_,_,rfl,_,h3⟩:=h2.cons_inv
 obtain⟨_,_,rfl,_,h5⟩:=h3.cons_inv
 obtain⟨_,rfl,_⟩:=h5.one
 simp only[List.cons_append,List.nil_append,List.cons.injEq,true_and] at e
 obtain⟨-,-,-,-,-,rfl⟩:=e
 obtain⟨_,_,_,_,_,_,_,_,e,hl,-⟩:=row6 hb
 simp only[List.cons.injEq,Cl.int.injEq,Cl.bool.injEq,Cl.str.injEq,Cl.sl.injEq,and_true,true_and] at e
 obtain⟨-,-,-,-,⟨-,rfl⟩,-,rfl⟩:=e
 obtain⟨q1,q2,q3,q4⟩:=ls2 hl
 simp only[maxLen] at q1 q3
 simp only[sizet1,Tr.vc,To.goodT,List.map_cons,List.map_nil,hE.v,hE.a,X.d_cons,X.d_nil,X.c_int,X.c_bool,X.c_bin,X.c_len,X.c_inr,X.c_el,lenC,inrD,elD,X.kd,isCmp,cond_true,cond_false,binD,intD,List.getD_cons_zero,List.getD_cons_succ,Cl.bool.injEq,exists_eq',true_and,and_true,decide_eq_true_eq,decide_eq_false_iff_not,h4]
 refine⟨fun hlt=>⟨hlt,?_⟩,fun hge=>⟨_,_,_,_,rfl⟩⟩
 obtain⟨r,hr,hwr,hd,hme⟩:=row_at q4 (i:=i.toNat) (by omega)
 obtain⟨ka,ba,na,sa,nla,ya,mla,ra,rfl,-⟩:=row6 hwr
 rw[hr]
 simp only[List.getD_cons_zero,List.getD_cons_succ]
 have hsz:SizeOf.sizeOf [Cl.int ka,.bool ba,.int na,.str sa,.sl nla ya,.sl mla ra]<m:=by
  have z1:=List.sizeOf_lt_of_mem (List.mem_of_getElem? hme)
  simp only[List.cons.sizeOf_spec,List.nil.sizeOf_spec,Cl.sl.sizeOf_spec] at z1 hm ⊢
  omega
 obtain⟨x0,x1,x2,x3,e⟩:=hF [.int ka,.bool ba,.int na,.str sa,.sl nla ya,.sl mla ra]
 have t0:∀ j,j<4→tbS F m j [.int ka,.bool ba,.int na,.str sa,.sl nla ya,.sl mla ra]=[Cl.int x0,.int x1,.int x2,.int x3].getD j .no:=fun j hj=>by unfold tbS;rw[if_neg (by omega),e]
 rw[t0 0 (by omega),t0 1 (by omega),t0 2 (by omega),t0 3 (by omega)]
 simp only[List.getD_cons_zero,List.getD_cons_succ,Cl.bool.injEq,exists_eq',true_and]
 rw[i64_id (n:=i+1) (by omega) (by omega)]
 refine⟨by unfold tbS;rw[if_pos rfl,decide_eq_true hsz],?_⟩
 have fin:∀ a b' c' d':Int,sizeInv m 1 c0 [.int a,.int b',.int c',.int d',.int (i+1),.int k,.bool b,.int n,.str s,.sl nl ys,.sl ml rs]:=fun a b' c' d'=>⟨fun h=>absurd h (by decide),fun _=>⟨_,_,_,_,_,_,rfl,⟨k,b,n,s,nl,ys,ml,rs,rfl,hm⟩,by omega⟩⟩
 have mea:∀ a b' c' d' a2 b2 c2 d2:Int,sizeM 1 [.int a,.int b',.int c',.int d',.int (i+1),.int k,.bool b,.int n,.str s,.sl nl ys,.sl ml rs]<sizeM 1 [.int a2,.int b2,.int c2,.int d2,.int i,.int k,.bool b,.int n,.str s,.sl nl ys,.sl ml rs]:=fun a b' c' d' a2 b2 c2 d2=>by
  show (rs.length-(i+1)).toNat<(rs.length-i).toNat
  omega
 exact⟨fun _=>⟨fun _=>⟨fin _ _ _ _,mea _ _ _ _ _ _ _ _⟩,fun _=>⟨fin _ _ _ _,mea _ _ _ _ _ _ _ _⟩⟩,fun _=>⟨fun _=>⟨fin _ _ _ _,mea _ _ _ _ _ _ _ _⟩,fun _=>⟨fin _ _ _ _,mea _ _ _ _ _ _ _ _⟩⟩⟩
theorem size_n (hG:Gd0 k G)(hk0:0<k)(hsz:Tryz.prog.globals.size≤k):∀ n,∃ tb F,Ksize.Sound Tryz.prog k G tb (fun c=>SizeOf.sizeOf c<n) F∧∀ c,Int4 c (F c):=by
 intro n
 induction n with
 |zero=>exact⟨fun _ _=>.no,fun _=>[.int 0,.int 0,.int 0,.int 0],fun w old hold φ pls cls xs _ _ _ _ _ _ _ hp=>absurd hp (by omega),fun _=>⟨_,_,_,_,rfl⟩⟩
 |succ m ih=>
  obtain⟨tb,F,hS,hF⟩:=ih
  letI:Tb:=⟨some (9,tbS F m)⟩
  obtain⟨F',h1,h2⟩:=Ctr.total (hk:=hkSize) Nat.lt_wfRel.wf sizeM (sizeInv m) Int4 hG (fun D=>@Hooks.ctr _ (dcOf D) _ _ _ _ 9 (by kernel_rfl) _ _ _ _ hS (by kernel_rfl) _ _ (by
     intro cls j c h
     obtain⟨x0,x1,x2,x3,e⟩:=hF cls
     have hj:j<4:=by
      have:=(List.getElem?_eq_some_iff.1 h).1
      rw[e] at this;simpa using this
     rw[Nat.zero_add]
     unfold tbS
     rw[if_neg (by omega),List.getD_eq_getElem?_getD,h];rfl) (some 1000000) (by
     intro cls h
     simpa[tbS] using h) hG hk0 hsz rfl) hsz (L:=9) (by kernel_rfl) rfl (K:=Ksize) (cuts:=sizecuts) (trs:=[sizet0,sizet1]) (by kernel_rfl) sizet_ok sizeV ⟨⟨sizet0_ok,sizeV0⟩,⟨sizet1_ok,sizeV1 hF⟩,trivial⟩ (fun _=>⟨_,0,0,0,0,rfl⟩)
  exact⟨_,F',h1,h2⟩
end Go.Proofs.Wo

namespace Go.Proofs.Wo
open Go.Exo Go.Exo.Wo
set_option maxRecDepth 100000
set_option linter.all false
noncomputable def mayc0:Ct:=⟨stTodo (outS Tryz.prog hkMay 9 Kmay [((.bin .lss (.var 9 0 (.int .i64)) (.int .i64 (0))),false),((.bin .gtr (.var 9 0 (.int .i64)) (.int .i64 (7))),false),((.app 9 0 (.cons (.var 9 0 (.int .i64)) (.cons (.var 9 1 .bool) (.cons (.var 9 2 (.int .i64)) (.cons (.var 9 3 .str) (.cons (.var 9 4 (.sl 9)) (.cons (.var 9 5 (.sl 26)) .nilA)))))) .bool),true),((.bin .eql (.var 9 0 (.int .i64)) (.int .i64 (6))),true),((.bin .lss (.var 9 2 (.int .i64)) (.int .i64 (0))),false),((.app 9 1000001 (.cons (.var 9 3 .str) .nilA) .bool),true),((.app 9 1 (.cons (.var 9 3 .str) .nilA) .bool),true)] 14),[.junk,.ptr 10 0,.junk,.x (.var 9 0 (.int .i64)),.junk,.junk,.junk,.junk,.junk,.junk,.junk,.junk,.junk,.junk,.junk,.junk,.junk,.junk,.junk,.junk,.junk,.junk,.junk,.junk,.junk,.junk,.junk,.junk,.junk,.junk,.junk,.junk,.junk,.junk,.junk,.junk,.junk,.junk,.junk,.junk,.junk,.junk,.junk,.junk,.junk,.junk,.junk,.junk,.junk,.junk,.junk,.junk,.junk,.junk,.junk,.junk,.junk,.junk,.junk,.junk,.junk,.junk,.junk,.junk,.junk,.junk,.junk,.junk,.junk,.junk,.junk,.junk,.junk,.junk,.junk,.junk,.junk,.junk,.junk,.junk,.junk,.junk,.junk,.junk,.junk,.junk,.junk,.junk,.junk,.junk,.junk,.junk,.junk,.junk,.junk,.junk,.junk,.junk,.junk],[some (.cells 26 [.x (.var 9 1 (.int .i64)),.x (.var 9 2 .bool),.x (.var 9 3 (.int .i64)),.x (.var 9 4 .str),.x (.var 9 5 (.sl 9)),.x (.var 9 6 (.sl 26))] 0 false)],[(.int .i64),(.int .i64),.bool,(.int .i64),.str,(.sl 9),(.sl 26)]⟩
noncomputable def mayc1:Ct:=⟨stTodo (outC Tryz.prog hkMay 9 11 mayc0 [((.bin .lss (.var 9 0 (.int .i64)) (.len (.var 9 5 (.sl 9)))),false)] 10),[.junk,.ptr 10 0,.junk,.junk,.x (.var 9 0 (.int .i64)),.junk,.junk,.junk,.junk,.junk,.junk,.junk,.junk,.junk,.junk,.junk,.junk,.junk,.junk,.junk,.junk,.junk,.junk,.junk,.junk,.junk,.junk,.junk,.junk,.junk,.junk,.junk,.junk,.junk,.junk,.junk,.junk,.junk,.junk,.junk,.junk,.junk,.junk,.junk,.junk,.junk,.junk,.junk,.junk,.junk,.junk,.junk,.junk,.junk,.junk,.junk,.junk,.junk,.junk,.junk,.junk,.junk,.junk,.junk,.junk,.junk,.junk,.junk,.junk,.junk,.junk,.junk,.junk,.junk,.junk,.junk,.junk,.junk,.junk,.junk,.junk,.junk,.junk,.junk,.junk,.junk,.junk,.junk,.junk,.junk,.junk,.junk,.junk,.junk,.junk,.junk,.junk,.junk,.junk],[some (.cells 26 [.x (.var 9 1 (.int .i64)),.x (.var 9 2 .bool),.x (.var 9 3 (.int .i64)),.x (.var 9 4 .str),.x (.var 9 5 (.sl 9)),.x (.var 9 6 (.sl 26))] 0 false)],[(.int .i64),(.int .i64),.bool,(.int .i64),.str,(.sl 9),(.sl 26)]⟩
noncomputable def maycuts:List Ct:=[mayc0,mayc1]
def mayt:Tr:=.ask (.bin .lss (.var 9 0 (.int .i64)) (.int .i64 (0)))
 (.leaf 9 (.ret [] [(.bool false)]))
 (.ask (.bin .gtr (.var 9 0 (.int .i64)) (.int .i64 (7)))
 (.leaf 9 (.ret [] [(.bool false)]))
 (.ask (.app 9 0 (.cons (.var 9 0 (.int .i64)) (.cons (.var 9 1 .bool) (.cons (.var 9 2 (.int .i64)) (.cons (.var 9 3 .str) (.cons (.var 9 4 (.sl 9)) (.cons (.var 9 5 (.sl 26)) .nilA)))))) .bool)
 (.ask (.bin .eql (.var 9 0 (.int .i64)) (.int .i64 (6)))
 (.ask (.bin .lss (.var 9 2 (.int .i64)) (.int .i64 (0)))
 (.leaf 10 (.ret [] [(.bool false)]))
 (.must (.app 9 1000001 (.cons (.var 9 3 .str) .nilA) .bool) true <|
 .ask (.app 9 1 (.cons (.var 9 3 .str) .nilA) .bool)
 (.leaf 14 (.cut 0 [10] [(.int .i64 (0)),(.var 9 0 (.int .i64)),(.var 9 1 .bool),(.var 9 2 (.int .i64)),(.var 9 3 .str),(.var 9 4 (.sl 9)),(.var 9 5 (.sl 26))]))
 (.leaf 11 (.ret [] [(.bool false)]))))
 (.ask (.bin .eql (.var 9 0 (.int .i64)) (.int .i64 (7)))
 (.ask (.bin .lss (.var 9 2 (.int .i64)) (.int .i64 (0)))
 (.leaf 10 (.ret [] [(.bool false)]))
 (.must (.app 9 1000001 (.cons (.var 9 3 .str) .nilA) .bool) true <|
 .ask (.app 9 1 (.cons (.var 9 3 .str) .nilA) .bool)
 (.leaf 14 (.cut 0 [10] [(.int .i64 (0)),(.var 9 0 (.int .i64)),(.var 9 1 .bool),(.var 9 2 (.int .i64)),(.var 9 3 .str),(.var 9 4 (.sl 9)),(.var 9 5 (.sl 26))]))
 (.leaf 11 (.ret [] [(.bool false)]))))
 (.must (.app 9 1000001 (.cons (.var 9 3 .str) .nilA) .bool) true <|
 .ask (.app 9 1 (.cons (.var 9 3 .str) .nilA) .bool)
 (.ask (.bin .eql (.var 9 0 (.int .i64)) (.int .i64 (5)))
 (.ask (.bin .neq (.len (.var 9 4 (.sl 9))) (.len (.var 9 5 (.sl 26))))
 (.leaf 11 (.ret [] [(.bool false)]))
 (.leaf 14 (.cut 0 [10] [(.int .i64 (0)),(.var 9 0 (.int .i64)),(.var 9 1 .bool),(.var 9 2 (.int .i64)),(.var 9 3 .str),(.var 9 4 (.sl 9)),(.var 9 5 (.sl 26))])))
 (.leaf 14 (.cut 0 [10] [(.int .i64 (0)),(.var 9 0 (.int .i64)),(.var 9 1 .bool),(.var 9 2 (.int .i64)),(.var 9 3 .str),(.var 9 4 (.sl 9)),(.var 9 5 (.sl 26))])))
 (.leaf 11 (.ret [] [(.bool false)])))))
 (.leaf 10 (.ret [] [(.bool false)]))))
def mayt0:Tr:=.ask (.bin .lss (.var 9 0 (.int .i64)) (.len (.var 9 5 (.sl 9))))
 (.must (.inr (.var 9 0 (.int .i64)) (.len (.var 9 5 (.sl 9)))) true <|
 .must (.app 9 1000001 (.cons (.el (.var 9 5 (.sl 9)) (.var 9 0 (.int .i64)) 0 .str) .nilA) .bool) true <|
 .ask (.app 9 1 (.cons (.el (.var 9 5 (.sl 9)) (.var 9 0 (.int .i64)) 0 .str) .nilA) .bool)
 (.ask (.bin .gtr (.var 9 0 (.int .i64)) (.int .i64 (0)))
 (.must (.inr (.bin .sub (.var 9 0 (.int .i64)) (.int .i64 (1))) (.len (.var 9 5 (.sl 9)))) true <|
 .ask (.bin .geq (.el (.var 9 5 (.sl 9)) (.bin .sub (.var 9 0 (.int .i64)) (.int .i64 (1))) 0 .str) (.el (.var 9 5 (.sl 9)) (.var 9 0 (.int .i64)) 0 .str))
 (.leaf 14 (.ret [] [(.bool false)]))
 (.leaf 15 (.cut 0 [10] [(.bin .add (.var 9 0 (.int .i64)) (.int .i64 (1))),(.var 9 1 (.int .i64)),(.var 9 2 .bool),(.var 9 3 (.int .i64)),(.var 9 4 .str),(.var 9 5 (.sl 9)),(.var 9 6 (.sl 26))])))
 (.leaf 15 (.cut 0 [10] [(.bin .add (.var 9 0 (.int .i64)) (.int .i64 (1))),(.var 9 1 (.int .i64)),(.var 9 2 .bool),(.var 9 3 (.int .i64)),(.var 9 4 .str),(.var 9 5 (.sl 9)),(.var 9 6 (.sl 26))])))
 (.leaf 14 (.ret [] [(.bool false)])))
 (.leaf 10 (.cut 1 [10] [(.int .i64 (0)),(.var 9 1 (.int .i64)),(.var 9 2 .bool),(.var 9 3 (.int .i64)),(.var 9 4 .str),(.var 9 5 (.sl 9)),(.var 9 6 (.sl 26))]))
def mayt1:Tr:=.ask (.bin .lss (.var 9 0 (.int .i64)) (.len (.var 9 6 (.sl 26))))
 (.must (.inr (.var 9 0 (.int .i64)) (.len (.var 9 6 (.sl 26)))) true <|
 .must (.app 9 1000000 (.cons (.el (.var 9 6 (.sl 26)) (.var 9 0 (.int .i64)) 0 (.int .i64)) (.cons (.el (.var 9 6 (.sl 26)) (.var 9 0 (.int .i64)) 1 .bool) (.cons (.el (.var 9 6 (.sl 26)) (.var 9 0 (.int .i64)) 2 (.int .i64)) (.cons (.el (.var 9 6 (.sl 26)) (.var 9 0 (.int .i64)) 3 .str) (.cons (.el (.var 9 6 (.sl 26)) (.var 9 0 (.int .i64)) 4 (.sl 9)) (.cons (.el (.var 9 6 (.sl 26)) (.var 9 0 (.int .i64)) 5 (.sl 26)) .nilA)))))) .bool) true <|
 .ask (.app 9 2 (.cons (.el (.var 9 6 (.sl 26)) (.var 9 0 (.int .i64)) 0 (.int .i64)) (.cons (.el (.var 9 6 (.sl 26)) (.var 9 0 (.int .i64)) 1 .bool) (.cons (.el (.var 9 6 (.sl 26)) (.var 9 0 (.int .i64)) 2 (.int .i64)) (.cons (.el (.var 9 6 (.sl 26)) (.var 9 0 (.int .i64)) 3 .str) (.cons (.el (.var 9 6 (.sl 26)) (.var 9 0 (.int .i64)) 4 (.sl 9)) (.cons (.el (.var 9 6 (.sl 26)) (.var 9 0 (.int .i64)) 5 (.sl 26)) .nilA)))))) .bool)
 (.leaf 15 (.cut 1 [10] [(.bin .add (.var 9 0 (.int .i64)) (.int .i64 (1))),(.var 9 1 (.int .i64)),(.var 9 2 .bool),(.var 9 3 (.int .i64)),(.var 9 4 .str),(.var 9 5 (.sl 9)),(.var 9 6 (.sl 26))]))
 (.leaf 14 (.ret [] [(.bool false)])))
 (.leaf 8 (.ret [] [(.bool true)]))
theorem mayt_ok:Pth.allS Tryz.prog hkMay 9 Kmay maycuts (mayt.paths []):=
 ⟨Pth.okS_ret (by kernel_rfl) (by kernel_rfl),
  Pth.okS_ret (by kernel_rfl) (by kernel_rfl),
  Pth.okS_ret (by kernel_rfl) (by kernel_rfl),
  Pth.okS_cut mayc0 rfl (by kernel_rfl) (by kernel_rfl),
  Pth.okS_ret (by kernel_rfl) (by kernel_rfl),
  Pth.okS_ret (by kernel_rfl) (by kernel_rfl),
  Pth.okS_cut mayc0 rfl (by kernel_rfl) (by kernel_rfl),
  Pth.okS_ret (by kernel_rfl) (by kernel_rfl),
  Pth.okS_ret (by kernel_rfl) (by kernel_rfl),
  Pth.okS_cut mayc0 rfl (by kernel_rfl) (by kernel_rfl),
  Pth.okS_cut mayc0 rfl (by kernel_rfl) (by kernel_rfl),
  Pth.okS_ret (by kernel_rfl) (by kernel_rfl),
  Pth.okS_ret (by kernel_rfl) (by kernel_rfl),
  trivial⟩
theorem mayt0_ok:Pth.allC Tryz.prog hkMay 9 Kmay maycuts mayc0 (mayt0.paths []):=
 ⟨Pth.okC_ret (by kernel_rfl) (by kernel_rfl),
  Pth.okC_cut mayc0 rfl (by kernel_rfl) (by kernel_rfl),
  Pth.okC_cut mayc0 rfl (by kernel_rfl) (by kernel_rfl),
  Pth.okC_ret (by kernel_rfl) (by kernel_rfl),
  Pth.okC_cut mayc1 rfl (by kernel_rfl) (by kernel_rfl),
  trivial⟩
theorem mayt1_ok:Pth.allC Tryz.prog hkMay 9 Kmay maycuts mayc1 (mayt1.paths []):=
 ⟨Pth.okC_cut mayc1 rfl (by kernel_rfl) (by kernel_rfl),
  Pth.okC_ret (by kernel_rfl) (by kernel_rfl),
  Pth.okC_ret (by kernel_rfl) (by kernel_rfl),
  trivial⟩
noncomputable def checkcuts:List Ct:=[]
def checkt:Tr:=.must (.app 9 1000000 (.cons (.var 9 0 (.int .i64)) (.cons (.var 9 1 .bool) (.cons (.var 9 2 (.int .i64)) (.cons (.var 9 3 .str) (.cons (.var 9 4 (.sl 9)) (.cons (.var 9 5 (.sl 26)) .nilA)))))) .bool) true <|
 .ask (.app 9 0 (.cons (.var 9 0 (.int .i64)) (.cons (.var 9 1 .bool) (.cons (.var 9 2 (.int .i64)) (.cons (.var 9 3 .str) (.cons (.var 9 4 (.sl 9)) (.cons (.var 9 5 (.sl 26)) .nilA)))))) .bool)
 (.must (.app 9 1000001 (.cons (.var 9 0 (.int .i64)) (.cons (.var 9 1 .bool) (.cons (.var 9 2 (.int .i64)) (.cons (.var 9 3 .str) (.cons (.var 9 4 (.sl 9)) (.cons (.var 9 5 (.sl 26)) .nilA)))))) .bool) true <|
 .ask (.bin .gtr (.app 9 2 (.cons (.var 9 0 (.int .i64)) (.cons (.var 9 1 .bool) (.cons (.var 9 2 (.int .i64)) (.cons (.var 9 3 .str) (.cons (.var 9 4 (.sl 9)) (.cons (.var 9 5 (.sl 26)) .nilA)))))) (.int .i64)) (.int .i64 (64)))
 (.leaf 18 (.ret [] [(.int .i64 (3))]))
 (.ask (.bin .gtr (.app 9 3 (.cons (.var 9 0 (.int .i64)) (.cons (.var 9 1 .bool) (.cons (.var 9 2 (.int .i64)) (.cons (.var 9 3 .str) (.cons (.var 9 4 (.sl 9)) (.cons (.var 9 5 (.sl 26)) .nilA)))))) (.int .i64)) (.int .i64 (1048576)))
 (.leaf 18 (.ret [] [(.int .i64 (3))]))
 (.ask (.bin .gtr (.app 9 4 (.cons (.var 9 0 (.int .i64)) (.cons (.var 9 1 .bool) (.cons (.var 9 2 (.int .i64)) (.cons (.var 9 3 .str) (.cons (.var 9 4 (.sl 9)) (.cons (.var 9 5 (.sl 26)) .nilA)))))) (.int .i64)) (.int .i64 (65536)))
 (.leaf 18 (.ret [] [(.int .i64 (3))]))
 (.leaf 19 (.ret [] [(.int .i64 (0))])))))
 (.leaf 10 (.ret [] [(.int .i64 (110))]))
theorem checkt_ok:Pth.allS Tryz.prog hkCheck 9 Kcheck checkcuts (checkt.paths []):=
 ⟨Pth.okS_ret (by kernel_rfl) (by kernel_rfl),
  Pth.okS_ret (by kernel_rfl) (by kernel_rfl),
  Pth.okS_ret (by kernel_rfl) (by kernel_rfl),
  Pth.okS_ret (by kernel_rfl) (by kernel_rfl),
  Pth.okS_ret (by kernel_rfl) (by kernel_rfl),
  trivial⟩
noncomputable def greatcuts:List Ct:=[]
def greatt:Tr:=.must (.app 9 1000000 (.cons (.var 9 0 (.int .i64)) (.cons (.var 9 1 .bool) (.cons (.var 9 2 (.int .i64)) (.cons (.var 9 3 .str) (.cons (.var 9 4 (.sl 9)) (.cons (.var 9 5 (.sl 26)) .nilA)))))) .bool) true <|
 .ask (.bin .gtr (.app 9 0 (.cons (.var 9 0 (.int .i64)) (.cons (.var 9 1 .bool) (.cons (.var 9 2 (.int .i64)) (.cons (.var 9 3 .str) (.cons (.var 9 4 (.sl 9)) (.cons (.var 9 5 (.sl 26)) .nilA)))))) (.int .i64)) (.int .i64 (50)))
 (.leaf 8 (.ret [] [(.bool true)]))
 (.leaf 8 (.ret [] [(.bin .gtr (.app 9 2 (.cons (.var 9 0 (.int .i64)) (.cons (.var 9 1 .bool) (.cons (.var 9 2 (.int .i64)) (.cons (.var 9 3 .str) (.cons (.var 9 4 (.sl 9)) (.cons (.var 9 5 (.sl 26)) .nilA)))))) (.int .i64)) (.int .i64 (1000)))]))
theorem greatt_ok:Pth.allS Tryz.prog hkGreat 9 Kgreat greatcuts (greatt.paths []):=
 ⟨Pth.okS_ret (by kernel_rfl) (by kernel_rfl),
  Pth.okS_ret (by kernel_rfl) (by kernel_rfl),
  trivial⟩
variable {k:Nat}{G:World→Prop}
set_option maxHeartbeats 4000000
def Bool1 (_ r:List Cl):Prop:=∃ b,r=[Cl.bool b]
noncomputable def tbY (Fb Fu F:List Cl→List Cl)(m:Nat)(f:Nat)(c:List Cl):Cl:=if f=1000000 then .bool (decide (SizeOf.sizeOf c<m)) else if f=1000001 then .bool true else if f=0 then (Fb c).getD 0 .no else if f=1 then (Fu c).getD 0 .no else (F c).getD 0 .no
def mayInv (m:Nat)(_:Nat)(_ c:List Cl):Prop:=∃ i v,c=.int i::v∧isVal m v∧0≤i
def mayM (j:Nat)(c:List Cl):Nat:=match c with
 |[.int i,_,_,_,_,.sl _ ys,.sl _ rs]=>cond (Nat.beq j 0) ((ys.length-i).toNat+rs.length+1) (rs.length-i).toNat
 |_=>0
theorem mayV {m:Nat}{Fb Fu F:List Cl→List Cl}(hb:∀ c,Bool1 c (Fb c))(hu:∀ c,Bool1 c (Fu c)):Vc0 (tbY Fb Fu F m) 9 Kmay.ks (fun c=>SizeOf.sizeOf c<m+1) (mayInv m) Bool1 mayt:=by
 intro cls E hE hw hm
 obtain⟨k,b,n,s,nl,ys,ml,rs,rfl,-⟩:=row6 hw
 obtain⟨b0,e0⟩:=hb [.int k,.bool b,.int n,.str s,.sl nl ys,.sl ml rs]
 obtain⟨b1,e1⟩:=hu [.str s]
 have t0:tbY Fb Fu F m 0 [.int k,.bool b,.int n,.str s,.sl nl ys,.sl ml rs]=.bool b0:=by simp[tbY,e0]
 have t1:tbY Fb Fu F m 1 [.str s]=.bool b1:=by simp[tbY,e1]
 have t2:tbY Fb Fu F m 1000001 [.str s]=.bool true:=by simp[tbY]
 have fin:mayInv m 0 [.int k,.bool b,.int n,.str s,.sl nl ys,.sl ml rs] [.int 0,.int k,.bool b,.int n,.str s,.sl nl ys,.sl ml rs]:=⟨_,_,rfl,⟨k,b,n,s,nl,ys,ml,rs,rfl,hm⟩,by omega⟩
 simp only[mayt,Tr.vc,To.goodT,List.map_cons,List.map_nil,hE.v,hE.a,X.d_cons,X.d_nil,X.c_int,X.c_bool,X.c_bin,X.c_len,lenC,X.kd,isCmp,cond_true,cond_false,binD,intD,List.getD_cons_zero,List.getD_cons_succ,t0,t1,t2,Cl.bool.injEq,exists_eq',true_and,and_true,fin,Bool1,List.cons.injEq,implies_true]
theorem hfn1 {F:List Cl→List Cl}(hF:∀ c,Bool1 c (F c)){fn:Nat→List Cl→Cl}{fi:Nat}(h:∀ c,fn fi c=(F c).getD 0 .no):∀ cls (j:Nat) c,(F cls)[j]? = some c→fn (fi+j) cls=c:=by
 intro cls j c hj
 obtain⟨b,e⟩:=hF cls
 cases j with
 |zero=>rw[Nat.add_zero,h,List.getD_eq_getElem?_getD,hj];rfl
 |succ j=>rw[e] at hj;simp at hj
def Int1 (_ r:List Cl):Prop:=∃ n,r=[Cl.int n]
noncomputable def tbC (Fm Fs:List Cl→List Cl)(m:Nat)(f:Nat)(c:List Cl):Cl:=if f=1000000 then .bool (decide (SizeOf.sizeOf c<m)) else if f=1000001 then .bool (decide (SizeOf.sizeOf c<m)) else if f=0 then (Fm c).getD 0 .no else (Fs c).getD (f-1) .no
theorem hfn4 {F:List Cl→List Cl}(hF:∀ c,Int4 c (F c)){fn:Nat→List Cl→Cl}{fi:Nat}(h:∀ j,j<4→∀ c,fn (fi+j) c=(F c).getD j .no):∀ cls (j:Nat) c,(F cls)[j]? = some c→fn (fi+j) cls=c:=by
 intro cls j c hj
 obtain⟨x0,x1,x2,x3,e⟩:=hF cls
 have hj4:j<4:=by
  have:=(List.getElem?_eq_some_iff.1 hj).1
  rw[e] at this;simpa using this
 rw[h j hj4,List.getD_eq_getElem?_getD,hj];rfl
theorem checkV {m:Nat}{Fm Fs:List Cl→List Cl}(hm':∀ c,Bool1 c (Fm c))(hs:∀ c,Int4 c (Fs c)):Vc0 (tbC Fm Fs m) 9 Kcheck.ks (fun c=>SizeOf.sizeOf c<m) (fun _ _ _=>True) Int1 checkt:=by
 intro cls E hE hw hm
 obtain⟨k,b,n,s,nl,ys,ml,rs,rfl,-⟩:=row6 hw
 obtain⟨b0,e0⟩:=hm' [.int k,.bool b,.int n,.str s,.sl nl ys,.sl ml rs]
 obtain⟨x0,x1,x2,x3,e1⟩:=hs [.int k,.bool b,.int n,.str s,.sl nl ys,.sl ml rs]
 have t0:tbC Fm Fs m 0 [.int k,.bool b,.int n,.str s,.sl nl ys,.sl ml rs]=.bool b0:=by simp[tbC,e0]
 have t1:∀ j,j<4→tbC Fm Fs m (j+1) [.int k,.bool b,.int n,.str s,.sl nl ys,.sl ml rs]=[Cl.int x0,.int x1,.int x2,.int x3].getD j .no:=fun j hj=>by unfold tbC;rw[if_neg (by omega),if_neg (by omega),if_neg (by omega),e1];rfl
 have t2:tbC Fm Fs m 1000000 [.int k,.bool b,.int n,.str s,.sl nl ys,.sl ml rs]=.bool true:=by unfold tbC;rw[if_pos rfl,decide_eq_true hm]
 have t3:tbC Fm Fs m 1000001 [.int k,.bool b,.int n,.str s,.sl nl ys,.sl ml rs]=.bool true:=by unfold tbC;rw[if_neg (by decide),if_pos rfl,decide_eq_true hm]
 have u1:=t1 1 (by omega)
 have u2:=t1 2 (by omega)
 have u3:=t1 3 (by omega)
 simp only[checkt,Tr.vc,To.goodT,List.map_cons,List.map_nil,hE.v,hE.a,X.d_cons,X.d_nil,X.c_int,X.c_bool,X.c_bin,X.kd,isCmp,cond_true,cond_false,binD,intD,List.getD_cons_zero,List.getD_cons_succ,t0,t2,t3,u1,u2,u3,Nat.reduceAdd,Cl.bool.injEq,exists_eq',true_and,and_true,Int1,List.cons.injEq,implies_true,Cl.int.injEq]
theorem greatV {m:Nat}{Fs:List Cl→List Cl}(hs:∀ c,Int4 c (Fs c)):Vc0 (tbS Fs m) 9 Kgreat.ks (fun c=>SizeOf.sizeOf c<m) (fun _ _ _=>True) Bool1 greatt:=by
 intro cls E hE hw hm
 obtain⟨k,b,n,s,nl,ys,ml,rs,rfl,-⟩:=row6 hw
 obtain⟨x0,x1,x2,x3,e1⟩:=hs [.int k,.bool b,.int n,.str s,.sl nl ys,.sl ml rs]
 have t1:∀ j,j<4→tbS Fs m j [.int k,.bool b,.int n,.str s,.sl nl ys,.sl ml rs]=[Cl.int x0,.int x1,.int x2,.int x3].getD j .no:=fun j hj=>by unfold tbS;rw[if_neg (by omega),e1]
 have t2:tbS Fs m 1000000 [.int k,.bool b,.int n,.str s,.sl nl ys,.sl ml rs]=.bool true:=by unfold tbS;rw[if_pos rfl,decide_eq_true hm]
 have u1:=t1 0 (by omega)
 have u2:=t1 2 (by omega)
 simp only[greatt,Tr.vc,To.goodT,List.map_cons,List.map_nil,hE.v,hE.a,X.d_cons,X.d_nil,X.c_int,X.c_bool,X.c_bin,X.kd,isCmp,cond_true,cond_false,binD,intD,List.getD_cons_zero,List.getD_cons_succ,t2,u1,u2,Cl.bool.injEq,exists_eq',true_and,and_true,Bool1,List.cons.injEq,implies_true]
theorem great_n (hG:Gd0 k G)(hk0:0<k)(hsz:Tryz.prog.globals.size≤k)(m:Nat):∃ tb F,Kgreat.Sound Tryz.prog k G tb (fun c=>SizeOf.sizeOf c<m) F∧∀ c,Bool1 c (F c):=by
 obtain⟨tbs,Fs,hSs,hFs⟩:=size_n hG hk0 hsz m
 letI:Tb:=⟨some (9,tbS Fs m)⟩
 obtain⟨F',h1,h2⟩:=Ctr.total (hk:=hkGreat) Nat.lt_wfRel.wf (fun _ _=>0) (fun _ _ _=>True) Bool1 hG (fun D =>
    (@Hooks.ctr _ (dcOf D) _ _ _ _ 9 (by kernel_rfl) _ _ _ _ hSs (by kernel_rfl) _ _ (hfn4 hFs (fun j hj c=>by unfold tbS;rw[if_neg (by omega),Nat.zero_add])) (some 1000000) (fun c h=>by simpa[tbS] using h) hG hk0 hsz rfl))
   hsz (L:=9) (by kernel_rfl) rfl (K:=Kgreat) (cuts:=greatcuts) (trs:=[]) (by kernel_rfl) greatt_ok (greatV hFs) trivial (fun _=>⟨_,true,rfl⟩)
 exact⟨_,F',h1,h2⟩
end Go.Proofs.Wo

namespace Go.Proofs
open Go.Shelf
def Tryz.laysNm216_ren:Go.Shelf.Ren:=⟨fun|16=>36|n=>n,fun|24=>23|9=>9|4=>4|n=>n,fun|n=>n⟩
theorem Tryz.laysNm216:Go.Proofs.Lays2.n16 Tryz.prog Tryz.laysNm216_ren:={
 mixed:=by kernel_rfl
 f16:=Tryz.func36.trans (congrArg some (by kernel_rfl))
 t4:=Tryz.underlying4
 a4:=Tryz.isAgg4
 z4:=Tryz.sizeOf4
 v4:=Tryz.zeroValue4
 t9:=Tryz.underlying9
 a9:=Tryz.isAgg9
 z9:=Tryz.sizeOf9
 v9:=Tryz.zeroValue9
 t24:=Tryz.underlying23
 a24:=Tryz.isAgg23
 z24:=Tryz.sizeOf23
 v24:=Tryz.zeroValue23
 i9:=by kernel_rfl }
open Go.RowKit Go.Lib in
theorem Tryz.slices_Clone_string (b off n c:Nat)(zs:List ByteArray)(w:World)(hz:n≤zs.length)(hbig:n*16≤140737488355328)(hc:∀ j,j<zs.length→w.cell? ⟨b,off+j,none⟩=some (.string (zs.getD j ByteArray.empty))) :
  Calls Tryz.prog 36 #[.slice (some ⟨b,off,none⟩) n c] w fun e w'=>∃ v',e=.returned v'∧w'.ownsRow w.heap.size 9 1 v' n ((zs.take n).map (Value.string))∧v'≠.slice none 0 0∧Below w.heap.size w w':=Any.slices_Clone_string Tryz.laysNm216 b off n c zs w hz hbig hc
open Go.RowKit Go.Lib in
theorem Tryz.slices_Clone_string_nil (n c:Nat)(w:World) :
  Calls Tryz.prog 36 #[.slice none n c] w fun e w'=>e=.returned (.slice none 0 0)∧w'=w:=Any.slices_Clone_string_nil Tryz.laysNm216 n c w
open Go.RowKit Go.Lib in
theorem Tryz.slices_Clone_string_zero (a:Addr)(c:Nat)(w:World) :
  Calls Tryz.prog 36 #[.slice (some a) 0 c] w fun e w'=>∃ v',e=.returned v'∧w'.ownsRow w.heap.size 9 1 v' 0 []∧v'≠.slice none 0 0∧Below w.heap.size w w':=Any.slices_Clone_string_zero Tryz.laysNm216 a c w
end Go.Proofs

namespace Go.Proofs.Wo
open Go.Exo
set_option linter.all false
variable {G:World→Prop}
def strOf:Value→ByteArray|.string s=>s|_=>ByteArray.empty
theorem ext_below {w w':World}(h:RowKit.Below w.heap.size w w'):Ext w w':=⟨h.block,h.size,h.os,h.output,h.tape⟩
theorem clone_spec:Go.Exo.Spec Tryz.prog G 36 [.one (.sl 9)] (.one (.one (.sl 9))) (fun c=>∃ nl rows,c=[.sl nl rows]∧rows.length*16≤140737488355328) (List.take 1):=by
 intro w φ args cls hG hφ ha hp
 obtain⟨nl,rows,rfl,hb⟩:=hp
 cases ha with
 |one h1 h2=>
 cases h2
 have hkeep:∀ w',Ext w w'→∀ b o v,φ b o=some v→w'.cell? ⟨b,o,none⟩=some v:=fun w' hx b o v h=>by
  have h1:=hφ b o v h
  rw[← h1]
  exact World.cell?_of_block (hx.old b (World.block_lt_of_cell? w ⟨b,o,none⟩ h1))
 have made:∀ (len:Nat)(vs:Nat→Nat→Value)(g cp:Nat)(cur:Array Value)(w':World),rows.length=len→nl=false→
   (∀ (i:Nat)(r:List Cl),rows[i]? = some r→r.length=(Sx.row 9).length)→
   (∀ (i:Nat)(r:List Cl)(j:Nat)(c:Cl)(k:Kd),rows[i]? = some r→r[j]? = some c→(Sx.row 9)[j]? = some k→CR (rel φ) k (vs i j) c)→
   RowKit.Below w.heap.size w w'→w.heap.size≤g→w'.heap[g]? = some (.cells cur 9 (0,0))→len≤cp→cp≤maxLen→(∀ i,i<len→cur[i]? = some (vs i 0))→
   ∃ x φ',Ending.returned (.slice (some ⟨g,0,none⟩) len cp)=.returned x∧(∀ b o v,φ b o=some v→φ' b o=some v)∧(∀ b o v,φ' b o=some v→w'.cell? ⟨b,o,none⟩=some v)∧
   (∀ b o v,φ' b o=some v→b<w.heap.size→φ b o=some v)∧Ext w w'∧ResR (rel φ') (.one (.one (.sl 9))) x (List.take 1 [.sl nl rows]):=by
  intro len vs g cp cur w' a1 hnl a4 a6 hbel hg hheap hncp hcpm hcur
  subst hnl
  have hnone:∀ b o v,φ b o=some v→b≠g:=fun b o v h e=>by
   have:=World.block_lt_of_cell? w ⟨b,o,none⟩ (hφ b o v h)
   simp only at this;omega
  have hx:=ext_below hbel
  refine⟨_,fun b o=>if b=g∧o<len then some (vs o 0) else φ b o,rfl,fun b o v h=>?_,fun b o v h=>?_,fun b o v h hlt=>?_,hx,.one (.sl 9 g 0 len cp rows vs a1 hncp hcpm a4 (fun i r j c hr hj=>?_) (fun i r j c kk hr hj hk=>(a6 i r j c kk hr hj hk).mono ?_)) .nil⟩
  ·show (if b=g∧o<len then some (vs o 0) else φ b o)=some v
   rw[if_neg (fun e=>hnone b o v h e.1)];exact h
  ·simp only at h
   split at h
   ·rename_i e
    obtain⟨rfl,h3⟩:=e
    cases h
    simp[World.cell?,hheap,hcur o h3]
   ·exact hkeep w' hx b o v h
  ·simp only at h
   split at h
   ·rename_i e;omega
   ·exact h
  ·have hi:i<len:=by have:=(List.getElem?_eq_some_iff.1 hr).1;omega
   have hr1:=a4 i r hr
   have hj1:j<r.length:=(List.getElem?_eq_some_iff.1 hj).1
   have h1:(Sx.row 9).length=1:=rfl
   have hj0:j=0:=by omega
   subst hj0
   show (if g=g∧0+i*(Sx.row 9).length+0<len then some (vs (0+i*(Sx.row 9).length+0) 0) else φ g _)=some (vs i 0)
   rw[h1,if_pos ⟨rfl,by omega⟩]
   simp
  ·intro b o v h
   show (if b=g∧o<len then some (vs o 0) else φ b o)=some v
   rw[if_neg (fun e=>hnone b o v h e.1)];exact h
 cases h1 with
 |nil _=>
  refine (Tryz.slices_Clone_string_nil 0 0 w).mono ?_
  rintro e w' ⟨rfl,rfl⟩
  exact⟨_,φ,rfl,fun _ _ _ h=>h,hφ,fun _ _ _ h _=>h,⟨fun _ _=>rfl,Nat.le_refl _,rfl,rfl,rfl⟩,.one (.nil 9) .nil⟩
 |e0 _ a=>
  refine (Tryz.slices_Clone_string_zero a 0 w).mono ?_
  rintro e w' ⟨v',rfl,hown,hne,hbel⟩
  obtain⟨hlen,⟨rfl,_⟩|⟨g,cp,cur,rfl,hg,hheap,hncp,hcpm,hcs,htake⟩⟩:=hown
  ·exact absurd rfl hne
  ·exact made 0 (fun _ _=>.nilIface) g cp cur w' rfl rfl (fun i r h=>by simp at h) (fun i r j c kk h=>by simp at h) hbel hg hheap hncp hcpm (fun i hi=>by omega)
 |sl _ blk off len cap _ vs a1 a2 a3 a4 a5 a6=>
  have hstr:∀ i,i<len→vs i 0=.string (strOf (vs i 0))∧φ blk (off+i)=some (vs i 0):=fun i hi=>by
   have hr:rows[i]? = some rows[i]:=List.getElem?_eq_getElem (by omega)
   have h1:rows[i].length=1:=a4 i _ hr
   have hj:rows[i][0]? = some rows[i][0]:=List.getElem?_eq_getElem (by omega)
   have hcr:=a6 i _ 0 _ .str hr hj rfl
   have hf:=a5 i _ 0 _ hr hj
   refine⟨?_,?_⟩
   ·generalize vs i 0=x at hcr ⊢
    generalize rows[i][0]=y at hcr
    cases hcr;rfl
   ·have e:off+i*(Sx.row 9).length+0=off+i:=by show off+i*1+0=off+i;omega
    rw[e] at hf;exact hf
  have hz:((List.range len).map fun i=>strOf (vs i 0)).length=len:=by simp
  refine (Tryz.slices_Clone_string blk off len cap ((List.range len).map fun i=>strOf (vs i 0)) w (by omega) (by omega) fun j hj=>?_).mono ?_
  ·rw[hz] at hj
   obtain⟨s1,s2⟩:=hstr j hj
   have s3:((List.range len).map fun i=>strOf (vs i 0)).getD j ByteArray.empty=strOf (vs j 0):=by simp[List.getD,hj]
   rw[hφ _ _ _ s2,s3,← s1]
  ·rintro e w' ⟨v',rfl,hown,hne,hbel⟩
   obtain⟨hlen,⟨rfl,_⟩|⟨g,cp,cur,rfl,hg,hheap,hncp,hcpm,hcs,htake⟩⟩:=hown
   ·exact absurd rfl hne
   ·refine made len vs g cp cur w' a1 rfl a4 a6 hbel hg hheap hncp hcpm (fun i hi=>?_)
    have h3:(cur.toList.take (len*1))[i]? = (((List.range len).map fun i=>strOf (vs i 0)).take len |>.map Value.string)[i]? := by rw[htake]
    rw[List.getElem?_take] at h3
    rw[if_pos (by omega)] at h3
    rw[← Array.getElem?_toList,h3]
    simp[hi]
    exact (hstr i hi).1.symm
end Go.Proofs.Wo

namespace Go.Proofs.Wo
open Go.Exo Go.Exo.Wo
set_option maxRecDepth 100000
set_option linter.all false
noncomputable def copycuts:List Ct:=[]
def copyt:Tr:=.must (.app 9 1000001 (.cons (.var 9 4 (.sl 9)) .nilA) .bool) true <|
 .must (.app 9 1000000 (.cons (.var 9 5 (.sl 26)) .nilA) .bool) true <|
 .leaf 11 (.ret [] [(.var 9 0 (.int .i64)),(.var 9 1 .bool),(.var 9 2 (.int .i64)),(.var 9 3 .str),(.app 9 10 (.cons (.var 9 4 (.sl 9)) .nilA) (.sl 9)),(.app 9 20 (.cons (.var 9 5 (.sl 26)) .nilA) (.sl 26))])
theorem copyt_ok:Pth.allS Tryz.prog hkCopy 9 Kcopy copycuts (copyt.paths []):=
 ⟨Pth.okS_ret (by kernel_rfl) (by kernel_rfl),
  trivial⟩
noncomputable def copiesc0:Ct:=⟨stTodo (outS Tryz.prog hkCopies 9 Kcopies [] 9),[.junk,.junk,.junk,.nils,.junk,.junk,.x (.var 9 0 (.sl 26)),.x (.var 9 1 (.int .i64)),.int .i64 (0),.junk,.junk,.junk,.junk,.junk,.junk,.junk,.junk,.junk,.junk],[],[(.sl 26),(.int .i64)]⟩
noncomputable def copiesc1:Ct:=⟨stTodo (outC Tryz.prog hkCopies 9 37 copiesc0 [((.bin .lss (.int .i64 (0)) (.var 9 1 (.int .i64))),true),((.inr (.int .i64 (0)) (.len (.var 9 0 (.sl 26)))),true),((.app 9 1000000 (.cons (.el (.var 9 0 (.sl 26)) (.int .i64 (0)) 0 (.int .i64)) (.cons (.el (.var 9 0 (.sl 26)) (.int .i64 (0)) 1 .bool) (.cons (.el (.var 9 0 (.sl 26)) (.int .i64 (0)) 2 (.int .i64)) (.cons (.el (.var 9 0 (.sl 26)) (.int .i64 (0)) 3 .str) (.cons (.el (.var 9 0 (.sl 26)) (.int .i64 (0)) 4 (.sl 9)) (.cons (.el (.var 9 0 (.sl 26)) (.int .i64 (0)) 5 (.sl 26)) .nilA)))))) .bool),true)] 14),[.junk,.junk,.junk,.lst 10 (.var 9 0 (.sl 26)),.junk,.junk,.x (.var 9 1 (.sl 26)),.x (.var 9 2 (.int .i64)),.x (.var 9 3 (.int .i64)),.junk,.junk,.junk,.junk,.junk,.junk,.junk,.junk,.junk,.junk],[some (.own 26)],[(.sl 26),(.sl 26),(.int .i64),(.int .i64)]⟩
noncomputable def copiescuts:List Ct:=[copiesc0,copiesc1]
def copiest:Tr:=.leaf 9 (.cut 0 [] [(.var 9 0 (.sl 26)),(.len (.var 9 0 (.sl 26)))])
def copiest0:Tr:=.ask (.bin .lss (.int .i64 (0)) (.var 9 1 (.int .i64)))
 (.must (.inr (.int .i64 (0)) (.len (.var 9 0 (.sl 26)))) true <|
 .must (.app 9 1000000 (.cons (.el (.var 9 0 (.sl 26)) (.int .i64 (0)) 0 (.int .i64)) (.cons (.el (.var 9 0 (.sl 26)) (.int .i64 (0)) 1 .bool) (.cons (.el (.var 9 0 (.sl 26)) (.int .i64 (0)) 2 (.int .i64)) (.cons (.el (.var 9 0 (.sl 26)) (.int .i64 (0)) 3 .str) (.cons (.el (.var 9 0 (.sl 26)) (.int .i64 (0)) 4 (.sl 9)) (.cons (.el (.var 9 0 (.sl 26)) (.int .i64 (0)) 5 (.sl 26)) .nilA)))))) .bool) true <|
 .leaf 14 (.cut 1 [14] [(.snoc (.nil 26) (.cons (.app 9 0 (.cons (.el (.var 9 0 (.sl 26)) (.int .i64 (0)) 0 (.int .i64)) (.cons (.el (.var 9 0 (.sl 26)) (.int .i64 (0)) 1 .bool) (.cons (.el (.var 9 0 (.sl 26)) (.int .i64 (0)) 2 (.int .i64)) (.cons (.el (.var 9 0 (.sl 26)) (.int .i64 (0)) 3 .str) (.cons (.el (.var 9 0 (.sl 26)) (.int .i64 (0)) 4 (.sl 9)) (.cons (.el (.var 9 0 (.sl 26)) (.int .i64 (0)) 5 (.sl 26)) .nilA)))))) (.int .i64)) (.cons (.app 9 1 (.cons (.el (.var 9 0 (.sl 26)) (.int .i64 (0)) 0 (.int .i64)) (.cons (.el (.var 9 0 (.sl 26)) (.int .i64 (0)) 1 .bool) (.cons (.el (.var 9 0 (.sl 26)) (.int .i64 (0)) 2 (.int .i64)) (.cons (.el (.var 9 0 (.sl 26)) (.int .i64 (0)) 3 .str) (.cons (.el (.var 9 0 (.sl 26)) (.int .i64 (0)) 4 (.sl 9)) (.cons (.el (.var 9 0 (.sl 26)) (.int .i64 (0)) 5 (.sl 26)) .nilA)))))) .bool) (.cons (.app 9 2 (.cons (.el (.var 9 0 (.sl 26)) (.int .i64 (0)) 0 (.int .i64)) (.cons (.el (.var 9 0 (.sl 26)) (.int .i64 (0)) 1 .bool) (.cons (.el (.var 9 0 (.sl 26)) (.int .i64 (0)) 2 (.int .i64)) (.cons (.el (.var 9 0 (.sl 26)) (.int .i64 (0)) 3 .str) (.cons (.el (.var 9 0 (.sl 26)) (.int .i64 (0)) 4 (.sl 9)) (.cons (.el (.var 9 0 (.sl 26)) (.int .i64 (0)) 5 (.sl 26)) .nilA)))))) (.int .i64)) (.cons (.app 9 3 (.cons (.el (.var 9 0 (.sl 26)) (.int .i64 (0)) 0 (.int .i64)) (.cons (.el (.var 9 0 (.sl 26)) (.int .i64 (0)) 1 .bool) (.cons (.el (.var 9 0 (.sl 26)) (.int .i64 (0)) 2 (.int .i64)) (.cons (.el (.var 9 0 (.sl 26)) (.int .i64 (0)) 3 .str) (.cons (.el (.var 9 0 (.sl 26)) (.int .i64 (0)) 4 (.sl 9)) (.cons (.el (.var 9 0 (.sl 26)) (.int .i64 (0)) 5 (.sl 26)) .nilA)))))) .str) (.cons (.app 9 4 (.cons (.el (.var 9 0 (.sl 26)) (.int .i64 (0)) 0 (.int .i64)) (.cons (.el (.var 9 0 (.sl 26)) (.int .i64 (0)) 1 .bool) (.cons (.el (.var 9 0 (.sl 26)) (.int .i64 (0)) 2 (.int .i64)) (.cons (.el (.var 9 0 (.sl 26)) (.int .i64 (0)) 3 .str) (.cons (.el (.var 9 0 (.sl 26)) (.int .i64 (0)) 4 (.sl 9)) (.cons (.el (.var 9 0 (.sl 26)) (.int .i64 (0)) 5 (.sl 26)) .nilA)))))) (.sl 9)) (.cons (.app 9 5 (.cons (.el (.var 9 0 (.sl 26)) (.int .i64 (0)) 0 (.int .i64)) (.cons (.el (.var 9 0 (.sl 26)) (.int .i64 (0)) 1 .bool) (.cons (.el (.var 9 0 (.sl 26)) (.int .i64 (0)) 2 (.int .i64)) (.cons (.el (.var 9 0 (.sl 26)) (.int .i64 (0)) 3 .str) (.cons (.el (.var 9 0 (.sl 26)) (.int .i64 (0)) 4 (.sl 9)) (.cons (.el (.var 9 0 (.sl 26)) (.int .i64 (0)) 5 (.sl 26)) .nilA)))))) (.sl 26)) .nilA))))))),(.var 9 0 (.sl 26)),(.var 9 1 (.int .i64)),(.int .i64 (1))]))
 (.leaf 8 (.ret [] [(.nil 26)]))
def copiest1:Tr:=.ask (.bin .lss (.var 9 3 (.int .i64)) (.var 9 2 (.int .i64)))
 (.must (.inr (.var 9 3 (.int .i64)) (.len (.var 9 1 (.sl 26)))) true <|
 .must (.app 9 1000000 (.cons (.el (.var 9 1 (.sl 26)) (.var 9 3 (.int .i64)) 0 (.int .i64)) (.cons (.el (.var 9 1 (.sl 26)) (.var 9 3 (.int .i64)) 1 .bool) (.cons (.el (.var 9 1 (.sl 26)) (.var 9 3 (.int .i64)) 2 (.int .i64)) (.cons (.el (.var 9 1 (.sl 26)) (.var 9 3 (.int .i64)) 3 .str) (.cons (.el (.var 9 1 (.sl 26)) (.var 9 3 (.int .i64)) 4 (.sl 9)) (.cons (.el (.var 9 1 (.sl 26)) (.var 9 3 (.int .i64)) 5 (.sl 26)) .nilA)))))) .bool) true <|
 .must (.inr (.len (.var 9 0 (.sl 26))) (.int .i64 (1599289640401))) true <|
 .leaf 14 (.cut 1 [14] [(.snoc (.var 9 0 (.sl 26)) (.cons (.app 9 0 (.cons (.el (.var 9 1 (.sl 26)) (.var 9 3 (.int .i64)) 0 (.int .i64)) (.cons (.el (.var 9 1 (.sl 26)) (.var 9 3 (.int .i64)) 1 .bool) (.cons (.el (.var 9 1 (.sl 26)) (.var 9 3 (.int .i64)) 2 (.int .i64)) (.cons (.el (.var 9 1 (.sl 26)) (.var 9 3 (.int .i64)) 3 .str) (.cons (.el (.var 9 1 (.sl 26)) (.var 9 3 (.int .i64)) 4 (.sl 9)) (.cons (.el (.var 9 1 (.sl 26)) (.var 9 3 (.int .i64)) 5 (.sl 26)) .nilA)))))) (.int .i64)) (.cons (.app 9 1 (.cons (.el (.var 9 1 (.sl 26)) (.var 9 3 (.int .i64)) 0 (.int .i64)) (.cons (.el (.var 9 1 (.sl 26)) (.var 9 3 (.int .i64)) 1 .bool) (.cons (.el (.var 9 1 (.sl 26)) (.var 9 3 (.int .i64)) 2 (.int .i64)) (.cons (.el (.var 9 1 (.sl 26)) (.var 9 3 (.int .i64)) 3 .str) (.cons (.el (.var 9 1 (.sl 26)) (.var 9 3 (.int .i64)) 4 (.sl 9)) (.cons (.el (.var 9 1 (.sl 26)) (.var 9 3 (.int .i64)) 5 (.sl 26)) .nilA)))))) .bool) (.cons (.app 9 2 (.cons (.el (.var 9 1 (.sl 26)) (.var 9 3 (.int .i64)) 0 (.int .i64)) (.cons (.el (.var 9 1 (.sl 26)) (.var 9 3 (.int .i64)) 1 .bool) (.cons (.el (.var 9 1 (.sl 26)) (.var 9 3 (.int .i64)) 2 (.int .i64)) (.cons (.el (.var 9 1 (.sl 26)) (.var 9 3 (.int .i64)) 3 .str) (.cons (.el (.var 9 1 (.sl 26)) (.var 9 3 (.int .i64)) 4 (.sl 9)) (.cons (.el (.var 9 1 (.sl 26)) (.var 9 3 (.int .i64)) 5 (.sl 26)) .nilA)))))) (.int .i64)) (.cons (.app 9 3 (.cons (.el (.var 9 1 (.sl 26)) (.var 9 3 (.int .i64)) 0 (.int .i64)) (.cons (.el (.var 9 1 (.sl 26)) (.var 9 3 (.int .i64)) 1 .bool) (.cons (.el (.var 9 1 (.sl 26)) (.var 9 3 (.int .i64)) 2 (.int .i64)) (.cons (.el (.var 9 1 (.sl 26)) (.var 9 3 (.int .i64)) 3 .str) (.cons (.el (.var 9 1 (.sl 26)) (.var 9 3 (.int .i64)) 4 (.sl 9)) (.cons (.el (.var 9 1 (.sl 26)) (.var 9 3 (.int .i64)) 5 (.sl 26)) .nilA)))))) .str) (.cons (.app 9 4 (.cons (.el (.var 9 1 (.sl 26)) (.var 9 3 (.int .i64)) 0 (.int .i64)) (.cons (.el (.var 9 1 (.sl 26)) (.var 9 3 (.int .i64)) 1 .bool) (.cons (.el (.var 9 1 (.sl 26)) (.var 9 3 (.int .i64)) 2 (.int .i64)) (.cons (.el (.var 9 1 (.sl 26)) (.var 9 3 (.int .i64)) 3 .str) (.cons (.el (.var 9 1 (.sl 26)) (.var 9 3 (.int .i64)) 4 (.sl 9)) (.cons (.el (.var 9 1 (.sl 26)) (.var 9 3 (.int .i64)) 5 (.sl 26)) .nilA)))))) (.sl 9)) (.cons (.app 9 5 (.cons (.el (.var 9 1 (.sl 26)) (.var 9 3 (.int .i64)) 0 (.int .i64)) (.cons (.el (.var 9 1 (.sl 26)) (.var 9 3 (.int .i64)) 1 .bool) (.cons (.el (.var 9 1 (.sl 26)) (.var 9 3 (.int .i64)) 2 (.int .i64)) (.cons (.el (.var 9 1 (.sl 26)) (.var 9 3 (.int .i64)) 3 .str) (.cons (.el (.var 9 1 (.sl 26)) (.var 9 3 (.int .i64)) 4 (.sl 9)) (.cons (.el (.var 9 1 (.sl 26)) (.var 9 3 (.int .i64)) 5 (.sl 26)) .nilA)))))) (.sl 26)) .nilA))))))),(.var 9 1 (.sl 26)),(.var 9 2 (.int .i64)),(.bin .add (.var 9 3 (.int .i64)) (.int .i64 (1)))]))
 (.leaf 8 (.ret [] [(.var 9 0 (.sl 26))]))
theorem copiest_ok:Pth.allS Tryz.prog hkCopies 9 Kcopies copiescuts (copiest.paths []):=
 ⟨Pth.okS_cut copiesc0 rfl (by kernel_rfl) (by kernel_rfl),
  trivial⟩
theorem copiest0_ok:Pth.allC Tryz.prog hkCopies 9 Kcopies copiescuts copiesc0 (copiest0.paths []):=
 ⟨Pth.okC_cut copiesc1 rfl (by kernel_rfl) (by kernel_rfl),
  Pth.okC_ret (by kernel_rfl) (by kernel_rfl),
  trivial⟩
theorem copiest1_ok:Pth.allC Tryz.prog hkCopies 9 Kcopies copiescuts copiesc1 (copiest1.paths []):=
 ⟨Pth.okC_cut copiesc1 rfl (by kernel_rfl) (by kernel_rfl),
  Pth.okC_ret (by kernel_rfl) (by kernel_rfl),
  trivial⟩
variable {k:Nat}{G:World→Prop}
set_option maxHeartbeats 4000000
def byt:Nat→Nat|9=>16|26=>88|2=>8|_=>24
def isSl:Kd→Bool|.sl _=>true|_=>false
inductive Bw:Kd→Cl→Prop
 |sc {k:Kd}{c:Cl}:isSl k=false→Bw k c
 |sl {e:Nat}{nl:Bool}{rows:List (List Cl)}:rows.length*byt e≤140737488355328→(∀ r∈rows,∀ (j:Nat) c k,r[j]? = some c→(Sx.row e)[j]? = some k→Bw k c)→Bw (.sl e) (.sl nl rows)
def Bws (ks:List Kd)(cs:List Cl):Prop:=∀ (j:Nat) c k,cs[j]? = some c→ks[j]? = some k→Bw k c
theorem Bw.open {e:Nat}{nl:Bool}{rows:List (List Cl)}(h:Bw (.sl e) (.sl nl rows)):rows.length*byt e≤140737488355328∧∀ r∈rows,Bws (Sx.row e) r:=by
 cases h with
 |sc h=>cases h
 |sl h1 h2=>exact⟨h1,h2⟩
theorem Bws.one {k:Kd}{c:Cl}(h:Bw k c):Bws [k] [c]:=fun j c' k' h1 h2=>by
 cases j with
 |zero=>simp at h1 h2;subst h1;subst h2;exact h
 |succ j=>simp at h1
section
variable {k:Int}{b:Bool}{n:Int}{s:List UInt8}{nl:Bool}{ys:List (List Cl)}{ml:Bool}{rs:List (List Cl)}
theorem bws_ys (h:Bws vK [.int k,.bool b,.int n,.str s,.sl nl ys,.sl ml rs]):Bw (.sl 9) (.sl nl ys):=h 4 _ _ rfl rfl
theorem bws_rs (h:Bws vK [.int k,.bool b,.int n,.str s,.sl nl ys,.sl ml rs]):Bw (.sl 26) (.sl ml rs):=h 5 _ _ rfl rfl
end
def copyPost (c r:List Cl):Prop:=r.length≤6∧∀ (k:Int)(b:Bool)(n:Int)(s:List UInt8)(nl:Bool)(ys:List (List Cl))(ml:Bool)(rs:List (List Cl)),c=[.int k,.bool b,.int n,.str s,.sl nl ys,.sl ml rs]→∃ ml' rs',r=[.int k,.bool b,.int n,.str s,.sl nl ys,.sl ml' rs']∧nrmRs rs'=nrmRs rs
def copiesPost (c r:List Cl):Prop:=r.length≤1∧∀ nl rows,c=[.sl nl rows]→∃ nl' rows',r=[.sl nl' rows']∧nrmRs rows'=nrmRs rows
theorem copyEx (c:List Cl):∃ r,copyPost c r:=⟨c.take 6,by simp;omega,by rintro k b n s nl ys ml rs rfl;exact⟨ml,rs,rfl,rfl⟩⟩
theorem copiesEx (c:List Cl):∃ r,copiesPost c r:=⟨c.take 1,by simp;omega,by rintro nl rows rfl;exact⟨nl,rows,rfl,rfl⟩⟩
def copyPre (n:Nat)(c:List Cl):Prop:=Bws vK c∧SizeOf.sizeOf c<n
def copiesPre (n:Nat)(c:List Cl):Prop:=Bws [.sl 26] c∧SizeOf.sizeOf c<n
open Classical in
noncomputable def tbCs (F:List Cl→List Cl)(m:Nat)(f:Nat)(c:List Cl):Cl:=if f=1000000 then .bool (decide (copyPre m c)) else (F c).getD f .no
open Classical in
noncomputable def tbCp (F:List Cl→List Cl)(m:Nat)(f:Nat)(c:List Cl):Cl:=if f=1000000 then .bool (decide (copiesPre m c)) else if f=1000001 then .bool (decide (∃ nl rows,c=[Cl.sl nl rows]∧rows.length*16≤140737488355328)) else if f=10 then c.getD 0 .no else (F c).getD (f-20) .no
open Classical in
theorem copyV {m:Nat}{F:List Cl→List Cl}(hF:∀ c,copiesPost c (F c)):Vc0 (tbCp F m) 9 Kcopy.ks (copyPre (m+1)) (fun _ _ _=>True) copyPost copyt:=by
 rintro cls E hE hw ⟨hB,hm⟩
 obtain⟨k,b,n,s,nl,ys,ml,rs,rfl,-⟩:=row6 hw
 obtain⟨-,hF2⟩:=hF [.sl ml rs]
 obtain⟨ml',rs',e,e2⟩:=hF2 ml rs rfl
 have t0:tbCp F m 1000000 [.sl ml rs]=.bool true:=by
  unfold tbCp
  rw[if_pos rfl,decide_eq_true]
  refine⟨Bws.one (bws_rs hB),?_⟩
  simp only[List.cons.sizeOf_spec,List.nil.sizeOf_spec,Cl.sl.sizeOf_spec] at hm ⊢
  omega
 have t1:tbCp F m 1000001 [.sl nl ys]=.bool true:=by
  unfold tbCp
  rw[if_neg (by decide),if_pos rfl,decide_eq_true]
  exact⟨nl,ys,rfl,(bws_ys hB).open.1⟩
 have t2:tbCp F m 10 [.sl nl ys]=.sl nl ys:=by unfold tbCp;rw[if_neg (by decide),if_neg (by decide),if_pos rfl];rfl
 have t3:tbCp F m 20 [.sl ml rs]=.sl ml' rs':=by unfold tbCp;rw[if_neg (by decide),if_neg (by decide),if_neg (by decide),e];rfl
 simp only[copyt,Tr.vc,To.goodT,List.map_cons,List.map_nil,hE.v,hE.a,X.d_cons,X.d_nil,List.getD_cons_zero,List.getD_cons_succ,t0,t1,t2,t3,true_and]
 refine⟨by simp,?_⟩
 rintro k b n s nl ys ml rs e3
 simp only[List.cons.injEq,Cl.int.injEq,Cl.bool.injEq,Cl.str.injEq,Cl.sl.injEq,and_true] at e3
 obtain⟨rfl,rfl,rfl,rfl,⟨rfl,rfl⟩,rfl,rfl⟩:=e3
 exact⟨_,_,rfl,e2⟩
def copiesInv (m:Nat)(j:Nat)(c0 c:List Cl):Prop:=∃ nl rows,c0=[.sl nl rows]∧copiesPre (m+1) c0∧
 (j=0→c=[.sl nl rows,.int rows.length])∧
 (j≠0→∃ out i,c=[.sl false out,.sl nl rows,.int rows.length,.int i]∧(out.length:Int)=i∧i≤rows.length∧nrmRs out=nrmRs (rows.take out.length))
def copiesM (j:Nat)(c:List Cl):Nat:=match c with
 |[.sl _ rows,_]=>rows.length+1
 |[.sl _ out,.sl _ rows,_,_]=>rows.length-out.length
 |_=>0
theorem nrm_snoc {out rows:List (List Cl)}{r r':List Cl}{i:Nat}(h:nrmRs out=nrmRs (rows.take i))(hr:rows[i]? = some r)(he:nrmR r'=nrmR r):nrmRs (out++[r'])=nrmRs (rows.take (i+1)):=by
 rw[List.take_add_one,hr]
 simp only[nrmRs_eq] at h ⊢
 simp[h,he]
theorem copiesV {m:Nat}{tb:Nat→List Cl→Cl}:Vc0 tb 9 Kcopies.ks (copiesPre (m+1)) (copiesInv m) copiesPost copiest:=by
 intro cls E hE hw hp
 have hw':Wts [.sl 26] cls:=hw
 obtain⟨_,rfl,h1⟩:=hw'.one
 obtain⟨nl,rows,rfl,-⟩:=h1.sl_inv
 simp only[copiest,Tr.vc,To.goodT,List.map_cons,List.map_nil,hE.v,X.c_len,lenC,List.getD_cons_zero,List.getD_cons_succ,and_true]
 exact⟨nl,rows,rfl,hp,fun _=>rfl,fun h=>absurd rfl h⟩
open Classical in
theorem copiesRow {m:Nat}{F:List Cl→List Cl}(hF:∀ c,copyPost c (F c)){nl:Bool}{rows:List (List Cl)}(hp:copiesPre (m+1) [.sl nl rows]){i:Nat}{r:List Cl}(hr:rows[i]? = some r)(hw:Wts vK r) :
  tbCs F m 1000000 [r.getD 0 .no,r.getD 1 .no,r.getD 2 .no,r.getD 3 .no,r.getD 4 .no,r.getD 5 .no]=.bool true∧
  nrmR [tbCs F m 0 [r.getD 0 .no,r.getD 1 .no,r.getD 2 .no,r.getD 3 .no,r.getD 4 .no,r.getD 5 .no],tbCs F m 1 [r.getD 0 .no,r.getD 1 .no,r.getD 2 .no,r.getD 3 .no,r.getD 4 .no,r.getD 5 .no],tbCs F m 2 [r.getD 0 .no,r.getD 1 .no,r.getD 2 .no,r.getD 3 .no,r.getD 4 .no,r.getD 5 .no],tbCs F m 3 [r.getD 0 .no,r.getD 1 .no,r.getD 2 .no,r.getD 3 .no,r.getD 4 .no,r.getD 5 .no],tbCs F m 4 [r.getD 0 .no,r.getD 1 .no,r.getD 2 .no,r.getD 3 .no,r.getD 4 .no,r.getD 5 .no],tbCs F m 5 [r.getD 0 .no,r.getD 1 .no,r.getD 2 .no,r.getD 3 .no,r.getD 4 .no,r.getD 5 .no]]=nrmR r:=by
 obtain⟨k,b,n,s,nl',ys,ml,rs,rfl,-⟩:=row6 hw
 obtain⟨hB,hm⟩:=hp
 have hmem:=List.mem_of_getElem? hr
 obtain⟨ml',rs',e,e2⟩:=(hF [.int k,.bool b,.int n,.str s,.sl nl' ys,.sl ml rs]).2 _ _ _ _ _ _ _ _ rfl
 simp only[List.getD_cons_zero,List.getD_cons_succ]
 refine⟨?_,?_⟩
 ·unfold tbCs
  rw[if_pos rfl,decide_eq_true]
  refine⟨((hB 0 _ _ rfl rfl).open.2 _ hmem),?_⟩
  have z1:=List.sizeOf_lt_of_mem hmem
  simp only[List.cons.sizeOf_spec,List.nil.sizeOf_spec,Cl.sl.sizeOf_spec] at z1 hm ⊢
  omega
 ·have t:∀ j,j<6→tbCs F m j [.int k,.bool b,.int n,.str s,.sl nl' ys,.sl ml rs]=[Cl.int k,.bool b,.int n,.str s,.sl nl' ys,.sl ml' rs'].getD j .no:=fun j hj=>by unfold tbCs;rw[if_neg (by omega),e]
  rw[t 0 (by omega),t 1 (by omega),t 2 (by omega),t 3 (by omega),t 4 (by omega),t 5 (by omega)]
  simp only[List.getD_cons_zero,List.getD_cons_succ,nrmR,nrm,e2]
theorem copiesV0 {m:Nat}{F:List Cl→List Cl}(hF:∀ c,copyPost c (F c)):Vc (· < ·) copiesM (tbCs F m) 9 copiesc0.ks (copiesInv m) copiesPost 0 copiest0:=by
 rintro c0 cls E hE hw ⟨nl,rows,rfl,hp,hc,-⟩
 obtain rfl:=hc rfl
 have hw':Wts [.sl 26,.int .i64] [.sl nl rows,.int rows.length]:=hw
 obtain⟨_,_,e,h1,_⟩:=hw'.cons_inv;cases e
 obtain⟨_,_,e,hlen,-,hrows⟩:=h1.sl_inv;cases e
 simp only[maxLen] at hlen
 simp only[copiest0,Tr.vc,To.goodT,List.map_cons,List.map_nil,hE.v,hE.a,X.d_cons,X.d_nil,X.c_int,X.c_bool,X.c_nil,X.c_bin,X.c_len,X.c_inr,X.c_el,X.c_snoc,snocD,lenC,inrD,elD,X.kd,isCmp,cond_true,cond_false,binD,intD,List.getD_cons_zero,List.getD_cons_succ,Cl.bool.injEq,exists_eq',true_and,and_true,decide_eq_true_eq,decide_eq_false_iff_not]
 refine⟨fun hlt=>?_,fun hge=>?_⟩
 ·obtain⟨r,hr,hwr,hd,hme⟩:=row_at hrows (i:=0) (by omega)
  obtain⟨q1,q2⟩:=copiesRow hF hp hme hwr
  have e0:rows.getD (0:Int).toNat []=r:=hr
  rw[e0]
  refine⟨by omega,q1,⟨nl,rows,rfl,hp,fun h=>absurd h (by decide),fun _=>⟨_,_,rfl,?_,by omega,?_⟩⟩,?_⟩
  ·simp
  ·exact nrm_snoc (out:=[]) (i:=0) (by simp) hme q2
  ·show rows.length-1<rows.length+1
   omega
 ·refine⟨by simp,?_⟩
  rintro nl' rows' e
  simp only[List.cons.injEq,Cl.sl.injEq,and_true] at e
  obtain⟨rfl,rfl⟩:=e
  have:rows=[]:=List.length_eq_zero_iff.1 (by omega)
  exact⟨_,_,rfl,by rw[this]⟩
theorem copiesV1 {m:Nat}{F:List Cl→List Cl}(hF:∀ c,copyPost c (F c)):Vc (· < ·) copiesM (tbCs F m) 9 copiesc1.ks (copiesInv m) copiesPost 1 copiest1:=by
 rintro c0 cls E hE hw ⟨nl,rows,rfl,hp,-,hc⟩
 obtain⟨out,i,rfl,ho,hi,hn⟩:=hc (by decide)
 have hw':Wts [.sl 26,.sl 26,.int .i64,.int .i64] [.sl false out,.sl nl rows,.int rows.length,.int i]:=hw
 obtain⟨_,_,e,_,h2⟩:=hw'.cons_inv;cases e
 obtain⟨_,_,e,h1,_⟩:=h2.cons_inv;cases e
 obtain⟨_,_,e,hlen,-,hrows⟩:=h1.sl_inv;cases e
 simp only[maxLen] at hlen
 have hb:rows.length*88≤140737488355328:=(hp.1 0 _ _ rfl rfl).open.1
 have h0:0≤i:=by omega
 simp only[copiest1,Tr.vc,To.goodT,List.map_cons,List.map_nil,hE.v,hE.a,X.d_cons,X.d_nil,X.c_int,X.c_bool,X.c_nil,X.c_bin,X.c_len,X.c_inr,X.c_el,X.c_snoc,snocD,lenC,inrD,elD,X.kd,isCmp,cond_true,cond_false,binD,intD,List.getD_cons_zero,List.getD_cons_succ,Cl.bool.injEq,exists_eq',true_and,and_true,decide_eq_true_eq,decide_eq_false_iff_not,h0]
 refine⟨fun hlt=>?_,fun hge=>?_⟩
 ·obtain⟨r,hr,hwr,hd,hme⟩:=row_at hrows (i:=i.toNat) (by omega)
  obtain⟨q1,q2⟩:=copiesRow hF hp hme hwr
  rw[hr,i64_id (n:=i+1) (by omega) (by omega)]
  refine⟨hlt,q1,by omega,⟨nl,rows,rfl,hp,fun h=>absurd h (by decide),fun _=>⟨_,_,rfl,?_,by omega,?_⟩⟩,?_⟩
  ·simp;omega
  ·have eo:i.toNat=out.length:=by omega
   rw[eo] at hme
   simpa using nrm_snoc hn hme q2
  ·show rows.length-(out++[_]).length<rows.length-out.length
   simp;omega
 ·refine⟨by simp,?_⟩
  rintro nl' rows' e
  simp only[List.cons.injEq,Cl.sl.injEq,and_true] at e
  obtain⟨rfl,rfl⟩:=e
  exact⟨_,_,rfl,by rw[hn,List.take_of_length_le (by omega)]⟩
open Classical in
theorem copy_n (hG:Gd0 k G)(hk0:0<k)(hsz:Tryz.prog.globals.size≤k):∀ n,(∃ tb F,Kcopy.Sound Tryz.prog k G tb (copyPre n) F∧∀ c,copyPost c (F c))∧∃ tb F,Kcopies.Sound Tryz.prog k G tb (copiesPre n) F∧∀ c,copiesPost c (F c):=by
 intro n
 induction n with
 |zero=>exact⟨⟨fun _ _=>.no,fun c=>(copyEx c).choose,fun w old hold φ pls cls xs _ _ _ _ _ _ _ hp=>absurd hp.2 (by omega),fun c=>(copyEx c).choose_spec⟩,
   ⟨fun _ _=>.no,fun c=>(copiesEx c).choose,fun w old hold φ pls cls xs _ _ _ _ _ _ _ hp=>absurd hp.2 (by omega),fun c=>(copiesEx c).choose_spec⟩⟩
 |succ m ih=>
  obtain⟨⟨tb,F,hS,hF⟩,⟨tb2,F2,hS2,hF2⟩⟩:=ih
  refine⟨?_,?_⟩
  ·letI:Tb:=⟨some (9,tbCp F2 m)⟩
   obtain⟨F',h1,h2⟩:=Ctr.total (hk:=hkCopy) Nat.lt_wfRel.wf (fun _ _=>0) (fun _ _ _=>True) copyPost hG (fun D=>@Hooks.or _ (dcOf D) _ _ _ _ _ _
     (Hooks.specP clone_spec (fun cls j c h=>by
      have hj:j=0:=by
       have:=(List.getElem?_eq_some_iff.1 h).1
       simp at this;omega
      subst hj
      rw[List.getElem?_take,if_pos (by omega)] at h
      simp[tbCp,List.getD_eq_getElem?_getD,h]) (fun cls h=>by simpa[tbCp] using h) hG hk0 rfl D)
     (@Hooks.ctr _ (dcOf D) _ _ _ _ 9 (by kernel_rfl) _ _ _ _ hS2 (by kernel_rfl) _ _ (fun cls j c h=>by
      have hj:j=0:=by
       have:=(List.getElem?_eq_some_iff.1 h).1
       have:=(hF2 cls).1
       omega
      subst hj
      simp[tbCp,List.getD_eq_getElem?_getD,h]) (some 1000000) (fun c h=>by simpa[tbCp] using h) hG hk0 hsz rfl))
    hsz (L:=9) (by kernel_rfl) rfl (K:=Kcopy) (cuts:=copycuts) (trs:=[]) (by kernel_rfl) copyt_ok (copyV hF2) trivial copyEx
   exact⟨_,F',h1,h2⟩
  ·letI:Tb:=⟨some (9,tbCs F m)⟩
   obtain⟨F',h1,h2⟩:=Ctr.total (hk:=hkCopies) Nat.lt_wfRel.wf copiesM (copiesInv m) copiesPost hG (fun D =>
     (@Hooks.ctr _ (dcOf D) _ _ _ _ 9 (by kernel_rfl) _ _ _ _ hS (by kernel_rfl) _ _ (fun cls j c h=>by
      have hj:j<6:=by
       have:=(List.getElem?_eq_some_iff.1 h).1
       have:=(hF cls).1
       omega
      unfold tbCs
      rw[if_neg (by omega),Nat.zero_add,List.getD_eq_getElem?_getD,h];rfl) (some 1000000) (fun c h=>by simpa[tbCs] using h) hG hk0 hsz rfl))
    hsz (L:=9) (by kernel_rfl) rfl (K:=Kcopies) (cuts:=copiescuts) (trs:=[copiest0,copiest1]) (by kernel_rfl) copiest_ok copiesV ⟨⟨copiest0_ok,copiesV0 hF⟩,⟨copiest1_ok,copiesV1 hF⟩,trivial⟩ copiesEx
   exact⟨_,F',h1,h2⟩
end Go.Proofs.Wo

namespace Go.Proofs.Wo
open Go.Exo Go.Exo.Wo
set_option maxRecDepth 100000
set_option linter.all false
noncomputable def hasc0:Ct:=⟨stTodo (outS Tryz.prog hk0 9 Khas [] 8),[.x (.var 9 0 (.sl 2)),.x (.var 9 1 (.int .i64)),.junk,.junk,.junk,.x (.var 9 2 (.int .i64)),.junk,.junk,.junk,.junk,.junk,.junk,.junk,.junk,.junk,.junk,.junk,.junk],[],[(.sl 2),(.int .i64),(.int .i64)]⟩
noncomputable def hascuts:List Ct:=[hasc0]
def hast:Tr:=.leaf 8 (.cut 0 [] [(.var 9 0 (.sl 2)),(.var 9 1 (.int .i64)),(.int .i64 (0))])
def hast0:Tr:=.ask (.bin .lss (.var 9 2 (.int .i64)) (.len (.var 9 0 (.sl 2))))
 (.must (.inr (.var 9 2 (.int .i64)) (.len (.var 9 0 (.sl 2)))) true <|
 .ask (.bin .eql (.el (.var 9 0 (.sl 2)) (.var 9 2 (.int .i64)) 0 (.int .i64)) (.var 9 1 (.int .i64)))
 (.leaf 13 (.ret [] [(.bool true)]))
 (.leaf 14 (.cut 0 [] [(.var 9 0 (.sl 2)),(.var 9 1 (.int .i64)),(.bin .add (.var 9 2 (.int .i64)) (.int .i64 (1)))])))
 (.leaf 8 (.ret [] [(.bool false)]))
theorem hast_ok:Pth.allS Tryz.prog hk0 9 Khas hascuts (hast.paths []):=
 ⟨Pth.okS_cut hasc0 rfl (by kernel_rfl) (by kernel_rfl),
  trivial⟩
theorem hast0_ok:Pth.allC Tryz.prog hk0 9 Khas hascuts hasc0 (hast0.paths []):=
 ⟨Pth.okC_ret (by kernel_rfl) (by kernel_rfl),
  Pth.okC_cut hasc0 rfl (by kernel_rfl) (by kernel_rfl),
  Pth.okC_ret (by kernel_rfl) (by kernel_rfl),
  trivial⟩
noncomputable def indexc0:Ct:=⟨stTodo (outS Tryz.prog hk0 9 Kindex [] 8),[.x (.var 9 0 (.sl 2)),.x (.var 9 1 (.int .i64)),.junk,.junk,.junk,.junk,.junk,.x (.var 9 2 (.int .i64)),.x (.var 9 3 (.int .i64)),.junk,.junk,.junk,.junk,.junk,.junk,.junk,.junk,.junk,.junk],[],[(.sl 2),(.int .i64),(.int .i64),(.int .i64)]⟩
noncomputable def indexcuts:List Ct:=[indexc0]
def indext:Tr:=.leaf 8 (.cut 0 [] [(.var 9 0 (.sl 2)),(.var 9 1 (.int .i64)),(.len (.var 9 0 (.sl 2))),(.int .i64 (0))])
def indext0:Tr:=.ask (.bin .lss (.var 9 3 (.int .i64)) (.var 9 2 (.int .i64)))
 (.must (.inr (.var 9 3 (.int .i64)) (.len (.var 9 0 (.sl 2)))) true <|
 .ask (.bin .eql (.var 9 1 (.int .i64)) (.el (.var 9 0 (.sl 2)) (.var 9 3 (.int .i64)) 0 (.int .i64)))
 (.leaf 15 (.ret [] [(.var 9 3 (.int .i64))]))
 (.leaf 16 (.cut 0 [] [(.var 9 0 (.sl 2)),(.var 9 1 (.int .i64)),(.var 9 2 (.int .i64)),(.bin .add (.var 9 3 (.int .i64)) (.int .i64 (1)))])))
 (.leaf 8 (.ret [] [(.int .i64 (-1))]))
theorem indext_ok:Pth.allS Tryz.prog hk0 9 Kindex indexcuts (indext.paths []):=
 ⟨Pth.okS_cut indexc0 rfl (by kernel_rfl) (by kernel_rfl),
  trivial⟩
theorem indext0_ok:Pth.allC Tryz.prog hk0 9 Kindex indexcuts indexc0 (indext0.paths []):=
 ⟨Pth.okC_ret (by kernel_rfl) (by kernel_rfl),
  Pth.okC_cut indexc0 rfl (by kernel_rfl) (by kernel_rfl),
  Pth.okC_ret (by kernel_rfl) (by kernel_rfl),
  trivial⟩
variable {k:Nat}{G:World→Prop} [Tb]
theorem hasN_cons (r:List Cl)(rows:List (List Cl))(n:Int):hasN (r::rows) n=((match r with|[.int m]=>m==n|_=>false) || hasN rows n):=rfl
def hasF:List Cl→List Cl
 |[.sl _ rows,.int n]=>[.bool (hasN rows n)]
 |_=>[]
def hasInv (_:Nat)(c0 c:List Cl):Prop:=∃ nl rows n i,c0=[.sl nl rows,.int n]∧c=[.sl nl rows,.int n,.int i]∧0≤i∧i≤rows.length∧hasN rows n=hasN (rows.drop i.toNat) n
def hasM (_:Nat)(c:List Cl):Nat:=match c with|[.sl _ rows,_,.int i]=>(rows.length-i).toNat|_=>0
theorem hasV {tb:Nat→List Cl→Cl}:Vc0 tb 9 Khas.ks (fun _=>True) hasInv (fun c r=>r=hasF c) hast:=by
 intro cls E hE hw _
 have hw':Wts [.sl 2,.int .i64] cls:=hw
 obtain⟨a,_,rfl,h1,hw'⟩:=hw'.cons_inv
 obtain⟨b,rfl,h2⟩:=hw'.one
 obtain⟨nl,rows,rfl,-,-,-⟩:=h1.sl_inv
 obtain⟨n,rfl,-,-⟩:=h2.int_inv
 simp only[hast,Tr.vc,To.goodT,List.map_cons,List.map_nil,hE.v,X.c_int,List.getD_cons_zero,List.getD_cons_succ,and_true]
 exact⟨nl,rows,n,0,rfl,rfl,by omega,by omega,by simp⟩
theorem hasV0 {tb:Nat→List Cl→Cl}:Vc (· < ·) hasM tb 9 hasc0.ks hasInv (fun c r=>r=hasF c) 0 hast0:=by
 rintro c0 cls E hE hw ⟨nl,rows,n,i,rfl,rfl,h1,h2,h3⟩
 have hw':Wts [.sl 2,.int .i64,.int .i64] [.sl nl rows,.int n,.int i]:=hw
 obtain⟨_,_,e,g,hw'⟩:=hw'.cons_inv;cases e
 obtain⟨_,_,e,hlen,-,hrows⟩:=g.sl_inv;cases e
 have hlen':(rows.length:Int)≤9223372036854775807:=by simp only[maxLen] at hlen;omega
 simp only[hast0,Tr.vc,To.goodT,List.map_cons,List.map_nil,hE.v,X.c_len,X.c_int,X.c_bool,X.c_bin,X.c_inr,X.c_el,X.kd,List.getD_cons_zero,List.getD_cons_succ,lenC,binD,intD,inrD,elD,Cl.bool.injEq,decide_eq_true_eq,decide_eq_false_iff_not,exists_eq',true_and,h1]
 refine⟨fun hlt=>⟨hlt,?_⟩,fun hge=>?_⟩
 ·obtain⟨r,hr,hwr,hd,_⟩:=row_at hrows (i:=i.toNat) (by omega)
  obtain⟨c,rfl,hc⟩:=hwr.one
  obtain⟨m,rfl,-,-⟩:=hc.int_inv
  rw[hr]
  simp only[List.getD_cons_zero,intD,Cl.bool.injEq,exists_eq',true_and,beq_iff_eq,beq_eq_false_iff_ne,ne_eq]
  rw[i64_id (by omega) (by omega)]
  have e2:(i+1).toNat=i.toNat+1:=by omega
  refine⟨fun hm=>?_,fun hm=>⟨⟨nl,rows,n,i+1,rfl,rfl,by omega,by omega,?_⟩,by simp only[hasM];omega⟩⟩
  ·simp only[hasF,h3,hd,hasN_cons,hm,beq_self_eq_true,Bool.true_or]
  ·rw[h3,hd,hasN_cons,e2]
   have:(m==n)=false:=by simpa using hm
   simp only[this,Bool.false_or]
 ·have:rows.drop i.toNat=[]:=List.drop_eq_nil_of_le (by omega)
  simp only[hasF,h3,this];rfl
theorem has_ok (hG:Gd0 k G)(hsz:Tryz.prog.globals.size≤k){tb:Nat→List Cl→Cl}(htb:Tb.tab=some (9,tb)):Khas.Sound Tryz.prog k G tb (fun _=>True) hasF:=
 Ctr.ofT (hk:=hk0) Nat.lt_wfRel.wf hasM hasInv hG (fun D=>@Hooks.nil _ (dcOf D) _ _ _ _) hsz (L:=9) (by kernel_rfl) htb (trs:=[hast0]) (by kernel_rfl) hast_ok hasV ⟨⟨hast0_ok,hasV0⟩,trivial⟩
def idxN (n:Int):List (List Cl)→Int→Int
 |[],_=>-1
 |r::rs,i=>cond (match r with|[.int m]=>m==n|_=>false) i (idxN n rs (i+1))
def indexF:List Cl→List Cl
 |[.sl _ rows,.int n]=>[.int (idxN n rows 0)]
 |_=>[]
def indexInv (_:Nat)(c0 c:List Cl):Prop:=∃ nl rows n i,c0=[.sl nl rows,.int n]∧c=[.sl nl rows,.int n,.int rows.length,.int i]∧0≤i∧i≤rows.length∧idxN n rows 0=idxN n (rows.drop i.toNat) i
def indexM (_:Nat)(c:List Cl):Nat:=match c with|[_,_,.int m,.int i]=>(m-i).toNat|_=>0
theorem indexV {tb:Nat→List Cl→Cl}:Vc0 tb 9 Kindex.ks (fun _=>True) indexInv (fun c r=>r=indexF c) indext:=by
 intro cls E hE hw _
 have hw':Wts [.sl 2,.int .i64] cls:=hw
 obtain⟨a,_,rfl,h1,hw'⟩:=hw'.cons_inv
 obtain⟨b,rfl,h2⟩:=hw'.one
 obtain⟨nl,rows,rfl,-,-,-⟩:=h1.sl_inv
 obtain⟨n,rfl,-,-⟩:=h2.int_inv
 simp only[indext,Tr.vc,To.goodT,List.map_cons,List.map_nil,hE.v,X.c_int,X.c_len,lenC,List.getD_cons_zero,List.getD_cons_succ,and_true]
 exact⟨nl,rows,n,0,rfl,rfl,by omega,by omega,by simp⟩
theorem indexV0 {tb:Nat→List Cl→Cl}:Vc (· < ·) indexM tb 9 indexc0.ks indexInv (fun c r=>r=indexF c) 0 indext0:=by
 rintro c0 cls E hE hw ⟨nl,rows,n,i,rfl,rfl,h1,h2,h3⟩
 have hw':Wts [.sl 2,.int .i64,.int .i64,.int .i64] [.sl nl rows,.int n,.int rows.length,.int i]:=hw
 obtain⟨_,_,e,g,hw'⟩:=hw'.cons_inv;cases e
 obtain⟨_,_,e,hlen,-,hrows⟩:=g.sl_inv;cases e
 have hlen':(rows.length:Int)≤9223372036854775807:=by simp only[maxLen] at hlen;omega
 simp only[indext0,Tr.vc,To.goodT,List.map_cons,List.map_nil,hE.v,X.c_len,X.c_int,X.c_bool,X.c_bin,X.c_inr,X.c_el,X.kd,List.getD_cons_zero,List.getD_cons_succ,lenC,binD,intD,inrD,elD,Cl.bool.injEq,decide_eq_true_eq,decide_eq_false_iff_not,exists_eq',true_and,h1]
 refine⟨fun hlt=>⟨hlt,?_⟩,fun hge=>?_⟩
 ·obtain⟨r,hr,hwr,hd,_⟩:=row_at hrows (i:=i.toNat) (by omega)
  obtain⟨c,rfl,hc⟩:=hwr.one
  obtain⟨m,rfl,-,-⟩:=hc.int_inv
  rw[hr]
  simp only[List.getD_cons_zero,intD,Cl.bool.injEq,exists_eq',true_and,beq_iff_eq,beq_eq_false_iff_ne,ne_eq]
  rw[i64_id (by omega) (by omega)]
  have e2:(i+1).toNat=i.toNat+1:=by omega
  refine⟨fun hm=>?_,fun hm=>⟨⟨nl,rows,n,i+1,rfl,rfl,by omega,by omega,?_⟩,by simp only[indexM];omega⟩⟩
  ·subst hm
   simp only[indexF,h3,hd,idxN,beq_self_eq_true,cond_true]
  ·rw[h3,hd,idxN,e2]
   have:(m==n)=false:=by simpa using fun h=>hm h.symm
   simp only[this,cond_false]
 ·have:rows.drop i.toNat=[]:=List.drop_eq_nil_of_le (by omega)
  simp only[indexF,h3,this];rfl
theorem index_ok (hG:Gd0 k G)(hsz:Tryz.prog.globals.size≤k){tb:Nat→List Cl→Cl}(htb:Tb.tab=some (9,tb)):Kindex.Sound Tryz.prog k G tb (fun _=>True) indexF:=
 Ctr.ofT (hk:=hk0) Nat.lt_wfRel.wf indexM indexInv hG (fun D=>@Hooks.nil _ (dcOf D) _ _ _ _) hsz (L:=9) (by kernel_rfl) htb (trs:=[indext0]) (by kernel_rfl) indext_ok indexV ⟨⟨indext0_ok,indexV0⟩,trivial⟩
theorem idxN_ge (n:Int):∀ (rows:List (List Cl))(i:Int),0≤i→(hasN rows n=true→i≤idxN n rows i)∧(hasN rows n=false→idxN n rows i = -1)
 |[],i,_=>⟨(fun h=>by cases h),fun _=>rfl⟩
 |r::rs,i,hi=>by
  obtain⟨h1,h2⟩:=idxN_ge n rs (i+1) (by omega)
  rw[hasN_cons]
  simp only[idxN]
  cases (match r with|[.int m]=>m==n|_=>false) with
  |true=>simp
  |false=>
   simp only[Bool.false_or,cond_false]
   exact⟨fun h=>by have:=h1 h;omega,h2⟩
end Go.Proofs.Wo

namespace Go.Proofs.Wo
open Go.Exo Go.Exo.Wo
set_option maxRecDepth 100000
set_option linter.all false
noncomputable def rwoc0:Ct:=⟨stTodo (outS Tryz.prog hkRwo 9 Krwo [((.bin .eql (.var 9 0 (.int .i64)) (.int .i64 (6))),true),((.app 9 0 (.cons (.var 9 6 (.sl 2)) (.cons (.var 9 2 (.int .i64)) .nilA)) .bool),false)] 15),[.junk,.x (.var 9 0 (.sl 2)),.x (.var 9 1 (.sl 2)),.ptr 10 0,.junk,.junk,.ptr 11 0,.nils,.int .i64 (0),.junk,.junk,.junk,.junk,.junk,.junk,.junk,.junk,.junk,.junk,.junk,.junk,.junk,.junk,.junk,.junk,.junk,.junk,.junk,.junk,.junk,.junk,.junk,.junk,.junk,.junk,.junk,.junk,.junk,.junk,.junk,.junk,.junk,.junk,.junk,.junk,.junk,.junk,.junk,.junk,.junk,.junk],[some (.cells 26 [.x (.var 9 2 (.int .i64)),.x (.var 9 3 .bool),.x (.var 9 4 (.int .i64)),.x (.var 9 5 .str),.x (.var 9 6 (.sl 9)),.x (.var 9 7 (.sl 26))] 0 false),some (.cells 26 [.int .i64 (0),.bool false,.int .i64 (0),.str 0 0,.nils,.nils] 0 false)],[(.sl 2),(.sl 2),(.int .i64),.bool,(.int .i64),.str,(.sl 9),(.sl 26)]⟩
noncomputable def rwoc1:Ct:=⟨stTodo (outC Tryz.prog hkRwo 9 9 rwoc0 [((.bin .lss (.int .i64 (0)) (.len (.var 9 7 (.sl 26)))),true),((.inr (.int .i64 (0)) (.len (.var 9 7 (.sl 26)))),true),((.app 9 1000000 (.cons (.el (.var 9 7 (.sl 26)) (.int .i64 (0)) 0 (.int .i64)) (.cons (.el (.var 9 7 (.sl 26)) (.int .i64 (0)) 1 .bool) (.cons (.el (.var 9 7 (.sl 26)) (.int .i64 (0)) 2 (.int .i64)) (.cons (.el (.var 9 7 (.sl 26)) (.int .i64 (0)) 3 .str) (.cons (.el (.var 9 7 (.sl 26)) (.int .i64 (0)) 4 (.sl 9)) (.cons (.el (.var 9 7 (.sl 26)) (.int .i64 (0)) 5 (.sl 26)) (.cons (.var 9 0 (.sl 2)) (.cons (.var 9 1 (.sl 2)) .nilA)))))))) .bool),true)] 12),[.junk,.x (.var 9 0 (.sl 2)),.x (.var 9 1 (.sl 2)),.ptr 10 0,.junk,.junk,.ptr 11 0,.lst 12 (.var 9 2 (.sl 26)),.x (.var 9 3 (.int .i64)),.junk,.junk,.junk,.junk,.junk,.junk,.junk,.junk,.junk,.junk,.junk,.junk,.junk,.junk,.junk,.junk,.junk,.junk,.junk,.junk,.junk,.junk,.junk,.junk,.junk,.junk,.junk,.junk,.junk,.junk,.junk,.junk,.junk,.junk,.junk,.junk,.junk,.junk,.junk,.junk,.junk,.junk],[some (.cells 26 [.x (.var 9 4 (.int .i64)),.x (.var 9 5 .bool),.x (.var 9 6 (.int .i64)),.x (.var 9 7 .str),.x (.var 9 8 (.sl 9)),.x (.var 9 9 (.sl 26))] 0 false),some (.cells 26 [.int .i64 (0),.bool false,.int .i64 (0),.str 0 0,.nils,.nils] 0 false),some (.own 26)],[(.sl 2),(.sl 2),(.sl 26),(.int .i64),(.int .i64),.bool,(.int .i64),.str,(.sl 9),(.sl 26)]⟩
noncomputable def rwocuts:List Ct:=[rwoc0,rwoc1]
def rwot:Tr:=.ask (.bin .eql (.var 9 0 (.int .i64)) (.int .i64 (6)))
 (.ask (.app 9 0 (.cons (.var 9 6 (.sl 2)) (.cons (.var 9 2 (.int .i64)) .nilA)) .bool)
 (.leaf 10 (.ret [] [(.int .i64 (0)),(.bool false),(.int .i64 (0)),(.str 0 0),(.nil 9),(.nil 26)]))
 (.leaf 15 (.cut 0 [10,11] [(.var 9 6 (.sl 2)),(.var 9 7 (.sl 2)),(.var 9 0 (.int .i64)),(.var 9 1 .bool),(.var 9 2 (.int .i64)),(.var 9 3 .str),(.var 9 4 (.sl 9)),(.var 9 5 (.sl 26))])))
 (.ask (.bin .eql (.var 9 0 (.int .i64)) (.int .i64 (7)))
 (.ask (.app 9 0 (.cons (.var 9 7 (.sl 2)) (.cons (.var 9 2 (.int .i64)) .nilA)) .bool)
 (.leaf 10 (.ret [] [(.int .i64 (0)),(.bool false),(.int .i64 (0)),(.str 0 0),(.nil 9),(.nil 26)]))
 (.leaf 15 (.cut 0 [10,11] [(.var 9 6 (.sl 2)),(.var 9 7 (.sl 2)),(.var 9 0 (.int .i64)),(.var 9 1 .bool),(.var 9 2 (.int .i64)),(.var 9 3 .str),(.var 9 4 (.sl 9)),(.var 9 5 (.sl 26))])))
 (.leaf 14 (.cut 0 [10,11] [(.var 9 6 (.sl 2)),(.var 9 7 (.sl 2)),(.var 9 0 (.int .i64)),(.var 9 1 .bool),(.var 9 2 (.int .i64)),(.var 9 3 .str),(.var 9 4 (.sl 9)),(.var 9 5 (.sl 26))])))
def rwot0:Tr:=.ask (.bin .lss (.int .i64 (0)) (.len (.var 9 7 (.sl 26))))
 (.must (.inr (.int .i64 (0)) (.len (.var 9 7 (.sl 26)))) true <|
 .must (.app 9 1000000 (.cons (.el (.var 9 7 (.sl 26)) (.int .i64 (0)) 0 (.int .i64)) (.cons (.el (.var 9 7 (.sl 26)) (.int .i64 (0)) 1 .bool) (.cons (.el (.var 9 7 (.sl 26)) (.int .i64 (0)) 2 (.int .i64)) (.cons (.el (.var 9 7 (.sl 26)) (.int .i64 (0)) 3 .str) (.cons (.el (.var 9 7 (.sl 26)) (.int .i64 (0)) 4 (.sl 9)) (.cons (.el (.var 9 7 (.sl 26)) (.int .i64 (0)) 5 (.sl 26)) (.cons (.var 9 0 (.sl 2)) (.cons (.var 9 1 (.sl 2)) .nilA)))))))) .bool) true <|
 .leaf 12 (.cut 1 [10,11,15] [(.var 9 0 (.sl 2)),(.var 9 1 (.sl 2)),(.snoc (.nil 26) (.cons (.app 9 10 (.cons (.el (.var 9 7 (.sl 26)) (.int .i64 (0)) 0 (.int .i64)) (.cons (.el (.var 9 7 (.sl 26)) (.int .i64 (0)) 1 .bool) (.cons (.el (.var 9 7 (.sl 26)) (.int .i64 (0)) 2 (.int .i64)) (.cons (.el (.var 9 7 (.sl 26)) (.int .i64 (0)) 3 .str) (.cons (.el (.var 9 7 (.sl 26)) (.int .i64 (0)) 4 (.sl 9)) (.cons (.el (.var 9 7 (.sl 26)) (.int .i64 (0)) 5 (.sl 26)) (.cons (.var 9 0 (.sl 2)) (.cons (.var 9 1 (.sl 2)) .nilA)))))))) (.int .i64)) (.cons (.app 9 11 (.cons (.el (.var 9 7 (.sl 26)) (.int .i64 (0)) 0 (.int .i64)) (.cons (.el (.var 9 7 (.sl 26)) (.int .i64 (0)) 1 .bool) (.cons (.el (.var 9 7 (.sl 26)) (.int .i64 (0)) 2 (.int .i64)) (.cons (.el (.var 9 7 (.sl 26)) (.int .i64 (0)) 3 .str) (.cons (.el (.var 9 7 (.sl 26)) (.int .i64 (0)) 4 (.sl 9)) (.cons (.el (.var 9 7 (.sl 26)) (.int .i64 (0)) 5 (.sl 26)) (.cons (.var 9 0 (.sl 2)) (.cons (.var 9 1 (.sl 2)) .nilA)))))))) .bool) (.cons (.app 9 12 (.cons (.el (.var 9 7 (.sl 26)) (.int .i64 (0)) 0 (.int .i64)) (.cons (.el (.var 9 7 (.sl 26)) (.int .i64 (0)) 1 .bool) (.cons (.el (.var 9 7 (.sl 26)) (.int .i64 (0)) 2 (.int .i64)) (.cons (.el (.var 9 7 (.sl 26)) (.int .i64 (0)) 3 .str) (.cons (.el (.var 9 7 (.sl 26)) (.int .i64 (0)) 4 (.sl 9)) (.cons (.el (.var 9 7 (.sl 26)) (.int .i64 (0)) 5 (.sl 26)) (.cons (.var 9 0 (.sl 2)) (.cons (.var 9 1 (.sl 2)) .nilA)))))))) (.int .i64)) (.cons (.app 9 13 (.cons (.el (.var 9 7 (.sl 26)) (.int .i64 (0)) 0 (.int .i64)) (.cons (.el (.var 9 7 (.sl 26)) (.int .i64 (0)) 1 .bool) (.cons (.el (.var 9 7 (.sl 26)) (.int .i64 (0)) 2 (.int .i64)) (.cons (.el (.var 9 7 (.sl 26)) (.int .i64 (0)) 3 .str) (.cons (.el (.var 9 7 (.sl 26)) (.int .i64 (0)) 4 (.sl 9)) (.cons (.el (.var 9 7 (.sl 26)) (.int .i64 (0)) 5 (.sl 26)) (.cons (.var 9 0 (.sl 2)) (.cons (.var 9 1 (.sl 2)) .nilA)))))))) .str) (.cons (.app 9 14 (.cons (.el (.var 9 7 (.sl 26)) (.int .i64 (0)) 0 (.int .i64)) (.cons (.el (.var 9 7 (.sl 26)) (.int .i64 (0)) 1 .bool) (.cons (.el (.var 9 7 (.sl 26)) (.int .i64 (0)) 2 (.int .i64)) (.cons (.el (.var 9 7 (.sl 26)) (.int .i64 (0)) 3 .str) (.cons (.el (.var 9 7 (.sl 26)) (.int .i64 (0)) 4 (.sl 9)) (.cons (.el (.var 9 7 (.sl 26)) (.int .i64 (0)) 5 (.sl 26)) (.cons (.var 9 0 (.sl 2)) (.cons (.var 9 1 (.sl 2)) .nilA)))))))) (.sl 9)) (.cons (.app 9 15 (.cons (.el (.var 9 7 (.sl 26)) (.int .i64 (0)) 0 (.int .i64)) (.cons (.el (.var 9 7 (.sl 26)) (.int .i64 (0)) 1 .bool) (.cons (.el (.var 9 7 (.sl 26)) (.int .i64 (0)) 2 (.int .i64)) (.cons (.el (.var 9 7 (.sl 26)) (.int .i64 (0)) 3 .str) (.cons (.el (.var 9 7 (.sl 26)) (.int .i64 (0)) 4 (.sl 9)) (.cons (.el (.var 9 7 (.sl 26)) (.int .i64 (0)) 5 (.sl 26)) (.cons (.var 9 0 (.sl 2)) (.cons (.var 9 1 (.sl 2)) .nilA)))))))) (.sl 26)) .nilA))))))),(.int .i64 (1)),(.var 9 2 (.int .i64)),(.var 9 3 .bool),(.var 9 4 (.int .i64)),(.var 9 5 .str),(.var 9 6 (.sl 9)),(.var 9 7 (.sl 26))]))
 (.leaf 10 (.ret [] [(.var 9 2 (.int .i64)),(.var 9 3 .bool),(.var 9 4 (.int .i64)),(.var 9 5 .str),(.var 9 6 (.sl 9)),(.nil 26)]))
def rwot1:Tr:=.ask (.bin .lss (.var 9 3 (.int .i64)) (.len (.var 9 9 (.sl 26))))
 (.must (.inr (.var 9 3 (.int .i64)) (.len (.var 9 9 (.sl 26)))) true <|
 .must (.app 9 1000000 (.cons (.el (.var 9 9 (.sl 26)) (.var 9 3 (.int .i64)) 0 (.int .i64)) (.cons (.el (.var 9 9 (.sl 26)) (.var 9 3 (.int .i64)) 1 .bool) (.cons (.el (.var 9 9 (.sl 26)) (.var 9 3 (.int .i64)) 2 (.int .i64)) (.cons (.el (.var 9 9 (.sl 26)) (.var 9 3 (.int .i64)) 3 .str) (.cons (.el (.var 9 9 (.sl 26)) (.var 9 3 (.int .i64)) 4 (.sl 9)) (.cons (.el (.var 9 9 (.sl 26)) (.var 9 3 (.int .i64)) 5 (.sl 26)) (.cons (.var 9 0 (.sl 2)) (.cons (.var 9 1 (.sl 2)) .nilA)))))))) .bool) true <|
 .must (.inr (.len (.var 9 2 (.sl 26))) (.int .i64 (1599289640401))) true <|
 .leaf 12 (.cut 1 [10,11,15] [(.var 9 0 (.sl 2)),(.var 9 1 (.sl 2)),(.snoc (.var 9 2 (.sl 26)) (.cons (.app 9 10 (.cons (.el (.var 9 9 (.sl 26)) (.var 9 3 (.int .i64)) 0 (.int .i64)) (.cons (.el (.var 9 9 (.sl 26)) (.var 9 3 (.int .i64)) 1 .bool) (.cons (.el (.var 9 9 (.sl 26)) (.var 9 3 (.int .i64)) 2 (.int .i64)) (.cons (.el (.var 9 9 (.sl 26)) (.var 9 3 (.int .i64)) 3 .str) (.cons (.el (.var 9 9 (.sl 26)) (.var 9 3 (.int .i64)) 4 (.sl 9)) (.cons (.el (.var 9 9 (.sl 26)) (.var 9 3 (.int .i64)) 5 (.sl 26)) (.cons (.var 9 0 (.sl 2)) (.cons (.var 9 1 (.sl 2)) .nilA)))))))) (.int .i64)) (.cons (.app 9 11 (.cons (.el (.var 9 9 (.sl 26)) (.var 9 3 (.int .i64)) 0 (.int .i64)) (.cons (.el (.var 9 9 (.sl 26)) (.var 9 3 (.int .i64)) 1 .bool) (.cons (.el (.var 9 9 (.sl 26)) (.var 9 3 (.int .i64)) 2 (.int .i64)) (.cons (.el (.var 9 9 (.sl 26)) (.var 9 3 (.int .i64)) 3 .str) (.cons (.el (.var 9 9 (.sl 26)) (.var 9 3 (.int .i64)) 4 (.sl 9)) (.cons (.el (.var 9 9 (.sl 26)) (.var 9 3 (.int .i64)) 5 (.sl 26)) (.cons (.var 9 0 (.sl 2)) (.cons (.var 9 1 (.sl 2)) .nilA)))))))) .bool) (.cons (.app 9 12 (.cons (.el (.var 9 9 (.sl 26)) (.var 9 3 (.int .i64)) 0 (.int .i64)) (.cons (.el (.var 9 9 (.sl 26)) (.var 9 3 (.int .i64)) 1 .bool) (.cons (.el (.var 9 9 (.sl 26)) (.var 9 3 (.int .i64)) 2 (.int .i64)) (.cons (.el (.var 9 9 (.sl 26)) (.var 9 3 (.int .i64)) 3 .str) (.cons (.el (.var 9 9 (.sl 26)) (.var 9 3 (.int .i64)) 4 (.sl 9)) (.cons (.el (.var 9 9 (.sl 26)) (.var 9 3 (.int .i64)) 5 (.sl 26)) (.cons (.var 9 0 (.sl 2)) (.cons (.var 9 1 (.sl 2)) .nilA)))))))) (.int .i64)) (.cons (.app 9 13 (.cons (.el (.var 9 9 (.sl 26)) (.var 9 3 (.int .i64)) 0 (.int .i64)) (.cons (.el (.var 9 9 (.sl 26)) (.var 9 3 (.int .i64)) 1 .bool) (.cons (.el (.var 9 9 (.sl 26)) (.var 9 3 (.int .i64)) 2 (.int .i64)) (.cons (.el (.var 9 9 (.sl 26)) (.var 9 3 (.int .i64)) 3 .str) (.cons (.el (.var 9 9 (.sl 26)) (.var 9 3 (.int .i64)) 4 (.sl 9)) (.cons (.el (.var 9 9 (.sl 26)) (.var 9 3 (.int .i64)) 5 (.sl 26)) (.cons (.var 9 0 (.sl 2)) (.cons (.var 9 1 (.sl 2)) .nilA)))))))) .str) (.cons (.app 9 14 (.cons (.el (.var 9 9 (.sl 26)) (.var 9 3 (.int .i64)) 0 (.int .i64)) (.cons (.el (.var 9 9 (.sl 26)) (.var 9 3 (.int .i64)) 1 .bool) (.cons (.el (.var 9 9 (.sl 26)) (.var 9 3 (.int .i64)) 2 (.int .i64)) (.cons (.el (.var 9 9 (.sl 26)) (.var 9 3 (.int .i64)) 3 .str) (.cons (.el (.var 9 9 (.sl 26)) (.var 9 3 (.int .i64)) 4 (.sl 9)) (.cons (.el (.var 9 9 (.sl 26)) (.var 9 3 (.int .i64)) 5 (.sl 26)) (.cons (.var 9 0 (.sl 2)) (.cons (.var 9 1 (.sl 2)) .nilA)))))))) (.sl 9)) (.cons (.app 9 15 (.cons (.el (.var 9 9 (.sl 26)) (.var 9 3 (.int .i64)) 0 (.int .i64)) (.cons (.el (.var 9 9 (.sl 26)) (.var 9 3 (.int .i64)) 1 .bool) (.cons (.el (.var 9 9 (.sl 26)) (.var 9 3 (.int .i64)) 2 (.int .i64)) (.cons (.el (.var 9 9 (.sl 26)) (.var 9 3 (.int .i64)) 3 .str) (.cons (.el (.var 9 9 (.sl 26)) (.var 9 3 (.int .i64)) 4 (.sl 9)) (.cons (.el (.var 9 9 (.sl 26)) (.var 9 3 (.int .i64)) 5 (.sl 26)) (.cons (.var 9 0 (.sl 2)) (.cons (.var 9 1 (.sl 2)) .nilA)))))))) (.sl 26)) .nilA))))))),(.bin .add (.var 9 3 (.int .i64)) (.int .i64 (1))),(.var 9 4 (.int .i64)),(.var 9 5 .bool),(.var 9 6 (.int .i64)),(.var 9 7 .str),(.var 9 8 (.sl 9)),(.var 9 9 (.sl 26))]))
 (.leaf 10 (.ret [] [(.var 9 4 (.int .i64)),(.var 9 5 .bool),(.var 9 6 (.int .i64)),(.var 9 7 .str),(.var 9 8 (.sl 9)),(.var 9 2 (.sl 26))]))
theorem rwot_ok:Pth.allS Tryz.prog hkRwo 9 Krwo rwocuts (rwot.paths []):=
 ⟨Pth.okS_ret (by kernel_rfl) (by kernel_rfl),
  Pth.okS_cut rwoc0 rfl (by kernel_rfl) (by kernel_rfl),
  Pth.okS_ret (by kernel_rfl) (by kernel_rfl),
  Pth.okS_cut rwoc0 rfl (by kernel_rfl) (by kernel_rfl),
  Pth.okS_cut rwoc0 rfl (by kernel_rfl) (by kernel_rfl),
  trivial⟩
theorem rwot0_ok:Pth.allC Tryz.prog hkRwo 9 Krwo rwocuts rwoc0 (rwot0.paths []):=
 ⟨Pth.okC_cut rwoc1 rfl (by kernel_rfl) (by kernel_rfl),
  Pth.okC_ret (by kernel_rfl) (by kernel_rfl),
  trivial⟩
theorem rwot1_ok:Pth.allC Tryz.prog hkRwo 9 Krwo rwocuts rwoc1 (rwot1.paths []):=
 ⟨Pth.okC_cut rwoc1 rfl (by kernel_rfl) (by kernel_rfl),
  Pth.okC_ret (by kernel_rfl) (by kernel_rfl),
  trivial⟩
variable {k:Nat}{G:World→Prop}
set_option maxHeartbeats 4000000
inductive WoR (N R:List (List Cl)):List Cl→List Cl→Prop
 |gone {k:Int}{b:Bool}{n:Int}{s:List UInt8}{nl:Bool}{ys:List (List Cl)}{ml:Bool}{rs:List (List Cl)}{r:List Cl}:goes N R k n=true→nrmR r=nrmR zeroR→WoR N R [.int k,.bool b,.int n,.str s,.sl nl ys,.sl ml rs] r
 |kept {k:Int}{b:Bool}{n:Int}{s:List UInt8}{nl:Bool}{ys:List (List Cl)}{ml:Bool}{rs:List (List Cl)}{nl' ml':Bool}{ys' rs':List (List Cl)}:goes N R k n=false→nrmRs ys'=nrmRs ys→rs'.length=rs.length→
   (∀ (i:Nat) r r',rs[i]? = some r→rs'[i]? = some r'→WoR N R r r')→WoR N R [.int k,.bool b,.int n,.str s,.sl nl ys,.sl ml rs] [.int k,.bool b,.int n,.str s,.sl nl' ys',.sl ml' rs']
def rwoPre (n:Nat)(c:List Cl):Prop:=Bws vK (c.take 6)∧SizeOf.sizeOf (c.take 6)<n
def rwoPost (c r:List Cl):Prop:=r.length≤6∧∀ (k:Int)(b:Bool)(n:Int)(s:List UInt8)(nl:Bool)(ys:List (List Cl))(ml:Bool)(rs:List (List Cl))(nn:Bool)(N:List (List Cl))(rn:Bool)(R:List (List Cl)),
 c=[.int k,.bool b,.int n,.str s,.sl nl ys,.sl ml rs,.sl nn N,.sl rn R]→Wts vK [.int k,.bool b,.int n,.str s,.sl nl ys,.sl ml rs]→WoR N R [.int k,.bool b,.int n,.str s,.sl nl ys,.sl ml rs] r
open Classical in
noncomputable def tbW (F:List Cl→List Cl)(m:Nat)(f:Nat)(c:List Cl):Cl:=if f=1000000 then .bool (decide (rwoPre m c)) else if f=0 then (hasF c).getD 0 .no else (F c).getD (f-10) .no
def rwoInv (m:Nat)(j:Nat)(c0 c:List Cl):Prop:=∃ (k:Int)(b:Bool)(n:Int)(s:List UInt8)(nl:Bool)(ys:List (List Cl))(ml:Bool)(rs:List (List Cl))(nn:Bool)(N:List (List Cl))(rn:Bool)(R:List (List Cl)),
 c0=[.int k,.bool b,.int n,.str s,.sl nl ys,.sl ml rs,.sl nn N,.sl rn R]∧rwoPre (m+1) c0∧goes N R k n=false∧
 (j=0→c=[.sl nn N,.sl rn R,.int k,.bool b,.int n,.str s,.sl nl ys,.sl ml rs])∧
 (j≠0→∃ out i,c=[.sl nn N,.sl rn R,.sl false out,.int i,.int k,.bool b,.int n,.str s,.sl nl ys,.sl ml rs]∧(out.length:Int)=i∧i≤rs.length∧∀ (i:Nat) r r',rs[i]? = some r→out[i]? = some r'→WoR N R r r')
def rwoM (j:Nat)(c:List Cl):Nat:=match c with
 |[_,_,_,_,_,_,_,.sl _ rs]=>rs.length+1
 |[_,_,.sl _ out,_,_,_,_,_,_,.sl _ rs]=>rs.length-out.length
 |_=>0
theorem rwoEnd {c:List Cl}{k:Int}{b:Bool}{n:Int}{s:List UInt8}{nl:Bool}{ys:List (List Cl)}{ml:Bool}{rs:List (List Cl)}{nn:Bool}{N:List (List Cl)}{rn:Bool}{R:List (List Cl)}{r:List Cl}(h:WoR N R [.int k,.bool b,.int n,.str s,.sl nl ys,.sl ml rs] r)(hl:r.length≤6) :
  rwoPost [.int k,.bool b,.int n,.str s,.sl nl ys,.sl ml rs,.sl nn N,.sl rn R] r:=by
 refine⟨hl,?_⟩
 rintro k b n s nl ys ml rs nn N rn R e -
 simp only[List.cons.injEq,Cl.int.injEq,Cl.bool.injEq,Cl.str.injEq,Cl.sl.injEq,and_true] at e
 obtain⟨rfl,rfl,rfl,rfl,⟨rfl,rfl⟩,⟨rfl,rfl⟩,⟨rfl,rfl⟩,rfl,rfl⟩:=e
 exact h
theorem tbW0 {F:List Cl→List Cl}{m:Nat}{nn:Bool}{N:List (List Cl)}{n:Int}:tbW F m 0 [.sl nn N,.int n]=.bool (hasN N n):=by
 unfold tbW;rw[if_neg (by decide),if_pos rfl];rfl
theorem rwoV {m:Nat}{F:List Cl→List Cl}:Vc0 (tbW F m) 9 Krwo.ks (rwoPre (m+1)) (rwoInv m) rwoPost rwot:=by
 intro cls E hE hw hp
 have hw':Wts (vK++[.sl 2,.sl 2]) cls:=hw
 obtain⟨a,b',rfl,ha,hb⟩:=wts_app hw'
 obtain⟨k,b,n,s,nl,ys,ml,rs,rfl,-⟩:=row6 ha
 obtain⟨_,_,rfl,h1,h2⟩:=hb.cons_inv
 obtain⟨nn,N,rfl,-,-,-⟩:=h1.sl_inv
 obtain⟨_,rfl,h3⟩:=h2.one
 obtain⟨rn,R,rfl,-,-,-⟩:=h3.sl_inv
 simp only[List.cons_append,List.nil_append] at hp hE ⊢
 simp only[rwot,Tr.vc,To.goodT,List.map_cons,List.map_nil,hE.v,hE.a,X.d_cons,X.d_nil,X.c_int,X.c_bool,X.c_str,X.c_nil,X.c_bin,X.kd,isCmp,cond_true,cond_false,binD,intD,List.getD_cons_zero,List.getD_cons_succ,tbW0,Cl.bool.injEq,exists_eq',true_and,and_true,beq_iff_eq,beq_eq_false_iff_ne,ne_eq]
 have fin:goes N R k n=false→rwoInv m 0 [.int k,.bool b,.int n,.str s,.sl nl ys,.sl ml rs,.sl nn N,.sl rn R] [.sl nn N,.sl rn R,.int k,.bool b,.int n,.str s,.sl nl ys,.sl ml rs]:=fun h=>⟨k,b,n,s,nl,ys,ml,rs,nn,N,rn,R,rfl,hp,h,fun _=>rfl,fun h=>absurd rfl h⟩
 have zer:goes N R k n=true→rwoPost [.int k,.bool b,.int n,.str s,.sl nl ys,.sl ml rs,.sl nn N,.sl rn R] [.int 0,.bool false,.int 0,.str (sB 0 0),.sl true [],.sl true []]:=fun h=>rwoEnd (c:=[]) (.gone h rfl) (by simp)
 refine⟨fun h6=>⟨fun hh=>zer ?_,fun hh=>fin ?_⟩,fun h6=>⟨fun h7=>⟨fun hh=>zer ?_,fun hh=>fin ?_⟩,fun h7=>fin ?_⟩⟩
 ·simp[goes,h6,hh]
 ·simp[goes,h6,hh]
 ·simp[goes,h7,hh]
 ·simp[goes,h7,hh]
 ·simp[goes,h6,h7]
open Classical in
theorem rwoRow {m:Nat}{F:List Cl→List Cl}(hF:∀ c,rwoPost c (F c)){k:Int}{b:Bool}{n:Int}{s:List UInt8}{nl:Bool}{ys:List (List Cl)}{ml:Bool}{rs:List (List Cl)}{nn:Bool}{N:List (List Cl)}{rn:Bool}{R:List (List Cl)}(hp:rwoPre (m+1) [.int k,.bool b,.int n,.str s,.sl nl ys,.sl ml rs,.sl nn N,.sl rn R]){i:Nat}{r:List Cl}(hr:rs[i]? = some r)(hw:Wts vK r) :
  tbW F m 1000000 [r.getD 0 .no,r.getD 1 .no,r.getD 2 .no,r.getD 3 .no,r.getD 4 .no,r.getD 5 .no,.sl nn N,.sl rn R]=.bool true∧
  WoR N R r [tbW F m 10 [r.getD 0 .no,r.getD 1 .no,r.getD 2 .no,r.getD 3 .no,r.getD 4 .no,r.getD 5 .no,.sl nn N,.sl rn R],tbW F m 11 [r.getD 0 .no,r.getD 1 .no,r.getD 2 .no,r.getD 3 .no,r.getD 4 .no,r.getD 5 .no,.sl nn N,.sl rn R],tbW F m 12 [r.getD 0 .no,r.getD 1 .no,r.getD 2 .no,r.getD 3 .no,r.getD 4 .no,r.getD 5 .no,.sl nn N,.sl rn R],tbW F m 13 [r.getD 0 .no,r.getD 1 .no,r.getD 2 .no,r.getD 3 .no,r.getD 4 .no,r.getD 5 .no,.sl nn N,.sl rn R],tbW F m 14 [r.getD 0 .no,r.getD 1 .no,r.getD 2 .no,r.getD 3 .no,r.getD 4 .no,r.getD 5 .no,.sl nn N,.sl rn R],tbW F m 15 [r.getD 0 .no,r.getD 1 .no,r.getD 2 .no,r.getD 3 .no,r.getD 4 .no,r.getD 5 .no,.sl nn N,.sl rn R]]:=by
 obtain⟨k',b',n',s',nl',ys',ml',rs',rfl,-⟩:=row6 hw
 obtain⟨hB,hm⟩:=hp
 have hmem:=List.mem_of_getElem? hr
 have hwo:=(hF [.int k',.bool b',.int n',.str s',.sl nl' ys',.sl ml' rs',.sl nn N,.sl rn R]).2 _ _ _ _ _ _ _ _ _ _ _ _ rfl hw
 have hl:=(hF [.int k',.bool b',.int n',.str s',.sl nl' ys',.sl ml' rs',.sl nn N,.sl rn R]).1
 generalize hFr:F [.int k',.bool b',.int n',.str s',.sl nl' ys',.sl ml' rs',.sl nn N,.sl rn R]=fr at hwo hl
 simp only[List.getD_cons_zero,List.getD_cons_succ]
 have h6:fr=[fr.getD 0 .no,fr.getD 1 .no,fr.getD 2 .no,fr.getD 3 .no,fr.getD 4 .no,fr.getD 5 .no]:=by
  have:fr.length=6:=by
   cases hwo with
   |gone _ h=>have:=congrArg List.length h;simpa[nrmR_eq,zeroR] using this
   |kept=>rfl
  match fr,this with
  |[a0,a1,a2,a3,a4,a5],_=>rfl
 refine⟨?_,?_⟩
 ·unfold tbW
  rw[if_pos rfl,decide_eq_true]
  refine⟨(bws_rs hB).open.2 _ hmem,?_⟩
  have z1:=List.sizeOf_lt_of_mem hmem
  simp only[List.take_succ_cons,List.take_zero,List.cons.sizeOf_spec,List.nil.sizeOf_spec,Cl.sl.sizeOf_spec] at z1 hm ⊢
  omega
 ·have t:∀ j,j<6→tbW F m (10+j) [.int k',.bool b',.int n',.str s',.sl nl' ys',.sl ml' rs',.sl nn N,.sl rn R]=fr.getD j .no:=fun j hj=>by unfold tbW;rw[if_neg (by omega),if_neg (by omega),hFr,show 10+j-10=j by omega]
  rw[t 0 (by omega),t 1 (by omega),t 2 (by omega),t 3 (by omega),t 4 (by omega),t 5 (by omega),← h6]
  exact hwo
theorem hasS (hG:Gd0 k G)(hsz:Tryz.prog.globals.size≤k):Khas.Sound Tryz.prog k G (fun _ _=>.no) (fun _=>True) hasF:=by
 letI:Tb:=⟨some (9,fun _ _=>.no)⟩
 exact has_ok hG hsz rfl
theorem rwoV0 {m:Nat}{F:List Cl→List Cl}(hF:∀ c,rwoPost c (F c)):Vc (· < ·) rwoM (tbW F m) 9 rwoc0.ks (rwoInv m) rwoPost 0 rwot0:=by
 rintro c0 cls E hE hw ⟨k,b,n,s,nl,ys,ml,rs,nn,N,rn,R,rfl,hp,hg,hc,-⟩
 obtain rfl:=hc rfl
 have hw':Wts ([.sl 2,.sl 2]++vK) ([.sl nn N,.sl rn R]++[.int k,.bool b,.int n,.str s,.sl nl ys,.sl ml rs]):=hw
 obtain⟨_,_,e,ha,hb⟩:=wts_app hw'
 obtain⟨_,_,rfl,_,h2⟩:=ha.cons_inv
 obtain⟨_,rfl,_⟩:=h2.one
 simp only[List.cons_append,List.nil_append,List.cons.injEq,true_and] at e
 obtain⟨-,-,rfl⟩:=e
 obtain⟨_,_,_,_,_,_,_,_,e,hl,-⟩:=row6 hb
 simp only[List.cons.injEq,Cl.int.injEq,Cl.bool.injEq,Cl.str.injEq,Cl.sl.injEq,and_true,true_and] at e
 obtain⟨-,-,-,-,⟨-,rfl⟩,-,rfl⟩:=e
 obtain⟨q1,q2,q3,q4⟩:=ls2 hl
 simp only[maxLen] at q1 q3
 simp only[rwot0,Tr.vc,To.goodT,List.map_cons,List.map_nil,hE.v,hE.a,X.d_cons,X.d_nil,X.c_int,X.c_bool,X.c_nil,X.c_bin,X.c_len,X.c_inr,X.c_el,X.c_snoc,snocD,lenC,inrD,elD,X.kd,isCmp,cond_true,cond_false,binD,intD,List.getD_cons_zero,List.getD_cons_succ,Cl.bool.injEq,exists_eq',true_and,and_true,decide_eq_true_eq,decide_eq_false_iff_not]
 refine⟨fun hlt=>?_,fun hge=>?_⟩
 ·obtain⟨r,hr,hwr,hd,hme⟩:=row_at q4 (i:=0) (by omega)
  obtain⟨t1,t2⟩:=rwoRow hF hp hme hwr
  have e0:rs.getD (0:Int).toNat []=r:=hr
  rw[e0]
  refine⟨by omega,t1,⟨k,b,n,s,nl,ys,ml,rs,nn,N,rn,R,rfl,hp,hg,fun h=>absurd h (by decide),fun _=>⟨_,_,rfl,?_,by omega,?_⟩⟩,?_⟩
  ·simp
  ·intro i r1 r2 h1 h2
   cases i with
   |zero=>rw[hme] at h1;cases h1;simp only[List.nil_append,List.getElem?_cons_zero,Option.some.injEq] at h2;rw[← h2];exact t2
   |succ i=>simp at h2
  ·show rs.length-1<rs.length+1
   omega
 ·have h0:rs=[]:=List.length_eq_zero_iff.1 (by omega)
  subst h0
  exact rwoEnd (c:=[]) (.kept hg rfl rfl (fun i r r' h=>by simp at h)) (by simp)
theorem rwoV1 {m:Nat}{F:List Cl→List Cl}(hF:∀ c,rwoPost c (F c)):Vc (· < ·) rwoM (tbW F m) 9 rwoc1.ks (rwoInv m) rwoPost 1 rwot1:=by
 rintro c0 cls E hE hw ⟨k,b,n,s,nl,ys,ml,rs,nn,N,rn,R,rfl,hp,hg,-,hc⟩
 obtain⟨out,i,rfl,ho,hi,hn⟩:=hc (by decide)
 have hw':Wts ([.sl 2,.sl 2,.sl 26,.int .i64]++vK) ([.sl nn N,.sl rn R,.sl false out,.int i]++[.int k,.bool b,.int n,.str s,.sl nl ys,.sl ml rs]):=hw
 obtain⟨_,_,e,ha,hb⟩:=wts_app hw'
 obtain⟨_,_,rfl,_,h2⟩:=ha.cons_inv
 obtain⟨_,_,rfl,_,h3⟩:=h2.cons_inv
 obtain⟨_,_,rfl,_,h5⟩:=h3.cons_inv
 obtain⟨_,rfl,_⟩:=h5.one
 simp only[List.cons_append,List.nil_append,List.cons.injEq,true_and] at e
 obtain⟨-,-,-,-,rfl⟩:=e
 obtain⟨_,_,_,_,_,_,_,_,e,hl,-⟩:=row6 hb
 simp only[List.cons.injEq,Cl.int.injEq,Cl.bool.injEq,Cl.str.injEq,Cl.sl.injEq,and_true,true_and] at e
 obtain⟨-,-,-,-,⟨-,rfl⟩,-,rfl⟩:=e
 obtain⟨q1,q2,q3,q4⟩:=ls2 hl
 simp only[maxLen] at q1 q3
 have hbd:rs.length*88≤140737488355328:=(bws_rs hp.1).open.1
 have h0:0≤i:=by omega
 simp only[rwot1,Tr.vc,To.goodT,List.map_cons,List.map_nil,hE.v,hE.a,X.d_cons,X.d_nil,X.c_int,X.c_bool,X.c_nil,X.c_bin,X.c_len,X.c_inr,X.c_el,X.c_snoc,snocD,lenC,inrD,elD,X.kd,isCmp,cond_true,cond_false,binD,intD,List.getD_cons_zero,List.getD_cons_succ,Cl.bool.injEq,exists_eq',true_and,and_true,decide_eq_true_eq,decide_eq_false_iff_not,h0]
 refine⟨fun hlt=>?_,fun hge=>?_⟩
 ·obtain⟨r,hr,hwr,hd,hme⟩:=row_at q4 (i:=i.toNat) (by omega)
  obtain⟨t1,t2⟩:=rwoRow hF hp hme hwr
  rw[hr,i64_id (n:=i+1) (by omega) (by omega)]
  refine⟨hlt,t1,by omega,⟨k,b,n,s,nl,ys,ml,rs,nn,N,rn,R,rfl,hp,hg,fun h=>absurd h (by decide),fun _=>⟨_,_,rfl,?_,by omega,?_⟩⟩,?_⟩
  ·simp;omega
  ·intro j r1 r2 h1 h2
   by_cases hj:j<out.length
   ·rw[List.getElem?_append_left hj] at h2;exact hn j r1 r2 h1 h2
   ·have hj2:j=out.length:=by
     have:=(List.getElem?_eq_some_iff.1 h2).1
     simp at this;omega
    subst hj2
    have eo:i.toNat=out.length:=by omega
    rw[eo,h1] at hme
    cases hme
    simp at h2
    rw[← h2];exact t2
  ·show rs.length-(out++[_]).length<rs.length-out.length
   simp;omega
 ·exact rwoEnd (c:=[]) (.kept hg rfl (by omega) hn) (by simp)
theorem wor_len {N R:List (List Cl)}{r r':List Cl}(h:WoR N R r r'):r'.length=6:=by
 cases h with
 |gone _ h=>have:=congrArg List.length h;simpa[nrmR_eq,zeroR] using this
 |kept=>rfl
open Classical in
theorem wor_ex (N R:List (List Cl)):∀ (n:Nat)(r:List Cl),SizeOf.sizeOf r<n→Wts vK r→∃ r',WoR N R r r'
 |0,_,h,_=>by omega
 |n+1,r,h,hw=>by
  obtain⟨k,b,n',s,nl,ys,ml,rs,rfl,hl,-⟩:=row6 hw
  cases hg:goes N R k n' with
  |true=>exact⟨zeroR,.gone hg rfl⟩
  |false=>
   refine⟨_,.kept (ys':=ys) (nl':=nl) (ml':=ml) (rs':=rs.map fun r=>if h:∃ r',WoR N R r r' then h.choose else []) hg rfl (by simp) fun i r1 r2 h1 h2=>?_⟩
   rw[List.getElem?_map,h1] at h2
   simp only[Option.map_some,Option.some.injEq] at h2
   have hmem:=List.mem_of_getElem? h1
   have z1:=List.sizeOf_lt_of_mem hmem
   simp only[List.cons.sizeOf_spec,List.nil.sizeOf_spec,Cl.sl.sizeOf_spec] at h
   have hex:=wor_ex N R n r1 (by omega) ((ls2 hl).2.2.2 _ hmem)
   rw[dif_pos hex] at h2
   rw[← h2];exact hex.choose_spec
open Classical in
theorem rwoEx (c:List Cl):∃ r,rwoPost c r:=by
 by_cases h:∃ (k:Int)(b:Bool)(n:Int)(s:List UInt8)(nl:Bool)(ys:List (List Cl))(ml:Bool)(rs:List (List Cl))(nn:Bool)(N:List (List Cl))(rn:Bool)(R:List (List Cl)),c=[.int k,.bool b,.int n,.str s,.sl nl ys,.sl ml rs,.sl nn N,.sl rn R]∧Wts vK [.int k,.bool b,.int n,.str s,.sl nl ys,.sl ml rs]
 ·obtain⟨k,b,n,s,nl,ys,ml,rs,nn,N,rn,R,rfl,hw⟩:=h
  obtain⟨r',hr⟩:=wor_ex N R _ _ (Nat.lt_succ_self _) hw
  exact⟨r',rwoEnd (c:=[]) hr (Nat.le_of_eq (wor_len hr))⟩
 ·exact⟨[],by simp,fun k b n s nl ys ml rs nn N rn R e hw=>(h ⟨k,b,n,s,nl,ys,ml,rs,nn,N,rn,R,e,hw⟩).elim⟩
open Classical in
theorem rwo_n (hG:Gd0 k G)(hk0:0<k)(hsz:Tryz.prog.globals.size≤k):∀ n,∃ tb F,Krwo.Sound Tryz.prog k G tb (rwoPre n) F∧∀ c,rwoPost c (F c):=by
 intro n
 induction n with
 |zero=>exact⟨fun _ _=>.no,fun c=>(rwoEx c).choose,fun w old hold φ pls cls xs _ _ _ _ _ _ _ hp=>absurd hp.2 (by omega),fun c=>(rwoEx c).choose_spec⟩
 |succ m ih=>
  obtain⟨tb,F,hS,hF⟩:=ih
  letI:Tb:=⟨some (9,tbW F m)⟩
  obtain⟨F',h1,h2⟩:=Ctr.total (hk:=hkRwo) Nat.lt_wfRel.wf rwoM (rwoInv m) rwoPost hG (fun D=>@Hooks.or _ (dcOf D) _ _ _ _ _ _
     (@Hooks.ctr _ (dcOf D) _ _ _ _ 9 (by kernel_rfl) _ _ _ _ (hasS hG hsz) (by kernel_rfl) _ _ (fun cls j c h=>by
      have hj:j=0:=by
       have:=(List.getElem?_eq_some_iff.1 h).1
       have h2:(hasF cls).length≤1:=by unfold hasF;split<;>simp
       omega
      subst hj
      simp[tbW,List.getD_eq_getElem?_getD,h]) none (fun _=>trivial) hG hk0 hsz rfl)
     (@Hooks.ctr _ (dcOf D) _ _ _ _ 9 (by kernel_rfl) _ _ _ _ hS (by kernel_rfl) _ _ (fun cls j c h=>by
      have hj:j<6:=by
       have:=(List.getElem?_eq_some_iff.1 h).1
       have:=(hF cls).1
       omega
      unfold tbW
      rw[if_neg (by omega),if_neg (by omega),show 10+j-10=j by omega,List.getD_eq_getElem?_getD,h];rfl) (some 1000000) (fun c h=>by simpa[tbW] using h) hG hk0 hsz rfl))
    hsz (L:=9) (by kernel_rfl) rfl (K:=Krwo) (cuts:=rwocuts) (trs:=[rwot0,rwot1]) (by kernel_rfl) rwot_ok rwoV ⟨⟨rwot0_ok,rwoV0 hF⟩,⟨rwot1_ok,rwoV1 hF⟩,trivial⟩ rwoEx
  exact⟨_,F',h1,h2⟩
end Go.Proofs.Wo
