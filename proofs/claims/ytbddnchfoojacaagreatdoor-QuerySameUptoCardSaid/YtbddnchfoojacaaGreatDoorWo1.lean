/-
  The rows of the types of layer 1. Own text.
-/
import Derived.Test.YtbddnchfoojacaaGreatDoorSx2
import Derived.Test.YtbddnchfoojacaaGreatDoorProg
import Derived.KernelRfl
import Derived.Ground.Names2Prog
import Derived.Shelf.Slices.Clone
set_option linter.all false
namespace Go.Proofs.Wo
open Go.Exo
def rowsL:List (Nat×List Kd):=[(9,[.str]),(31,[.int .i64,.bool,.int .i64,.str,.sl 9,.sl 31]),(2,[.int .i64]),(27,[.sl 31])]
def rowOf:List (Nat×List Kd)→Nat→List Kd
 |[],_=>[]
 |(a,l)::r,n=>cond (Nat.beq a n) l (rowOf r n)
instance:Sx:=⟨rowOf rowsL⟩
abbrev vK:List Kd:=[.int .i64,.bool,.int .i64,.str,.sl 9,.sl 31]
abbrev vA:Ash:=.agg vK
abbrev iK:Kd:=.int .i64
def hk0:Dc→Hook:=fun _ _ _ _ _=>none
def Kbare:Ctr:=Ctr.fn 9 21 [vA] (.one (.one .bool))
def Krune:Ctr:=Ctr.fn 9 34 [.one .str,.one iK] (.one (.one iK))
def Kutf:Ctr:=Ctr.fn 9 22 [.one .str] (.one (.one .bool))
def Kalike:Ctr:=Ctr.fn 9 25 [vA,vA] (.one (.one .bool))
def Ksize:Ctr:=Ctr.fn 9 10 [vA] (.tup [.one iK,.one iK,.one iK,.one iK])
def Kmay:Ctr:=Ctr.fn 9 9 [vA] (.one (.one .bool))
def Kcheck:Ctr:=Ctr.fn 9 5 [vA] (.one (.one iK))
noncomputable def hkUtf:Dc→Hook:=fun d=>@hkCtr d 9 Krune 0 (some 1000000)
noncomputable def hkAlike:Dc→Hook:=fun d=>@hkCtr d 9 Kalike 0 (some 1000000)
noncomputable def hkSize:Dc→Hook:=fun d=>@hkCtr d 9 Ksize 0 (some 1000000)
noncomputable def hkMay:Dc→Hook:=fun d=>hkOr (@hkCtr d 9 Kbare 0 none) (hkOr (@hkCtr d 9 Kutf 1 (some 1000001)) (@hkCtr d 9 Kmay 2 (some 1000000)))
noncomputable def hkCheck:Dc→Hook:=fun d=>hkOr (@hkCtr d 9 Kmay 0 (some 1000000)) (@hkCtr d 9 Ksize 1 (some 1000001))
end Go.Proofs.Wo

namespace Go.Exo.Wo
open Go.Exo
mutual
def nrm:Cl→Cl
 |.sl _ rows=>.sl false (nrmRs rows)
 |c=>c
def nrmR:List Cl→List Cl
 |[]=>[]
 |c::r=>nrm c::nrmR r
def nrmRs:List (List Cl)→List (List Cl)
 |[]=>[]
 |c::r=>nrmR c::nrmRs r
end
theorem nrmRs_eq:∀ l:List (List Cl),nrmRs l=l.map nrmR
 |[]=>rfl
 |c::r=>by simp only[nrmRs,List.map_cons,nrmRs_eq r]
def hasN (l:List (List Cl))(n:Int):Bool:=l.any fun r=>match r with|[.int m]=>m==n|_=>false
def goes (N R:List (List Cl))(k n:Int):Bool:=(k==6&&hasN N n) || (k==7&&hasN R n)
end Go.Exo.Wo

namespace Go.Proofs.Wo
open Go.Exo Go.Exo.Wo
set_option maxRecDepth 100000
set_option linter.all false
noncomputable def alikec0:Ct:=⟨stTodo (outS Tryz.prog hkAlike 9 Kalike [((.bin .neq (.var 9 0 (.int .i64)) (.var 9 6 (.int .i64))),false),((.bin .eql (.var 9 1 .bool) (.var 9 7 .bool)),true),((.bin .neq (.var 9 2 (.int .i64)) (.var 9 8 (.int .i64))),false),((.bin .neq (.var 9 3 .str) (.var 9 9 .str)),false),((.bin .neq (.len (.var 9 4 (.sl 9))) (.len (.var 9 10 (.sl 9)))),false),((.bin .neq (.len (.var 9 5 (.sl 31))) (.len (.var 9 11 (.sl 31)))),false)] 12),[.junk,.junk,.ptr 10 0,.ptr 11 0,.junk,.x (.var 9 0 (.int .i64)),.junk,.junk,.junk,.junk,.junk,.junk,.junk,.junk,.junk,.junk,.junk,.junk,.junk,.junk,.junk,.junk,.junk,.junk,.junk,.junk,.junk,.junk,.junk,.junk,.junk,.junk,.junk,.junk,.junk,.junk,.junk,.junk,.junk,.junk,.junk,.junk,.junk,.junk,.junk,.junk,.junk,.junk,.junk,.junk,.junk,.junk,.junk,.junk,.junk,.junk,.junk,.junk,.junk,.junk,.junk,.junk,.junk,.junk,.junk,.junk,.junk,.junk,.junk,.junk,.junk,.junk,.junk,.junk,.junk,.junk,.junk,.junk,.junk,.junk,.junk,.junk,.junk,.junk,.junk,.junk,.junk,.junk],[some (.cells 31 [.x (.var 9 1 (.int .i64)),.x (.var 9 2 .bool),.x (.var 9 3 (.int .i64)),.x (.var 9 4 .str),.x (.var 9 5 (.sl 9)),.x (.var 9 6 (.sl 31))] 0 false),some (.cells 31 [.x (.var 9 7 (.int .i64)),.x (.var 9 8 .bool),.x (.var 9 9 (.int .i64)),.x (.var 9 10 .str),.x (.var 9 11 (.sl 9)),.x (.var 9 12 (.sl 31))] 0 false)],[(.int .i64),(.int .i64),.bool,(.int .i64),.str,(.sl 9),(.sl 31),(.int .i64),.bool,(.int .i64),.str,(.sl 9),(.sl 31)]⟩
noncomputable def alikec1:Ct:=⟨stTodo (outC Tryz.prog hkAlike 9 25 alikec0 [((.bin .lss (.var 9 0 (.int .i64)) (.len (.var 9 5 (.sl 9)))),false)] 10),[.junk,.junk,.ptr 10 0,.ptr 11 0,.junk,.junk,.x (.var 9 0 (.int .i64)),.junk,.junk,.junk,.junk,.junk,.junk,.junk,.junk,.junk,.junk,.junk,.junk,.junk,.junk,.junk,.junk,.junk,.junk,.junk,.junk,.junk,.junk,.junk,.junk,.junk,.junk,.junk,.junk,.junk,.junk,.junk,.junk,.junk,.junk,.junk,.junk,.junk,.junk,.junk,.junk,.junk,.junk,.junk,.junk,.junk,.junk,.junk,.junk,.junk,.junk,.junk,.junk,.junk,.junk,.junk,.junk,.junk,.junk,.junk,.junk,.junk,.junk,.junk,.junk,.junk,.junk,.junk,.junk,.junk,.junk,.junk,.junk,.junk,.junk,.junk,.junk,.junk,.junk,.junk,.junk,.junk],[some (.cells 31 [.x (.var 9 1 (.int .i64)),.x (.var 9 2 .bool),.x (.var 9 3 (.int .i64)),.x (.var 9 4 .str),.x (.var 9 5 (.sl 9)),.x (.var 9 6 (.sl 31))] 0 false),some (.cells 31 [.x (.var 9 7 (.int .i64)),.x (.var 9 8 .bool),.x (.var 9 9 (.int .i64)),.x (.var 9 10 .str),.x (.var 9 11 (.sl 9)),.x (.var 9 12 (.sl 31))] 0 false)],[(.int .i64),(.int .i64),.bool,(.int .i64),.str,(.sl 9),(.sl 31),(.int .i64),.bool,(.int .i64),.str,(.sl 9),(.sl 31)]⟩
noncomputable def alikecuts:List Ct:=[alikec0,alikec1]
def aliket:Tr:=.ask (.bin .neq (.var 9 0 (.int .i64)) (.var 9 6 (.int .i64)))
 (.leaf 9 (.ret [] [(.bool false)]))
 (.ask (.bin .eql (.var 9 1 .bool) (.var 9 7 .bool))
 (.ask (.bin .neq (.var 9 2 (.int .i64)) (.var 9 8 (.int .i64)))
 (.leaf 9 (.ret [] [(.bool false)]))
 (.ask (.bin .neq (.var 9 3 .str) (.var 9 9 .str))
 (.leaf 9 (.ret [] [(.bool false)]))
 (.ask (.bin .neq (.len (.var 9 4 (.sl 9))) (.len (.var 9 10 (.sl 9))))
 (.leaf 9 (.ret [] [(.bool false)]))
 (.ask (.bin .neq (.len (.var 9 5 (.sl 31))) (.len (.var 9 11 (.sl 31))))
 (.leaf 9 (.ret [] [(.bool false)]))
 (.leaf 12 (.cut 0 [10,11] [(.int .i64 (0)),(.var 9 0 (.int .i64)),(.var 9 1 .bool),(.var 9 2 (.int .i64)),(.var 9 3 .str),(.var 9 4 (.sl 9)),(.var 9 5 (.sl 31)),(.var 9 6 (.int .i64)),(.var 9 7 .bool),(.var 9 8 (.int .i64)),(.var 9 9 .str),(.var 9 10 (.sl 9)),(.var 9 11 (.sl 31))]))))))
 (.leaf 9 (.ret [] [(.bool false)])))
def aliket0:Tr:=.ask (.bin .lss (.var 9 0 (.int .i64)) (.len (.var 9 5 (.sl 9))))
 (.must (.inr (.var 9 0 (.int .i64)) (.len (.var 9 5 (.sl 9)))) true <|
 .must (.inr (.var 9 0 (.int .i64)) (.len (.var 9 11 (.sl 9)))) true <|
 .ask (.bin .neq (.el (.var 9 5 (.sl 9)) (.var 9 0 (.int .i64)) 0 .str) (.el (.var 9 11 (.sl 9)) (.var 9 0 (.int .i64)) 0 .str))
 (.leaf 13 (.ret [] [(.bool false)]))
 (.leaf 14 (.cut 0 [10,11] [(.bin .add (.var 9 0 (.int .i64)) (.int .i64 (1))),(.var 9 1 (.int .i64)),(.var 9 2 .bool),(.var 9 3 (.int .i64)),(.var 9 4 .str),(.var 9 5 (.sl 9)),(.var 9 6 (.sl 31)),(.var 9 7 (.int .i64)),(.var 9 8 .bool),(.var 9 9 (.int .i64)),(.var 9 10 .str),(.var 9 11 (.sl 9)),(.var 9 12 (.sl 31))])))
 (.leaf 10 (.cut 1 [10,11] [(.int .i64 (0)),(.var 9 1 (.int .i64)),(.var 9 2 .bool),(.var 9 3 (.int .i64)),(.var 9 4 .str),(.var 9 5 (.sl 9)),(.var 9 6 (.sl 31)),(.var 9 7 (.int .i64)),(.var 9 8 .bool),(.var 9 9 (.int .i64)),(.var 9 10 .str),(.var 9 11 (.sl 9)),(.var 9 12 (.sl 31))]))
def aliket1:Tr:=.ask (.bin .lss (.var 9 0 (.int .i64)) (.len (.var 9 6 (.sl 31))))
 (.must (.inr (.var 9 0 (.int .i64)) (.len (.var 9 6 (.sl 31)))) true <|
 .must (.inr (.var 9 0 (.int .i64)) (.len (.var 9 12 (.sl 31)))) true <|
 .must (.app 9 1000000 (.cons (.el (.var 9 6 (.sl 31)) (.var 9 0 (.int .i64)) 0 (.int .i64)) (.cons (.el (.var 9 6 (.sl 31)) (.var 9 0 (.int .i64)) 1 .bool) (.cons (.el (.var 9 6 (.sl 31)) (.var 9 0 (.int .i64)) 2 (.int .i64)) (.cons (.el (.var 9 6 (.sl 31)) (.var 9 0 (.int .i64)) 3 .str) (.cons (.el (.var 9 6 (.sl 31)) (.var 9 0 (.int .i64)) 4 (.sl 9)) (.cons (.el (.var 9 6 (.sl 31)) (.var 9 0 (.int .i64)) 5 (.sl 31)) (.cons (.el (.var 9 12 (.sl 31)) (.var 9 0 (.int .i64)) 0 (.int .i64)) (.cons (.el (.var 9 12 (.sl 31)) (.var 9 0 (.int .i64)) 1 .bool) (.cons (.el (.var 9 12 (.sl 31)) (.var 9 0 (.int .i64)) 2 (.int .i64)) (.cons (.el (.var 9 12 (.sl 31)) (.var 9 0 (.int .i64)) 3 .str) (.cons (.el (.var 9 12 (.sl 31)) (.var 9 0 (.int .i64)) 4 (.sl 9)) (.cons (.el (.var 9 12 (.sl 31)) (.var 9 0 (.int .i64)) 5 (.sl 31)) .nilA)))))))))))) .bool) true <|
 .ask (.app 9 0 (.cons (.el (.var 9 6 (.sl 31)) (.var 9 0 (.int .i64)) 0 (.int .i64)) (.cons (.el (.var 9 6 (.sl 31)) (.var 9 0 (.int .i64)) 1 .bool) (.cons (.el (.var 9 6 (.sl 31)) (.var 9 0 (.int .i64)) 2 (.int .i64)) (.cons (.el (.var 9 6 (.sl 31)) (.var 9 0 (.int .i64)) 3 .str) (.cons (.el (.var 9 6 (.sl 31)) (.var 9 0 (.int .i64)) 4 (.sl 9)) (.cons (.el (.var 9 6 (.sl 31)) (.var 9 0 (.int .i64)) 5 (.sl 31)) (.cons (.el (.var 9 12 (.sl 31)) (.var 9 0 (.int .i64)) 0 (.int .i64)) (.cons (.el (.var 9 12 (.sl 31)) (.var 9 0 (.int .i64)) 1 .bool) (.cons (.el (.var 9 12 (.sl 31)) (.var 9 0 (.int .i64)) 2 (.int .i64)) (.cons (.el (.var 9 12 (.sl 31)) (.var 9 0 (.int .i64)) 3 .str) (.cons (.el (.var 9 12 (.sl 31)) (.var 9 0 (.int .i64)) 4 (.sl 9)) (.cons (.el (.var 9 12 (.sl 31)) (.var 9 0 (.int .i64)) 5 (.sl 31)) .nilA)))))))))))) .bool)
 (.leaf 15 (.cut 1 [10,11] [(.bin .add (.var 9 0 (.int .i64)) (.int .i64 (1))),(.var 9 1 (.int .i64)),(.var 9 2 .bool),(.var 9 3 (.int .i64)),(.var 9 4 .str),(.var 9 5 (.sl 9)),(.var 9 6 (.sl 31)),(.var 9 7 (.int .i64)),(.var 9 8 .bool),(.var 9 9 (.int .i64)),(.var 9 10 .str),(.var 9 11 (.sl 9)),(.var 9 12 (.sl 31))]))
 (.leaf 14 (.ret [] [(.bool false)])))
 (.leaf 8 (.ret [] [(.bool true)]))
theorem aliket_ok:Pth.allS Tryz.prog hkAlike 9 Kalike alikecuts (aliket.paths []):=
 ⟨Pth.okS_ret (by kernel_rfl) (by kernel_rfl),
  Pth.okS_ret (by kernel_rfl) (by kernel_rfl),
  Pth.okS_ret (by kernel_rfl) (by kernel_rfl),
  Pth.okS_ret (by kernel_rfl) (by kernel_rfl),
  Pth.okS_ret (by kernel_rfl) (by kernel_rfl),
  Pth.okS_cut alikec0 rfl (by kernel_rfl) (by kernel_rfl),
  Pth.okS_ret (by kernel_rfl) (by kernel_rfl),
  trivial⟩
theorem aliket0_ok:Pth.allC Tryz.prog hkAlike 9 Kalike alikecuts alikec0 (aliket0.paths []):=
 ⟨Pth.okC_ret (by kernel_rfl) (by kernel_rfl),
  Pth.okC_cut alikec0 rfl (by kernel_rfl) (by kernel_rfl),
  Pth.okC_cut alikec1 rfl (by kernel_rfl) (by kernel_rfl),
  trivial⟩
theorem aliket1_ok:Pth.allC Tryz.prog hkAlike 9 Kalike alikecuts alikec1 (aliket1.paths []):=
 ⟨Pth.okC_cut alikec1 rfl (by kernel_rfl) (by kernel_rfl),
  Pth.okC_ret (by kernel_rfl) (by kernel_rfl),
  Pth.okC_ret (by kernel_rfl) (by kernel_rfl),
  trivial⟩
variable {k:Nat}{G:World→Prop}
theorem row6 {r:List Cl}(h:Wts vK r):∃ k b n s nl ys ml rs,r=[.int k,.bool b,.int n,.str s,.sl nl ys,.sl ml rs]∧Wts [.sl 9,.sl 31] [.sl nl ys,.sl ml rs]∧IntKind.min .i64≤k∧k≤IntKind.max .i64∧IntKind.min .i64≤n∧n≤IntKind.max .i64∧s.length≤maxLen:=by
 obtain⟨_,r1,rfl,a1,g1⟩:=h.cons_inv
 obtain⟨k,rfl,k1,k2⟩:=a1.int_inv
 obtain⟨_,r2,rfl,a2,g2⟩:=g1.cons_inv
 obtain⟨b,rfl⟩:=a2.bool_inv
 obtain⟨_,r3,rfl,a3,g3⟩:=g2.cons_inv
 obtain⟨n,rfl,n1,n2⟩:=a3.int_inv
 obtain⟨_,r4,rfl,a4,g4⟩:=g3.cons_inv
 obtain⟨s,rfl,s1⟩:=a4.str_inv
 have g4':=g4
 obtain⟨_,r5,rfl,a5,g5⟩:=g4.cons_inv
 obtain⟨nl,ys,rfl,-,-,-⟩:=a5.sl_inv
 obtain⟨_,rfl,a6⟩:=g5.one
 obtain⟨ml,rs,rfl,-,-,-⟩:=a6.sl_inv
 exact⟨k,b,n,s,nl,ys,ml,rs,rfl,g4',k1,k2,n1,n2,s1⟩
theorem ls2 {nl:Bool}{ys:List (List Cl)}{ml:Bool}{rs:List (List Cl)}(h:Wts [.sl 9,.sl 31] [.sl nl ys,.sl ml rs]):ys.length≤maxLen∧(∀ r∈ys,Wts [.str] r)∧rs.length≤maxLen∧∀ r∈rs,Wts vK r:=by
 obtain⟨_,_,e,h1,h2⟩:=h.cons_inv;cases e
 obtain⟨_,_,e,a1,-,a2⟩:=h1.sl_inv;cases e
 obtain⟨_,e,h3⟩:=h2.one;cases e
 obtain⟨_,_,e,b1,-,b2⟩:=h3.sl_inv;cases e
 exact⟨a1,a2,b1,b2⟩
theorem wts_app:∀ {ks ks':List Kd}{cs:List Cl},Wts (ks++ks') cs→∃ a b,cs=a++b∧Wts ks a∧Wts ks' b
 |[],_,cs,h=>⟨[],cs,rfl,.nil,h⟩
 |_::ks,_,_,h=>by
  obtain⟨c,r,rfl,h1,h2⟩:=Go.Exo.Wts.cons_inv h
  obtain⟨a,b,rfl,h3,h4⟩:=wts_app (ks:=ks) h2
  exact⟨c::a,b,rfl,.cons h1 h3,h4⟩
open Classical in
noncomputable def alikeF (c:List Cl):List Cl:=[.bool (decide (nrmR (c.take 6)=nrmR (c.drop 6)))]
open Classical in
noncomputable def tbA (m:Nat)(f:Nat)(c:List Cl):Cl:=if f=0 then .bool (decide (nrmR (c.take 6)=nrmR (c.drop 6))) else .bool (decide (SizeOf.sizeOf c<m))
def sameTo (a b:List (List Cl))(i:Nat):Prop:=(nrmRs a=nrmRs b↔nrmRs (a.drop i)=nrmRs (b.drop i))
theorem sameTo_next {a b:List (List Cl)}{i:Nat}{r r':List Cl}(h:sameTo a b i)(h1:a.drop i=r::a.drop (i+1))(h2:b.drop i=r'::b.drop (i+1))(h3:nrmR r=nrmR r'):sameTo a b (i+1):=by
 unfold sameTo at h ⊢
 rw[h,h1,h2,nrmRs,nrmRs,h3,List.cons.injEq]
 simp
theorem sameTo_not {a b:List (List Cl)}{i:Nat}{r r':List Cl}(h:sameTo a b i)(h1:a.drop i=r::a.drop (i+1))(h2:b.drop i=r'::b.drop (i+1))(h3:nrmR r≠nrmR r'):nrmRs a≠nrmRs b:=by
 rw[Ne,show _↔_ from h,h1,h2,nrmRs,nrmRs]
 intro e
 exact h3 (List.cons.inj e).1
theorem sameTo_end {a b:List (List Cl)}{i:Nat}(h:sameTo a b i)(hl:a.length=b.length)(h1:a.length≤i):nrmRs a=nrmRs b:=by
 rw[show _↔_ from h,List.drop_eq_nil_of_le h1,List.drop_eq_nil_of_le (hl ▸ h1)]
theorem nrm_len {a b:List (List Cl)}(h:nrmRs a=nrmRs b):a.length=b.length:=by
 have:=congrArg List.length h
 simpa[nrmRs_eq] using this
def alikeInv (m:Nat)(j:Nat)(c0 c:List Cl):Prop:=∃ (k:Int)(b:Bool)(n:Int)(s:List UInt8)(nl:Bool)(ys:List (List Cl))(ml:Bool)(rs:List (List Cl))(nl':Bool)(ys':List (List Cl))(ml':Bool)(rs':List (List Cl))(i:Int),
 c0=[.int k,.bool b,.int n,.str s,.sl nl ys,.sl ml rs,.int k,.bool b,.int n,.str s,.sl nl' ys',.sl ml' rs']∧c=.int i::c0∧ys.length=ys'.length∧rs.length=rs'.length∧SizeOf.sizeOf c0<m+1∧0≤i∧
 (j=0→i≤ys.length∧sameTo ys ys' i.toNat)∧
 (j≠0→i≤rs.length∧nrmRs ys=nrmRs ys'∧sameTo rs rs' i.toNat)
def alikeM (j:Nat)(c:List Cl):Nat:=match c with|[.int i,_,_,_,_,.sl _ ys,.sl _ rs,_,_,_,_,_,_]=>cond (Nat.beq j 0) ((ys.length-i).toNat+rs.length+1) (rs.length-i).toNat|_=>0
section
variable {k:Int}{b:Bool}{n:Int}{s:List UInt8}{nl:Bool}{ys:List (List Cl)}{ml:Bool}{rs:List (List Cl)}{k':Int}{b':Bool}{n':Int}{s':List UInt8}{nl':Bool}{ys':List (List Cl)}{ml':Bool}{rs':List (List Cl)}
theorem alike_iff:(nrmR (List.take 6 [.int k,.bool b,.int n,.str s,.sl nl ys,.sl ml rs,.int k',.bool b',.int n',.str s',.sl nl' ys',.sl ml' rs'])=nrmR (List.drop 6 [.int k,.bool b,.int n,.str s,.sl nl ys,.sl ml rs,.int k',.bool b',.int n',.str s',.sl nl' ys',.sl ml' rs']))↔k=k'∧b=b'∧n=n'∧s=s'∧nrmRs ys=nrmRs ys'∧nrmRs rs=nrmRs rs':=by
 show nrmR [.int k,.bool b,.int n,.str s,.sl nl ys,.sl ml rs]=nrmR [.int k',.bool b',.int n',.str s',.sl nl' ys',.sl ml' rs']↔_
 simp[nrmR,nrm]
open Classical in
theorem alike_t (h:k=k'∧b=b'∧n=n'∧s=s'∧nrmRs ys=nrmRs ys'∧nrmRs rs=nrmRs rs'):[Cl.bool true]=alikeF [.int k,.bool b,.int n,.str s,.sl nl ys,.sl ml rs,.int k',.bool b',.int n',.str s',.sl nl' ys',.sl ml' rs']:=by
 unfold alikeF;rw[decide_eq_true (alike_iff.2 h)]
open Classical in
theorem alike_f (h:¬ (k=k'∧b=b'∧n=n'∧s=s'∧nrmRs ys=nrmRs ys'∧nrmRs rs=nrmRs rs')):[Cl.bool false]=alikeF [.int k,.bool b,.int n,.str s,.sl nl ys,.sl ml rs,.int k',.bool b',.int n',.str s',.sl nl' ys',.sl ml' rs']:=by
 unfold alikeF;rw[decide_eq_false (fun e=>h (alike_iff.1 e))]
open Classical in
theorem tbA0 {m:Nat}:tbA m 0 [.int k,.bool b,.int n,.str s,.sl nl ys,.sl ml rs,.int k',.bool b',.int n',.str s',.sl nl' ys',.sl ml' rs']=.bool true↔nrmR [.int k,.bool b,.int n,.str s,.sl nl ys,.sl ml rs]=nrmR [.int k',.bool b',.int n',.str s',.sl nl' ys',.sl ml' rs']:=by
 unfold tbA
 rw[if_pos rfl,Cl.bool.injEq,decide_eq_true_iff];exact Iff.rfl
open Classical in
theorem tbA_1 {m:Nat}{c:List Cl}(h:SizeOf.sizeOf c<m):tbA m 1000000 c=.bool true:=by
 unfold tbA;rw[if_neg (by decide),decide_eq_true h]
open Classical in
theorem tbA_b {m:Nat}{c:List Cl}:∃ b,tbA m 0 c=.bool b:=⟨_,by unfold tbA;rw[if_pos rfl]⟩
end
set_option maxHeartbeats 1000000
theorem alikeV {m:Nat}:Vc0 (tbA m) 9 Kalike.ks (fun c=>SizeOf.sizeOf c<m+1) (alikeInv m) (fun c r=>r=alikeF c) aliket:=by
 intro cls E hE hw hm
 have hw':Wts (vK++vK) cls:=hw
 obtain⟨a,b,rfl,ha,hb⟩:=wts_app hw'
 obtain⟨k,b,n,s,nl,ys,ml,rs,rfl,hl,k1,k2,n1,n2,s1⟩:=row6 ha
 obtain⟨k',b',n',s',nl',ys',ml',rs',rfl,hl',k1',k2',n1',n2',s1'⟩:=row6 hb
 simp only[aliket,Tr.vc,To.goodT,List.map_cons,List.map_nil,hE.v,X.c_int,X.c_bool,X.c_bin,X.c_len,lenC,X.kd,binD,intD,strD,List.getD_cons_zero,List.getD_cons_succ,List.cons_append,List.nil_append,Cl.bool.injEq,exists_eq',true_and,and_true,Bool.not_eq_true',Bool.not_eq_false',beq_iff_eq,beq_eq_false_iff_ne,ne_eq]
 simp only[List.cons_append,List.nil_append] at hm
 refine⟨fun h=>alike_f fun e=>h e.1,fun h1=>⟨fun h2=>⟨fun h=>alike_f fun e=>h e.2.2.1,fun h3=>⟨fun h=>alike_f fun e=>h e.2.2.2.1,fun h4=>⟨fun h=>alike_f fun e=>h ?_,fun h5=>⟨fun h=>alike_f fun e=>h ?_,fun h6=>?_⟩⟩⟩⟩,fun h=>alike_f fun e=>h e.2.1⟩⟩
 ·have:=nrm_len e.2.2.2.2.1;omega
 ·have:=nrm_len e.2.2.2.2.2;omega
 ·subst h1;subst h2;subst h3;subst h4
  refine⟨k,b,n,s,nl,ys,ml,rs,nl',ys',ml',rs',0,rfl,rfl,by omega,by omega,hm,by omega,fun _=>⟨by omega,by simp[sameTo]⟩,fun h=>absurd rfl h⟩
theorem alikeV0 {m:Nat}:Vc (· < ·) alikeM (tbA m) 9 alikec0.ks (alikeInv m) (fun c r=>r=alikeF c) 0 aliket0:=by
 rintro c0 cls E hE hw ⟨k,b,n,s,nl,ys,ml,rs,nl',ys',ml',rs',i,rfl,rfl,h1,h2,h3,h4,h5,-⟩
 obtain⟨h6,h7⟩:=h5 rfl
 have hw':Wts ((.int .i64::vK)++vK) ([.int i,.int k,.bool b,.int n,.str s,.sl nl ys,.sl ml rs]++[.int k,.bool b,.int n,.str s,.sl nl' ys',.sl ml' rs']):=hw
 obtain⟨_,_,e,ha,hb⟩:=wts_app hw'
 obtain⟨_,a',e1,-,ha'⟩:=ha.cons_inv
 subst e1
 obtain⟨_,_,_,_,_,_,_,_,rfl,hl,-⟩:=row6 ha'
 obtain⟨_,_,_,_,_,_,_,_,rfl,hl',-⟩:=row6 hb
 simp only[List.cons_append,List.nil_append,List.cons.injEq,Cl.int.injEq,Cl.bool.injEq,Cl.str.injEq,Cl.sl.injEq,and_true,true_and] at e
 obtain⟨-,-,-,-,-,⟨-,rfl⟩,⟨-,rfl⟩,-,-,-,-,⟨-,rfl⟩,-,rfl⟩:=e
 obtain⟨q1,q2,q3,q4⟩:=ls2 hl
 obtain⟨q1',q2',q3',q4'⟩:=ls2 hl'
 simp only[maxLen] at q1 q3
 simp only[aliket0,Tr.vc,To.goodT,List.map_cons,List.map_nil,hE.v,X.c_int,X.c_bool,X.c_bin,X.c_len,X.c_inr,X.c_el,lenC,inrD,elD,X.kd,binD,intD,List.getD_cons_zero,List.getD_cons_succ,Cl.bool.injEq,exists_eq',true_and,and_true,decide_eq_true_eq,decide_eq_false_iff_not,h4]
 refine⟨fun hlt=>⟨hlt,by omega,?_⟩,fun hge=>⟨⟨k,b,n,s,nl,ys,ml,rs,nl',ys',ml',rs',0,rfl,rfl,h1,h2,h3,by omega,fun h=>absurd h (by decide),fun _=>⟨by omega,?_,by simp[sameTo]⟩⟩,?_⟩⟩
 ·obtain⟨r,hr,hwr,hd,_⟩:=row_at q2 (i:=i.toNat) (by omega)
  obtain⟨r',hr',hwr',hd',_⟩:=row_at q2' (i:=i.toNat) (by omega)
  obtain⟨_,rfl,hc⟩:=hwr.one
  obtain⟨_,rfl,hc'⟩:=hwr'.one
  obtain⟨t,rfl,-⟩:=hc.str_inv
  obtain⟨t',rfl,-⟩:=hc'.str_inv
  rw[hr,hr']
  simp only[List.getD_cons_zero,strD,Cl.bool.injEq,exists_eq',true_and,Bool.not_eq_true',Bool.not_eq_false',beq_iff_eq,beq_eq_false_iff_ne,ne_eq]
  refine⟨fun hne=>alike_f fun e=>sameTo_not h7 hd hd' (by simpa[nrmR,nrm] using hne) e.2.2.2.2.1,fun he=>⟨⟨k,b,n,s,nl,ys,ml,rs,nl',ys',ml',rs',i+1,rfl,?_,h1,h2,h3,by omega,fun _=>⟨by omega,?_⟩,fun h=>absurd rfl h⟩,?_⟩⟩
  ·rw[i64_id (by omega) (by omega)]
  ·have:=sameTo_next h7 hd hd' (by simp[nrmR,nrm,he])
   rwa [show (i+1).toNat=i.toNat+1 by omega]
  ·rw[i64_id (by omega) (by omega)];simp only[alikeM,Nat.beq_refl,cond_true];omega
 ·exact sameTo_end h7 h1 (by omega)
 ·show (rs.length-(0:Int)).toNat<(ys.length-i).toNat+rs.length+1;omega
theorem alikeV1 {m:Nat}:Vc (· < ·) alikeM (tbA m) 9 alikec1.ks (alikeInv m) (fun c r=>r=alikeF c) 1 aliket1:=by
 rintro c0 cls E hE hw ⟨k,b,n,s,nl,ys,ml,rs,nl',ys',ml',rs',i,rfl,rfl,h1,h2,h3,h4,-,h5⟩
 obtain⟨h6,h8,h7⟩:=h5 (by decide)
 have hw':Wts ((.int .i64::vK)++vK) ([.int i,.int k,.bool b,.int n,.str s,.sl nl ys,.sl ml rs]++[.int k,.bool b,.int n,.str s,.sl nl' ys',.sl ml' rs']):=hw
 obtain⟨_,_,e,ha,hb⟩:=wts_app hw'
 obtain⟨_,a',e1,-,ha'⟩:=ha.cons_inv
 subst e1
 obtain⟨_,_,_,_,_,_,_,_,rfl,hl,-⟩:=row6 ha'
 obtain⟨_,_,_,_,_,_,_,_,rfl,hl',-⟩:=row6 hb
 simp only[List.cons_append,List.nil_append,List.cons.injEq,Cl.int.injEq,Cl.bool.injEq,Cl.str.injEq,Cl.sl.injEq,and_true,true_and] at e
 obtain⟨-,-,-,-,-,⟨-,rfl⟩,⟨-,rfl⟩,-,-,-,-,⟨-,rfl⟩,-,rfl⟩:=e
 obtain⟨q1,q2,q3,q4⟩:=ls2 hl
 obtain⟨q1',q2',q3',q4'⟩:=ls2 hl'
 simp only[maxLen] at q1 q3
 simp only[aliket1,Tr.vc,To.goodT,List.map_cons,List.map_nil,hE.v,hE.a,X.d_cons,X.d_nil,X.c_int,X.c_bool,X.c_bin,X.c_len,X.c_inr,X.c_el,lenC,inrD,elD,X.kd,binD,intD,List.getD_cons_zero,List.getD_cons_succ,Cl.bool.injEq,exists_eq',true_and,and_true,decide_eq_true_eq,decide_eq_false_iff_not,h4]
 refine⟨fun hlt=>⟨hlt,by omega,?_⟩,fun hge=>alike_t ⟨rfl,rfl,rfl,rfl,h8,sameTo_end h7 h2 (by omega)⟩⟩
 obtain⟨r,hr,hwr,hd,hm⟩:=row_at q4 (i:=i.toNat) (by omega)
 obtain⟨r',hr',hwr',hd',hm'⟩:=row_at q4' (i:=i.toNat) (by omega)
 obtain⟨ka,ba,na,sa,nla,ya,mla,ra,rfl,-⟩:=row6 hwr
 obtain⟨ka',ba',na',sa',nla',ya',mla',ra',rfl,-⟩:=row6 hwr'
 rw[hr,hr']
 simp only[List.getD_cons_zero,List.getD_cons_succ]
 refine⟨tbA_1 ?_,tbA_b,fun ht=>⟨⟨k,b,n,s,nl,ys,ml,rs,nl',ys',ml',rs',i+1,rfl,?_,h1,h2,h3,by omega,fun h=>absurd h (by decide),fun _=>⟨by omega,h8,?_⟩⟩,?_⟩,fun hf=>alike_f fun e=>sameTo_not h7 hd hd' (fun q=>?_) e.2.2.2.2.2⟩
 ·have z1:=List.sizeOf_lt_of_mem (List.mem_of_getElem? hm)
  have z2:=List.sizeOf_lt_of_mem (List.mem_of_getElem? hm')
  simp only[List.cons.sizeOf_spec,List.nil.sizeOf_spec,Cl.sl.sizeOf_spec] at z1 z2 h3 ⊢
  omega
 ·rw[i64_id (by omega) (by omega)]
 ·have:=sameTo_next h7 hd hd' (tbA0.1 ht)
  rwa [show (i+1).toNat=i.toNat+1 by omega]
 ·rw[i64_id (by omega) (by omega)];show (rs.length-(i+1)).toNat<(rs.length-i).toNat;omega
 ·rw[tbA0.2 q] at hf;cases hf
theorem alike_n (hG:Gd0 k G)(hk0:0<k)(hsz:Tryz.prog.globals.size≤k):∀ n,∃ tb,Kalike.Sound Tryz.prog k G tb (fun c=>SizeOf.sizeOf c<n) alikeF:=by
 intro n
 induction n with
 |zero=>exact⟨fun _ _=>.no,fun w old hold φ pls cls xs _ _ _ _ _ _ _ hp=>absurd hp (by omega)⟩
 |succ m ih=>
  obtain⟨tb,ih⟩:=ih
  letI:Tb:=⟨some (9,tbA m)⟩
  exact⟨tbA m,Ctr.ofT (hk:=hkAlike) Nat.lt_wfRel.wf alikeM (alikeInv m) hG (fun D=>@Hooks.ctr _ (dcOf D) _ _ _ _ 9 (by kernel_rfl) _ _ _ _ ih (by kernel_rfl) _ _ (by
     intro cls j c h
     cases j with
     |zero=>simp[alikeF] at h;simpa[tbA] using h
     |succ j=>simp[alikeF] at h) (some 1000000) (by
     intro cls h
     simpa[tbA] using h) hG hk0 hsz rfl) hsz (L:=9) (by kernel_rfl) rfl (trs:=[aliket0,aliket1]) (by kernel_rfl) aliket_ok alikeV ⟨⟨aliket0_ok,alikeV0⟩,⟨aliket1_ok,alikeV1⟩,trivial⟩⟩
theorem alike_ok (hG:Gd0 k G)(hk0:0<k)(hsz:Tryz.prog.globals.size≤k)(n:Nat):∃ tb,Kalike.Sound Tryz.prog k G tb (fun c=>SizeOf.sizeOf c<n) alikeF:=alike_n hG hk0 hsz n
end Go.Proofs.Wo

namespace Go.Proofs.Wo
open Go.Exo Go.Exo.Wo
set_option maxRecDepth 100000
set_option linter.all false
noncomputable def runecuts:List Ct:=[]
def runet:Tr:=.must (.inr (.var 9 1 (.int .i64)) (.len (.var 9 0 .str))) true <|
 .ask (.bin .lss (.atx (.var 9 0 .str) (.var 9 1 (.int .i64))) (.int .u8 (128)))
 (.leaf 13 (.ret [] [(.int .i64 (1))]))
 (.ask (.bin .geq (.atx (.var 9 0 .str) (.var 9 1 (.int .i64))) (.int .u8 (194)))
 (.ask (.bin .leq (.atx (.var 9 0 .str) (.var 9 1 (.int .i64))) (.int .u8 (223)))
 (.ask (.bin .lss (.bin .add (.var 9 1 (.int .i64)) (.int .i64 (1))) (.len (.var 9 0 .str)))
 (.must (.inr (.bin .add (.var 9 1 (.int .i64)) (.int .i64 (1))) (.len (.var 9 0 .str))) true <|
 .ask (.bin .geq (.atx (.var 9 0 .str) (.bin .add (.var 9 1 (.int .i64)) (.int .i64 (1)))) (.int .u8 (128)))
 (.ask (.bin .leq (.atx (.var 9 0 .str) (.bin .add (.var 9 1 (.int .i64)) (.int .i64 (1)))) (.int .u8 (191)))
 (.leaf 23 (.ret [] [(.int .i64 (2))]))
 (.leaf 31 (.ret [] [(.int .i64 (0))])))
 (.leaf 31 (.ret [] [(.int .i64 (0))])))
 (.leaf 31 (.ret [] [(.int .i64 (0))])))
 (.ask (.bin .leq (.atx (.var 9 0 .str) (.var 9 1 (.int .i64))) (.int .u8 (239)))
 (.ask (.bin .lss (.bin .add (.var 9 1 (.int .i64)) (.int .i64 (1))) (.len (.var 9 0 .str)))
 (.must (.inr (.bin .add (.var 9 1 (.int .i64)) (.int .i64 (1))) (.len (.var 9 0 .str))) true <|
 .ask (.bin .geq (.atx (.var 9 0 .str) (.bin .add (.var 9 1 (.int .i64)) (.int .i64 (1)))) (.int .u8 (128)))
 (.ask (.bin .leq (.atx (.var 9 0 .str) (.bin .add (.var 9 1 (.int .i64)) (.int .i64 (1)))) (.int .u8 (191)))
 (.ask (.bin .lss (.bin .add (.var 9 1 (.int .i64)) (.int .i64 (2))) (.len (.var 9 0 .str)))
 (.must (.inr (.bin .add (.var 9 1 (.int .i64)) (.int .i64 (2))) (.len (.var 9 0 .str))) true <|
 .ask (.bin .geq (.atx (.var 9 0 .str) (.bin .add (.var 9 1 (.int .i64)) (.int .i64 (2)))) (.int .u8 (128)))
 (.ask (.bin .leq (.atx (.var 9 0 .str) (.bin .add (.var 9 1 (.int .i64)) (.int .i64 (2)))) (.int .u8 (191)))
 (.ask (.bin .eql (.atx (.var 9 0 .str) (.var 9 1 (.int .i64))) (.int .u8 (224)))
 (.ask (.bin .lss (.atx (.var 9 0 .str) (.bin .add (.var 9 1 (.int .i64)) (.int .i64 (1)))) (.int .u8 (160)))
 (.leaf 37 (.ret [] [(.int .i64 (0))]))
 (.leaf 38 (.ret [] [(.int .i64 (3))])))
 (.ask (.bin .eql (.atx (.var 9 0 .str) (.var 9 1 (.int .i64))) (.int .u8 (237)))
 (.ask (.bin .gtr (.atx (.var 9 0 .str) (.bin .add (.var 9 1 (.int .i64)) (.int .i64 (1)))) (.int .u8 (159)))
 (.leaf 37 (.ret [] [(.int .i64 (0))]))
 (.leaf 38 (.ret [] [(.int .i64 (3))])))
 (.leaf 38 (.ret [] [(.int .i64 (3))]))))
 (.leaf 38 (.ret [] [(.int .i64 (0))])))
 (.leaf 38 (.ret [] [(.int .i64 (0))])))
 (.leaf 38 (.ret [] [(.int .i64 (0))])))
 (.leaf 31 (.ret [] [(.int .i64 (0))])))
 (.leaf 31 (.ret [] [(.int .i64 (0))])))
 (.leaf 31 (.ret [] [(.int .i64 (0))])))
 (.ask (.bin .leq (.atx (.var 9 0 .str) (.var 9 1 (.int .i64))) (.int .u8 (244)))
 (.ask (.bin .lss (.bin .add (.var 9 1 (.int .i64)) (.int .i64 (1))) (.len (.var 9 0 .str)))
 (.must (.inr (.bin .add (.var 9 1 (.int .i64)) (.int .i64 (1))) (.len (.var 9 0 .str))) true <|
 .ask (.bin .geq (.atx (.var 9 0 .str) (.bin .add (.var 9 1 (.int .i64)) (.int .i64 (1)))) (.int .u8 (128)))
 (.ask (.bin .leq (.atx (.var 9 0 .str) (.bin .add (.var 9 1 (.int .i64)) (.int .i64 (1)))) (.int .u8 (191)))
 (.ask (.bin .lss (.bin .add (.var 9 1 (.int .i64)) (.int .i64 (2))) (.len (.var 9 0 .str)))
 (.must (.inr (.bin .add (.var 9 1 (.int .i64)) (.int .i64 (2))) (.len (.var 9 0 .str))) true <|
 .ask (.bin .geq (.atx (.var 9 0 .str) (.bin .add (.var 9 1 (.int .i64)) (.int .i64 (2)))) (.int .u8 (128)))
 (.ask (.bin .leq (.atx (.var 9 0 .str) (.bin .add (.var 9 1 (.int .i64)) (.int .i64 (2)))) (.int .u8 (191)))
 (.ask (.bin .lss (.bin .add (.var 9 1 (.int .i64)) (.int .i64 (3))) (.len (.var 9 0 .str)))
 (.must (.inr (.bin .add (.var 9 1 (.int .i64)) (.int .i64 (3))) (.len (.var 9 0 .str))) true <|
 .ask (.bin .geq (.atx (.var 9 0 .str) (.bin .add (.var 9 1 (.int .i64)) (.int .i64 (3)))) (.int .u8 (128)))
 (.ask (.bin .leq (.atx (.var 9 0 .str) (.bin .add (.var 9 1 (.int .i64)) (.int .i64 (3)))) (.int .u8 (191)))
 (.ask (.bin .eql (.atx (.var 9 0 .str) (.var 9 1 (.int .i64))) (.int .u8 (240)))
 (.ask (.bin .lss (.atx (.var 9 0 .str) (.bin .add (.var 9 1 (.int .i64)) (.int .i64 (1)))) (.int .u8 (144)))
 (.leaf 47 (.ret [] [(.int .i64 (0))]))
 (.leaf 48 (.ret [] [(.int .i64 (4))])))
 (.ask (.bin .eql (.atx (.var 9 0 .str) (.var 9 1 (.int .i64))) (.int .u8 (244)))
 (.ask (.bin .gtr (.atx (.var 9 0 .str) (.bin .add (.var 9 1 (.int .i64)) (.int .i64 (1)))) (.int .u8 (143)))
 (.leaf 47 (.ret [] [(.int .i64 (0))]))
 (.leaf 48 (.ret [] [(.int .i64 (4))])))
 (.leaf 48 (.ret [] [(.int .i64 (4))]))))
 (.leaf 45 (.ret [] [(.int .i64 (0))])))
 (.leaf 45 (.ret [] [(.int .i64 (0))])))
 (.leaf 45 (.ret [] [(.int .i64 (0))])))
 (.leaf 38 (.ret [] [(.int .i64 (0))])))
 (.leaf 38 (.ret [] [(.int .i64 (0))])))
 (.leaf 38 (.ret [] [(.int .i64 (0))])))
 (.leaf 31 (.ret [] [(.int .i64 (0))])))
 (.leaf 31 (.ret [] [(.int .i64 (0))])))
 (.leaf 31 (.ret [] [(.int .i64 (0))])))
 (.leaf 24 (.ret [] [(.int .i64 (0))])))))
 (.leaf 24 (.ret [] [(.int .i64 (0))])))
theorem runet_ok:Pth.allS Tryz.prog hk0 9 Krune runecuts (runet.paths []):=
 ⟨Pth.okS_ret (by kernel_rfl) (by kernel_rfl),
  Pth.okS_ret (by kernel_rfl) (by kernel_rfl),
  Pth.okS_ret (by kernel_rfl) (by kernel_rfl),
  Pth.okS_ret (by kernel_rfl) (by kernel_rfl),
  Pth.okS_ret (by kernel_rfl) (by kernel_rfl),
  Pth.okS_ret (by kernel_rfl) (by kernel_rfl),
  Pth.okS_ret (by kernel_rfl) (by kernel_rfl),
  Pth.okS_ret (by kernel_rfl) (by kernel_rfl),
  Pth.okS_ret (by kernel_rfl) (by kernel_rfl),
  Pth.okS_ret (by kernel_rfl) (by kernel_rfl),
  Pth.okS_ret (by kernel_rfl) (by kernel_rfl),
  Pth.okS_ret (by kernel_rfl) (by kernel_rfl),
  Pth.okS_ret (by kernel_rfl) (by kernel_rfl),
  Pth.okS_ret (by kernel_rfl) (by kernel_rfl),
  Pth.okS_ret (by kernel_rfl) (by kernel_rfl),
  Pth.okS_ret (by kernel_rfl) (by kernel_rfl),
  Pth.okS_ret (by kernel_rfl) (by kernel_rfl),
  Pth.okS_ret (by kernel_rfl) (by kernel_rfl),
  Pth.okS_ret (by kernel_rfl) (by kernel_rfl),
  Pth.okS_ret (by kernel_rfl) (by kernel_rfl),
  Pth.okS_ret (by kernel_rfl) (by kernel_rfl),
  Pth.okS_ret (by kernel_rfl) (by kernel_rfl),
  Pth.okS_ret (by kernel_rfl) (by kernel_rfl),
  Pth.okS_ret (by kernel_rfl) (by kernel_rfl),
  Pth.okS_ret (by kernel_rfl) (by kernel_rfl),
  Pth.okS_ret (by kernel_rfl) (by kernel_rfl),
  Pth.okS_ret (by kernel_rfl) (by kernel_rfl),
  Pth.okS_ret (by kernel_rfl) (by kernel_rfl),
  Pth.okS_ret (by kernel_rfl) (by kernel_rfl),
  Pth.okS_ret (by kernel_rfl) (by kernel_rfl),
  Pth.okS_ret (by kernel_rfl) (by kernel_rfl),
  Pth.okS_ret (by kernel_rfl) (by kernel_rfl),
  trivial⟩
noncomputable def utfc0:Ct:=⟨stTodo (outS Tryz.prog hkUtf 9 Kutf [] 8),[.x (.var 9 0 .str),.junk,.junk,.x (.var 9 1 (.int .i64)),.junk,.junk,.junk,.junk,.junk,.junk,.junk,.junk,.junk,.junk,.junk,.junk,.junk],[],[.str,(.int .i64)]⟩
noncomputable def utfcuts:List Ct:=[utfc0]
def utft:Tr:=.leaf 8 (.cut 0 [] [(.var 9 0 .str),(.int .i64 (0))])
def utft0:Tr:=.ask (.bin .lss (.var 9 1 (.int .i64)) (.len (.var 9 0 .str)))
 (.must (.app 9 1000000 (.cons (.var 9 0 .str) (.cons (.var 9 1 (.int .i64)) .nilA)) .bool) true <|
 .ask (.bin .eql (.app 9 0 (.cons (.var 9 0 .str) (.cons (.var 9 1 (.int .i64)) .nilA)) (.int .i64)) (.int .i64 (0)))
 (.leaf 16 (.ret [] [(.bool false)]))
 (.leaf 17 (.cut 0 [] [(.var 9 0 .str),(.bin .add (.var 9 1 (.int .i64)) (.app 9 0 (.cons (.var 9 0 .str) (.cons (.var 9 1 (.int .i64)) .nilA)) (.int .i64)))])))
 (.leaf 8 (.ret [] [(.bool true)]))
theorem utft_ok:Pth.allS Tryz.prog hkUtf 9 Kutf utfcuts (utft.paths []):=
 ⟨Pth.okS_cut utfc0 rfl (by kernel_rfl) (by kernel_rfl),
  trivial⟩
theorem utft0_ok:Pth.allC Tryz.prog hkUtf 9 Kutf utfcuts utfc0 (utft0.paths []):=
 ⟨Pth.okC_ret (by kernel_rfl) (by kernel_rfl),
  Pth.okC_cut utfc0 rfl (by kernel_rfl) (by kernel_rfl),
  Pth.okC_ret (by kernel_rfl) (by kernel_rfl),
  trivial⟩
noncomputable def barecuts:List Ct:=[]
def baret:Tr:=.ask (.bin .eql (.var 9 0 (.int .i64)) (.int .i64 (1)))
 (.ask (.bin .eql (.var 9 0 (.int .i64)) (.int .i64 (2)))
 (.ask (.bin .eql (.var 9 0 (.int .i64)) (.int .i64 (3)))
 (.ask (.bin .eql (.var 9 0 (.int .i64)) (.int .i64 (5)))
 (.ask (.bin .eql (.var 9 0 (.int .i64)) (.int .i64 (4)))
 (.leaf 8 (.ret [] [(.bool true)]))
 (.leaf 8 (.ret [] [(.bool true)])))
 (.ask (.bin .eql (.len (.var 9 4 (.sl 9))) (.int .i64 (0)))
 (.ask (.bin .eql (.var 9 0 (.int .i64)) (.int .i64 (4)))
 (.leaf 8 (.ret [] [(.bool true)]))
 (.leaf 8 (.ret [] [(.bin .eql (.len (.var 9 5 (.sl 31))) (.int .i64 (0)))])))
 (.leaf 8 (.ret [] [(.bool false)]))))
 (.ask (.bin .eql (.var 9 3 .str) (.str 0 0))
 (.ask (.bin .eql (.var 9 0 (.int .i64)) (.int .i64 (5)))
 (.ask (.bin .eql (.var 9 0 (.int .i64)) (.int .i64 (4)))
 (.leaf 8 (.ret [] [(.bool true)]))
 (.leaf 8 (.ret [] [(.bool true)])))
 (.ask (.bin .eql (.len (.var 9 4 (.sl 9))) (.int .i64 (0)))
 (.ask (.bin .eql (.var 9 0 (.int .i64)) (.int .i64 (4)))
 (.leaf 8 (.ret [] [(.bool true)]))
 (.leaf 8 (.ret [] [(.bin .eql (.len (.var 9 5 (.sl 31))) (.int .i64 (0)))])))
 (.leaf 8 (.ret [] [(.bool false)]))))
 (.leaf 8 (.ret [] [(.bool false)]))))
 (.ask (.bin .eql (.var 9 0 (.int .i64)) (.int .i64 (6)))
 (.ask (.bin .eql (.var 9 0 (.int .i64)) (.int .i64 (3)))
 (.ask (.bin .eql (.var 9 0 (.int .i64)) (.int .i64 (5)))
 (.ask (.bin .eql (.var 9 0 (.int .i64)) (.int .i64 (4)))
 (.leaf 8 (.ret [] [(.bool true)]))
 (.leaf 8 (.ret [] [(.bool true)])))
 (.ask (.bin .eql (.len (.var 9 4 (.sl 9))) (.int .i64 (0)))
 (.ask (.bin .eql (.var 9 0 (.int .i64)) (.int .i64 (4)))
 (.leaf 8 (.ret [] [(.bool true)]))
 (.leaf 8 (.ret [] [(.bin .eql (.len (.var 9 5 (.sl 31))) (.int .i64 (0)))])))
 (.leaf 8 (.ret [] [(.bool false)]))))
 (.ask (.bin .eql (.var 9 3 .str) (.str 0 0))
 (.ask (.bin .eql (.var 9 0 (.int .i64)) (.int .i64 (5)))
 (.ask (.bin .eql (.var 9 0 (.int .i64)) (.int .i64 (4)))
 (.leaf 8 (.ret [] [(.bool true)]))
 (.leaf 8 (.ret [] [(.bool true)])))
 (.ask (.bin .eql (.len (.var 9 4 (.sl 9))) (.int .i64 (0)))
 (.ask (.bin .eql (.var 9 0 (.int .i64)) (.int .i64 (4)))
 (.leaf 8 (.ret [] [(.bool true)]))
 (.leaf 8 (.ret [] [(.bin .eql (.len (.var 9 5 (.sl 31))) (.int .i64 (0)))])))
 (.leaf 8 (.ret [] [(.bool false)]))))
 (.leaf 8 (.ret [] [(.bool false)]))))
 (.ask (.bin .eql (.var 9 0 (.int .i64)) (.int .i64 (7)))
 (.ask (.bin .eql (.var 9 0 (.int .i64)) (.int .i64 (3)))
 (.ask (.bin .eql (.var 9 0 (.int .i64)) (.int .i64 (5)))
 (.ask (.bin .eql (.var 9 0 (.int .i64)) (.int .i64 (4)))
 (.leaf 8 (.ret [] [(.bool true)]))
 (.leaf 8 (.ret [] [(.bool true)])))
 (.ask (.bin .eql (.len (.var 9 4 (.sl 9))) (.int .i64 (0)))
 (.ask (.bin .eql (.var 9 0 (.int .i64)) (.int .i64 (4)))
 (.leaf 8 (.ret [] [(.bool true)]))
 (.leaf 8 (.ret [] [(.bin .eql (.len (.var 9 5 (.sl 31))) (.int .i64 (0)))])))
 (.leaf 8 (.ret [] [(.bool false)]))))
 (.ask (.bin .eql (.var 9 3 .str) (.str 0 0))
 (.ask (.bin .eql (.var 9 0 (.int .i64)) (.int .i64 (5)))
 (.ask (.bin .eql (.var 9 0 (.int .i64)) (.int .i64 (4)))
 (.leaf 8 (.ret [] [(.bool true)]))
 (.leaf 8 (.ret [] [(.bool true)])))
 (.ask (.bin .eql (.len (.var 9 4 (.sl 9))) (.int .i64 (0)))
 (.ask (.bin .eql (.var 9 0 (.int .i64)) (.int .i64 (4)))
 (.leaf 8 (.ret [] [(.bool true)]))
 (.leaf 8 (.ret [] [(.bin .eql (.len (.var 9 5 (.sl 31))) (.int .i64 (0)))])))
 (.leaf 8 (.ret [] [(.bool false)]))))
 (.leaf 8 (.ret [] [(.bool false)]))))
 (.ask (.bin .eql (.var 9 2 (.int .i64)) (.int .i64 (0)))
 (.ask (.bin .eql (.var 9 0 (.int .i64)) (.int .i64 (3)))
 (.ask (.bin .eql (.var 9 0 (.int .i64)) (.int .i64 (5)))
 (.ask (.bin .eql (.var 9 0 (.int .i64)) (.int .i64 (4)))
 (.leaf 8 (.ret [] [(.bool true)]))
 (.leaf 8 (.ret [] [(.bool true)])))
 (.ask (.bin .eql (.len (.var 9 4 (.sl 9))) (.int .i64 (0)))
 (.ask (.bin .eql (.var 9 0 (.int .i64)) (.int .i64 (4)))
 (.leaf 8 (.ret [] [(.bool true)]))
 (.leaf 8 (.ret [] [(.bin .eql (.len (.var 9 5 (.sl 31))) (.int .i64 (0)))])))
 (.leaf 8 (.ret [] [(.bool false)]))))
 (.ask (.bin .eql (.var 9 3 .str) (.str 0 0))
 (.ask (.bin .eql (.var 9 0 (.int .i64)) (.int .i64 (5)))
 (.ask (.bin .eql (.var 9 0 (.int .i64)) (.int .i64 (4)))
 (.leaf 8 (.ret [] [(.bool true)]))
 (.leaf 8 (.ret [] [(.bool true)])))
 (.ask (.bin .eql (.len (.var 9 4 (.sl 9))) (.int .i64 (0)))
 (.ask (.bin .eql (.var 9 0 (.int .i64)) (.int .i64 (4)))
 (.leaf 8 (.ret [] [(.bool true)]))
 (.leaf 8 (.ret [] [(.bin .eql (.len (.var 9 5 (.sl 31))) (.int .i64 (0)))])))
 (.leaf 8 (.ret [] [(.bool false)]))))
 (.leaf 8 (.ret [] [(.bool false)]))))
 (.leaf 8 (.ret [] [(.bool false)]))))))
 (.ask (.un .not (.var 9 1 .bool))
 (.ask (.bin .eql (.var 9 0 (.int .i64)) (.int .i64 (2)))
 (.ask (.bin .eql (.var 9 0 (.int .i64)) (.int .i64 (3)))
 (.ask (.bin .eql (.var 9 0 (.int .i64)) (.int .i64 (5)))
 (.ask (.bin .eql (.var 9 0 (.int .i64)) (.int .i64 (4)))
 (.leaf 8 (.ret [] [(.bool true)]))
 (.leaf 8 (.ret [] [(.bool true)])))
 (.ask (.bin .eql (.len (.var 9 4 (.sl 9))) (.int .i64 (0)))
 (.ask (.bin .eql (.var 9 0 (.int .i64)) (.int .i64 (4)))
 (.leaf 8 (.ret [] [(.bool true)]))
 (.leaf 8 (.ret [] [(.bin .eql (.len (.var 9 5 (.sl 31))) (.int .i64 (0)))])))
 (.leaf 8 (.ret [] [(.bool false)]))))
 (.ask (.bin .eql (.var 9 3 .str) (.str 0 0))
 (.ask (.bin .eql (.var 9 0 (.int .i64)) (.int .i64 (5)))
 (.ask (.bin .eql (.var 9 0 (.int .i64)) (.int .i64 (4)))
 (.leaf 8 (.ret [] [(.bool true)]))
 (.leaf 8 (.ret [] [(.bool true)])))
 (.ask (.bin .eql (.len (.var 9 4 (.sl 9))) (.int .i64 (0)))
 (.ask (.bin .eql (.var 9 0 (.int .i64)) (.int .i64 (4)))
 (.leaf 8 (.ret [] [(.bool true)]))
 (.leaf 8 (.ret [] [(.bin .eql (.len (.var 9 5 (.sl 31))) (.int .i64 (0)))])))
 (.leaf 8 (.ret [] [(.bool false)]))))
 (.leaf 8 (.ret [] [(.bool false)]))))
 (.ask (.bin .eql (.var 9 0 (.int .i64)) (.int .i64 (6)))
 (.ask (.bin .eql (.var 9 0 (.int .i64)) (.int .i64 (3)))
 (.ask (.bin .eql (.var 9 0 (.int .i64)) (.int .i64 (5)))
 (.ask (.bin .eql (.var 9 0 (.int .i64)) (.int .i64 (4)))
 (.leaf 8 (.ret [] [(.bool true)]))
 (.leaf 8 (.ret [] [(.bool true)])))
 (.ask (.bin .eql (.len (.var 9 4 (.sl 9))) (.int .i64 (0)))
 (.ask (.bin .eql (.var 9 0 (.int .i64)) (.int .i64 (4)))
 (.leaf 8 (.ret [] [(.bool true)]))
 (.leaf 8 (.ret [] [(.bin .eql (.len (.var 9 5 (.sl 31))) (.int .i64 (0)))])))
 (.leaf 8 (.ret [] [(.bool false)]))))
 (.ask (.bin .eql (.var 9 3 .str) (.str 0 0))
 (.ask (.bin .eql (.var 9 0 (.int .i64)) (.int .i64 (5)))
 (.ask (.bin .eql (.var 9 0 (.int .i64)) (.int .i64 (4)))
 (.leaf 8 (.ret [] [(.bool true)]))
 (.leaf 8 (.ret [] [(.bool true)])))
 (.ask (.bin .eql (.len (.var 9 4 (.sl 9))) (.int .i64 (0)))
 (.ask (.bin .eql (.var 9 0 (.int .i64)) (.int .i64 (4)))
 (.leaf 8 (.ret [] [(.bool true)]))
 (.leaf 8 (.ret [] [(.bin .eql (.len (.var 9 5 (.sl 31))) (.int .i64 (0)))])))
 (.leaf 8 (.ret [] [(.bool false)]))))
 (.leaf 8 (.ret [] [(.bool false)]))))
 (.ask (.bin .eql (.var 9 0 (.int .i64)) (.int .i64 (7)))
 (.ask (.bin .eql (.var 9 0 (.int .i64)) (.int .i64 (3)))
 (.ask (.bin .eql (.var 9 0 (.int .i64)) (.int .i64 (5)))
 (.ask (.bin .eql (.var 9 0 (.int .i64)) (.int .i64 (4)))
 (.leaf 8 (.ret [] [(.bool true)]))
 (.leaf 8 (.ret [] [(.bool true)])))
 (.ask (.bin .eql (.len (.var 9 4 (.sl 9))) (.int .i64 (0)))
 (.ask (.bin .eql (.var 9 0 (.int .i64)) (.int .i64 (4)))
 (.leaf 8 (.ret [] [(.bool true)]))
 (.leaf 8 (.ret [] [(.bin .eql (.len (.var 9 5 (.sl 31))) (.int .i64 (0)))])))
 (.leaf 8 (.ret [] [(.bool false)]))))
 (.ask (.bin .eql (.var 9 3 .str) (.str 0 0))
 (.ask (.bin .eql (.var 9 0 (.int .i64)) (.int .i64 (5)))
 (.ask (.bin .eql (.var 9 0 (.int .i64)) (.int .i64 (4)))
 (.leaf 8 (.ret [] [(.bool true)]))
 (.leaf 8 (.ret [] [(.bool true)])))
 (.ask (.bin .eql (.len (.var 9 4 (.sl 9))) (.int .i64 (0)))
 (.ask (.bin .eql (.var 9 0 (.int .i64)) (.int .i64 (4)))
 (.leaf 8 (.ret [] [(.bool true)]))
 (.leaf 8 (.ret [] [(.bin .eql (.len (.var 9 5 (.sl 31))) (.int .i64 (0)))])))
 (.leaf 8 (.ret [] [(.bool false)]))))
 (.leaf 8 (.ret [] [(.bool false)]))))
 (.ask (.bin .eql (.var 9 2 (.int .i64)) (.int .i64 (0)))
 (.ask (.bin .eql (.var 9 0 (.int .i64)) (.int .i64 (3)))
 (.ask (.bin .eql (.var 9 0 (.int .i64)) (.int .i64 (5)))
 (.ask (.bin .eql (.var 9 0 (.int .i64)) (.int .i64 (4)))
 (.leaf 8 (.ret [] [(.bool true)]))
 (.leaf 8 (.ret [] [(.bool true)])))
 (.ask (.bin .eql (.len (.var 9 4 (.sl 9))) (.int .i64 (0)))
 (.ask (.bin .eql (.var 9 0 (.int .i64)) (.int .i64 (4)))
 (.leaf 8 (.ret [] [(.bool true)]))
 (.leaf 8 (.ret [] [(.bin .eql (.len (.var 9 5 (.sl 31))) (.int .i64 (0)))])))
 (.leaf 8 (.ret [] [(.bool false)]))))
 (.ask (.bin .eql (.var 9 3 .str) (.str 0 0))
 (.ask (.bin .eql (.var 9 0 (.int .i64)) (.int .i64 (5)))
 (.ask (.bin .eql (.var 9 0 (.int .i64)) (.int .i64 (4)))
 (.leaf 8 (.ret [] [(.bool true)]))
 (.leaf 8 (.ret [] [(.bool true)])))
 (.ask (.bin .eql (.len (.var 9 4 (.sl 9))) (.int .i64 (0)))
 (.ask (.bin .eql (.var 9 0 (.int .i64)) (.int .i64 (4)))
 (.leaf 8 (.ret [] [(.bool true)]))
 (.leaf 8 (.ret [] [(.bin .eql (.len (.var 9 5 (.sl 31))) (.int .i64 (0)))])))
 (.leaf 8 (.ret [] [(.bool false)]))))
 (.leaf 8 (.ret [] [(.bool false)]))))
 (.leaf 8 (.ret [] [(.bool false)]))))))
 (.leaf 8 (.ret [] [(.bool false)])))
theorem baret_ok:Pth.allS Tryz.prog hk0 9 Kbare barecuts (baret.paths []):=
 ⟨Pth.okS_ret (by kernel_rfl) (by kernel_rfl),
  Pth.okS_ret (by kernel_rfl) (by kernel_rfl),
  Pth.okS_ret (by kernel_rfl) (by kernel_rfl),
  Pth.okS_ret (by kernel_rfl) (by kernel_rfl),
  Pth.okS_ret (by kernel_rfl) (by kernel_rfl),
  Pth.okS_ret (by kernel_rfl) (by kernel_rfl),
  Pth.okS_ret (by kernel_rfl) (by kernel_rfl),
  Pth.okS_ret (by kernel_rfl) (by kernel_rfl),
  Pth.okS_ret (by kernel_rfl) (by kernel_rfl),
  Pth.okS_ret (by kernel_rfl) (by kernel_rfl),
  Pth.okS_ret (by kernel_rfl) (by kernel_rfl),
  Pth.okS_ret (by kernel_rfl) (by kernel_rfl),
  Pth.okS_ret (by kernel_rfl) (by kernel_rfl),
  Pth.okS_ret (by kernel_rfl) (by kernel_rfl),
  Pth.okS_ret (by kernel_rfl) (by kernel_rfl),
  Pth.okS_ret (by kernel_rfl) (by kernel_rfl),
  Pth.okS_ret (by kernel_rfl) (by kernel_rfl),
  Pth.okS_ret (by kernel_rfl) (by kernel_rfl),
  Pth.okS_ret (by kernel_rfl) (by kernel_rfl),
  Pth.okS_ret (by kernel_rfl) (by kernel_rfl),
  Pth.okS_ret (by kernel_rfl) (by kernel_rfl),
  Pth.okS_ret (by kernel_rfl) (by kernel_rfl),
  Pth.okS_ret (by kernel_rfl) (by kernel_rfl),
  Pth.okS_ret (by kernel_rfl) (by kernel_rfl),
  Pth.okS_ret (by kernel_rfl) (by kernel_rfl),
  Pth.okS_ret (by kernel_rfl) (by kernel_rfl),
  Pth.okS_ret (by kernel_rfl) (by kernel_rfl),
  Pth.okS_ret (by kernel_rfl) (by kernel_rfl),
  Pth.okS_ret (by kernel_rfl) (by kernel_rfl),
  Pth.okS_ret (by kernel_rfl) (by kernel_rfl),
  Pth.okS_ret (by kernel_rfl) (by kernel_rfl),
  Pth.okS_ret (by kernel_rfl) (by kernel_rfl),
  Pth.okS_ret (by kernel_rfl) (by kernel_rfl),
  Pth.okS_ret (by kernel_rfl) (by kernel_rfl),
  Pth.okS_ret (by kernel_rfl) (by kernel_rfl),
  Pth.okS_ret (by kernel_rfl) (by kernel_rfl),
  Pth.okS_ret (by kernel_rfl) (by kernel_rfl),
  Pth.okS_ret (by kernel_rfl) (by kernel_rfl),
  Pth.okS_ret (by kernel_rfl) (by kernel_rfl),
  Pth.okS_ret (by kernel_rfl) (by kernel_rfl),
  Pth.okS_ret (by kernel_rfl) (by kernel_rfl),
  Pth.okS_ret (by kernel_rfl) (by kernel_rfl),
  Pth.okS_ret (by kernel_rfl) (by kernel_rfl),
  Pth.okS_ret (by kernel_rfl) (by kernel_rfl),
  Pth.okS_ret (by kernel_rfl) (by kernel_rfl),
  Pth.okS_ret (by kernel_rfl) (by kernel_rfl),
  Pth.okS_ret (by kernel_rfl) (by kernel_rfl),
  Pth.okS_ret (by kernel_rfl) (by kernel_rfl),
  Pth.okS_ret (by kernel_rfl) (by kernel_rfl),
  Pth.okS_ret (by kernel_rfl) (by kernel_rfl),
  Pth.okS_ret (by kernel_rfl) (by kernel_rfl),
  Pth.okS_ret (by kernel_rfl) (by kernel_rfl),
  Pth.okS_ret (by kernel_rfl) (by kernel_rfl),
  Pth.okS_ret (by kernel_rfl) (by kernel_rfl),
  Pth.okS_ret (by kernel_rfl) (by kernel_rfl),
  Pth.okS_ret (by kernel_rfl) (by kernel_rfl),
  Pth.okS_ret (by kernel_rfl) (by kernel_rfl),
  Pth.okS_ret (by kernel_rfl) (by kernel_rfl),
  Pth.okS_ret (by kernel_rfl) (by kernel_rfl),
  Pth.okS_ret (by kernel_rfl) (by kernel_rfl),
  Pth.okS_ret (by kernel_rfl) (by kernel_rfl),
  Pth.okS_ret (by kernel_rfl) (by kernel_rfl),
  Pth.okS_ret (by kernel_rfl) (by kernel_rfl),
  Pth.okS_ret (by kernel_rfl) (by kernel_rfl),
  Pth.okS_ret (by kernel_rfl) (by kernel_rfl),
  Pth.okS_ret (by kernel_rfl) (by kernel_rfl),
  Pth.okS_ret (by kernel_rfl) (by kernel_rfl),
  Pth.okS_ret (by kernel_rfl) (by kernel_rfl),
  Pth.okS_ret (by kernel_rfl) (by kernel_rfl),
  Pth.okS_ret (by kernel_rfl) (by kernel_rfl),
  Pth.okS_ret (by kernel_rfl) (by kernel_rfl),
  Pth.okS_ret (by kernel_rfl) (by kernel_rfl),
  Pth.okS_ret (by kernel_rfl) (by kernel_rfl),
  Pth.okS_ret (by kernel_rfl) (by kernel_rfl),
  Pth.okS_ret (by kernel_rfl) (by kernel_rfl),
  Pth.okS_ret (by kernel_rfl) (by kernel_rfl),
  Pth.okS_ret (by kernel_rfl) (by kernel_rfl),
  Pth.okS_ret (by kernel_rfl) (by kernel_rfl),
  Pth.okS_ret (by kernel_rfl) (by kernel_rfl),
  Pth.okS_ret (by kernel_rfl) (by kernel_rfl),
  Pth.okS_ret (by kernel_rfl) (by kernel_rfl),
  Pth.okS_ret (by kernel_rfl) (by kernel_rfl),
  Pth.okS_ret (by kernel_rfl) (by kernel_rfl),
  Pth.okS_ret (by kernel_rfl) (by kernel_rfl),
  Pth.okS_ret (by kernel_rfl) (by kernel_rfl),
  Pth.okS_ret (by kernel_rfl) (by kernel_rfl),
  Pth.okS_ret (by kernel_rfl) (by kernel_rfl),
  Pth.okS_ret (by kernel_rfl) (by kernel_rfl),
  Pth.okS_ret (by kernel_rfl) (by kernel_rfl),
  Pth.okS_ret (by kernel_rfl) (by kernel_rfl),
  Pth.okS_ret (by kernel_rfl) (by kernel_rfl),
  trivial⟩
variable {k:Nat}{G:World→Prop}
set_option maxHeartbeats 4000000
def utfM (_:Nat)(c:List Cl):Nat:=match c with|[.str s,.int i]=>(s.length-i).toNat|_=>0
end Go.Proofs.Wo

namespace Go.Proofs.Wo
open Go.Exo Go.Exo.Wo
set_option maxRecDepth 100000
set_option linter.all false
noncomputable def sizec0:Ct:=⟨stTodo (outS Tryz.prog hkSize 9 Ksize [] 9),[.junk,.ptr 10 0,.junk,.junk,.junk,.junk,.int .i64 (1),.int .i64 (0),.x (.var 9 0 (.int .i64)),.x (.var 9 1 (.int .i64)),.x (.var 9 2 (.int .i64)),.junk,.junk,.junk,.junk,.junk,.junk,.junk,.junk,.junk,.junk,.junk,.junk,.junk,.junk,.junk,.junk,.junk,.junk,.junk,.junk,.junk,.junk,.junk,.junk,.junk,.junk,.junk,.junk,.junk,.junk,.junk,.junk,.junk,.junk,.junk,.junk,.junk,.junk,.junk,.junk,.junk,.junk,.junk,.junk,.junk,.junk,.junk,.junk,.junk,.junk,.junk,.junk,.junk,.junk,.junk,.junk,.junk,.junk,.junk,.junk,.junk],[some (.cells 31 [.x (.var 9 3 (.int .i64)),.x (.var 9 4 .bool),.x (.var 9 5 (.int .i64)),.x (.var 9 6 .str),.x (.var 9 7 (.sl 9)),.x (.var 9 8 (.sl 31))] 0 false)],[(.int .i64),(.int .i64),(.int .i64),(.int .i64),.bool,(.int .i64),.str,(.sl 9),(.sl 31)]⟩
noncomputable def sizec1:Ct:=⟨stTodo (outC Tryz.prog hkSize 9 10 sizec0 [((.bin .lss (.var 9 2 (.int .i64)) (.len (.var 9 7 (.sl 9)))),false)] 10),[.junk,.ptr 10 0,.junk,.junk,.junk,.junk,.x (.var 9 0 (.int .i64)),.x (.var 9 1 (.int .i64)),.x (.var 9 2 (.int .i64)),.x (.var 9 3 (.int .i64)),.junk,.x (.var 9 4 (.int .i64)),.junk,.junk,.junk,.junk,.junk,.junk,.junk,.junk,.junk,.junk,.junk,.junk,.junk,.junk,.junk,.junk,.junk,.junk,.junk,.junk,.junk,.junk,.junk,.junk,.junk,.junk,.junk,.junk,.junk,.junk,.junk,.junk,.junk,.junk,.junk,.junk,.junk,.junk,.junk,.junk,.junk,.junk,.junk,.junk,.junk,.junk,.junk,.junk,.junk,.junk,.junk,.junk,.junk,.junk,.junk,.junk,.junk,.junk,.junk,.junk],[some (.cells 31 [.x (.var 9 5 (.int .i64)),.x (.var 9 6 .bool),.x (.var 9 7 (.int .i64)),.x (.var 9 8 .str),.x (.var 9 9 (.sl 9)),.x (.var 9 10 (.sl 31))] 0 false)],[(.int .i64),(.int .i64),(.int .i64),(.int .i64),(.int .i64),(.int .i64),.bool,(.int .i64),.str,(.sl 9),(.sl 31)]⟩
noncomputable def sizecuts:List Ct:=[sizec0,sizec1]
def sizet:Tr:=.leaf 9 (.cut 0 [10] [(.len (.var 9 3 .str)),(.len (.var 9 5 (.sl 31))),(.int .i64 (0)),(.var 9 0 (.int .i64)),(.var 9 1 .bool),(.var 9 2 (.int .i64)),(.var 9 3 .str),(.var 9 4 (.sl 9)),(.var 9 5 (.sl 31))])
def sizet0:Tr:=.ask (.bin .lss (.var 9 2 (.int .i64)) (.len (.var 9 7 (.sl 9))))
 (.must (.inr (.var 9 2 (.int .i64)) (.len (.var 9 7 (.sl 9)))) true <|
 .leaf 11 (.cut 0 [10] [(.bin .add (.var 9 0 (.int .i64)) (.len (.el (.var 9 7 (.sl 9)) (.var 9 2 (.int .i64)) 0 .str))),(.var 9 1 (.int .i64)),(.bin .add (.var 9 2 (.int .i64)) (.int .i64 (1))),(.var 9 3 (.int .i64)),(.var 9 4 .bool),(.var 9 5 (.int .i64)),(.var 9 6 .str),(.var 9 7 (.sl 9)),(.var 9 8 (.sl 31))]))
 (.leaf 10 (.cut 1 [10] [(.int .i64 (1)),(.int .i64 (0)),(.var 9 0 (.int .i64)),(.var 9 1 (.int .i64)),(.int .i64 (0)),(.var 9 3 (.int .i64)),(.var 9 4 .bool),(.var 9 5 (.int .i64)),(.var 9 6 .str),(.var 9 7 (.sl 9)),(.var 9 8 (.sl 31))]))
def sizet1:Tr:=.ask (.bin .lss (.var 9 4 (.int .i64)) (.len (.var 9 10 (.sl 31))))
 (.must (.inr (.var 9 4 (.int .i64)) (.len (.var 9 10 (.sl 31)))) true <|
 .must (.app 9 1000000 (.cons (.el (.var 9 10 (.sl 31)) (.var 9 4 (.int .i64)) 0 (.int .i64)) (.cons (.el (.var 9 10 (.sl 31)) (.var 9 4 (.int .i64)) 1 .bool) (.cons (.el (.var 9 10 (.sl 31)) (.var 9 4 (.int .i64)) 2 (.int .i64)) (.cons (.el (.var 9 10 (.sl 31)) (.var 9 4 (.int .i64)) 3 .str) (.cons (.el (.var 9 10 (.sl 31)) (.var 9 4 (.int .i64)) 4 (.sl 9)) (.cons (.el (.var 9 10 (.sl 31)) (.var 9 4 (.int .i64)) 5 (.sl 31)) .nilA)))))) .bool) true <|
 .ask (.bin .lss (.var 9 1 (.int .i64)) (.app 9 1 (.cons (.el (.var 9 10 (.sl 31)) (.var 9 4 (.int .i64)) 0 (.int .i64)) (.cons (.el (.var 9 10 (.sl 31)) (.var 9 4 (.int .i64)) 1 .bool) (.cons (.el (.var 9 10 (.sl 31)) (.var 9 4 (.int .i64)) 2 (.int .i64)) (.cons (.el (.var 9 10 (.sl 31)) (.var 9 4 (.int .i64)) 3 .str) (.cons (.el (.var 9 10 (.sl 31)) (.var 9 4 (.int .i64)) 4 (.sl 9)) (.cons (.el (.var 9 10 (.sl 31)) (.var 9 4 (.int .i64)) 5 (.sl 31)) .nilA)))))) (.int .i64)))
 (.ask (.bin .lss (.var 9 3 (.int .i64)) (.app 9 3 (.cons (.el (.var 9 10 (.sl 31)) (.var 9 4 (.int .i64)) 0 (.int .i64)) (.cons (.el (.var 9 10 (.sl 31)) (.var 9 4 (.int .i64)) 1 .bool) (.cons (.el (.var 9 10 (.sl 31)) (.var 9 4 (.int .i64)) 2 (.int .i64)) (.cons (.el (.var 9 10 (.sl 31)) (.var 9 4 (.int .i64)) 3 .str) (.cons (.el (.var 9 10 (.sl 31)) (.var 9 4 (.int .i64)) 4 (.sl 9)) (.cons (.el (.var 9 10 (.sl 31)) (.var 9 4 (.int .i64)) 5 (.sl 31)) .nilA)))))) (.int .i64)))
 (.leaf 14 (.cut 1 [10] [(.bin .add (.var 9 0 (.int .i64)) (.app 9 0 (.cons (.el (.var 9 10 (.sl 31)) (.var 9 4 (.int .i64)) 0 (.int .i64)) (.cons (.el (.var 9 10 (.sl 31)) (.var 9 4 (.int .i64)) 1 .bool) (.cons (.el (.var 9 10 (.sl 31)) (.var 9 4 (.int .i64)) 2 (.int .i64)) (.cons (.el (.var 9 10 (.sl 31)) (.var 9 4 (.int .i64)) 3 .str) (.cons (.el (.var 9 10 (.sl 31)) (.var 9 4 (.int .i64)) 4 (.sl 9)) (.cons (.el (.var 9 10 (.sl 31)) (.var 9 4 (.int .i64)) 5 (.sl 31)) .nilA)))))) (.int .i64))),(.app 9 1 (.cons (.el (.var 9 10 (.sl 31)) (.var 9 4 (.int .i64)) 0 (.int .i64)) (.cons (.el (.var 9 10 (.sl 31)) (.var 9 4 (.int .i64)) 1 .bool) (.cons (.el (.var 9 10 (.sl 31)) (.var 9 4 (.int .i64)) 2 (.int .i64)) (.cons (.el (.var 9 10 (.sl 31)) (.var 9 4 (.int .i64)) 3 .str) (.cons (.el (.var 9 10 (.sl 31)) (.var 9 4 (.int .i64)) 4 (.sl 9)) (.cons (.el (.var 9 10 (.sl 31)) (.var 9 4 (.int .i64)) 5 (.sl 31)) .nilA)))))) (.int .i64)),(.bin .add (.var 9 2 (.int .i64)) (.app 9 2 (.cons (.el (.var 9 10 (.sl 31)) (.var 9 4 (.int .i64)) 0 (.int .i64)) (.cons (.el (.var 9 10 (.sl 31)) (.var 9 4 (.int .i64)) 1 .bool) (.cons (.el (.var 9 10 (.sl 31)) (.var 9 4 (.int .i64)) 2 (.int .i64)) (.cons (.el (.var 9 10 (.sl 31)) (.var 9 4 (.int .i64)) 3 .str) (.cons (.el (.var 9 10 (.sl 31)) (.var 9 4 (.int .i64)) 4 (.sl 9)) (.cons (.el (.var 9 10 (.sl 31)) (.var 9 4 (.int .i64)) 5 (.sl 31)) .nilA)))))) (.int .i64))),(.app 9 3 (.cons (.el (.var 9 10 (.sl 31)) (.var 9 4 (.int .i64)) 0 (.int .i64)) (.cons (.el (.var 9 10 (.sl 31)) (.var 9 4 (.int .i64)) 1 .bool) (.cons (.el (.var 9 10 (.sl 31)) (.var 9 4 (.int .i64)) 2 (.int .i64)) (.cons (.el (.var 9 10 (.sl 31)) (.var 9 4 (.int .i64)) 3 .str) (.cons (.el (.var 9 10 (.sl 31)) (.var 9 4 (.int .i64)) 4 (.sl 9)) (.cons (.el (.var 9 10 (.sl 31)) (.var 9 4 (.int .i64)) 5 (.sl 31)) .nilA)))))) (.int .i64)),(.bin .add (.var 9 4 (.int .i64)) (.int .i64 (1))),(.var 9 5 (.int .i64)),(.var 9 6 .bool),(.var 9 7 (.int .i64)),(.var 9 8 .str),(.var 9 9 (.sl 9)),(.var 9 10 (.sl 31))]))
 (.leaf 14 (.cut 1 [10] [(.bin .add (.var 9 0 (.int .i64)) (.app 9 0 (.cons (.el (.var 9 10 (.sl 31)) (.var 9 4 (.int .i64)) 0 (.int .i64)) (.cons (.el (.var 9 10 (.sl 31)) (.var 9 4 (.int .i64)) 1 .bool) (.cons (.el (.var 9 10 (.sl 31)) (.var 9 4 (.int .i64)) 2 (.int .i64)) (.cons (.el (.var 9 10 (.sl 31)) (.var 9 4 (.int .i64)) 3 .str) (.cons (.el (.var 9 10 (.sl 31)) (.var 9 4 (.int .i64)) 4 (.sl 9)) (.cons (.el (.var 9 10 (.sl 31)) (.var 9 4 (.int .i64)) 5 (.sl 31)) .nilA)))))) (.int .i64))),(.app 9 1 (.cons (.el (.var 9 10 (.sl 31)) (.var 9 4 (.int .i64)) 0 (.int .i64)) (.cons (.el (.var 9 10 (.sl 31)) (.var 9 4 (.int .i64)) 1 .bool) (.cons (.el (.var 9 10 (.sl 31)) (.var 9 4 (.int .i64)) 2 (.int .i64)) (.cons (.el (.var 9 10 (.sl 31)) (.var 9 4 (.int .i64)) 3 .str) (.cons (.el (.var 9 10 (.sl 31)) (.var 9 4 (.int .i64)) 4 (.sl 9)) (.cons (.el (.var 9 10 (.sl 31)) (.var 9 4 (.int .i64)) 5 (.sl 31)) .nilA)))))) (.int .i64)),(.bin .add (.var 9 2 (.int .i64)) (.app 9 2 (.cons (.el (.var 9 10 (.sl 31)) (.var 9 4 (.int .i64)) 0 (.int .i64)) (.cons (.el (.var 9 10 (.sl 31)) (.var 9 4 (.int .i64)) 1 .bool) (.cons (.el (.var 9 10 (.sl 31)) (.var 9 4 (.int .i64)) 2 (.int .i64)) (.cons (.el (.var 9 10 (.sl 31)) (.var 9 4 (.int .i64)) 3 .str) (.cons (.el (.var 9 10 (.sl 31)) (.var 9 4 (.int .i64)) 4 (.sl 9)) (.cons (.el (.var 9 10 (.sl 31)) (.var 9 4 (.int .i64)) 5 (.sl 31)) .nilA)))))) (.int .i64))),(.var 9 3 (.int .i64)),(.bin .add (.var 9 4 (.int .i64)) (.int .i64 (1))),(.var 9 5 (.int .i64)),(.var 9 6 .bool),(.var 9 7 (.int .i64)),(.var 9 8 .str),(.var 9 9 (.sl 9)),(.var 9 10 (.sl 31))])))
 (.ask (.bin .lss (.var 9 3 (.int .i64)) (.app 9 3 (.cons (.el (.var 9 10 (.sl 31)) (.var 9 4 (.int .i64)) 0 (.int .i64)) (.cons (.el (.var 9 10 (.sl 31)) (.var 9 4 (.int .i64)) 1 .bool) (.cons (.el (.var 9 10 (.sl 31)) (.var 9 4 (.int .i64)) 2 (.int .i64)) (.cons (.el (.var 9 10 (.sl 31)) (.var 9 4 (.int .i64)) 3 .str) (.cons (.el (.var 9 10 (.sl 31)) (.var 9 4 (.int .i64)) 4 (.sl 9)) (.cons (.el (.var 9 10 (.sl 31)) (.var 9 4 (.int .i64)) 5 (.sl 31)) .nilA)))))) (.int .i64)))
 (.leaf 14 (.cut 1 [10] [(.bin .add (.var 9 0 (.int .i64)) (.app 9 0 (.cons (.el (.var 9 10 (.sl 31)) (.var 9 4 (.int .i64)) 0 (.int .i64)) (.cons (.el (.var 9 10 (.sl 31)) (.var 9 4 (.int .i64)) 1 .bool) (.cons (.el (.var 9 10 (.sl 31)) (.var 9 4 (.int .i64)) 2 (.int .i64)) (.cons (.el (.var 9 10 (.sl 31)) (.var 9 4 (.int .i64)) 3 .str) (.cons (.el (.var 9 10 (.sl 31)) (.var 9 4 (.int .i64)) 4 (.sl 9)) (.cons (.el (.var 9 10 (.sl 31)) (.var 9 4 (.int .i64)) 5 (.sl 31)) .nilA)))))) (.int .i64))),(.var 9 1 (.int .i64)),(.bin .add (.var 9 2 (.int .i64)) (.app 9 2 (.cons (.el (.var 9 10 (.sl 31)) (.var 9 4 (.int .i64)) 0 (.int .i64)) (.cons (.el (.var 9 10 (.sl 31)) (.var 9 4 (.int .i64)) 1 .bool) (.cons (.el (.var 9 10 (.sl 31)) (.var 9 4 (.int .i64)) 2 (.int .i64)) (.cons (.el (.var 9 10 (.sl 31)) (.var 9 4 (.int .i64)) 3 .str) (.cons (.el (.var 9 10 (.sl 31)) (.var 9 4 (.int .i64)) 4 (.sl 9)) (.cons (.el (.var 9 10 (.sl 31)) (.var 9 4 (.int .i64)) 5 (.sl 31)) .nilA)))))) (.int .i64))),(.app 9 3 (.cons (.el (.var 9 10 (.sl 31)) (.var 9 4 (.int .i64)) 0 (.int .i64)) (.cons (.el (.var 9 10 (.sl 31)) (.var 9 4 (.int .i64)) 1 .bool) (.cons (.el (.var 9 10 (.sl 31)) (.var 9 4 (.int .i64)) 2 (.int .i64)) (.cons (.el (.var 9 10 (.sl 31)) (.var 9 4 (.int .i64)) 3 .str) (.cons (.el (.var 9 10 (.sl 31)) (.var 9 4 (.int .i64)) 4 (.sl 9)) (.cons (.el (.var 9 10 (.sl 31)) (.var 9 4 (.int .i64)) 5 (.sl 31)) .nilA)))))) (.int .i64)),(.bin .add (.var 9 4 (.int .i64)) (.int .i64 (1))),(.var 9 5 (.int .i64)),(.var 9 6 .bool),(.var 9 7 (.int .i64)),(.var 9 8 .str),(.var 9 9 (.sl 9)),(.var 9 10 (.sl 31))]))
 (.leaf 14 (.cut 1 [10] [(.bin .add (.var 9 0 (.int .i64)) (.app 9 0 (.cons (.el (.var 9 10 (.sl 31)) (.var 9 4 (.int .i64)) 0 (.int .i64)) (.cons (.el (.var 9 10 (.sl 31)) (.var 9 4 (.int .i64)) 1 .bool) (.cons (.el (.var 9 10 (.sl 31)) (.var 9 4 (.int .i64)) 2 (.int .i64)) (.cons (.el (.var 9 10 (.sl 31)) (.var 9 4 (.int .i64)) 3 .str) (.cons (.el (.var 9 10 (.sl 31)) (.var 9 4 (.int .i64)) 4 (.sl 9)) (.cons (.el (.var 9 10 (.sl 31)) (.var 9 4 (.int .i64)) 5 (.sl 31)) .nilA)))))) (.int .i64))),(.var 9 1 (.int .i64)),(.bin .add (.var 9 2 (.int .i64)) (.app 9 2 (.cons (.el (.var 9 10 (.sl 31)) (.var 9 4 (.int .i64)) 0 (.int .i64)) (.cons (.el (.var 9 10 (.sl 31)) (.var 9 4 (.int .i64)) 1 .bool) (.cons (.el (.var 9 10 (.sl 31)) (.var 9 4 (.int .i64)) 2 (.int .i64)) (.cons (.el (.var 9 10 (.sl 31)) (.var 9 4 (.int .i64)) 3 .str) (.cons (.el (.var 9 10 (.sl 31)) (.var 9 4 (.int .i64)) 4 (.sl 9)) (.cons (.el (.var 9 10 (.sl 31)) (.var 9 4 (.int .i64)) 5 (.sl 31)) .nilA)))))) (.int .i64))),(.var 9 3 (.int .i64)),(.bin .add (.var 9 4 (.int .i64)) (.int .i64 (1))),(.var 9 5 (.int .i64)),(.var 9 6 .bool),(.var 9 7 (.int .i64)),(.var 9 8 .str),(.var 9 9 (.sl 9)),(.var 9 10 (.sl 31))]))))
 (.leaf 8 (.ret [] [(.var 9 0 (.int .i64)),(.bin .add (.var 9 1 (.int .i64)) (.int .i64 (1))),(.var 9 2 (.int .i64)),(.var 9 3 (.int .i64))]))
theorem sizet_ok:Pth.allS Tryz.prog hkSize 9 Ksize sizecuts (sizet.paths []):=
 ⟨Pth.okS_cut sizec0 rfl (by kernel_rfl) (by kernel_rfl),
  trivial⟩
theorem sizet0_ok:Pth.allC Tryz.prog hkSize 9 Ksize sizecuts sizec0 (sizet0.paths []):=
 ⟨Pth.okC_cut sizec0 rfl (by kernel_rfl) (by kernel_rfl),
  Pth.okC_cut sizec1 rfl (by kernel_rfl) (by kernel_rfl),
  trivial⟩
theorem sizet1_ok:Pth.allC Tryz.prog hkSize 9 Ksize sizecuts sizec1 (sizet1.paths []):=
 ⟨Pth.okC_cut sizec1 rfl (by kernel_rfl) (by kernel_rfl),
  Pth.okC_cut sizec1 rfl (by kernel_rfl) (by kernel_rfl),
  Pth.okC_cut sizec1 rfl (by kernel_rfl) (by kernel_rfl),
  Pth.okC_cut sizec1 rfl (by kernel_rfl) (by kernel_rfl),
  Pth.okC_ret (by kernel_rfl) (by kernel_rfl),
  trivial⟩
variable {k:Nat}{G:World→Prop}
set_option maxHeartbeats 4000000
def Int4 (_ r:List Cl):Prop:=∃ a b c d,r=[.int a,.int b,.int c,.int d]
def sizeM (j:Nat)(c:List Cl):Nat:=match c with
 |[_,_,.int i,_,_,_,_,.sl _ ys,.sl _ rs]=>(ys.length-i).toNat+rs.length+1
 |[_,_,_,_,.int i,_,_,_,_,_,.sl _ rs]=>(rs.length-i).toNat
 |_=>0
end Go.Proofs.Wo

namespace Go.Proofs.Wo
open Go.Exo Go.Exo.Wo
set_option maxRecDepth 100000
set_option linter.all false
noncomputable def mayc0:Ct:=⟨stTodo (outS Tryz.prog hkMay 9 Kmay [((.bin .lss (.var 9 0 (.int .i64)) (.int .i64 (0))),false),((.bin .gtr (.var 9 0 (.int .i64)) (.int .i64 (7))),false),((.app 9 0 (.cons (.var 9 0 (.int .i64)) (.cons (.var 9 1 .bool) (.cons (.var 9 2 (.int .i64)) (.cons (.var 9 3 .str) (.cons (.var 9 4 (.sl 9)) (.cons (.var 9 5 (.sl 31)) .nilA)))))) .bool),true),((.bin .eql (.var 9 0 (.int .i64)) (.int .i64 (6))),true),((.bin .lss (.var 9 2 (.int .i64)) (.int .i64 (0))),false),((.app 9 1000001 (.cons (.var 9 3 .str) .nilA) .bool),true),((.app 9 1 (.cons (.var 9 3 .str) .nilA) .bool),true)] 14),[.junk,.ptr 10 0,.junk,.x (.var 9 0 (.int .i64)),.junk,.junk,.junk,.junk,.junk,.junk,.junk,.junk,.junk,.junk,.junk,.junk,.junk,.junk,.junk,.junk,.junk,.junk,.junk,.junk,.junk,.junk,.junk,.junk,.junk,.junk,.junk,.junk,.junk,.junk,.junk,.junk,.junk,.junk,.junk,.junk,.junk,.junk,.junk,.junk,.junk,.junk,.junk,.junk,.junk,.junk,.junk,.junk,.junk,.junk,.junk,.junk,.junk,.junk,.junk,.junk,.junk,.junk,.junk,.junk,.junk,.junk,.junk,.junk,.junk,.junk,.junk,.junk,.junk,.junk,.junk,.junk,.junk,.junk,.junk,.junk,.junk,.junk,.junk,.junk,.junk,.junk,.junk,.junk,.junk,.junk,.junk,.junk,.junk,.junk,.junk,.junk,.junk,.junk,.junk],[some (.cells 31 [.x (.var 9 1 (.int .i64)),.x (.var 9 2 .bool),.x (.var 9 3 (.int .i64)),.x (.var 9 4 .str),.x (.var 9 5 (.sl 9)),.x (.var 9 6 (.sl 31))] 0 false)],[(.int .i64),(.int .i64),.bool,(.int .i64),.str,(.sl 9),(.sl 31)]⟩
noncomputable def mayc1:Ct:=⟨stTodo (outC Tryz.prog hkMay 9 9 mayc0 [((.bin .lss (.var 9 0 (.int .i64)) (.len (.var 9 5 (.sl 9)))),false)] 10),[.junk,.ptr 10 0,.junk,.junk,.x (.var 9 0 (.int .i64)),.junk,.junk,.junk,.junk,.junk,.junk,.junk,.junk,.junk,.junk,.junk,.junk,.junk,.junk,.junk,.junk,.junk,.junk,.junk,.junk,.junk,.junk,.junk,.junk,.junk,.junk,.junk,.junk,.junk,.junk,.junk,.junk,.junk,.junk,.junk,.junk,.junk,.junk,.junk,.junk,.junk,.junk,.junk,.junk,.junk,.junk,.junk,.junk,.junk,.junk,.junk,.junk,.junk,.junk,.junk,.junk,.junk,.junk,.junk,.junk,.junk,.junk,.junk,.junk,.junk,.junk,.junk,.junk,.junk,.junk,.junk,.junk,.junk,.junk,.junk,.junk,.junk,.junk,.junk,.junk,.junk,.junk,.junk,.junk,.junk,.junk,.junk,.junk,.junk,.junk,.junk,.junk,.junk,.junk],[some (.cells 31 [.x (.var 9 1 (.int .i64)),.x (.var 9 2 .bool),.x (.var 9 3 (.int .i64)),.x (.var 9 4 .str),.x (.var 9 5 (.sl 9)),.x (.var 9 6 (.sl 31))] 0 false)],[(.int .i64),(.int .i64),.bool,(.int .i64),.str,(.sl 9),(.sl 31)]⟩
noncomputable def maycuts:List Ct:=[mayc0,mayc1]
def mayt:Tr:=.ask (.bin .lss (.var 9 0 (.int .i64)) (.int .i64 (0)))
 (.leaf 9 (.ret [] [(.bool false)]))
 (.ask (.bin .gtr (.var 9 0 (.int .i64)) (.int .i64 (7)))
 (.leaf 9 (.ret [] [(.bool false)]))
 (.ask (.app 9 0 (.cons (.var 9 0 (.int .i64)) (.cons (.var 9 1 .bool) (.cons (.var 9 2 (.int .i64)) (.cons (.var 9 3 .str) (.cons (.var 9 4 (.sl 9)) (.cons (.var 9 5 (.sl 31)) .nilA)))))) .bool)
 (.ask (.bin .eql (.var 9 0 (.int .i64)) (.int .i64 (6)))
 (.ask (.bin .lss (.var 9 2 (.int .i64)) (.int .i64 (0)))
 (.leaf 10 (.ret [] [(.bool false)]))
 (.must (.app 9 1000001 (.cons (.var 9 3 .str) .nilA) .bool) true <|
 .ask (.app 9 1 (.cons (.var 9 3 .str) .nilA) .bool)
 (.leaf 14 (.cut 0 [10] [(.int .i64 (0)),(.var 9 0 (.int .i64)),(.var 9 1 .bool),(.var 9 2 (.int .i64)),(.var 9 3 .str),(.var 9 4 (.sl 9)),(.var 9 5 (.sl 31))]))
 (.leaf 11 (.ret [] [(.bool false)]))))
 (.ask (.bin .eql (.var 9 0 (.int .i64)) (.int .i64 (7)))
 (.ask (.bin .lss (.var 9 2 (.int .i64)) (.int .i64 (0)))
 (.leaf 10 (.ret [] [(.bool false)]))
 (.must (.app 9 1000001 (.cons (.var 9 3 .str) .nilA) .bool) true <|
 .ask (.app 9 1 (.cons (.var 9 3 .str) .nilA) .bool)
 (.leaf 14 (.cut 0 [10] [(.int .i64 (0)),(.var 9 0 (.int .i64)),(.var 9 1 .bool),(.var 9 2 (.int .i64)),(.var 9 3 .str),(.var 9 4 (.sl 9)),(.var 9 5 (.sl 31))]))
 (.leaf 11 (.ret [] [(.bool false)]))))
 (.must (.app 9 1000001 (.cons (.var 9 3 .str) .nilA) .bool) true <|
 .ask (.app 9 1 (.cons (.var 9 3 .str) .nilA) .bool)
 (.ask (.bin .eql (.var 9 0 (.int .i64)) (.int .i64 (5)))
 (.ask (.bin .neq (.len (.var 9 4 (.sl 9))) (.len (.var 9 5 (.sl 31))))
 (.leaf 11 (.ret [] [(.bool false)]))
 (.leaf 14 (.cut 0 [10] [(.int .i64 (0)),(.var 9 0 (.int .i64)),(.var 9 1 .bool),(.var 9 2 (.int .i64)),(.var 9 3 .str),(.var 9 4 (.sl 9)),(.var 9 5 (.sl 31))])))
 (.leaf 14 (.cut 0 [10] [(.int .i64 (0)),(.var 9 0 (.int .i64)),(.var 9 1 .bool),(.var 9 2 (.int .i64)),(.var 9 3 .str),(.var 9 4 (.sl 9)),(.var 9 5 (.sl 31))])))
 (.leaf 11 (.ret [] [(.bool false)])))))
 (.leaf 10 (.ret [] [(.bool false)]))))
def mayt0:Tr:=.ask (.bin .lss (.var 9 0 (.int .i64)) (.len (.var 9 5 (.sl 9))))
 (.must (.inr (.var 9 0 (.int .i64)) (.len (.var 9 5 (.sl 9)))) true <|
 .must (.app 9 1000001 (.cons (.el (.var 9 5 (.sl 9)) (.var 9 0 (.int .i64)) 0 .str) .nilA) .bool) true <|
 .ask (.app 9 1 (.cons (.el (.var 9 5 (.sl 9)) (.var 9 0 (.int .i64)) 0 .str) .nilA) .bool)
 (.ask (.bin .gtr (.var 9 0 (.int .i64)) (.int .i64 (0)))
 (.must (.inr (.bin .sub (.var 9 0 (.int .i64)) (.int .i64 (1))) (.len (.var 9 5 (.sl 9)))) true <|
 .ask (.bin .geq (.el (.var 9 5 (.sl 9)) (.bin .sub (.var 9 0 (.int .i64)) (.int .i64 (1))) 0 .str) (.el (.var 9 5 (.sl 9)) (.var 9 0 (.int .i64)) 0 .str))
 (.leaf 14 (.ret [] [(.bool false)]))
 (.leaf 15 (.cut 0 [10] [(.bin .add (.var 9 0 (.int .i64)) (.int .i64 (1))),(.var 9 1 (.int .i64)),(.var 9 2 .bool),(.var 9 3 (.int .i64)),(.var 9 4 .str),(.var 9 5 (.sl 9)),(.var 9 6 (.sl 31))])))
 (.leaf 15 (.cut 0 [10] [(.bin .add (.var 9 0 (.int .i64)) (.int .i64 (1))),(.var 9 1 (.int .i64)),(.var 9 2 .bool),(.var 9 3 (.int .i64)),(.var 9 4 .str),(.var 9 5 (.sl 9)),(.var 9 6 (.sl 31))])))
 (.leaf 14 (.ret [] [(.bool false)])))
 (.leaf 10 (.cut 1 [10] [(.int .i64 (0)),(.var 9 1 (.int .i64)),(.var 9 2 .bool),(.var 9 3 (.int .i64)),(.var 9 4 .str),(.var 9 5 (.sl 9)),(.var 9 6 (.sl 31))]))
def mayt1:Tr:=.ask (.bin .lss (.var 9 0 (.int .i64)) (.len (.var 9 6 (.sl 31))))
 (.must (.inr (.var 9 0 (.int .i64)) (.len (.var 9 6 (.sl 31)))) true <|
 .must (.app 9 1000000 (.cons (.el (.var 9 6 (.sl 31)) (.var 9 0 (.int .i64)) 0 (.int .i64)) (.cons (.el (.var 9 6 (.sl 31)) (.var 9 0 (.int .i64)) 1 .bool) (.cons (.el (.var 9 6 (.sl 31)) (.var 9 0 (.int .i64)) 2 (.int .i64)) (.cons (.el (.var 9 6 (.sl 31)) (.var 9 0 (.int .i64)) 3 .str) (.cons (.el (.var 9 6 (.sl 31)) (.var 9 0 (.int .i64)) 4 (.sl 9)) (.cons (.el (.var 9 6 (.sl 31)) (.var 9 0 (.int .i64)) 5 (.sl 31)) .nilA)))))) .bool) true <|
 .ask (.app 9 2 (.cons (.el (.var 9 6 (.sl 31)) (.var 9 0 (.int .i64)) 0 (.int .i64)) (.cons (.el (.var 9 6 (.sl 31)) (.var 9 0 (.int .i64)) 1 .bool) (.cons (.el (.var 9 6 (.sl 31)) (.var 9 0 (.int .i64)) 2 (.int .i64)) (.cons (.el (.var 9 6 (.sl 31)) (.var 9 0 (.int .i64)) 3 .str) (.cons (.el (.var 9 6 (.sl 31)) (.var 9 0 (.int .i64)) 4 (.sl 9)) (.cons (.el (.var 9 6 (.sl 31)) (.var 9 0 (.int .i64)) 5 (.sl 31)) .nilA)))))) .bool)
 (.leaf 15 (.cut 1 [10] [(.bin .add (.var 9 0 (.int .i64)) (.int .i64 (1))),(.var 9 1 (.int .i64)),(.var 9 2 .bool),(.var 9 3 (.int .i64)),(.var 9 4 .str),(.var 9 5 (.sl 9)),(.var 9 6 (.sl 31))]))
 (.leaf 14 (.ret [] [(.bool false)])))
 (.leaf 8 (.ret [] [(.bool true)]))
theorem mayt_ok:Pth.allS Tryz.prog hkMay 9 Kmay maycuts (mayt.paths []):=
 ⟨Pth.okS_ret (by kernel_rfl) (by kernel_rfl),
  Pth.okS_ret (by kernel_rfl) (by kernel_rfl),
  Pth.okS_ret (by kernel_rfl) (by kernel_rfl),
  Pth.okS_cut mayc0 rfl (by kernel_rfl) (by kernel_rfl),
  Pth.okS_ret (by kernel_rfl) (by kernel_rfl),
  Pth.okS_ret (by kernel_rfl) (by kernel_rfl),
  Pth.okS_cut mayc0 rfl (by kernel_rfl) (by kernel_rfl),
  Pth.okS_ret (by kernel_rfl) (by kernel_rfl),
  Pth.okS_ret (by kernel_rfl) (by kernel_rfl),
  Pth.okS_cut mayc0 rfl (by kernel_rfl) (by kernel_rfl),
  Pth.okS_cut mayc0 rfl (by kernel_rfl) (by kernel_rfl),
  Pth.okS_ret (by kernel_rfl) (by kernel_rfl),
  Pth.okS_ret (by kernel_rfl) (by kernel_rfl),
  trivial⟩
theorem mayt0_ok:Pth.allC Tryz.prog hkMay 9 Kmay maycuts mayc0 (mayt0.paths []):=
 ⟨Pth.okC_ret (by kernel_rfl) (by kernel_rfl),
  Pth.okC_cut mayc0 rfl (by kernel_rfl) (by kernel_rfl),
  Pth.okC_cut mayc0 rfl (by kernel_rfl) (by kernel_rfl),
  Pth.okC_ret (by kernel_rfl) (by kernel_rfl),
  Pth.okC_cut mayc1 rfl (by kernel_rfl) (by kernel_rfl),
  trivial⟩
theorem mayt1_ok:Pth.allC Tryz.prog hkMay 9 Kmay maycuts mayc1 (mayt1.paths []):=
 ⟨Pth.okC_cut mayc1 rfl (by kernel_rfl) (by kernel_rfl),
  Pth.okC_ret (by kernel_rfl) (by kernel_rfl),
  Pth.okC_ret (by kernel_rfl) (by kernel_rfl),
  trivial⟩
noncomputable def checkcuts:List Ct:=[]
def checkt:Tr:=.must (.app 9 1000000 (.cons (.var 9 0 (.int .i64)) (.cons (.var 9 1 .bool) (.cons (.var 9 2 (.int .i64)) (.cons (.var 9 3 .str) (.cons (.var 9 4 (.sl 9)) (.cons (.var 9 5 (.sl 31)) .nilA)))))) .bool) true <|
 .ask (.app 9 0 (.cons (.var 9 0 (.int .i64)) (.cons (.var 9 1 .bool) (.cons (.var 9 2 (.int .i64)) (.cons (.var 9 3 .str) (.cons (.var 9 4 (.sl 9)) (.cons (.var 9 5 (.sl 31)) .nilA)))))) .bool)
 (.must (.app 9 1000001 (.cons (.var 9 0 (.int .i64)) (.cons (.var 9 1 .bool) (.cons (.var 9 2 (.int .i64)) (.cons (.var 9 3 .str) (.cons (.var 9 4 (.sl 9)) (.cons (.var 9 5 (.sl 31)) .nilA)))))) .bool) true <|
 .ask (.bin .gtr (.app 9 2 (.cons (.var 9 0 (.int .i64)) (.cons (.var 9 1 .bool) (.cons (.var 9 2 (.int .i64)) (.cons (.var 9 3 .str) (.cons (.var 9 4 (.sl 9)) (.cons (.var 9 5 (.sl 31)) .nilA)))))) (.int .i64)) (.int .i64 (64)))
 (.leaf 18 (.ret [] [(.int .i64 (3))]))
 (.ask (.bin .gtr (.app 9 3 (.cons (.var 9 0 (.int .i64)) (.cons (.var 9 1 .bool) (.cons (.var 9 2 (.int .i64)) (.cons (.var 9 3 .str) (.cons (.var 9 4 (.sl 9)) (.cons (.var 9 5 (.sl 31)) .nilA)))))) (.int .i64)) (.int .i64 (1048576)))
 (.leaf 18 (.ret [] [(.int .i64 (3))]))
 (.ask (.bin .gtr (.app 9 4 (.cons (.var 9 0 (.int .i64)) (.cons (.var 9 1 .bool) (.cons (.var 9 2 (.int .i64)) (.cons (.var 9 3 .str) (.cons (.var 9 4 (.sl 9)) (.cons (.var 9 5 (.sl 31)) .nilA)))))) (.int .i64)) (.int .i64 (65536)))
 (.leaf 18 (.ret [] [(.int .i64 (3))]))
 (.leaf 19 (.ret [] [(.int .i64 (0))])))))
 (.leaf 10 (.ret [] [(.int .i64 (110))]))
theorem checkt_ok:Pth.allS Tryz.prog hkCheck 9 Kcheck checkcuts (checkt.paths []):=
 ⟨Pth.okS_ret (by kernel_rfl) (by kernel_rfl),
  Pth.okS_ret (by kernel_rfl) (by kernel_rfl),
  Pth.okS_ret (by kernel_rfl) (by kernel_rfl),
  Pth.okS_ret (by kernel_rfl) (by kernel_rfl),
  Pth.okS_ret (by kernel_rfl) (by kernel_rfl),
  trivial⟩
variable {k:Nat}{G:World→Prop}
set_option maxHeartbeats 4000000
def Bool1 (_ r:List Cl):Prop:=∃ b,r=[Cl.bool b]
noncomputable def tbY (Fb Fu F:List Cl→List Cl)(m:Nat)(f:Nat)(c:List Cl):Cl:=if f=1000000 then .bool (decide (SizeOf.sizeOf c<m)) else if f=1000001 then .bool true else if f=0 then (Fb c).getD 0 .no else if f=1 then (Fu c).getD 0 .no else (F c).getD 0 .no
def mayM (j:Nat)(c:List Cl):Nat:=match c with
 |[.int i,_,_,_,_,.sl _ ys,.sl _ rs]=>cond (Nat.beq j 0) ((ys.length-i).toNat+rs.length+1) (rs.length-i).toNat
 |_=>0
theorem hfn1 {F:List Cl→List Cl}(hF:∀ c,Bool1 c (F c)){fn:Nat→List Cl→Cl}{fi:Nat}(h:∀ c,fn fi c=(F c).getD 0 .no):∀ cls (j:Nat) c,(F cls)[j]? = some c→fn (fi+j) cls=c:=by
 intro cls j c hj
 obtain⟨b,e⟩:=hF cls
 cases j with
 |zero=>rw[Nat.add_zero,h,List.getD_eq_getElem?_getD,hj];rfl
 |succ j=>rw[e] at hj;simp at hj
noncomputable def tbC (Fm Fs:List Cl→List Cl)(m:Nat)(f:Nat)(c:List Cl):Cl:=if f=1000000 then .bool (decide (SizeOf.sizeOf c<m)) else if f=1000001 then .bool (decide (SizeOf.sizeOf c<m)) else if f=0 then (Fm c).getD 0 .no else (Fs c).getD (f-1) .no
theorem hfn4 {F:List Cl→List Cl}(hF:∀ c,Int4 c (F c)){fn:Nat→List Cl→Cl}{fi:Nat}(h:∀ j,j<4→∀ c,fn (fi+j) c=(F c).getD j .no):∀ cls (j:Nat) c,(F cls)[j]? = some c→fn (fi+j) cls=c:=by
 intro cls j c hj
 obtain⟨x0,x1,x2,x3,e⟩:=hF cls
 have hj4:j<4:=by
  have:=(List.getElem?_eq_some_iff.1 hj).1
  rw[e] at this;simpa using this
 rw[h j hj4,List.getD_eq_getElem?_getD,hj];rfl
end Go.Proofs.Wo

namespace Go.Proofs
open Go.Shelf
end Go.Proofs

namespace Go.Proofs.Wo
open Go.Exo
set_option linter.all false
variable {G:World→Prop}
theorem ext_below {w w':World}(h:RowKit.Below w.heap.size w w'):Ext w w':=⟨h.block,h.size,h.os,h.output,h.tape⟩
end Go.Proofs.Wo

namespace Go.Proofs.Wo
open Go.Exo Go.Exo.Wo
set_option maxRecDepth 100000
set_option linter.all false
variable {k:Nat}{G:World→Prop}
set_option maxHeartbeats 4000000
def isSl:Kd→Bool|.sl _=>true|_=>false
section
variable {k:Int}{b:Bool}{n:Int}{s:List UInt8}{nl:Bool}{ys:List (List Cl)}{ml:Bool}{rs:List (List Cl)}
end
end Go.Proofs.Wo

namespace Go.Proofs.Wo
open Go.Exo Go.Exo.Wo
set_option maxRecDepth 100000
set_option linter.all false
variable {k:Nat}{G:World→Prop} [Tb]
end Go.Proofs.Wo

namespace Go.Proofs.Wo
open Go.Exo Go.Exo.Wo
set_option maxRecDepth 100000
set_option linter.all false
variable {k:Nat}{G:World→Prop}
set_option maxHeartbeats 4000000
end Go.Proofs.Wo
