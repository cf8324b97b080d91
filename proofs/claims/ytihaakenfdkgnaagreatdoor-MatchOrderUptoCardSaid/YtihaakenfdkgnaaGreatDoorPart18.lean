/-
  SX, part T: what terms come to; data of their kinds, opened. Own text.
-/
import Derived.Test.YtihaakenfdkgnaaGreatDoorPart17
import Derived.Test.YtihaakenfdkgnaaGreatDoorProg
import Derived.KernelRfl
set_option linter.all false
noncomputable section
namespace Go.Exo
section
variable {E:Env}
theorem DatE.v {L:Nat}{vl:Nat->Cl}{fn:Nat->List Cl->Cl}(h:DatE E L vl fn)(i:Nat)(k:Kd):(X.var L i k).c E=vl i:=by rw[X.c,h.var];rfl
theorem DatE.a {L:Nat}{vl:Nat->Cl}{fn:Nat->List Cl->Cl}(h:DatE E L vl fn)(f:Nat)(a:X)(k:Kd):(X.app L f a k).c E=fn f (a.den E):=by rw[X.c,h.app];rfl
theorem X.c_int {k:IntKind}{n:Int}:(X.int k n).c E=.int n:=rfl
theorem X.c_bool {b:Bool}:(X.bool b).c E=.bool b:=rfl
theorem X.c_str {l n:Nat}:(X.str l n).c E=.str (sB l n):=rfl
theorem X.c_nil {e:TypeId}:(X.nil e).c E=.sl true []:=rfl
theorem X.c_bin {op:BinOp}{a b:X}:(X.bin op a b).c E=binD op a.kd (a.c E) (b.c E):=rfl
theorem X.c_un {op:UnOp}{a:X}:(X.un op a).c E=unD op a.kd (a.c E):=rfl
theorem X.c_conv {k:IntKind}{a:X}:(X.conv k a).c E=convD k (a.c E):=rfl
theorem X.c_len {a:X}:(X.len a).c E=lenC (a.c E):=rfl
theorem X.c_inr {a b:X}:(X.inr a b).c E=inrD (a.c E) (b.c E):=rfl
theorem X.c_rng {a b c:X}:(X.rng a b c).c E=rngD (a.c E) (b.c E) (c.c E):=rfl
theorem X.c_cmp {a b:X}:(X.cmp a b).c E=cmpD (a.c E) (b.c E):=rfl
theorem X.c_at {a b:X}:(X.atx a b).c E=atD (a.c E) (b.c E):=rfl
theorem X.c_el {a b:X}{j:Nat}{k:Kd}:(X.el a b j k).c E=elD (a.c E) (b.c E) j:=rfl
theorem X.c_cut {a b c:X}:(X.cut a b c).c E=cutD (a.c E) (b.c E) (c.c E):=rfl
theorem X.c_snoc {a b:X}:(X.snoc a b).c E=iT (a.c E) (b.den E):=rfl
theorem X.d_nil:(X.nilA).den E=[]:=rfl
theorem X.d_cons {a b:X}:(X.cons a b).den E=a.c E::b.den E:=rfl
end
variable [Sx]
def resVx (L:Nat):Rsh->V
 |.one s=>(argV L [s] 0).headD .bad
 |.tup l=>.tup (argV L l 0)
def Ctr.fn (L f:Nat)(shs:List Ash)(rsh:Rsh):Ctr:={ f,args:=argV L shs 0,box:=[],ks:=kinds shs,res:=Go.Exo.resVx L rsh,box':=[],ks':=kinds rsh.l }
theorem Wts.nil_inv {cs:List Cl}(h:Wts [] cs):cs=[]:=by cases h;rfl
theorem Wts.cons_inv {k:Kd}{ks:List Kd}{cs:List Cl}(h:Wts (k::ks) cs):∃ c r,cs=c::r/\Wt k c/\Wts ks r:=by cases h with|cons h1 h2=>exact⟨_,_,rfl,h1,h2⟩
theorem Wt.int_inv {k:IntKind}{c:Cl}(h:Wt (.int k) c):∃ n,c=.int n/\k.min<=n/\n<=k.max:=by cases h with|int _ n h1 h2=>exact⟨n,rfl,h1,h2⟩
theorem Wt.bool_inv {c:Cl}(h:Wt .bool c):∃ b,c=.bool b:=by cases h with|bool b=>exact⟨b,rfl⟩
theorem Wt.str_inv {c:Cl}(h:Wt .str c):∃ s,c=.str s/\s.length<=maxLen:=by cases h with|str s h1=>exact⟨s,rfl,h1⟩
theorem Wt.sl_inv {e:TypeId}{c:Cl}(h:Wt (.sl e) c):∃ nl rows,c=.sl nl rows/\rows.length<=maxLen/\(nl=true->rows=[])/\∀ r∈rows,Wts (Sx.row e) r:=by
 cases h with
 |nil=>exact⟨true,[],rfl,Nat.zero_le _,fun _=>rfl,fun r hr=>by cases hr⟩
 |sl _ rows h1 h2 h3=>
  refine⟨false,rows,rfl,h1,fun e=>by (cases e),fun r hr=>?_⟩;obtain⟨i,hi⟩:=List.getElem?_of_mem hr;have hl:=h2 i r hi
  have key:∀ (ks:List Kd)(r:List Cl),r.length=ks.length->(∀ (j:Nat) c k,r[j]? = some c->ks[j]? = some k->Wt k c)->Wts ks r:=by
   intro ks;induction ks with
   |nil=>intro r hr _;rw[List.length_eq_zero_iff.1 hr];exact .nil
   |cons k ks ih=>
    intro r hr hj;cases r with
    |nil=>simp at hr
    |cons c r=>exact .cons (hj 0 c k rfl rfl) (ih r (by simpa using hr) fun j c k a b=>hj (j+1) c k (by simpa using a) (by simpa using b))
  exact key _ r hl fun j c k a b=>h3 i r j c k hi a b
theorem aE {ks:List Kd}{rows:List (List Cl)}(h:∀ r∈rows,Wts ks r){i:Nat}(hi:i<rows.length):∃ r,rows.getD i []=r/\Wts ks r/\rows.drop i=r::rows.drop (i+1)/\rows[i]? = some r:=by
 refine⟨rows[i],?_,h _ (List.getElem_mem hi),List.drop_eq_getElem_cons hi,ah hi⟩;rw[List.getD_eq_getElem?_getD,ah hi];rfl
theorem Wts.one {k:Kd}{cs:List Cl}(h:Wts [k] cs):∃ c,cs=[c]/\Wt k c:=by
 obtain⟨c,r,rfl,h1,h2⟩:=h.cons_inv;rw[h2.nil_inv];exact⟨c,rfl,h1⟩
theorem aH {n:Int}(h1 : -9223372036854775808<=n)(h2:n<=9223372036854775807):IntKind.wrap .i64 n=n:=
 r6 _ _ (by simp[IntKind.min,IntKind.max,IntKind.signed,IntKind.bits];omega)
end Go.Exo
end

noncomputable section
namespace Go.Proofs.Wo
open Go.Exo
def rowsL:List (Nat×List Kd):=[(9,[.str]),(29,[.int .i64,.bool,.int .i64,.str,.sl 9,.sl 29]),(2,[.int .i64]),(24,[.sl 29])]
def rowOf:List (Nat×List Kd)->Nat->List Kd
 |[],_=>[]
 |(a,l)::r,n=>cond (Nat.beq a n) l (rowOf r n)
instance:Sx:=⟨rowOf rowsL⟩
abbrev vK:List Kd:=[.int .i64,.bool,.int .i64,.str,.sl 9,.sl 29]
abbrev vA:Ash:=.agg vK
abbrev iK:Kd:=.int .i64
def hk0:Dc->Hook:=fun _ _ _ _ _=>none
def Kbare:Ctr:=Ctr.fn 9 38 [vA] (.one (.one .bool))
def Krune:Ctr:=Ctr.fn 9 66 [.one .str,.one iK] (.one (.one iK))
def Kutf:Ctr:=Ctr.fn 9 39 [.one .str] (.one (.one .bool))
def fQ:Ctr:=Ctr.fn 9 21 [vA,vA] (.one (.one .bool))
def eZ:Ctr:=Ctr.fn 9 16 [vA] (.tup [.one iK,.one iK,.one iK,.one iK])
def Kmay:Ctr:=Ctr.fn 9 17 [vA] (.one (.one .bool))
def oK:Ctr:=Ctr.fn 9 6 [vA] (.one (.one iK))
def oL:Ctr:=Ctr.fn 9 5 [vA] (.one (.one .bool))
def eG:Ctr:=Ctr.fn 9 41 [.one (.sl 29)] (.one (.one (.sl 29)))
def vC:Ctr:=Ctr.fn 9 18 [vA] (.one vA)
def hkUtf:Dc->Hook:=fun d=>@aV d 9 Krune 0 (some 1000000)
def iD:Dc->Hook:=fun d=>@aV d 9 fQ 0 (some 1000000)
def jG:Dc->Hook:=fun d=>@aV d 9 eZ 0 (some 1000000)
def qJ:Dc->Hook:=fun d=>hkOr (@aV d 9 Kbare 0 none) (hkOr (@aV d 9 Kutf 1 (some 1000001)) (@aV d 9 Kmay 2 (some 1000000)))
def zp:Dc->Hook:=fun d=>hkOr (@aV d 9 Kmay 0 (some 1000000)) (@aV d 9 eZ 1 (some 1000001))
def zq:Dc->Hook:=fun d=>@aV d 9 eZ 0 (some 1000000)
def e7:Dc->Hook:=fun d=>@aV d 9 vC 0 (some 1000000)
def hkCopy:Dc->Hook:=fun d=>hkOr (@fK d 9 40 [.one (.sl 9)] (.one (.one (.sl 9))) 10 1000001) (@aV d 9 eG 20 (some 1000000))
end Go.Proofs.Wo
end

noncomputable section
namespace Go.Proofs.Wo
open Go.Exo
def Krank:Ctr:=Ctr.fn 9 115 [.one iK] (.one (.one iK))
def Kcmpi:Ctr:=Ctr.fn 9 114 [.one iK,.one iK] (.one (.one iK))
def Kcmpl:Ctr:=Ctr.fn 9 121 [.one iK,.one iK] (.one (.one iK))
def vD:Ctr:=Ctr.fn 9 117 [.one .str,.one .str] (.one (.one iK))
def fS:V:=.func (.func 117) [] []
def fV:V:=.func (.func 70) [] []
def qL:Ctr:={ f:=172,args:=[.x (.var 9 0 (.sl 9)),.x (.var 9 1 (.sl 9)),fS],box:=[],ks:=[.sl 9,.sl 9],res:=.x (.var 9 0 iK),box':=[],ks':=[iK] }
def qM:Ctr:={ f:=43,args:=[.x (.var 9 0 (.sl 29)),.x (.var 9 1 (.sl 29)),fV],box:=[],ks:=[.sl 29,.sl 29],res:=.x (.var 9 0 iK),box':=[],ks':=[iK] }
def oM:Ctr:=Ctr.fn 9 70 [vA,vA] (.one (.one iK))
def ta:Dc->Hook:=fun d=>@aV d 9 vD 0 none
def tc:Dc->Hook:=fun d=>@aV d 9 oM 0 (some 1000000)
def hkComp:Dc->Hook:=fun d=>hkOr (@aV d 9 Krank 0 none) (hkOr (@aV d 9 Kcmpi 1 none) (hkOr (@aV d 9 vD 2 none) (hkOr (@aV d 9 Kcmpl 3 none) (hkOr (@aV d 9 qL 4 none) (hkOr (@aV d 9 qM 5 (some 1000000)) (lI 9 116 [.one .bool,.one .bool] (.one (.one iK)) 6))))))
end Go.Proofs.Wo
end

noncomputable section
namespace Go.Proofs.Wo
open Go.Exo
def te:Ctr:=Ctr.fn 9 181 [vA] (.one (.one .bool))
def qN:Ctr:=Ctr.fn 9 133 [vA] (.one (.one .bool))
def tf:Dc->Hook:=fun d=>hkOr (@aV d 9 te 0 none) (lI 9 176 [.one .str] (.one (.one .bool)) 1)
end Go.Proofs.Wo
end

noncomputable section
namespace Go.Proofs.Wo
open Go.Exo
end Go.Proofs.Wo
end

noncomputable section
namespace Go.Proofs.Wo
open Go.Exo
def fC:V:=.func (.func 44) [] []
def Kvcmp:Ctr:=Ctr.fn 9 44 [vA,vA] (.one (.one iK))
def qO:Ctr:={ f:=43,args:=[.x (.var 9 0 (.sl 29)),.x (.var 9 1 (.sl 29)),fC],box:=[],ks:=[.sl 29,.sl 29],res:=.x (.var 9 0 iK),box':=[],ks':=[iK] }
def Kmcmp:Ctr:=Ctr.fn 9 22 [.one (.sl 29),.one (.sl 29)] (.one (.one iK))
def Kless:Ctr:=Ctr.fn 9 10 [.one (.sl 29),.one (.sl 29)] (.one (.one .bool))
def mD:Ctr:=Ctr.fn 9 24 [.one iK,.one iK] (.one (.one iK))
def lL:Ctr:=Ctr.fn 9 46 [.one .str,.one .str] (.one (.one iK))
def kF:Ctr:=Ctr.fn 9 11 [.one (.sl 29),.one (.sl 29)] (.one (.one iK))
def oN:Ctr:=Ctr.fn 9 23 [vA,vA] (.one (.one iK))
def hkVcmp:Dc->Hook:=fun d=>hkOr (@fK d 9 79 [vA] (.one (.one iK)) 0 1000000) (@aV d 9 oM 1 (some 1000001))
def tg:Dc->Hook:=fun d=>@aV d 9 Kvcmp 0 (some 1000000)
def hkMcmp:Dc->Hook:=fun d=>@aV d 9 qO 0 (some 1000000)
def hkLess:Dc->Hook:=fun d=>@aV d 9 Kmcmp 0 (some 1000000)
def mY:Dc->Hook:=fun d=>@aV d 9 mD 0 none
def th:Dc->Hook:=fun d=>hkOr (@aV d 9 oN 0 (some 1000000)) (@aV d 9 mD 1 none)
def tj:Dc->Hook:=fun d=>hkOr (lI 9 45 [.one iK] (.one (.one iK)) 0) (hkOr (@aV d 9 mD 1 none) (hkOr (@aV d 9 lL 2 none) (@aV d 9 kF 3 (some 1000001))))
end Go.Proofs.Wo
end

noncomputable section
namespace Go.Proofs.Wo
open Go.Exo
def Kord:Ctr:=Ctr.fn 9 9 [.one (.sl 24)] (.one (.one (.sl 24)))
def oO:Ctr:=Ctr.fn 9 8 [.one (.sl 24),.one (.sl 24)] (.one (.one .bool))
def Klaw:Ctr:=Ctr.fn 9 3 [.one (.sl 24)] (.one (.one .bool))
def qP:Dc->Hook:=fun d=>hkOr (@fK d 9 9 [.one (.sl 24)] (.one (.one (.sl 24))) 0 1000000) (@aV d 9 kF 1 (some 1000001))
def lM:Dc->Hook:=fun d=>@aV d 9 fQ 0 (some 1000000)
def i4:Dc->Hook:=fun d=>hkOr (@aV d 9 oL 0 (some 1000000)) (hkOr (@aV d 9 oK 1 (some 1000001)) (hkOr (@fK d 9 7 [.one (.sl 24)] (.one (.one (.sl 24))) 2 1000002) (hkOr (@fK d 9 9 [.one (.sl 24)] (.one (.one (.sl 24))) 3 1000003) (hkOr (@aV d 9 oO 4 (some 1000004)) (hkOr (@aV d 9 Kless 5 (some 1000005)) (hkOr (@aV d 9 kF 6 (some 1000006)) (lI 9 4 [] (.one (.one .bool)) 7)))))))
end Go.Proofs.Wo
end

noncomputable section
namespace Go.Exo.Wo
open Go.Exo
mutual
def nrm:Cl->Cl
 |.sl _ rows=>.sl false (az rows)
 |c=>c
def nrmR:List Cl->List Cl
 |[]=>[]
 |c::r=>nrm c::nrmR r
def az:List (List Cl)->List (List Cl)
 |[]=>[]
 |c::r=>nrmR c::az r
end
theorem kG:∀ l:List (List Cl),az l=l.map nrmR
 |[]=>rfl
 |c::r=>by simp only[az,List.map_cons,kG r]
def hasN (l:List (List Cl))(n:Int):Bool:=l.any fun r=>match r with|[.int m]=>m==n|_=>false
def goes (N R:List (List Cl))(k n:Int):Bool:=(k==6&&hasN N n) || (k==7&&hasN R n)
def zeroR:List Cl:=[.int 0,.bool false,.int 0,.str [],.sl true [],.sl true []]
def wo (N R:List (List Cl)):Nat->List Cl->List Cl
 |0,r=>r
 |f+1,r=>(match r with
  |[.int k,b,.int n,s,keys,.sl nl rows]=>cond (goes N R k n) zeroR [.int k,b,.int n,s,keys,.sl nl (rows.map (wo N R f))]
  |r=>r)
end Go.Exo.Wo
end

noncomputable section
namespace Go.Proofs.Wo
open Go.Exo Go.Exo.Wo
set_option maxRecDepth 100000
def iE:Ct:=(fun(a b c:Kd)=>(⟨bf (outS Tryz.prog iD 9 fQ [((.bin .neq (.var 9 0 a) (.var 9 6 a)),false),((.bin .eql (.var 9 1 .bool) (.var 9 7 .bool)),true),((.bin .neq (.var 9 2 a) (.var 9 8 a)),false),((.bin .neq (.var 9 3 .str) (.var 9 9 .str)),false),((.bin .neq (.len (.var 9 4 c)) (.len (.var 9 10 c))),false),((.bin .neq (.len (.var 9 5 b)) (.len (.var 9 11 b))),false)] 12),[.junk,.junk,.ptr 10 0,.ptr 11 0,.junk,.x (.var 9 0 a),.junk,.junk,.junk,.junk,.junk,.junk,.junk,.junk,.junk,.junk,.junk,.junk,.junk,.junk,.junk,.junk,.junk,.junk,.junk,.junk,.junk,.junk,.junk,.junk,.junk,.junk,.junk,.junk,.junk,.junk,.junk,.junk,.junk,.junk,.junk,.junk,.junk,.junk,.junk,.junk,.junk,.junk,.junk,.junk,.junk,.junk,.junk,.junk,.junk,.junk,.junk,.junk,.junk,.junk,.junk,.junk,.junk,.junk,.junk,.junk,.junk,.junk,.junk,.junk,.junk,.junk,.junk,.junk,.junk,.junk,.junk,.junk,.junk,.junk,.junk,.junk,.junk,.junk,.junk,.junk,.junk,.junk],[some (.cells 29 [.x (.var 9 1 a),.x (.var 9 2 .bool),.x (.var 9 3 a),.x (.var 9 4 .str),.x (.var 9 5 c),.x (.var 9 6 b)] 0 false),some (.cells 29 [.x (.var 9 7 a),.x (.var 9 8 .bool),.x (.var 9 9 a),.x (.var 9 10 .str),.x (.var 9 11 c),.x (.var 9 12 b)] 0 false)],[a,a,.bool,a,.str,c,b,a,.bool,a,.str,c,b]⟩:Ct)) (.int .i64) (.sl 29) (.sl 9)
def kH:Ct:=(fun(a b c:Kd)=>(⟨bf (outC Tryz.prog iD 9 21 iE [((.bin .lss (.var 9 0 a) (.len (.var 9 5 b))),false)] 10),[.junk,.junk,.ptr 10 0,.ptr 11 0,.junk,.junk,.x (.var 9 0 a),.junk,.junk,.junk,.junk,.junk,.junk,.junk,.junk,.junk,.junk,.junk,.junk,.junk,.junk,.junk,.junk,.junk,.junk,.junk,.junk,.junk,.junk,.junk,.junk,.junk,.junk,.junk,.junk,.junk,.junk,.junk,.junk,.junk,.junk,.junk,.junk,.junk,.junk,.junk,.junk,.junk,.junk,.junk,.junk,.junk,.junk,.junk,.junk,.junk,.junk,.junk,.junk,.junk,.junk,.junk,.junk,.junk,.junk,.junk,.junk,.junk,.junk,.junk,.junk,.junk,.junk,.junk,.junk,.junk,.junk,.junk,.junk,.junk,.junk,.junk,.junk,.junk,.junk,.junk,.junk,.junk],[some (.cells 29 [.x (.var 9 1 a),.x (.var 9 2 .bool),.x (.var 9 3 a),.x (.var 9 4 .str),.x (.var 9 5 b),.x (.var 9 6 c)] 0 false),some (.cells 29 [.x (.var 9 7 a),.x (.var 9 8 .bool),.x (.var 9 9 a),.x (.var 9 10 .str),.x (.var 9 11 b),.x (.var 9 12 c)] 0 false)],[a,a,.bool,a,.str,b,c,a,.bool,a,.str,b,c]⟩:Ct)) (.int .i64) (.sl 9) (.sl 29)
def lN:List Ct:=[iE,kH]
def xD:Tr:=(fun(b e f g h:X)(a c d:Kd)=>.ask (.bin .neq (.var 9 0 a) (.var 9 6 a)) (.leaf 9 (.ret [] [b])) (.ask (.bin .eql e f) (.ask (.bin .neq (.var 9 2 a) (.var 9 8 a)) (.leaf 9 (.ret [] [b])) (.ask (.bin .neq g h) (.leaf 9 (.ret [] [b])) (.ask (.bin .neq (.len (.var 9 4 d)) (.len (.var 9 10 d))) (.leaf 9 (.ret [] [b])) (.ask (.bin .neq (.len (.var 9 5 c)) (.len (.var 9 11 c))) (.leaf 9 (.ret [] [b])) (.leaf 12 (.cut 0 [10,11] [(.int .i64 (0)),(.var 9 0 a),e,(.var 9 2 a),g,(.var 9 4 d),(.var 9 5 c),(.var 9 6 a),f,(.var 9 8 a),h,(.var 9 10 d),(.var 9 11 c)])))))) (.leaf 9 (.ret [] [b])))) (.bool false) (.var 9 1 .bool) (.var 9 7 .bool) (.var 9 3 .str) (.var 9 9 .str) (.int .i64) (.sl 29) (.sl 9)
def mZ:Tr:=(fun(b c d f g h i:X)(a e:Kd)=>.ask (.bin .lss d (.len b)) (.must (.inr d (.len b)) true <| .must (.inr d (.len c)) true <| .ask (.bin .neq (.el b d 0 .str) (.el c d 0 .str)) (.leaf 13 (.ret [] [(.bool false)])) (.leaf 14 (.cut 0 [10,11] [(.bin .add d (.int .i64 (1))),(.var 9 1 a),f,(.var 9 3 a),i,b,(.var 9 6 e),(.var 9 7 a),g,(.var 9 9 a),h,c,(.var 9 12 e)]))) (.leaf 10 (.cut 1 [10,11] [(.int .i64 (0)),(.var 9 1 a),f,(.var 9 3 a),i,b,(.var 9 6 e),(.var 9 7 a),g,(.var 9 9 a),h,c,(.var 9 12 e)]))) (.var 9 5 (.sl 9)) (.var 9 11 (.sl 9)) (.var 9 0 (.int .i64)) (.var 9 2 .bool) (.var 9 8 .bool) (.var 9 10 .str) (.var 9 4 .str) (.int .i64) (.sl 29)
def m7:Tr:=(fun(a c d e:X)(b:Kd)=>.ask (.bin .lss d (.len c)) (.must (.inr d (.len c)) true <| .must (.inr d (.len e)) true <| .must (.app 9 1000000 a .bool) true <| .ask (.app 9 0 a .bool) (.leaf 15 (.cut 1 [10,11] [(.bin .add d (.int .i64 (1))),(.var 9 1 b),(.var 9 2 .bool),(.var 9 3 b),(.var 9 4 .str),(.var 9 5 (.sl 9)),c,(.var 9 7 b),(.var 9 8 .bool),(.var 9 9 b),(.var 9 10 .str),(.var 9 11 (.sl 9)),e])) (.leaf 14 (.ret [] [(.bool false)]))) (.leaf 8 (.ret [] [(.bool true)]))) (.cons (.el (.var 9 6 (.sl 29)) (.var 9 0 (.int .i64)) 0 (.int .i64)) (.cons (.el (.var 9 6 (.sl 29)) (.var 9 0 (.int .i64)) 1 .bool) (.cons (.el (.var 9 6 (.sl 29)) (.var 9 0 (.int .i64)) 2 (.int .i64)) (.cons (.el (.var 9 6 (.sl 29)) (.var 9 0 (.int .i64)) 3 .str) (.cons (.el (.var 9 6 (.sl 29)) (.var 9 0 (.int .i64)) 4 (.sl 9)) (.cons (.el (.var 9 6 (.sl 29)) (.var 9 0 (.int .i64)) 5 (.sl 29)) (.cons (.el (.var 9 12 (.sl 29)) (.var 9 0 (.int .i64)) 0 (.int .i64)) (.cons (.el (.var 9 12 (.sl 29)) (.var 9 0 (.int .i64)) 1 .bool) (.cons (.el (.var 9 12 (.sl 29)) (.var 9 0 (.int .i64)) 2 (.int .i64)) (.cons (.el (.var 9 12 (.sl 29)) (.var 9 0 (.int .i64)) 3 .str) (.cons (.el (.var 9 12 (.sl 29)) (.var 9 0 (.int .i64)) 4 (.sl 9)) (.cons (.el (.var 9 12 (.sl 29)) (.var 9 0 (.int .i64)) 5 (.sl 29)) .nilA)))))))))))) (.var 9 6 (.sl 29)) (.var 9 0 (.int .i64)) (.var 9 12 (.sl 29)) (.int .i64)
theorem AA:Pth.allS Tryz.prog iD 9 fQ lN (xD.paths []):=
 ⟨Pth.rS,Pth.rS,Pth.rS,Pth.rS,Pth.rS,Pth.cS iE rfl,Pth.rS,
  trivial⟩
theorem xE:Pth.allC Tryz.prog iD 9 fQ lN iE (mZ.paths []):=
 ⟨Pth.rC,Pth.cC iE rfl,Pth.cC kH rfl,
  trivial⟩
theorem xF:Pth.allC Tryz.prog iD 9 fQ lN kH (m7.paths []):=
 ⟨Pth.cC kH rfl,Pth.rC,Pth.rC,
  trivial⟩
variable {k:Nat}{G:World->Prop}
theorem row6 {r:List Cl}(h:Wts vK r):∃ k b n s nl ys ml rs,r=[.int k,.bool b,.int n,.str s,.sl nl ys,.sl ml rs]/\Wts [.sl 9,.sl 29] [.sl nl ys,.sl ml rs]/\IntKind.min .i64<=k/\k<=IntKind.max .i64/\IntKind.min .i64<=n/\n<=IntKind.max .i64/\s.length<=maxLen:=by
 obtain⟨_,r1,rfl,a1,g1⟩:=h.cons_inv;obtain⟨k,rfl,k1,k2⟩:=a1.int_inv;obtain⟨_,r2,rfl,a2,g2⟩:=g1.cons_inv;obtain⟨b,rfl⟩:=a2.bool_inv;obtain⟨_,r3,rfl,a3,g3⟩:=g2.cons_inv;obtain⟨n,rfl,n1,n2⟩:=a3.int_inv;obtain⟨_,r4,rfl,a4,g4⟩:=g3.cons_inv;obtain⟨s,rfl,s1⟩:=a4.str_inv;have g4':=g4;obtain⟨_,r5,rfl,a5,g5⟩:=g4.cons_inv;obtain⟨nl,ys,rfl,-,-,-⟩:=a5.sl_inv;obtain⟨_,rfl,a6⟩:=g5.one;obtain⟨ml,rs,rfl,-,-,-⟩:=a6.sl_inv;exact⟨k,b,n,s,nl,ys,ml,rs,rfl,g4',k1,k2,n1,n2,s1⟩
theorem ls2 {nl:Bool}{ys:List (List Cl)}{ml:Bool}{rs:List (List Cl)}(h:Wts [.sl 9,.sl 29] [.sl nl ys,.sl ml rs]):ys.length<=maxLen/\(∀ r∈ys,Wts [.str] r)/\rs.length<=maxLen/\∀ r∈rs,Wts vK r:=by
 obtain⟨_,_,e,h1,h2⟩:=h.cons_inv;cases e;obtain⟨_,_,e,a1,-,a2⟩:=h1.sl_inv;cases e;obtain⟨_,e,h3⟩:=h2.one;cases e;obtain⟨_,_,e,b1,-,b2⟩:=h3.sl_inv;cases e;exact⟨a1,a2,b1,b2⟩
theorem ck:∀ {ks ks':List Kd}{cs:List Cl},Wts (ks++ks') cs->∃ a b,cs=a++b/\Wts ks a/\Wts ks' b
 |[],_,cs,h=>⟨[],cs,rfl,.nil,h⟩
 |_::ks,_,_,h=>by
  obtain⟨c,r,rfl,h1,h2⟩:=Go.Exo.Wts.cons_inv h;obtain⟨a,b,rfl,h3,h4⟩:=ck (ks:=ks) h2;exact⟨c::a,b,rfl,.cons h1 h3,h4⟩
open Classical in
def cV (c:List Cl):List Cl:=[.bool (decide (nrmR (c.take 6)=nrmR (c.drop 6)))]
open Classical in
def tbA (m:Nat)(f:Nat)(c:List Cl):Cl:=if f=0 then .bool (decide (nrmR (c.take 6)=nrmR (c.drop 6))) else .bool (decide (SizeOf.sizeOf c<m))
def fR (a b:List (List Cl))(i:Nat):Prop:=(az a=az b<->az (a.drop i)=az (b.drop i))
theorem mE {a b:List (List Cl)}{i:Nat}{r r':List Cl}(h:fR a b i)(h1:a.drop i=r::a.drop (i+1))(h2:b.drop i=r'::b.drop (i+1))(h3:nrmR r=nrmR r'):fR a b (i+1):=by
 unfold fR at h ⊢;rw[h,h1,h2,az,az,h3,List.cons.injEq];simp
theorem oP {a b:List (List Cl)}{i:Nat}{r r':List Cl}(h:fR a b i)(h1:a.drop i=r::a.drop (i+1))(h2:b.drop i=r'::b.drop (i+1))(h3:nrmR r≠nrmR r'):az a≠az b:=by
 rw[Ne,show _<->_ from h,h1,h2,az,az];intro e;exact h3 (List.cons.inj e).1
theorem oQ {a b:List (List Cl)}{i:Nat}(h:fR a b i)(hl:a.length=b.length)(h1:a.length<=i):az a=az b:=by
 rw[show _<->_ from h,List.drop_eq_nil_of_le h1,List.drop_eq_nil_of_le (hl ▸ h1)]
theorem zr {a b:List (List Cl)}(h:az a=az b):a.length=b.length:=by
 have:=congrArg List.length h;simpa[kG] using this
def kI (m:Nat)(j:Nat)(c0 c:List Cl):Prop:=∃ (k:Int)(b:Bool)(n:Int)(s:List UInt8)(nl:Bool)(ys:List (List Cl))(ml:Bool)(rs:List (List Cl))(nl':Bool)(ys':List (List Cl))(ml':Bool)(rs':List (List Cl))(i:Int),
 c0=[.int k,.bool b,.int n,.str s,.sl nl ys,.sl ml rs,.int k,.bool b,.int n,.str s,.sl nl' ys',.sl ml' rs']/\c=.int i::c0/\ys.length=ys'.length/\rs.length=rs'.length/\SizeOf.sizeOf c0<m+1/\0<=i/\
 (j=0->i<=ys.length/\fR ys ys' i.toNat)/\
 (j≠0->i<=rs.length/\az ys=az ys'/\fR rs rs' i.toNat)
def tk (j:Nat)(c:List Cl):Nat:=match c with|[.int i,_,_,_,_,.sl _ ys,.sl _ rs,_,_,_,_,_,_]=>cond (Nat.beq j 0) ((ys.length-i).toNat+rs.length+1) (rs.length-i).toNat|_=>0
section
variable {k:Int}{b:Bool}{n:Int}{s:List UInt8}{nl:Bool}{ys:List (List Cl)}{ml:Bool}{rs:List (List Cl)}{k':Int}{b':Bool}{n':Int}{s':List UInt8}{nl':Bool}{ys':List (List Cl)}{ml':Bool}{rs':List (List Cl)}
theorem qQ:(nrmR (List.take 6 [.int k,.bool b,.int n,.str s,.sl nl ys,.sl ml rs,.int k',.bool b',.int n',.str s',.sl nl' ys',.sl ml' rs'])=nrmR (List.drop 6 [.int k,.bool b,.int n,.str s,.sl nl ys,.sl ml rs,.int k',.bool b',.int n',.str s',.sl nl' ys',.sl ml' rs']))<->k=k'/\b=b'/\n=n'/\s=s'/\az ys=az ys'/\az rs=az rs':=by
 show nrmR [.int k,.bool b,.int n,.str s,.sl nl ys,.sl ml rs]=nrmR [.int k',.bool b',.int n',.str s',.sl nl' ys',.sl ml' rs']<->_;simp[nrmR,nrm]
open Classical in
theorem alike_t (h:k=k'/\b=b'/\n=n'/\s=s'/\az ys=az ys'/\az rs=az rs'):[Cl.bool true]=cV [.int k,.bool b,.int n,.str s,.sl nl ys,.sl ml rs,.int k',.bool b',.int n',.str s',.sl nl' ys',.sl ml' rs']:=by
 unfold cV;rw[decide_eq_true (qQ.2 h)]
open Classical in
theorem eH (h:¬ (k=k'/\b=b'/\n=n'/\s=s'/\az ys=az ys'/\az rs=az rs')):[Cl.bool false]=cV [.int k,.bool b,.int n,.str s,.sl nl ys,.sl ml rs,.int k',.bool b',.int n',.str s',.sl nl' ys',.sl ml' rs']:=by
 unfold cV;rw[decide_eq_false (fun e=>h (qQ.1 e))]
open Classical in
theorem tbA0 {m:Nat}:tbA m 0 [.int k,.bool b,.int n,.str s,.sl nl ys,.sl ml rs,.int k',.bool b',.int n',.str s',.sl nl' ys',.sl ml' rs']=.bool true<->nrmR [.int k,.bool b,.int n,.str s,.sl nl ys,.sl ml rs]=nrmR [.int k',.bool b',.int n',.str s',.sl nl' ys',.sl ml' rs']:=by
 unfold tbA;rw[if_pos rfl,Cl.bool.injEq,decide_eq_true_iff];exact Iff.rfl
open Classical in
theorem tbA_1 {m:Nat}{c:List Cl}(h:SizeOf.sizeOf c<m):tbA m 1000000 c=.bool true:=by
 unfold tbA;rw[if_neg (by decide),decide_eq_true h]
open Classical in
theorem tbA_b {m:Nat}{c:List Cl}:∃ b,tbA m 0 c=.bool b:=⟨_,by unfold tbA;rw[if_pos rfl]⟩
end
set_option maxHeartbeats 1000000
theorem alikeV {m:Nat}:Vc0 (tbA m) 9 fQ.ks (fun c=>SizeOf.sizeOf c<m+1) (kI m) (fun c r=>r=cV c) xD:=by
 intro cls E hE hw hm;have hw':Wts (vK++vK) cls:=hw;obtain⟨a,b,rfl,ha,hb⟩:=ck hw';obtain⟨k,b,n,s,nl,ys,ml,rs,rfl,hl,k1,k2,n1,n2,s1⟩:=row6 ha;obtain⟨k',b',n',s',nl',ys',ml',rs',rfl,hl',k1',k2',n1',n2',s1'⟩:=row6 hb;simp only[xD,Tr.vc,To.goodT,List.map_cons,List.map_nil,hE.v,X.c_int,X.c_bool,X.c_bin,X.c_len,lenC,X.kd,binD,intD,strD,ak,al,List.cons_append,List.nil_append,Cl.bool.injEq,exists_eq',true_and,and_true,Bool.not_eq_true',Bool.not_eq_false',beq_iff_eq,beq_eq_false_iff_ne,ne_eq];simp only[List.cons_append,List.nil_append] at hm;refine⟨fun h=>eH fun e=>h e.1,fun h1=>⟨fun h2=>⟨fun h=>eH fun e=>h e.2.2.1,fun h3=>⟨fun h=>eH fun e=>h e.2.2.2.1,fun h4=>⟨fun h=>eH fun e=>h ?_,fun h5=>⟨fun h=>eH fun e=>h ?_,fun h6=>?_⟩⟩⟩⟩,fun h=>eH fun e=>h e.2.1⟩⟩
 ·have:=zr e.2.2.2.2.1;omega
 ·have:=zr e.2.2.2.2.2;omega
 ·subst h1;subst h2;subst h3;subst h4
  refine⟨k,b,n,s,nl,ys,ml,rs,nl',ys',ml',rs',0,rfl,rfl,by omega,by omega,hm,by omega,fun _=>⟨by omega,by simp[fR]⟩,fun h=>absurd rfl h⟩
theorem alikeV0 {m:Nat}:Vc (· < ·) tk (tbA m) 9 iE.ks (kI m) (fun c r=>r=cV c) 0 mZ:=by
 rintro c0 cls E hE hw ⟨k,b,n,s,nl,ys,ml,rs,nl',ys',ml',rs',i,rfl,rfl,h1,h2,h3,h4,h5,-⟩;obtain⟨h6,h7⟩:=h5 rfl;have hw':Wts ((.int .i64::vK)++vK) ([.int i,.int k,.bool b,.int n,.str s,.sl nl ys,.sl ml rs]++[.int k,.bool b,.int n,.str s,.sl nl' ys',.sl ml' rs']):=hw;obtain⟨_,_,e,ha,hb⟩:=ck hw';obtain⟨_,a',e1,-,ha'⟩:=ha.cons_inv;subst e1;obtain⟨_,_,_,_,_,_,_,_,rfl,hl,-⟩:=row6 ha';obtain⟨_,_,_,_,_,_,_,_,rfl,hl',-⟩:=row6 hb;simp only[List.cons_append,List.nil_append,List.cons.injEq,Cl.int.injEq,Cl.bool.injEq,Cl.str.injEq,Cl.sl.injEq,and_true,true_and] at e;obtain⟨-,-,-,-,-,⟨-,rfl⟩,⟨-,rfl⟩,-,-,-,-,⟨-,rfl⟩,-,rfl⟩:=e;obtain⟨q1,q2,q3,q4⟩:=ls2 hl;obtain⟨q1',q2',q3',q4'⟩:=ls2 hl';simp only[maxLen] at q1 q3;simp only[mZ,Tr.vc,To.goodT,List.map_cons,List.map_nil,hE.v,X.c_int,X.c_bool,X.c_bin,X.c_len,X.c_inr,X.c_el,lenC,inrD,elD,X.kd,binD,intD,ak,al,Cl.bool.injEq,exists_eq',true_and,and_true,decide_eq_true_eq,decide_eq_false_iff_not,h4];refine⟨fun hlt=>⟨hlt,by omega,?_⟩,fun hge=>⟨⟨k,b,n,s,nl,ys,ml,rs,nl',ys',ml',rs',0,rfl,rfl,h1,h2,h3,by omega,fun h=>absurd h (by decide),fun _=>⟨by omega,?_,by simp[fR]⟩⟩,?_⟩⟩
 ·obtain⟨r,hr,hwr,hd,_⟩:=aE q2 (i:=i.toNat) (by omega)
  obtain⟨r',hr',hwr',hd',_⟩:=aE q2' (i:=i.toNat) (by omega);obtain⟨_,rfl,hc⟩:=hwr.one;obtain⟨_,rfl,hc'⟩:=hwr'.one;obtain⟨t,rfl,-⟩:=hc.str_inv;obtain⟨t',rfl,-⟩:=hc'.str_inv;rw[hr,hr'];simp only[ak,strD,Cl.bool.injEq,exists_eq',true_and,Bool.not_eq_true',Bool.not_eq_false',beq_iff_eq,beq_eq_false_iff_ne,ne_eq];refine⟨fun hne=>eH fun e=>oP h7 hd hd' (by simpa[nrmR,nrm] using hne) e.2.2.2.2.1,fun he=>⟨⟨k,b,n,s,nl,ys,ml,rs,nl',ys',ml',rs',i+1,rfl,?_,h1,h2,h3,by omega,fun _=>⟨by omega,?_⟩,fun h=>absurd rfl h⟩,?_⟩⟩
  ·rw[aH (by omega) (by omega)]
  ·have:=mE h7 hd hd' (by simp[nrmR,nrm,he])
   rwa [show (i+1).toNat=i.toNat+1 by omega]
  ·rw[aH (by omega) (by omega)];simp only[tk,Nat.beq_refl,cond_true];omega
 ·exact oQ h7 h1 (by omega)
 ·show (rs.length-(0:Int)).toNat<(ys.length-i).toNat+rs.length+1;omega
theorem alikeV1 {m:Nat}:Vc (· < ·) tk (tbA m) 9 kH.ks (kI m) (fun c r=>r=cV c) 1 m7:=by
 rintro c0 cls E hE hw ⟨k,b,n,s,nl,ys,ml,rs,nl',ys',ml',rs',i,rfl,rfl,h1,h2,h3,h4,-,h5⟩;obtain⟨h6,h8,h7⟩:=h5 (by decide);have hw':Wts ((.int .i64::vK)++vK) ([.int i,.int k,.bool b,.int n,.str s,.sl nl ys,.sl ml rs]++[.int k,.bool b,.int n,.str s,.sl nl' ys',.sl ml' rs']):=hw;obtain⟨_,_,e,ha,hb⟩:=ck hw';obtain⟨_,a',e1,-,ha'⟩:=ha.cons_inv;subst e1;obtain⟨_,_,_,_,_,_,_,_,rfl,hl,-⟩:=row6 ha';obtain⟨_,_,_,_,_,_,_,_,rfl,hl',-⟩:=row6 hb;simp only[List.cons_append,List.nil_append,List.cons.injEq,Cl.int.injEq,Cl.bool.injEq,Cl.str.injEq,Cl.sl.injEq,and_true,true_and] at e;obtain⟨-,-,-,-,-,⟨-,rfl⟩,⟨-,rfl⟩,-,-,-,-,⟨-,rfl⟩,-,rfl⟩:=e;obtain⟨q1,q2,q3,q4⟩:=ls2 hl;obtain⟨q1',q2',q3',q4'⟩:=ls2 hl';simp only[maxLen] at q1 q3;simp only[m7,Tr.vc,To.goodT,List.map_cons,List.map_nil,hE.v,hE.a,X.d_cons,X.d_nil,X.c_int,X.c_bool,X.c_bin,X.c_len,X.c_inr,X.c_el,lenC,inrD,elD,X.kd,binD,intD,ak,al,Cl.bool.injEq,exists_eq',true_and,and_true,decide_eq_true_eq,decide_eq_false_iff_not,h4];refine⟨fun hlt=>⟨hlt,by omega,?_⟩,fun hge=>alike_t ⟨rfl,rfl,rfl,rfl,h8,oQ h7 h2 (by omega)⟩⟩;obtain⟨r,hr,hwr,hd,hm⟩:=aE q4 (i:=i.toNat) (by omega);obtain⟨r',hr',hwr',hd',hm'⟩:=aE q4' (i:=i.toNat) (by omega);obtain⟨ka,ba,na,sa,nla,ya,mla,ra,rfl,-⟩:=row6 hwr;obtain⟨ka',ba',na',sa',nla',ya',mla',ra',rfl,-⟩:=row6 hwr';rw[hr,hr'];simp only[ak,al];refine⟨tbA_1 ?_,tbA_b,fun ht=>⟨⟨k,b,n,s,nl,ys,ml,rs,nl',ys',ml',rs',i+1,rfl,?_,h1,h2,h3,by omega,fun h=>absurd h (by decide),fun _=>⟨by omega,h8,?_⟩⟩,?_⟩,fun hf=>eH fun e=>oP h7 hd hd' (fun q=>?_) e.2.2.2.2.2⟩
 ·have z1:=List.sizeOf_lt_of_mem (List.mem_of_getElem? hm)
  have z2:=List.sizeOf_lt_of_mem (List.mem_of_getElem? hm');simp only[List.cons.sizeOf_spec,List.nil.sizeOf_spec,Cl.sl.sizeOf_spec] at z1 z2 h3 ⊢;omega
 ·rw[aH (by omega) (by omega)]
 ·have:=mE h7 hd hd' (tbA0.1 ht)
  rwa [show (i+1).toNat=i.toNat+1 by omega]
 ·rw[aH (by omega) (by omega)];show (rs.length-(i+1)).toNat<(rs.length-i).toNat;omega
 ·rw[tbA0.2 q] at hf;cases hf
theorem alike_n (hG:Gd0 k G)(hk0:0<k)(hsz:Tryz.prog.globals.size<=k):∀ n,∃ tb,fQ.Sound Tryz.prog k G tb (fun c=>SizeOf.sizeOf c<n) cV:=by
 intro n;induction n with
 |zero=>exact⟨fun _ _=>.no,fun w old hold φ pls cls xs _ _ _ _ _ _ _ hp=>absurd hp (by omega)⟩
 |succ m ih=>
  obtain⟨tb,ih⟩:=ih
  letI:Tb:=⟨some (9,tbA m)⟩
  exact⟨tbA m,Ctr.ofT (hk:=iD) Nat.lt_wfRel.wf tk (kI m) hG (fun D=>@aq.ctr _ (dcOf D) _ _ _ _ 9 (by kernel_rfl) _ _ _ _ ih (by kernel_rfl) _ _ (by
     intro cls j c h
     cases j with
     |zero=>simp[cV] at h;simpa[tbA] using h
     |succ j=>simp[cV] at h) (some 1000000) (by
     intro cls h
     simpa[tbA] using h) hG hk0 hsz rfl) hsz (L:=9) (by kernel_rfl) rfl (trs:=[mZ,m7]) (by kernel_rfl) AA alikeV ⟨⟨xE,alikeV0⟩,⟨xF,alikeV1⟩,trivial⟩⟩
theorem alike_ok (hG:Gd0 k G)(hk0:0<k)(hsz:Tryz.prog.globals.size<=k)(n:Nat):∃ tb,fQ.Sound Tryz.prog k G tb (fun c=>SizeOf.sizeOf c<n) cV:=alike_n hG hk0 hsz n
end Go.Proofs.Wo
end

noncomputable section
namespace Go.Proofs.Wo
open Go.Exo Go.Exo.Wo
set_option maxRecDepth 100000
def runecuts:List Ct:=[]
def runet:Tr:=(fun(a b c d e f g h i j k:X)=>.must (.inr a g) true <| .ask (.bin .lss (.atx b a) (.int .u8 (128))) (.leaf 13 (.ret [] [(.int .i64 (1))])) (.ask (.bin .geq (.atx b a) (.int .u8 (194))) (.ask (.bin .leq (.atx b a) (.int .u8 (223))) (.ask (.bin .lss c g) (.must (.inr c g) true <| .ask i (.ask j (.leaf 23 (.ret [] [(.int .i64 (2))])) (.leaf 31 (.ret [] [d]))) (.leaf 31 (.ret [] [d]))) (.leaf 31 (.ret [] [d]))) (.ask (.bin .leq (.atx b a) (.int .u8 (239))) (.ask (.bin .lss c g) (.must (.inr c g) true <| .ask i (.ask j (.ask (.bin .lss e g) (.must (.inr e g) true <| .ask (.bin .geq (.atx b e) (.int .u8 (128))) (.ask (.bin .leq (.atx b e) (.int .u8 (191))) (.ask (.bin .eql (.atx b a) (.int .u8 (224))) (.ask (.bin .lss (.atx b c) (.int .u8 (160))) (.leaf 37 (.ret [] [d])) (.leaf 38 (.ret [] [f]))) (.ask (.bin .eql (.atx b a) (.int .u8 (237))) (.ask (.bin .gtr (.atx b c) (.int .u8 (159))) (.leaf 37 (.ret [] [d])) (.leaf 38 (.ret [] [f]))) (.leaf 38 (.ret [] [f])))) (.leaf 38 (.ret [] [d]))) (.leaf 38 (.ret [] [d]))) (.leaf 38 (.ret [] [d]))) (.leaf 31 (.ret [] [d]))) (.leaf 31 (.ret [] [d]))) (.leaf 31 (.ret [] [d]))) (.ask (.bin .leq (.atx b a) (.int .u8 (244))) (.ask (.bin .lss c g) (.must (.inr c g) true <| .ask i (.ask j (.ask (.bin .lss e g) (.must (.inr e g) true <| .ask (.bin .geq (.atx b e) (.int .u8 (128))) (.ask (.bin .leq (.atx b e) (.int .u8 (191))) (.ask (.bin .lss k g) (.must (.inr k g) true <| .ask (.bin .geq (.atx b k) (.int .u8 (128))) (.ask (.bin .leq (.atx b k) (.int .u8 (191))) (.ask (.bin .eql (.atx b a) (.int .u8 (240))) (.ask (.bin .lss (.atx b c) (.int .u8 (144))) (.leaf 47 (.ret [] [d])) (.leaf 48 (.ret [] [h]))) (.ask (.bin .eql (.atx b a) (.int .u8 (244))) (.ask (.bin .gtr (.atx b c) (.int .u8 (143))) (.leaf 47 (.ret [] [d])) (.leaf 48 (.ret [] [h]))) (.leaf 48 (.ret [] [h])))) (.leaf 45 (.ret [] [d]))) (.leaf 45 (.ret [] [d]))) (.leaf 45 (.ret [] [d]))) (.leaf 38 (.ret [] [d]))) (.leaf 38 (.ret [] [d]))) (.leaf 38 (.ret [] [d]))) (.leaf 31 (.ret [] [d]))) (.leaf 31 (.ret [] [d]))) (.leaf 31 (.ret [] [d]))) (.leaf 24 (.ret [] [d]))))) (.leaf 24 (.ret [] [d])))) (.var 9 1 (.int .i64)) (.var 9 0 .str) (.bin .add (.var 9 1 (.int .i64)) (.int .i64 (1))) (.int .i64 (0)) (.bin .add (.var 9 1 (.int .i64)) (.int .i64 (2))) (.int .i64 (3)) (.len (.var 9 0 .str)) (.int .i64 (4)) (.bin .geq (.atx (.var 9 0 .str) (.bin .add (.var 9 1 (.int .i64)) (.int .i64 (1)))) (.int .u8 (128))) (.bin .leq (.atx (.var 9 0 .str) (.bin .add (.var 9 1 (.int .i64)) (.int .i64 (1)))) (.int .u8 (191))) (.bin .add (.var 9 1 (.int .i64)) (.int .i64 (3)))
theorem runet_ok:Pth.allS Tryz.prog hk0 9 Krune runecuts (runet.paths []):=
 ⟨Pth.rS,Pth.rS,Pth.rS,Pth.rS,Pth.rS,Pth.rS,Pth.rS,Pth.rS,Pth.rS,Pth.rS,Pth.rS,Pth.rS,Pth.rS,Pth.rS,Pth.rS,Pth.rS,Pth.rS,Pth.rS,Pth.rS,Pth.rS,Pth.rS,Pth.rS,Pth.rS,Pth.rS,Pth.rS,Pth.rS,Pth.rS,Pth.rS,Pth.rS,Pth.rS,Pth.rS,Pth.rS,
  trivial⟩
def vE:Ct:=⟨bf (outS Tryz.prog hkUtf 9 Kutf [] 8),[.x (.var 9 0 .str),.junk,.junk,.x (.var 9 1 (.int .i64)),.junk,.junk,.junk,.junk,.junk,.junk,.junk,.junk,.junk,.junk,.junk,.junk,.junk],[],[.str,(.int .i64)]⟩
def zt:List Ct:=[vE]
def utft:Tr:=.leaf 8 (.cut 0 [] [(.var 9 0 .str),(.int .i64 (0))])
def utft0:Tr:=(fun(a c:X)(b:Kd)=>.ask (.bin .lss (.var 9 1 b) (.len c)) (.must (.app 9 1000000 a .bool) true <| .ask (.bin .eql (.app 9 0 a b) (.int .i64 (0))) (.leaf 16 (.ret [] [(.bool false)])) (.leaf 17 (.cut 0 [] [c,(.bin .add (.var 9 1 b) (.app 9 0 a b))]))) (.leaf 8 (.ret [] [(.bool true)]))) (.cons (.var 9 0 .str) (.cons (.var 9 1 (.int .i64)) .nilA)) (.var 9 0 .str) (.int .i64)
theorem utft_ok:Pth.allS Tryz.prog hkUtf 9 Kutf zt (utft.paths []):=
 ⟨Pth.cS vE rfl,
  trivial⟩
theorem utft0_ok:Pth.allC Tryz.prog hkUtf 9 Kutf zt vE (utft0.paths []):=
 ⟨Pth.rC,Pth.cC vE rfl,Pth.rC,
  trivial⟩
def barecuts:List Ct:=[]
def baret:Tr:=(fun(a b c d e f g h i j k l m:X)=>.ask (.bin .eql i (.int .i64 (1))) (.ask (.bin .eql i k) (.ask f (.ask d (.ask a (.leaf 8 (.ret [] [e])) (.leaf 8 (.ret [] [e]))) (.ask c (.ask a (.leaf 8 (.ret [] [e])) (.leaf 8 (.ret [] [b]))) (.leaf 8 (.ret [] [g])))) (.ask h (.ask d (.ask a (.leaf 8 (.ret [] [e])) (.leaf 8 (.ret [] [e]))) (.ask c (.ask a (.leaf 8 (.ret [] [e])) (.leaf 8 (.ret [] [b]))) (.leaf 8 (.ret [] [g])))) (.leaf 8 (.ret [] [g])))) (.ask (.bin .eql i l) (.ask f (.ask d (.ask a (.leaf 8 (.ret [] [e])) (.leaf 8 (.ret [] [e]))) (.ask c (.ask a (.leaf 8 (.ret [] [e])) (.leaf 8 (.ret [] [b]))) (.leaf 8 (.ret [] [g])))) (.ask h (.ask d (.ask a (.leaf 8 (.ret [] [e])) (.leaf 8 (.ret [] [e]))) (.ask c (.ask a (.leaf 8 (.ret [] [e])) (.leaf 8 (.ret [] [b]))) (.leaf 8 (.ret [] [g])))) (.leaf 8 (.ret [] [g])))) (.ask (.bin .eql i m) (.ask f (.ask d (.ask a (.leaf 8 (.ret [] [e])) (.leaf 8 (.ret [] [e]))) (.ask c (.ask a (.leaf 8 (.ret [] [e])) (.leaf 8 (.ret [] [b]))) (.leaf 8 (.ret [] [g])))) (.ask h (.ask d (.ask a (.leaf 8 (.ret [] [e])) (.leaf 8 (.ret [] [e]))) (.ask c (.ask a (.leaf 8 (.ret [] [e])) (.leaf 8 (.ret [] [b]))) (.leaf 8 (.ret [] [g])))) (.leaf 8 (.ret [] [g])))) (.ask j (.ask f (.ask d (.ask a (.leaf 8 (.ret [] [e])) (.leaf 8 (.ret [] [e]))) (.ask c (.ask a (.leaf 8 (.ret [] [e])) (.leaf 8 (.ret [] [b]))) (.leaf 8 (.ret [] [g])))) (.ask h (.ask d (.ask a (.leaf 8 (.ret [] [e])) (.leaf 8 (.ret [] [e]))) (.ask c (.ask a (.leaf 8 (.ret [] [e])) (.leaf 8 (.ret [] [b]))) (.leaf 8 (.ret [] [g])))) (.leaf 8 (.ret [] [g])))) (.leaf 8 (.ret [] [g])))))) (.ask (.un .not (.var 9 1 .bool)) (.ask (.bin .eql i k) (.ask f (.ask d (.ask a (.leaf 8 (.ret [] [e])) (.leaf 8 (.ret [] [e]))) (.ask c (.ask a (.leaf 8 (.ret [] [e])) (.leaf 8 (.ret [] [b]))) (.leaf 8 (.ret [] [g])))) (.ask h (.ask d (.ask a (.leaf 8 (.ret [] [e])) (.leaf 8 (.ret [] [e]))) (.ask c (.ask a (.leaf 8 (.ret [] [e])) (.leaf 8 (.ret [] [b]))) (.leaf 8 (.ret [] [g])))) (.leaf 8 (.ret [] [g])))) (.ask (.bin .eql i l) (.ask f (.ask d (.ask a (.leaf 8 (.ret [] [e])) (.leaf 8 (.ret [] [e]))) (.ask c (.ask a (.leaf 8 (.ret [] [e])) (.leaf 8 (.ret [] [b]))) (.leaf 8 (.ret [] [g])))) (.ask h (.ask d (.ask a (.leaf 8 (.ret [] [e])) (.leaf 8 (.ret [] [e]))) (.ask c (.ask a (.leaf 8 (.ret [] [e])) (.leaf 8 (.ret [] [b]))) (.leaf 8 (.ret [] [g])))) (.leaf 8 (.ret [] [g])))) (.ask (.bin .eql i m) (.ask f (.ask d (.ask a (.leaf 8 (.ret [] [e])) (.leaf 8 (.ret [] [e]))) (.ask c (.ask a (.leaf 8 (.ret [] [e])) (.leaf 8 (.ret [] [b]))) (.leaf 8 (.ret [] [g])))) (.ask h (.ask d (.ask a (.leaf 8 (.ret [] [e])) (.leaf 8 (.ret [] [e]))) (.ask c (.ask a (.leaf 8 (.ret [] [e])) (.leaf 8 (.ret [] [b]))) (.leaf 8 (.ret [] [g])))) (.leaf 8 (.ret [] [g])))) (.ask j (.ask f (.ask d (.ask a (.leaf 8 (.ret [] [e])) (.leaf 8 (.ret [] [e]))) (.ask c (.ask a (.leaf 8 (.ret [] [e])) (.leaf 8 (.ret [] [b]))) (.leaf 8 (.ret [] [g])))) (.ask h (.ask d (.ask a (.leaf 8 (.ret [] [e])) (.leaf 8 (.ret [] [e]))) (.ask c (.ask a (.leaf 8 (.ret [] [e])) (.leaf 8 (.ret [] [b]))) (.leaf 8 (.ret [] [g])))) (.leaf 8 (.ret [] [g])))) (.leaf 8 (.ret [] [g])))))) (.leaf 8 (.ret [] [g])))) (.bin .eql (.var 9 0 (.int .i64)) (.int .i64 (4))) (.bin .eql (.len (.var 9 5 (.sl 29))) (.int .i64 (0))) (.bin .eql (.len (.var 9 4 (.sl 9))) (.int .i64 (0))) (.bin .eql (.var 9 0 (.int .i64)) (.int .i64 (5))) (.bool true) (.bin .eql (.var 9 0 (.int .i64)) (.int .i64 (3))) (.bool false) (.bin .eql (.var 9 3 .str) (.str 0 0)) (.var 9 0 (.int .i64)) (.bin .eql (.var 9 2 (.int .i64)) (.int .i64 (0))) (.int .i64 (2)) (.int .i64 (6)) (.int .i64 (7))
theorem baret_ok:Pth.allS Tryz.prog hk0 9 Kbare barecuts (baret.paths []):=
 ⟨Pth.rS,Pth.rS,Pth.rS,Pth.rS,Pth.rS,Pth.rS,Pth.rS,Pth.rS,Pth.rS,Pth.rS,Pth.rS,Pth.rS,Pth.rS,Pth.rS,Pth.rS,Pth.rS,Pth.rS,Pth.rS,Pth.rS,Pth.rS,Pth.rS,Pth.rS,Pth.rS,Pth.rS,Pth.rS,Pth.rS,Pth.rS,Pth.rS,Pth.rS,Pth.rS,Pth.rS,Pth.rS,Pth.rS,Pth.rS,Pth.rS,Pth.rS,Pth.rS,Pth.rS,Pth.rS,Pth.rS,Pth.rS,Pth.rS,Pth.rS,Pth.rS,Pth.rS,Pth.rS,Pth.rS,Pth.rS,Pth.rS,Pth.rS,Pth.rS,Pth.rS,Pth.rS,Pth.rS,Pth.rS,Pth.rS,Pth.rS,Pth.rS,Pth.rS,Pth.rS,Pth.rS,Pth.rS,Pth.rS,Pth.rS,Pth.rS,Pth.rS,Pth.rS,Pth.rS,Pth.rS,Pth.rS,Pth.rS,Pth.rS,Pth.rS,Pth.rS,Pth.rS,Pth.rS,Pth.rS,Pth.rS,Pth.rS,Pth.rS,Pth.rS,Pth.rS,Pth.rS,Pth.rS,Pth.rS,Pth.rS,Pth.rS,Pth.rS,Pth.rS,Pth.rS,Pth.rS,
  trivial⟩
variable {k:Nat}{G:World->Prop}
set_option maxHeartbeats 4000000
def utfM (_:Nat)(c:List Cl):Nat:=match c with|[.str s,.int i]=>(s.length-i).toNat|_=>0
end Go.Proofs.Wo
end

noncomputable section
namespace Go.Proofs.Wo
open Go.Exo Go.Exo.Wo
set_option maxRecDepth 100000
def rankcuts:List Ct:=[]
def rankt:Tr:=(fun(a b c d e f g h:X)=>.ask (.bin .eql a b) (.leaf 46 (.ret [] [c])) (.ask (.bin .eql a d) (.leaf 49 (.ret [] [e])) (.ask (.bin .eql a f) (.leaf 52 (.ret [] [(.int .i64 (5))])) (.ask (.bin .eql a g) (.leaf 55 (.ret [] [h])) (.ask (.bin .eql a h) (.leaf 58 (.ret [] [g])) (.ask (.bin .eql a c) (.leaf 61 (.ret [] [d])) (.ask (.bin .eql a e) (.leaf 63 (.ret [] [f])) (.leaf 61 (.ret [] [b]))))))))) (.var 9 0 (.int .i64)) (.int .i64 (0)) (.int .i64 (7)) (.int .i64 (2)) (.int .i64 (6)) (.int .i64 (1)) (.int .i64 (3)) (.int .i64 (4))
theorem rankt_ok:Pth.allS Tryz.prog hk0 9 Krank rankcuts (rankt.paths []):=
 ⟨Pth.rS,Pth.rS,Pth.rS,Pth.rS,Pth.rS,Pth.rS,Pth.rS,Pth.rS,
  trivial⟩
def cmpicuts:List Ct:=[]
def cmpit:Tr:=(fun(a b c d e:X)=>.ask (.bin .neq b b) (.ask (.bin .neq a a) (.leaf 31 (.ret [] [d])) (.leaf 32 (.ret [] [c]))) (.ask (.bin .neq a a) (.leaf 32 (.ret [] [e])) (.ask (.bin .lss b a) (.leaf 37 (.ret [] [c])) (.ask (.bin .gtr b a) (.leaf 42 (.ret [] [e])) (.leaf 43 (.ret [] [d])))))) (.var 9 1 (.int .i64)) (.var 9 0 (.int .i64)) (.int .i64 (-1)) (.int .i64 (0)) (.int .i64 (1))
theorem cmpit_ok:Pth.allS Tryz.prog hk0 9 Kcmpi cmpicuts (cmpit.paths []):=
 ⟨Pth.rS,Pth.rS,Pth.rS,Pth.rS,Pth.rS,Pth.rS,
  trivial⟩
def cmplcuts:List Ct:=[]
def cmplt:Tr:=(fun(a b c d e:X)=>.ask (.bin .neq b b) (.ask (.bin .neq a a) (.leaf 31 (.ret [] [d])) (.leaf 32 (.ret [] [c]))) (.ask (.bin .neq a a) (.leaf 32 (.ret [] [e])) (.ask (.bin .lss b a) (.leaf 37 (.ret [] [c])) (.ask (.bin .gtr b a) (.leaf 42 (.ret [] [e])) (.leaf 43 (.ret [] [d])))))) (.var 9 1 (.int .i64)) (.var 9 0 (.int .i64)) (.int .i64 (-1)) (.int .i64 (0)) (.int .i64 (1))
theorem cmplt_ok:Pth.allS Tryz.prog hk0 9 Kcmpl cmplcuts (cmplt.paths []):=
 ⟨Pth.rS,Pth.rS,Pth.rS,Pth.rS,Pth.rS,Pth.rS,
  trivial⟩
def cmpscuts:List Ct:=[]
def cmpst:Tr:=.leaf 12 (.ret [] [(.cmp (.var 9 0 .str) (.var 9 1 .str))])
theorem cmpst_ok:Pth.allS Tryz.prog hk0 9 vD cmpscuts (cmpst.paths []):=
 ⟨Pth.rS,
  trivial⟩
def oS:Ct:=(fun(a b:Kd)=>(⟨bf (outS Tryz.prog ta 9 qL [] 7),[.x (.var 9 0 b),.x (.var 9 1 b),.func (.func 117) [] [],.junk,.junk,.junk,.junk,.junk,.junk,.junk,.junk,.x (.var 9 0 b),.x (.var 9 2 a),.x (.var 9 3 a),.junk,.junk,.junk,.junk,.junk,.junk,.junk,.junk,.junk,.junk,.junk,.junk,.junk,.junk,.junk,.junk,.junk,.junk,.junk,.junk,.junk,.junk,.junk,.junk,.junk],[],[b,b,a,a]⟩:Ct)) (.int .i64) (.sl 9)
def vF:List Ct:=[oS]
def lstrt:Tr:=(fun(a:X)=>.leaf 7 (.cut 0 [] [a,(.var 9 1 (.sl 9)),(.len a),(.int .i64 (0))])) (.var 9 0 (.sl 9))
def tn:Tr:=(fun(a b c e f:X)(d:Kd)=>.ask (.bin .lss a (.var 9 2 d)) (.must (.inr a (.len c)) true <| .ask (.bin .geq a (.len b)) (.leaf 16 (.ret [] [e])) (.must (.inr a (.len b)) true <| .ask (.bin .neq (.app 9 0 (.cons (.el c a 0 .str) (.cons (.el b a 0 .str) .nilA)) d) f) (.leaf 25 (.ret [] [(.app 9 0 (.cons (.el c a 0 .str) (.cons (.el b a 0 .str) .nilA)) d)])) (.leaf 26 (.cut 0 [] [c,b,(.var 9 2 d),(.bin .add a e)])))) (.ask (.bin .lss (.len c) (.len b)) (.leaf 12 (.ret [] [(.int .i64 (-1))])) (.leaf 13 (.ret [] [f])))) (.var 9 3 (.int .i64)) (.var 9 1 (.sl 9)) (.var 9 0 (.sl 9)) (.int .i64 (1)) (.int .i64 (0)) (.int .i64)
theorem lstrt_ok:Pth.allS Tryz.prog ta 9 qL vF (lstrt.paths []):=
 ⟨Pth.cS oS rfl,
  trivial⟩
theorem AB:Pth.allC Tryz.prog ta 9 qL vF oS (tn.paths []):=
 ⟨Pth.rC,Pth.rC,Pth.cC oS rfl,Pth.rC,Pth.rC,
  trivial⟩
variable {k:Nat}{G:World->Prop} [Tb]
def sgn (a b:Int):Int:=if a<b then -1 else if b<a then 1 else 0
def rk (k:Int):Int:=if k=0 then 7 else if k=2 then 6 else if k=1 then 5 else if k=3 then 4 else if k=4 then 3 else if k=7 then 2 else if k=6 then 1 else 0
def qR:List Cl->List Cl|[.int k]=>[.int (rk k)]|_=>[]
def bv:List Cl->List Cl|[.int a,.int b]=>[.int (sgn a b)]|_=>[]
def cC:List Cl->List Cl|[.str a,.str b]=>[.int (cmpB a b)]|_=>[]
theorem rankV {tb:Nat->List Cl->Cl}:Vc0 tb 9 Krank.ks (fun _=>True) (fun _ _ _=>True) (fun c r=>r=qR c) rankt:=by
 intro cls E hE hw _;have hw':Wts [.int .i64] cls:=hw;obtain⟨_,rfl,h1⟩:=hw'.one;obtain⟨n,rfl,-,-⟩:=h1.int_inv;simp only[rankt,Tr.vc,To.goodT,List.map_cons,List.map_nil,hE.v,X.c_int,X.c_bin,X.kd,binD,intD,ak,al,Cl.bool.injEq,exists_eq',true_and,and_true,beq_iff_eq,beq_eq_false_iff_ne,ne_eq,qR,rk,List.cons.injEq,Cl.int.injEq];refine⟨fun h=>by simp[h],fun h=>⟨fun h=>by simp_all,fun h=>⟨fun h=>by simp_all,fun h=>⟨fun h=>by simp_all,fun h=>⟨fun h=>by simp_all,fun h=>⟨fun h=>by simp_all,fun h=>⟨fun h=>by simp_all,fun h=>by simp_all⟩⟩⟩⟩⟩⟩⟩
theorem rank_ok (hG:Gd0 k G)(hsz:Tryz.prog.globals.size<=k){tb:Nat->List Cl->Cl}(htb:Tb.tab=some (9,tb)):Krank.Sound Tryz.prog k G tb (fun _=>True) qR:=
 Ctr.ofT (hk:=hk0) Nat.lt_wfRel.wf (fun _ _=>0) (fun _ _ _=>True) hG (fun D=>@aq.nil _ (dcOf D) _ _ _ _) hsz (L:=9) (by kernel_rfl) htb (trs:=[]) (by kernel_rfl) rankt_ok rankV trivial
theorem cmpiV {tb:Nat->List Cl->Cl}:Vc0 tb 9 Kcmpi.ks (fun _=>True) (fun _ _ _=>True) (fun c r=>r=bv c) cmpit:=by
 intro cls E hE hw _;have hw':Wts [.int .i64,.int .i64] cls:=hw;obtain⟨_,_,rfl,h1,hw'⟩:=hw'.cons_inv;obtain⟨_,rfl,h2⟩:=hw'.one;obtain⟨n,rfl,-,-⟩:=h1.int_inv;obtain⟨m,rfl,-,-⟩:=h2.int_inv;simp only[cmpit,Tr.vc,To.goodT,List.map_cons,List.map_nil,hE.v,X.c_int,X.c_bin,X.kd,binD,intD,ak,al,Cl.bool.injEq,exists_eq',true_and,and_true,beq_self_eq_true,Bool.not_true,Bool.false_eq_true,false_imp_iff,forall_const,decide_eq_true_eq,decide_eq_false_iff_not,bv,sgn,List.cons.injEq,Cl.int.injEq,gt_iff_lt];refine⟨fun h=>by simp[h],fun h=>⟨fun h'=>by simp[h,h'],fun h'=>by simp[h,h']⟩⟩
theorem cmpi_ok (hG:Gd0 k G)(hsz:Tryz.prog.globals.size<=k){tb:Nat->List Cl->Cl}(htb:Tb.tab=some (9,tb)):Kcmpi.Sound Tryz.prog k G tb (fun _=>True) bv:=
 Ctr.ofT (hk:=hk0) Nat.lt_wfRel.wf (fun _ _=>0) (fun _ _ _=>True) hG (fun D=>@aq.nil _ (dcOf D) _ _ _ _) hsz (L:=9) (by kernel_rfl) htb (trs:=[]) (by kernel_rfl) cmpit_ok cmpiV trivial
theorem cmplV {tb:Nat->List Cl->Cl}:Vc0 tb 9 Kcmpl.ks (fun _=>True) (fun _ _ _=>True) (fun c r=>r=bv c) cmplt:=by
 intro cls E hE hw _;have hw':Wts [.int .i64,.int .i64] cls:=hw;obtain⟨_,_,rfl,h1,hw'⟩:=hw'.cons_inv;obtain⟨_,rfl,h2⟩:=hw'.one;obtain⟨n,rfl,-,-⟩:=h1.int_inv;obtain⟨m,rfl,-,-⟩:=h2.int_inv;simp only[cmplt,Tr.vc,To.goodT,List.map_cons,List.map_nil,hE.v,X.c_int,X.c_bin,X.kd,binD,intD,ak,al,Cl.bool.injEq,exists_eq',true_and,and_true,beq_self_eq_true,Bool.not_true,Bool.false_eq_true,false_imp_iff,forall_const,decide_eq_true_eq,decide_eq_false_iff_not,bv,sgn,List.cons.injEq,Cl.int.injEq,gt_iff_lt];refine⟨fun h=>by simp[h],fun h=>⟨fun h'=>by simp[h,h'],fun h'=>by simp[h,h']⟩⟩
theorem cmpl_ok (hG:Gd0 k G)(hsz:Tryz.prog.globals.size<=k){tb:Nat->List Cl->Cl}(htb:Tb.tab=some (9,tb)):Kcmpl.Sound Tryz.prog k G tb (fun _=>True) bv:=
 Ctr.ofT (hk:=hk0) Nat.lt_wfRel.wf (fun _ _=>0) (fun _ _ _=>True) hG (fun D=>@aq.nil _ (dcOf D) _ _ _ _) hsz (L:=9) (by kernel_rfl) htb (trs:=[]) (by kernel_rfl) cmplt_ok cmplV trivial
theorem cmpsV {tb:Nat->List Cl->Cl}:Vc0 tb 9 vD.ks (fun _=>True) (fun _ _ _=>True) (fun c r=>r=cC c) cmpst:=by
 intro cls E hE hw _;have hw':Wts [.str,.str] cls:=hw;obtain⟨_,_,rfl,h1,hw'⟩:=hw'.cons_inv;obtain⟨_,rfl,h2⟩:=hw'.one;obtain⟨n,rfl,-⟩:=h1.str_inv;obtain⟨m,rfl,-⟩:=h2.str_inv;simp only[cmpst,Tr.vc,To.goodT,List.map_cons,List.map_nil,hE.v,X.c_cmp,cmpD,ak,al,cC]
theorem zu (hG:Gd0 k G)(hsz:Tryz.prog.globals.size<=k){tb:Nat->List Cl->Cl}(htb:Tb.tab=some (9,tb)):vD.Sound Tryz.prog k G tb (fun _=>True) cC:=
 Ctr.ofT (hk:=hk0) Nat.lt_wfRel.wf (fun _ _=>0) (fun _ _ _=>True) hG (fun D=>@aq.nil _ (dcOf D) _ _ _ _) hsz (L:=9) (by kernel_rfl) htb (trs:=[]) (by kernel_rfl) cmpst_ok cmpsV trivial
def lsC (o:List Cl->List Cl->Int):List (List Cl)->List (List Cl)->Int
 |[],[]=>0
 |[],_::_=>-1
 |_::_,[]=>1
 |a::p,b::q=>if o a b=0 then lsC o p q else o a b
def cmpR:List Cl->List Cl->Int|[.str a],[.str b]=>cmpB a b|_,_=>0
def i5:List Cl->List Cl|[.sl _ A,.sl _ B]=>[.int (lsC cmpR A B)]|_=>[]
def tp (_:Nat)(c0 c:List Cl):Prop:=∃ nl A ml B i,c0=[.sl nl A,.sl ml B]/\c=[.sl nl A,.sl ml B,.int A.length,.int i]/\0<=i/\i<=A.length/\lsC cmpR A B=lsC cmpR (A.drop i.toNat) (B.drop i.toNat)/\i<=B.length
def kJ (_:Nat)(c:List Cl):Nat:=match c with|[_,_,.int m,.int i]=>(m-i).toNat|_=>0
def tbLs (f:Nat)(c:List Cl):Cl:=if f=0 then (cC c).getD 0 .no else .no
theorem lstrV:Vc0 tbLs 9 qL.ks (fun _=>True) tp (fun c r=>r=i5 c) lstrt:=by
 intro cls E hE hw _;have hw':Wts [.sl 9,.sl 9] cls:=hw;obtain⟨a,_,rfl,h1,hw'⟩:=hw'.cons_inv;obtain⟨b,rfl,h2⟩:=hw'.one;obtain⟨nl,A,rfl,-,-,-⟩:=h1.sl_inv;obtain⟨ml,B,rfl,-,-,-⟩:=h2.sl_inv;simp only[lstrt,Tr.vc,To.goodT,List.map_cons,List.map_nil,hE.v,X.c_int,X.c_len,lenC,ak,al,and_true];exact⟨nl,A,ml,B,0,rfl,rfl,by omega,by omega,by simp,by omega⟩
theorem lstrV0:Vc (· < ·) kJ tbLs 9 oS.ks tp (fun c r=>r=i5 c) 0 tn:=by
 rintro c0 cls E hE hw ⟨nl,A,ml,B,i,rfl,rfl,h1,h2,h3,h4⟩;have hw':Wts [.sl 9,.sl 9,.int .i64,.int .i64] [.sl nl A,.sl ml B,.int A.length,.int i]:=hw;obtain⟨_,_,e,g,hw'⟩:=hw'.cons_inv;cases e;obtain⟨_,_,e,hlen,-,hA⟩:=g.sl_inv;cases e;obtain⟨_,_,e,g,hw'⟩:=hw'.cons_inv;cases e;obtain⟨_,_,e,hlen2,-,hB⟩:=g.sl_inv;cases e;have hlen':(A.length:Int)<=9223372036854775807:=by simp only[maxLen] at hlen;omega
 simp only[tn,Tr.vc,To.goodT,List.map_cons,List.map_nil,hE.v,hE.a,X.d_cons,X.d_nil,X.c_len,X.c_int,X.c_bool,X.c_bin,X.c_inr,X.c_el,X.kd,aL,cond_true,cond_false,ak,al,lenC,binD,intD,inrD,elD,Cl.bool.injEq,decide_eq_true_eq,decide_eq_false_iff_not,exists_eq',true_and,h1];refine⟨fun hlt=>⟨hlt,fun hge=>?_,fun hge=>?_⟩,fun hge=>⟨fun hl=>?_,fun hl=>?_⟩⟩
 ·have e1:B.drop i.toNat=[]:=List.drop_eq_nil_of_le (by omega)
  obtain⟨r,hr,hwr,hd,_⟩:=aE hA (i:=i.toNat) (by omega);simp only[i5,h3,hd,e1,lsC]
 ·obtain⟨r,hr,hwr,hd,_⟩:=aE hA (i:=i.toNat) (by omega)
  obtain⟨r',hr',hwr',hd',_⟩:=aE hB (i:=i.toNat) (by omega);obtain⟨c,rfl,hc⟩:=hwr.one;obtain⟨c',rfl,hc'⟩:=hwr'.one;obtain⟨s,rfl,-⟩:=hc.str_inv;obtain⟨s',rfl,-⟩:=hc'.str_inv;rw[hr,hr'];have e2:(i+1).toNat=i.toNat+1:=by omega
  have et:tbLs 0 [.str s,.str s']=.int (cmpB s s'):=by simp[tbLs,cC]
  simp only[ak,et,intD,Cl.bool.injEq,exists_eq',true_and,Bool.not_eq_true',Bool.not_eq_false',beq_iff_eq,beq_eq_false_iff_ne,ne_eq];rw[aH (by omega) (by omega)];refine⟨by omega,fun hm=>?_,fun hm=>⟨⟨nl,A,ml,B,i+1,rfl,rfl,by omega,by omega,?_,by omega⟩,by simp only[kJ];omega⟩⟩
  ·simp[i5,h3,hd,hd',lsC,cmpR,hm]
  ·rw[h3,hd,hd',e2];simp[lsC,cmpR,hm]
 ·have e1:A.drop i.toNat=[]:=List.drop_eq_nil_of_le (by omega)
  obtain⟨r',hr',hwr',hd',_⟩:=aE hB (i:=i.toNat) (by omega);simp only[i5,h3,e1,hd',lsC]
 ·have e1:A.drop i.toNat=[]:=List.drop_eq_nil_of_le (by omega)
  have e2:B.drop i.toNat=[]:=List.drop_eq_nil_of_le (by omega);simp only[i5,h3,e1,e2,lsC]
omit [Tb] in
theorem lstr_ok (hG:Gd0 k G)(hk0:0<k)(hsz:Tryz.prog.globals.size<=k):∃ tb,qL.Sound Tryz.prog k G tb (fun _=>True) i5:=by
 letI:Tb:=⟨some (9,tbLs)⟩
 exact⟨_,Ctr.ofT (hk:=ta) Nat.lt_wfRel.wf kJ tp hG (fun D=>@aq.ctr _ (dcOf D) _ _ _ _ _ (by kernel_rfl) _ _ _ _ (zu hG hsz rfl) (by kernel_rfl) _ 0 (fun cls j c h=>by
   unfold cC at h
   split at h
   ·cases j with
    |zero=>simp at h;subst h;simp[tbLs,cC]
    |succ j=>simp at h
   ·simp at h) none (fun _=>trivial) hG hk0 hsz rfl) hsz (L:=9) (by kernel_rfl) rfl (trs:=[tn]) (by kernel_rfl) lstrt_ok lstrV ⟨⟨AB,lstrV0⟩,trivial⟩⟩
end Go.Proofs.Wo
end
