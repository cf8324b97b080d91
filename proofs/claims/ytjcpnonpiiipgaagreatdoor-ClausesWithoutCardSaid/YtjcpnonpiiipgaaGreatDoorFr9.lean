/-
  The frame of the row of ClausesWithout: out of the law's walk, the row and the card. Own text, after the guide's worked proofs.
-/
import Derived.Test.YtjcpnonpiiipgaaGreatDoorRows
import Derived.Test.YtjcpnonpiiipgaaGreatDoorCards
import Derived.ProofKit
import Derived.OpenShut
import Derived.LaidMore
import Derived.Lay
import Derived.HandedShaped
import Derived.SevenTiedAt
import Derived.Shelf.Vars
import Derived.Carry
import Derived.Test.YtjcpnonpiiipgaaGreatDoorFa9
import Derived.Test.YtjcpnonpiiipgaaGreatDoorK9Tie
import Derived.Test.YtjcpnonpiiipgaaGreatDoorSx1
import Derived.Test.YtjcpnonpiiipgaaGreatDoorWo3
set_option linter.all false
namespace Go.Proofs.YtjcpnonpiiipgaaGreatDoor.clausesWithout
open Go.ChangeShapes Go.WideShapes Go.ChangeAt Go.RowKit Go.Exo Go.Proofs.Wo
set_option maxRecDepth 100000
def Base9 (w:World):Prop:=9≤w.heap.size∧∃ m,w.cell? ⟨2,0,none⟩=some (.int .i64 m)
theorem base9_gd:Gd0 9 Base9 where
 keep:=fun w w' h ⟨h1,m,hm⟩=>by
  refine⟨?_,m,?_⟩
  ·have:=h 8 (by omega)
   have h2:w.heap[8]? = some w.heap[8]:=Array.getElem?_eq_getElem (by omega)
   rw[h2] at this
   have:=(Array.getElem?_eq_some_iff.1 this).1
   omega
  ·have hb:=h 2 (by omega)
   unfold World.cell? at hm ⊢
   rw[hb];exact hm
 size:=fun w h=>h.1
theorem base_of {w:World}(h:w.ShapedOpen Tryz.prog):Base9 w:=by
 refine⟨?_,cell_of_shapedOpen_int (zero:=#[.int .i64 0]) (t:=3) h (of_decide_eq_true (by kernel_rfl)) (by kernel_rfl) rfl (by kernel_rfl) (by kernel_rfl) (by kernel_rfl)⟩
 have hrow:∃ z t,((begin Tryz.prog (fun _ _=>0) default).world.heap[8]?).bind Obj.row? = some (z,t):=by
  cases hr:((begin Tryz.prog (fun _ _=>0) default).world.heap[8]?).bind Obj.row? with
  |some x=>exact⟨x.1,x.2,rfl⟩
  |none=>
   have:(((begin Tryz.prog (fun _ _=>0) default).world.heap[8]?).bind Obj.row?).isSome=true:=by kernel_rfl
   rw[hr] at this;cases this
 obtain⟨z,t,hz⟩:=hrow
 obtain⟨cs,hc,_⟩:=h.1 8 z t (of_decide_eq_true (by kernel_rfl)) hz
 have:=(Array.getElem?_eq_some_iff.1 hc).1
 omega
noncomputable def laidWorld (os:Os):World:=World.laidAll Tryz.prog os Rows.clausesWithoutRow.laid
theorem laid_met (os:Os)(args:Array Value):laidMetH Tryz.prog Rows.clausesWithoutRow.laid ((laidWorld os).forCall (fun _ _=>0) ⟨#[],args,[]⟩).memory:=by
 rw[MakeChecks.laidMetH_plain _ _ _ (by kernel_rfl)]
 exact laidMet_laidAll _ (by kernel_rfl) (by kernel_rfl)
theorem shaped (os:Os)(args:Array Value):((laidWorld os).forCall (fun _ _=>0) ⟨#[],args,[]⟩).Shaped Tryz.prog:=World.shaped_of_ZipB (by kernel_rfl) (by kernel_rfl)
def TT (t:TypeId):Prop:=t∈[2,4,9,22,23,24,26,27]
theorem datTs:DatTs Tryz.prog TT where
 sl:=fun t e ht hu=>by
  simp only[TT,List.mem_cons,List.mem_nil_iff,or_false] at ht
  rcases ht with rfl|rfl|rfl|rfl|rfl|rfl|rfl|rfl
  ·rw[Tryz.underlying2] at hu;cases hu
  ·rw[Tryz.underlying4] at hu;cases hu
  ·rw[Tryz.underlying9] at hu;cases hu
  ·rw[Tryz.underlying22] at hu;cases hu
  ·rw[Tryz.underlying23] at hu;cases hu
   exact⟨by simp[TT],⟨3,by kernel_rfl⟩,by kernel_rfl,by decide⟩
  ·rw[Tryz.underlying24] at hu;cases hu
   exact⟨by simp[TT],⟨3,by kernel_rfl⟩,by kernel_rfl,by decide⟩
  ·rw[Tryz.underlying26] at hu;cases hu
  ·rw[Tryz.underlying27] at hu;cases hu
   exact⟨by simp[TT],⟨3,by kernel_rfl⟩,by kernel_rfl,by decide⟩
 st:=fun t fs ht hu f hf=>by
  simp only[TT,List.mem_cons,List.mem_nil_iff,or_false] at ht
  rcases ht with rfl|rfl|rfl|rfl|rfl|rfl|rfl|rfl
  ·rw[Tryz.underlying2] at hu;cases hu
  ·rw[Tryz.underlying4] at hu;cases hu
  ·rw[Tryz.underlying9] at hu;cases hu
  ·rw[Tryz.underlying22] at hu;cases hu
  ·rw[Tryz.underlying23] at hu;cases hu
  ·rw[Tryz.underlying24] at hu;cases hu
  ·rw[Tryz.underlying26] at hu;cases hu
   simp only[List.mem_cons,List.mem_nil_iff,or_false] at hf
   rcases hf with rfl|rfl|rfl|rfl|rfl|rfl<;>simp[TT]
  ·rw[Tryz.underlying27] at hu;cases hu
theorem cr_int {F:Nat→Nat→Value→Prop}{k:IntKind}{v:Value}{c:Cl}(h:CR F (.int k) v c):∃ n,v=.int k n:=by cases h;exact⟨_,rfl⟩
theorem cr_bool {F:Nat→Nat→Value→Prop}{v:Value}{c:Cl}(h:CR F .bool v c):∃ n,v=.bool n:=by cases h;exact⟨_,rfl⟩
theorem cr_str {F:Nat→Nat→Value→Prop}{v:Value}{c:Cl}(h:CR F .str v c):∃ n,v=.string n:=by cases h;exact⟨_,rfl⟩
theorem cr_sl {F:Nat→Nat→Value→Prop}{e:TypeId}{v:Value}{c:Cl}(h:CR F (.sl e) v c):(∃ a l n,v=.slice a l n)∧∃ b r,c=.sl b r:=by cases h<;>exact⟨⟨_,_,_,rfl⟩,_,_,rfl⟩
end Go.Proofs.YtjcpnonpiiipgaaGreatDoor.clausesWithout
