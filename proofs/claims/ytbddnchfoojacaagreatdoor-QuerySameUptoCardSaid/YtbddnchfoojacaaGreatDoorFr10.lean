/-
  The frame of QuerySame's second form: out of the law, the row and the card. Own text, after the guide's worked proofs.
-/
import Derived.Test.YtbddnchfoojacaaGreatDoorRows
import Derived.Test.YtbddnchfoojacaaGreatDoorCards
import Derived.ProofKit
import Derived.OpenShut
import Derived.LaidMore
import Derived.Lay
import Derived.HandedShaped
import Derived.SevenTiedAt
import Derived.Shelf.Vars
import Derived.Carry
import Derived.JoinedCond
import Derived.Deep.DeepHandedRow
import Derived.Lib.LaidTab
import Derived.Lib.LaidU8T
import Derived.Test.YtbddnchfoojacaaGreatDoorFa10
import Derived.Test.YtbddnchfoojacaaGreatDoorSx1
import Derived.Test.YtbddnchfoojacaaGreatDoorQs3
set_option linter.all false
namespace Go.Proofs.YtbddnchfoojacaaGreatDoor.querySame
open Go.ChangeShapes Go.WideShapes Go.ChangeAt Go.RowKit Go.Exo Go.Proofs.Wo
set_option maxRecDepth 100000
def BaseA (w:World):Prop:=9≤w.heap.size∧∃ m,w.cell? ⟨0,0,none⟩=some (.int .i64 m)
def Base10 (w:World):Prop:=BaseA w∧Go.Lib.Utf8Tabs 1 2 w
theorem base10_gd:Gd0 9 Base10 where
 keep:=fun w w' h ⟨⟨h1,m,hm⟩,h2,h3⟩=>by
  have hc:∀ b o,b<9→w'.cell? ⟨b,o,none⟩=w.cell? ⟨b,o,none⟩:=fun b o hb=>by
   unfold World.cell?
   rw[h b hb]
  refine⟨⟨?_,m,?_⟩,fun c hc'=>?_,fun i hi=>⟨?_,?_⟩⟩
  ·have:=h 8 (by omega)
   have h2:w.heap[8]? = some w.heap[8]:=Array.getElem?_eq_getElem (by omega)
   rw[h2] at this
   have:=(Array.getElem?_eq_some_iff.1 this).1
   omega
  ·rw[hc 0 0 (by omega)];exact hm
  ·rw[hc 1 c (by omega)];exact h2 c hc'
  ·rw[hc 2 _ (by omega)];exact (h3 i hi).1
  ·rw[hc 2 _ (by omega)];exact (h3 i hi).2
 size:=fun w h=>h.1.1
theorem base_of {w:World}(h:w.ShapedOpen Tryz.prog):BaseA w:=by
 refine⟨?_,cell_of_shapedOpen_int (zero:=#[.int .i64 0]) (t:=3) h (of_decide_eq_true (by kernel_rfl)) (by kernel_rfl) rfl (by kernel_rfl) (by kernel_rfl) (by kernel_rfl)⟩
 have hrow:∃ z t,((begin Tryz.prog (fun _ _=>0) default).world.heap[8]?).bind Obj.row? = some (z,t):=by
  cases hr:((begin Tryz.prog (fun _ _=>0) default).world.heap[8]?).bind Obj.row? with
  |some x=>exact⟨x.1,x.2,rfl⟩
  |none=>
   have:(((begin Tryz.prog (fun _ _=>0) default).world.heap[8]?).bind Obj.row?).isSome=true:=by kernel_rfl
   rw[hr] at this;cases this
 obtain⟨z,t,hz⟩:=hrow
 obtain⟨cs,hc,_⟩:=h.1 8 z t (of_decide_eq_true (by kernel_rfl)) hz
 have:=(Array.getElem?_eq_some_iff.1 hc).1
 omega
theorem tabs_of {w:World}(hL:laidMetH Tryz.prog Rows.querySameUptoRow.laid w):Go.Lib.Utf8Tabs 1 2 w:=
 utf8Tabs_of_readsT (U8Types.of196 Tryz.laysValid) ⟨by kernel_rfl,by kernel_rfl,by kernel_rfl,by kernel_rfl,by kernel_rfl,by kernel_rfl,by kernel_rfl⟩ (Lib.laidMet.reads hL (.head _)) (Lib.laidMet.reads hL (.tail _ (.head _)))
noncomputable def laidWorld (os:Os):World:=World.laidAll Tryz.prog os Rows.querySameUptoRow.laid
theorem laid_met (os:Os)(args:Array Value):laidMetH Tryz.prog Rows.querySameUptoRow.laid ((laidWorld os).forCall (fun _ _=>0) ⟨#[],args,[]⟩).memory:=by
 rw[MakeChecks.laidMetH_plain _ _ _ (by kernel_rfl)]
 exact laidMet_laidAll _ (by kernel_rfl) (by kernel_rfl)
theorem shaped (os:Os)(args:Array Value):((laidWorld os).forCall (fun _ _=>0) ⟨#[],args,[]⟩).Shaped Tryz.prog:=World.shaped_of_ZipB (by kernel_rfl) (by kernel_rfl)
def TT (t:TypeId):Prop:=t∈[2,4,9,29,31,27,22,23,25]
theorem datTs:DatTs Tryz.prog TT where
 sl:=fun t e ht hu=>by
  simp only[TT,List.mem_cons,List.mem_nil_iff,or_false] at ht
  rcases ht with rfl|rfl|rfl|rfl|rfl|rfl|rfl|rfl|rfl
  ·rw[Tryz.underlying2] at hu;cases hu
  ·rw[Tryz.underlying4] at hu;cases hu
  ·rw[Tryz.underlying9] at hu;cases hu
  ·rw[Tryz.underlying29] at hu;cases hu
  ·rw[Tryz.underlying31] at hu;cases hu
  ·rw[Tryz.underlying27] at hu;cases hu
   exact⟨by simp[TT],⟨3,by kernel_rfl⟩,by kernel_rfl,by decide⟩
  ·rw[Tryz.underlying22] at hu;cases hu
   exact⟨by simp[TT],⟨3,by kernel_rfl⟩,by kernel_rfl,by decide⟩
  ·rw[Tryz.underlying23] at hu;cases hu
   exact⟨by simp[TT],⟨3,by kernel_rfl⟩,by kernel_rfl,by decide⟩
  ·rw[Tryz.underlying25] at hu;cases hu
 st:=fun t fs ht hu f hf=>by
  simp only[TT,List.mem_cons,List.mem_nil_iff,or_false] at ht
  rcases ht with rfl|rfl|rfl|rfl|rfl|rfl|rfl|rfl|rfl
  ·rw[Tryz.underlying2] at hu;cases hu
  ·rw[Tryz.underlying4] at hu;cases hu
  ·rw[Tryz.underlying9] at hu;cases hu
  ·rw[Tryz.underlying29] at hu;cases hu
  ·rw[Tryz.underlying31] at hu;cases hu
   simp only[List.mem_cons,List.mem_nil_iff,or_false] at hf
   rcases hf with rfl|rfl|rfl|rfl|rfl|rfl<;>simp[TT]
  ·rw[Tryz.underlying27] at hu;cases hu
  ·rw[Tryz.underlying22] at hu;cases hu
  ·rw[Tryz.underlying23] at hu;cases hu
  ·rw[Tryz.underlying25] at hu;cases hu
   simp only[List.mem_cons,List.mem_nil_iff,or_false] at hf
   rcases hf with rfl|rfl<;>simp[TT]
theorem k_r25:Tryz.prog.readableRec 25=true:=by kernel_rfl
theorem k_kds25:kdsT Tryz.prog 5 25=some tK:=by kernel_rfl
theorem k_rows:25<Tryz.prog.types.size:=of_decide_eq_true (by kernel_rfl)
theorem open25 {H:Type}{enc:TypeId×Value→H}{w:World}{r:Reach}{b0:Nat}{v:Value}{d:DataW H}{pl:List MemPlace}(hv:Value.okWide Tryz.prog w r b0 25 v)(h:DataW.Trod enc Tryz.prog w 0 (fun _=>true) true 25 v d pl) :
  ∃ (xs:List Value)(cls:List Cl),v=.agg xs.toArray∧CRs (cellsW w) tK xs cls∧massL cls≤Rows.uptoBulk d:=by
 obtain⟨cs,rfl,hsz⟩:=okWide_struct Tryz.underlying25 hv
 obtain⟨fuel,hf⟩:=h
 obtain⟨cls,hc⟩:=open_trod datTs fuel 5 25 _ _ tK (by simp[TT]) hf k_kds25
 have hm:=mass_trod datTs fuel 5 25 _ _ tK cls (by simp[TT]) hf k_kds25 hc
 obtain⟨l⟩:=cs
 exact⟨l,cls,rfl,hc,hm⟩
def Known:Prop:=∀ w',BaseA w'→Calls Tryz.prog 4 #[] w' fun e w''=>e=.returned (.bool true)∧Below w'.heap.size w' w''
theorem known_spec (hK:Known):Go.Exo.Spec Tryz.prog Base10 4 [] (.one (.one .bool)) (fun _=>True) (fun _=>[.bool true]):=by
 intro w φ args cls hG hφ ha _
 cases ha
 refine (show Calls Tryz.prog 4 #[] w _ from hK w hG.1).mono ?_
 rintro e w' ⟨rfl,hb⟩
 have hx:=ext_below hb
 refine⟨_,φ,rfl,fun b o v h=>h,fun b o v h=>?_,fun b o v h _=>h,hx,.one (.bool _) .nil⟩
 have h1:=hφ b o v h
 rw[← h1]
 exact World.cell?_of_block (hx.old b (World.block_lt_of_cell? w ⟨b,o,none⟩ h1))
theorem walk (hK:Known){w:World}(hb:Base10 w){x0 x1:List Value}{c0 c1:List Cl}(h0:CRs (cellsW w) tK x0 c0)(h1:CRs (cellsW w) tK x1 c1)(hm:massL c0+massL c1≤1048576) :
  Calls Tryz.prog 3 #[.agg x0.toArray,.agg x1.toArray] w fun e w'=>e=.returned (.bool true)∧Below w.heap.size w w':=by
 have hsz:Tryz.prog.globals.size≤9:=of_decide_eq_true (by kernel_rfl)
 obtain⟨tb,hS⟩:=law_ok base10_gd (by omega) hsz (fun w h=>h.2) (known_spec hK) (2*SizeOf.sizeOf (c0++c1)+1)
 have hsp:Go.Exo.Spec Tryz.prog Base10 3 [.agg tK,.agg tK] (.one (.one .bool)) (lawPre (2*SizeOf.sizeOf (c0++c1)+1)) (fun _=>[.bool true]):=Ctr.Sound.spec (by kernel_rfl) base10_gd (by omega) hsz hS rfl
 have ha:ArgR (rel fun b o=>w.cell? ⟨b,o,none⟩) [.agg tK,.agg tK] [.agg x0.toArray,.agg x1.toArray] (c0++c1):=by
  have:=ArgR.agg h0 (ArgR.agg h1 (ArgR.nil (F:=rel fun b o=>w.cell? ⟨b,o,none⟩)))
  rw[List.append_nil] at this
  exact this
 have hw:Wts [.sl 9,.sl 27,.sl 9,.sl 27] (c0++c1):=h0.wt.append h1.wt
 refine (hsp w _ _ _ hb (fun _ _ _ h=>h) ha (law_fits hw (Nat.lt_succ_self _) (by rw[massL_append];exact hm))).mono ?_
 rintro e w' ⟨y,φ',rfl,-,-,-,he,hr⟩
 refine⟨?_,he.os,he.tape,he.output,he.size,he.old⟩
 cases hr with
 |one g1 g2=>
  cases g1
  rfl
end Go.Proofs.YtbddnchfoojacaaGreatDoor.querySame
