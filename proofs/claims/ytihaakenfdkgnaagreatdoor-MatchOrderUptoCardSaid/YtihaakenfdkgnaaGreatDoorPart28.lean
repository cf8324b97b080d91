/-
  The frame of MatchOrder's second form: out of the law, the row and the card. Own text, after the guide's worked proofs.
-/
import Derived.Test.YtihaakenfdkgnaaGreatDoorRows
import Derived.Test.YtihaakenfdkgnaaGreatDoorCards
import Derived.ProofKit
import Derived.OpenShut
import Derived.LaidMore
import Derived.Lay
import Derived.HandedShaped
import Derived.SevenTiedAt
import Derived.Shelf.Vars
import Derived.Carry
import Derived.JoinedCond
import Derived.Deep.DeepHandedRow
import Derived.Lib.LaidTab
import Derived.Lib.LaidU8T
import Derived.Test.YtihaakenfdkgnaaGreatDoorFa8
import Derived.Test.YtihaakenfdkgnaaGreatDoorPart14
import Derived.Test.YtihaakenfdkgnaaGreatDoorPart27
set_option linter.all false
noncomputable section
namespace Go.Proofs.YtihaakenfdkgnaaGreatDoor.matchOrder
open Go.ChangeShapes Go.WideShapes Go.ChangeAt Go.RowKit Go.Exo Go.Proofs.Wo
set_option maxRecDepth 100000
def BaseA (w:World):Prop:=9<=w.heap.size/\∃ m,w.cell? ⟨0,0,none⟩=some (.int .i64 m)
def Base8 (w:World):Prop:=BaseA w/\Go.Lib.Utf8Tabs 1 2 w
theorem wk:Gd0 9 Base8 where
 keep:=fun w w' h ⟨⟨h1,m,hm⟩,h2,h3⟩=>by
  have hc:∀ b o,b<9->w'.cell? ⟨b,o,none⟩=w.cell? ⟨b,o,none⟩:=fun b o hb=>by
   unfold World.cell?;rw[h b hb]
  refine⟨⟨?_,m,?_⟩,fun c hc'=>?_,fun i hi=>⟨?_,?_⟩⟩
  ·have:=h 8 (by omega)
   have h2:w.heap[8]? = some w.heap[8]:=Array.getElem?_eq_getElem (by omega);rw[h2] at this;have:=(ag.1 this).1;omega
  ·rw[hc 0 0 (by omega)];exact hm
  ·rw[hc 1 c (by omega)];exact h2 c hc'
  ·rw[hc 2 _ (by omega)];exact (h3 i hi).1
  ·rw[hc 2 _ (by omega)];exact (h3 i hi).2
 size:=fun w h=>h.1.1
theorem base_of {w:World}(h:w.ShapedOpen Tryz.prog):BaseA w:=by
 refine⟨?_,cell_of_shapedOpen_int (zero:=#[.int .i64 0]) (t:=3) h (of_decide_eq_true (by kernel_rfl)) (by kernel_rfl) rfl (by kernel_rfl) (by kernel_rfl) (by kernel_rfl)⟩
 have hrow:∃ z t,((begin Tryz.prog (fun _ _=>0) default).world.heap[8]?).bind Obj.row? = some (z,t):=by
  cases hr:((begin Tryz.prog (fun _ _=>0) default).world.heap[8]?).bind Obj.row? with
  |some x=>exact⟨x.1,x.2,rfl⟩
  |none=>
   have:(((begin Tryz.prog (fun _ _=>0) default).world.heap[8]?).bind Obj.row?).isSome=true:=by kernel_rfl
   rw[hr] at this;cases this
 obtain⟨z,t,hz⟩:=hrow;obtain⟨cs,hc,_⟩:=h.1 8 z t (of_decide_eq_true (by kernel_rfl)) hz;have:=(ag.1 hc).1;omega
theorem tabs_of {w:World}(hL:laidMetH Tryz.prog Rows.matchOrderUptoRow.laid w):Go.Lib.Utf8Tabs 1 2 w:=
 utf8Tabs_of_readsT (U8Types.of196 Tryz.laysValid) ⟨by kernel_rfl,by kernel_rfl,by kernel_rfl,by kernel_rfl,by kernel_rfl,by kernel_rfl,by kernel_rfl⟩ (Lib.laidMet.reads hL (.head _)) (Lib.laidMet.reads hL (.tail _ (.head _)))
def iP (os:Os):World:=World.laidAll Tryz.prog os Rows.matchOrderUptoRow.laid
theorem laid_met (os:Os)(args:Array Value):laidMetH Tryz.prog Rows.matchOrderUptoRow.laid ((iP os).forCall (fun _ _=>0) ⟨#[],args,[]⟩).memory:=by
 rw[MakeChecks.laidMetH_plain _ _ _ (by kernel_rfl)];exact laidMet_laidAll _ (by kernel_rfl) (by kernel_rfl)
theorem shaped (os:Os)(args:Array Value):((iP os).forCall (fun _ _=>0) ⟨#[],args,[]⟩).Shaped Tryz.prog:=World.shaped_of_ZipB (by kernel_rfl) (by kernel_rfl)
def TT (t:TypeId):Prop:=t∈[2,4,9,26,29,24,27,22]
theorem datTs:DatTs Tryz.prog TT where
 sl:=fun t e ht hu=>by
  simp only[TT,List.mem_cons,List.mem_nil_iff,or_false] at ht;rcases ht with rfl|rfl|rfl|rfl|rfl|rfl|rfl|rfl
  ·rw[Tryz.underlying2] at hu;cases hu
  ·rw[Tryz.underlying4] at hu;cases hu
  ·rw[Tryz.underlying9] at hu;cases hu
  ·rw[Tryz.underlying26] at hu;cases hu
  ·rw[Tryz.underlying29] at hu;cases hu
  ·rw[Tryz.underlying24] at hu;cases hu
   exact⟨by simp[TT],⟨3,by kernel_rfl⟩,by kernel_rfl,by decide⟩
  ·rw[Tryz.underlying27] at hu;cases hu
   exact⟨by simp[TT],⟨3,by kernel_rfl⟩,by kernel_rfl,by decide⟩
  ·rw[Tryz.underlying22] at hu;cases hu
   exact⟨by simp[TT],⟨3,by kernel_rfl⟩,by kernel_rfl,by decide⟩
 st:=fun t fs ht hu f hf=>by
  simp only[TT,List.mem_cons,List.mem_nil_iff,or_false] at ht;rcases ht with rfl|rfl|rfl|rfl|rfl|rfl|rfl|rfl
  ·rw[Tryz.underlying2] at hu;cases hu
  ·rw[Tryz.underlying4] at hu;cases hu
  ·rw[Tryz.underlying9] at hu;cases hu
  ·rw[Tryz.underlying26] at hu;cases hu
  ·rw[Tryz.underlying29] at hu;cases hu
   simp only[List.mem_cons,List.mem_nil_iff,or_false] at hf;rcases hf with rfl|rfl|rfl|rfl|rfl|rfl<;>simp[TT]
  ·rw[Tryz.underlying24] at hu;cases hu
  ·rw[Tryz.underlying27] at hu;cases hu
  ·rw[Tryz.underlying22] at hu;cases hu
theorem k_r22:Tryz.prog.readableRec 22=true:=by kernel_rfl
theorem zS:kdsT Tryz.prog 5 22=some [.sl 24]:=by kernel_rfl
theorem k_rows:22<Tryz.prog.types.size:=of_decide_eq_true (by kernel_rfl)
theorem open22 {H:Type}{enc:TypeId×Value->H}{w:World}{r:Reach}{b0:Nat}{v:Value}{d:DataW H}{pl:List MemPlace}(hv:Value.okWide Tryz.prog w r b0 22 v)(h:DataW.Trod enc Tryz.prog w 0 (fun _=>true) true 22 v d pl) :
  ∃ (a:Option Addr)(l c:Nat)(cls:List Cl),v=.slice a l c/\CRs (dt w) [.sl 24] [.slice a l c] cls/\bh cls<=Rows.uptoBulk d:=by
 obtain⟨a,l,c,rfl⟩:=okWide_slice Tryz.underlying22 hv;obtain⟨fuel,hf⟩:=h;obtain⟨cls,hc⟩:=lE datTs fuel 5 22 _ _ [.sl 24] (by simp[TT]) hf zS;have hm:=lF datTs fuel 5 22 _ _ [.sl 24] cls (by simp[TT]) hf zS hc;exact⟨a,l,c,cls,rfl,hc,hm⟩
def rx:Prop:=∀ w',BaseA w'->Calls Tryz.prog 4 #[] w' fun e w''=>e=.returned (.bool true)/\Below w'.heap.size w' w''
theorem yj (hK:rx):Go.Exo.Spec Tryz.prog Base8 4 [] (.one (.one .bool)) (fun _=>True) (fun _=>[.bool true]):=by
 intro w φ args cls hG hφ ha _;cases ha;refine (show Calls Tryz.prog 4 #[] w _ from hK w hG.1).mono ?_;rintro e w' ⟨rfl,hb⟩;have hx:=fc hb;refine⟨_,φ,rfl,fun b o v h=>h,fun b o v h=>?_,fun b o v h _=>h,hx,.one (.bool _) .nil⟩;have h1:=hφ b o v h;rw[<- h1];exact World.cell?_of_block (hx.old b (World.block_lt_of_cell? w ⟨b,o,none⟩ h1))
theorem walk (hK:rx){w:World}(hb:Base8 w){v:Value}{c0:List Cl}(h0:CRs (dt w) [.sl 24] [v] c0)(hm:bh c0<=1048576) :
  Calls Tryz.prog 3 #[v] w fun e w'=>e=.returned (.bool true)/\Below w.heap.size w w':=by
 have hsz:Tryz.prog.globals.size<=9:=of_decide_eq_true (by kernel_rfl);obtain⟨tb,hS⟩:=law_ok wk (by omega) hsz (fun w h=>h.2) (yj hK) (4*SizeOf.sizeOf c0+51);have hsp:Go.Exo.Spec Tryz.prog Base8 3 [.one (.sl 24)] (.one (.one .bool)) (l8 (4*SizeOf.sizeOf c0+51)) (fun _=>[.bool true]):=Ctr.Sound.spec (by kernel_rfl) wk (by omega) hsz hS rfl
 have ha:ArgR (rel fun b o=>w.cell? ⟨b,o,none⟩) [.one (.sl 24)] [v] c0:=by
  cases h0 with
  |cons g0 g1=>cases g1;exact .one g0 .nil
 refine (hsp w _ _ _ hb (fun _ _ _ h=>h) ha (law_fits (by omega) hm)).mono ?_;rintro e w' ⟨y,φ',rfl,-,-,-,he,hr⟩;refine⟨?_,he.os,he.tape,he.output,he.size,he.old⟩;cases hr with
 |one g1 g2=>
  cases g1;rfl
end Go.Proofs.YtihaakenfdkgnaaGreatDoor.matchOrder
end
