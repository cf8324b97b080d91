/-
  A hook: a map's keys, numbers, in order. Own text.
-/
import Derived.Test.YtbddnchfoojacaaGreatDoorExo8
import Derived.Shelf.Strings.Search1
import Derived.Shelf.Strings.Search2
import Derived.Ground.NamesProg
import Derived.Test.YtbddnchfoojacaaGreatDoorProg
import Derived.KernelRfl
set_option linter.all false
namespace Go.Exo
set_option linter.unusedSectionVars false
def keysI:List (V×V×Nat)→Option (List Int)
 |[]=>some []
 |(.int .i64 n,_,_)::r=>(match keysI r with|some l=>some (n::l)|none=>none)
 |_::_=>none
def risesI:Int→List Int→Bool
 |lo,[]=>ltF lo 9223372036854775808
 |lo,n::r=>ltF lo n&&risesI n r
def bornsB:Nat→List (V×V×Nat)→Nat→Bool
 |lo,[],clock=>Nat.ble lo clock
 |lo,(_,_,b)::r,clock=>Nat.ble lo b&&bornsB (Nat.succ b) r clock
noncomputable def hkSorted (fn:Nat)(its:List Nat)(e:TypeId):Hook:=fun f args H nx=>
 cond (Nat.beq f fn) (match args with
  |[.func (.func g) [] [.ptr l 0]]=>cond (its.any (Nat.beq g)) (match getH H l with
   |.cells vs len _ cls _ _ _=>cond (Nat.beq cls 0&&Nat.ble 1 len) (match getC vs 0 with
    |.map m=>(match getH H m with
     |.map es clock=>(match keysI es with
      |some ks=>cond (risesI (-9223372036854775809) ks&&bornsB 0 es clock&&Nat.ble ks.length 1000) (match ks with
       |[]=>some (.nils,H,nx)
       |k::r=>T.ofK .bad ((k::r).map (V.int .i64)) 0 .e fun cs=>T.setK .no (.cells cs (Nat.succ r.length) e 0 0 0 false) H nx fun H=>some (.slice nx 0 (Nat.succ r.length) none 1,H,Nat.succ nx)) none
      |none=>none)
     |_=>none)
    |_=>none) none
   |_=>none) none
  |_=>none) none
def cntS (c:Nat):Nat→Nat→Nat
 |0,_=>0
 |l+1,n=>cond (Nat.beq (n % 256) c) (Nat.succ (cntS c l (n / 256))) (cntS c l (n / 256))
def hkCount (fn:Nat):Hook:=fun f args H nx=>
 cond (Nat.beq f fn) (match args with
  |[.str l n,.str 1 x]=>some (.int .i64 (.ofNat (cntS x l n)),H,nx)
  |_=>none) none
end Go.Exo

namespace Go.Proofs
open Go.Shelf
def Tryz.lays219_ren:Go.Shelf.Ren:=⟨fun|219=>406|217=>166|225=>503|224=>504|267=>505|266=>234|314=>584|n=>n,fun|9=>9|3=>3|4=>4|5=>5|46=>212|146=>615|51=>333|n=>n,fun|1=>0|n=>n⟩
theorem Tryz.lays219:Go.Proofs.Lays.n219 Tryz.prog Tryz.lays219_ren:={
 mixed:=by kernel_rfl
 f217:=Tryz.func166.trans (congrArg some (by kernel_rfl))
 f219:=Tryz.func406.trans (congrArg some (by kernel_rfl))
 f224:=Tryz.func504.trans (congrArg some (by kernel_rfl))
 f225:=Tryz.func503.trans (congrArg some (by kernel_rfl))
 f266:=Tryz.func234.trans (congrArg some (by kernel_rfl))
 f267:=Tryz.func505.trans (congrArg some (by kernel_rfl))
 f314:=Tryz.func584.trans (congrArg some (by kernel_rfl))
 t3:=Tryz.underlying3
 a3:=Tryz.isAgg3
 z3:=Tryz.sizeOf3
 v3:=Tryz.zeroValue3
 t4:=Tryz.underlying4
 a4:=Tryz.isAgg4
 z4:=Tryz.sizeOf4
 v4:=Tryz.zeroValue4
 t5:=Tryz.underlying5
 a5:=Tryz.isAgg5
 z5:=Tryz.sizeOf5
 v5:=Tryz.zeroValue5
 t9:=Tryz.underlying9
 a9:=Tryz.isAgg9
 z9:=Tryz.sizeOf9
 v9:=Tryz.zeroValue9
 t46:=Tryz.underlying212
 a46:=Tryz.isAgg212
 z46:=Tryz.sizeOf212
 v46:=Tryz.zeroValue212
 t51:=Tryz.underlying333
 a51:=Tryz.isAgg333
 z51:=Tryz.sizeOf333
 v51:=Tryz.zeroValue333
 t146:=Tryz.underlying615
 a146:=Tryz.isAgg615
 z146:=Tryz.sizeOf615
 v146:=Tryz.zeroValue615
 g1:=by kernel_rfl }
open Go.RowKit Go.Lib in
theorem Tryz.stringslite_Index (s sub:ByteArray)(m:Int)(w:World)(hs:s.size<4294967281)(hm:w.cell? ⟨0,0,none⟩=some (.int .i64 m)) :
  Calls Tryz.prog 406 #[.string s,.string sub] w fun e w'=>e=.returned (.int .i64 (Lib.index s.data.toList sub.data.toList))∧w'=w:=Any.stringslite_Index Tryz.lays219 s sub m w hs hm
end Go.Proofs

namespace Go.Proofs.K9
open Go.Exo
instance sx0:Sx:=⟨fun _=>[]⟩
instance dc0:Dc:=⟨fun _=>none⟩
instance tb0:Tb:=⟨none⟩
theorem globals9:Tryz.prog.globals.size=9:=by kernel_rfl
noncomputable def hkI0:Hook:=hkIndex 406
noncomputable def hkI:Hook:=hkOr hkI0 (hkOr (hkSorted 62 [114,117] 2) (hkCount 636))
def Base (w:World):Prop:=9≤w.heap.size∧∃ m,w.cell? ⟨0,0,none⟩=some (.int .i64 m)
theorem base_gd:Gd0 9 Base where
 keep:=fun w w' h ⟨h1,m,hm⟩=>by
  refine⟨?_,m,?_⟩
  ·have:=h 8 (by omega)
   have h2:w.heap[8]? = some w.heap[8]:=Array.getElem?_eq_getElem (by omega)
   rw[h2] at this
   have:=(Array.getElem?_eq_some_iff.1 this).1
   omega
  ·have hb:=h 0 (by omega)
   unfold World.cell? at hm ⊢
   rw[hb];exact hm
 size:=fun w h=>h.1
theorem hooksI0:Hooks Tryz.prog 9 Base hkI0:=Hooks.index base_gd fun s sub w ⟨_,m,hm⟩ hs=>Tryz.stringslite_Index s sub m w hs hm
end Go.Proofs.K9

namespace Go.Proofs.K9
open Go.Exo
set_option maxRecDepth 100000
noncomputable def t1:Cut where
 f:=8
 args:=[.agg [.nils,.nils,.int .i64 (0),.int .i64 (0)],.str 17 40876851607924120406809147174178415461714,.nils]
 nx:=16
 ins:=[]
 ord:=[]
 v:=.tup [.agg [.slice 1018 0 1 .none 1,.slice 1005 0 1 .none 1,.nils,.nils,.int .i64 (0),.int .i64 (0)],.int .i64 (0)]
 outs:=[(997,cellsO [.int .i64 (2),.bool false,.int .i64 (2),.str 0 0,.nils,.nils] 31 0 0 0 false),
  (1005,cellsO [.slice 997 0 1 .none 6] 27 0 0 0 false),
  (1018,cellsO [.str 1 120] 9 0 0 0 false)]
 nx':=1019
noncomputable def p2:Cut where
 f:=19
 args:=[.str 31 73304799340621800238456140907991422191149354546839158038843029830444077635]
 nx:=1027
 ins:=[]
 ord:=[]
 v:=.tup [.agg [.slice 1780 0 1 .none 57],.int .i64 (0),.int .i64 (0)]
 outs:=[(1391,cellsO [.str 1 65] 9 0 0 0 false),
  (1411,cellsO [.str 1 107] 9 0 0 0 false),
  (1552,cellsO [.int .i64 (0),.str 0 0,.int .i64 (2),.bool false,.int .i64 (1),.str 0 0,.nils,.nils,.nils,.nils,.bool false] 89 0 0 0 false),
  (1567,cellsO [.str 0 0,.slice 1391 0 1 .none 1,.bool true,.int .i64 (6),.str 0 0,.int .i64 (0),.bool false,.int .i64 (0),.str 0 0,.nils,.nils,.slice 1411 0 1 .none 1,.slice 1552 0 1 .none 11,.bool false] 260 0 0 0 false),
  (1592,cellsO [.str 1 65] 9 0 0 0 false),
  (1612,cellsO [.str 1 107] 9 0 0 0 false),
  (1753,cellsO [.int .i64 (0),.str 0 0,.int .i64 (2),.bool false,.int .i64 (2),.str 0 0,.nils,.nils,.nils,.nils,.bool false] 89 0 0 0 false),
  (1768,cellsO [.str 0 0,.slice 1592 0 1 .none 1,.bool true,.int .i64 (6),.str 0 0,.int .i64 (0),.bool false,.int .i64 (0),.str 0 0,.nils,.nils,.slice 1612 0 1 .none 1,.slice 1753 0 1 .none 11,.bool false] 260 0 0 0 false),
  (1774,.cls 1775 .none 4),
  (1775,cellsO [.slice 1567 0 1 (.some 1) 14,.nils,.slice 1768 0 1 (.some 1) 14,.nils] 265 1774 0 2 false),
  (1780,cellsO [.int .i64 (3),.bool false,.bool false,.bool false,.slice 1775 0 2 .none 2,.nils,.nils,.bool false,.bool false,.bool false,.int .i64 (0),.str 0 0,.int .i64 (0),.bool false,.int .i64 (0),.str 0 0,.nils,.nils,.nils,.nils,.bool false,.int .i64 (0),.str 0 0,.int .i64 (0),.bool false,.int .i64 (0),.str 0 0,.nils,.nils,.nils,.nils,.bool false,.int .i64 (0),.str 0 0,.int .i64 (0),.bool false,.int .i64 (0),.str 0 0,.nils,.nils,.nils,.nils,.bool false,.int .i64 (0),.str 0 0,.int .i64 (0),.bool false,.int .i64 (0),.str 0 0,.nils,.nils,.nils,.nils,.bool false,.str 0 0,.nils,.nils] 92 0 0 0 false)]
 nx':=1783
noncomputable def r2:Cut where
 f:=20
 args:=[.agg [.nils,.nils,.int .i64 (0),.int .i64 (0)],.agg [.slice 1780 0 1 .none 57],.nils]
 nx:=1784
 ins:=[(1391,cellsO [.str 1 65] 9 0 0 0 true),
  (1411,cellsO [.str 1 107] 9 0 0 0 true),
  (1552,cellsO [.int .i64 (0),.str 0 0,.int .i64 (2),.bool false,.int .i64 (1),.str 0 0,.nils,.nils,.nils,.nils,.bool false] 89 0 0 0 true),
  (1567,cellsO [.str 0 0,.slice 1391 0 1 .none 1,.bool true,.int .i64 (6),.str 0 0,.int .i64 (0),.bool false,.int .i64 (0),.str 0 0,.nils,.nils,.slice 1411 0 1 .none 1,.slice 1552 0 1 .none 11,.bool false] 260 0 0 0 true),
  (1592,cellsO [.str 1 65] 9 0 0 0 true),
  (1612,cellsO [.str 1 107] 9 0 0 0 true),
  (1753,cellsO [.int .i64 (0),.str 0 0,.int .i64 (2),.bool false,.int .i64 (2),.str 0 0,.nils,.nils,.nils,.nils,.bool false] 89 0 0 0 true),
  (1768,cellsO [.str 0 0,.slice 1592 0 1 .none 1,.bool true,.int .i64 (6),.str 0 0,.int .i64 (0),.bool false,.int .i64 (0),.str 0 0,.nils,.nils,.slice 1612 0 1 .none 1,.slice 1753 0 1 .none 11,.bool false] 260 0 0 0 true),
  (1775,cellsO [.slice 1567 0 1 (.some 1) 14,.nils,.slice 1768 0 1 (.some 1) 14,.nils] 265 0 0 2 true),
  (1780,cellsO [.int .i64 (3),.bool false,.bool false,.bool false,.slice 1775 0 2 .none 2,.nils,.nils,.bool false,.bool false,.bool false,.int .i64 (0),.str 0 0,.int .i64 (0),.bool false,.int .i64 (0),.str 0 0,.nils,.nils,.nils,.nils,.bool false,.int .i64 (0),.str 0 0,.int .i64 (0),.bool false,.int .i64 (0),.str 0 0,.nils,.nils,.nils,.nils,.bool false,.int .i64 (0),.str 0 0,.int .i64 (0),.bool false,.int .i64 (0),.str 0 0,.nils,.nils,.nils,.nils,.bool false,.int .i64 (0),.str 0 0,.int .i64 (0),.bool false,.int .i64 (0),.str 0 0,.nils,.nils,.nils,.nils,.bool false,.str 0 0,.nils,.nils] 92 0 0 0 true)]
 ord:=[1780,1775,1567,1768,1391,1411,1552,1592,1612,1753]
 v:=.tup [.agg [.nils,.nils,.slice 2719 0 2 .none 3,.nils,.int .i64 (2),.int .i64 (0)],.int .i64 (0)]
 outs:=[(2700,cellsO [.str 1 65] 9 0 0 0 false),
  (2705,cellsO [.str 1 107,.int .i64 (2),.bool false,.int .i64 (1),.str 0 0,.nils,.nils] 208 0 0 0 false),
  (2711,cellsO [.str 1 65] 9 0 0 0 false),
  (2716,cellsO [.str 1 107,.int .i64 (2),.bool false,.int .i64 (2),.str 0 0,.nils,.nils] 208 0 0 0 false),
  (2718,.cls 2719 .none 6),
  (2719,cellsO [.int .i64 (0),.slice 2700 0 1 .none 1,.slice 2705 0 1 .none 7,.int .i64 (1),.slice 2711 0 1 .none 1,.slice 2716 0 1 .none 7] 109 2718 0 2 false)]
 nx':=2722
noncomputable def t2:Cut where
 f:=8
 args:=[.agg [.nils,.nils,.int .i64 (0),.int .i64 (0)],.str 31 73304799340621800238456140907991422191149354546839158038843029830444077635,.nils]
 nx:=1020
 ins:=[]
 ord:=[]
 v:=.tup [.agg [.nils,.nils,.slice 2719 0 2 .none 3,.nils,.int .i64 (2),.int .i64 (0)],.int .i64 (0)]
 outs:=[(2700,cellsO [.str 1 65] 9 0 0 0 false),
  (2705,cellsO [.str 1 107,.int .i64 (2),.bool false,.int .i64 (1),.str 0 0,.nils,.nils] 208 0 0 0 false),
  (2711,cellsO [.str 1 65] 9 0 0 0 false),
  (2716,cellsO [.str 1 107,.int .i64 (2),.bool false,.int .i64 (2),.str 0 0,.nils,.nils] 208 0 0 0 false),
  (2718,.cls 2719 .none 6),
  (2719,cellsO [.int .i64 (0),.slice 2700 0 1 .none 1,.slice 2705 0 1 .none 7,.int .i64 (1),.slice 2711 0 1 .none 1,.slice 2716 0 1 .none 7] 109 2718 0 2 false)]
 nx':=2722
noncomputable def p3:Cut where
 f:=19
 args:=[.str 37 53303686111912317562848822434010562916966589854532696361938938387851003849946803360514381]
 nx:=2781
 ins:=[]
 ord:=[]
 v:=.tup [.agg [.slice 3623 0 2 .none 57],.int .i64 (0),.int .i64 (0)]
 outs:=[(3097,cellsO [.str 1 65] 9 0 0 0 false),
  (3108,cellsO [.str 1 97,.slice 3097 0 1 .none 1,.bool false,.int .i64 (0),.str 0 0,.int .i64 (0),.bool false,.int .i64 (0),.str 0 0,.nils,.nils,.nils,.nils,.bool false] 260 0 0 0 false),
  (3114,cellsO [.slice 3108 0 1 (.some 1) 14,.nils] 265 0 0 0 false),
  (3242,cellsO [.int .i64 (2),.str 1 97,.int .i64 (0),.bool false,.int .i64 (0),.str 0 0,.nils,.nils,.nils,.nils,.bool false] 89 0 0 0 false),
  (3325,cellsO [.int .i64 (3),.str 1 107,.int .i64 (0),.bool false,.int .i64 (0),.str 0 0,.nils,.nils,.nils,.slice 3242 0 1 (.some 1) 11,.bool false,.int .i64 (1),.str 1 109,.int .i64 (0),.bool false,.int .i64 (0),.str 0 0,.nils,.nils,.nils,.nils,.bool false] 89 0 0 0 false),
  (3538,cellsO [.int .i64 (2),.str 1 97,.int .i64 (0),.bool false,.int .i64 (0),.str 0 0,.nils,.nils,.nils,.nils,.bool false] 89 0 0 0 false),
  (3605,cellsO [.int .i64 (3),.str 1 107,.int .i64 (0),.bool false,.int .i64 (0),.str 0 0,.nils,.nils,.nils,.slice 3538 0 1 (.some 1) 11,.bool false,.str 0 0] 273 0 0 0 false),
  (3622,.cls 3623 .none 114),
  (3623,cellsO [.int .i64 (0),.bool false,.bool false,.bool false,.slice 3114 0 1 .none 2,.nils,.nils,.bool true,.bool false,.bool false,.int .i64 (14),.str 1 62,.int .i64 (0),.bool false,.int .i64 (0),.str 0 0,.nils,.nils,.nils,.slice 3325 0 2 (.some 2) 11,.bool false,.int .i64 (0),.str 0 0,.int .i64 (0),.bool false,.int .i64 (0),.str 0 0,.nils,.nils,.nils,.nils,.bool false,.int .i64 (0),.str 0 0,.int .i64 (0),.bool false,.int .i64 (0),.str 0 0,.nils,.nils,.nils,.nils,.bool false,.int .i64 (0),.str 0 0,.int .i64 (0),.bool false,.int .i64 (0),.str 0 0,.nils,.nils,.nils,.nils,.bool false,.str 0 0,.nils,.nils,.int .i64 (7),.bool false,.bool false,.bool false,.nils,.slice 3605 0 1 .none 12,.nils,.bool false,.bool false,.bool false,.int .i64 (0),.str 0 0,.int .i64 (0),.bool false,.int .i64 (0),.str 0 0,.nils,.nils,.nils,.nils,.bool false,.int .i64 (0),.str 0 0,.int .i64 (0),.bool false,.int .i64 (0),.str 0 0,.nils,.nils,.nils,.nils,.bool false,.int .i64 (0),.str 0 0,.int .i64 (0),.bool false,.int .i64 (0),.str 0 0,.nils,.nils,.nils,.nils,.bool false,.int .i64 (0),.str 0 0,.int .i64 (0),.bool false,.int .i64 (0),.str 0 0,.nils,.nils,.nils,.nils,.bool false,.str 0 0,.nils,.nils] 92 3622 0 2 false)]
 nx':=3626
noncomputable def do3a:Cut where
 f:=60
 args:=[.ptr 4326 0,.agg [.nils,.slice 3634 0 1 (.some 1) 1],.agg [.int .i64 (0),.bool false,.bool false,.bool false,.slice 3114 0 1 .none 2,.nils,.nils,.bool true,.bool false,.bool false,.int .i64 (14),.str 1 62,.int .i64 (0),.bool false,.int .i64 (0),.str 0 0,.nils,.nils,.nils,.slice 3325 0 2 (.some 2) 11,.bool false,.int .i64 (0),.str 0 0,.int .i64 (0),.bool false,.int .i64 (0),.str 0 0,.nils,.nils,.nils,.nils,.bool false,.int .i64 (0),.str 0 0,.int .i64 (0),.bool false,.int .i64 (0),.str 0 0,.nils,.nils,.nils,.nils,.bool false,.int .i64 (0),.str 0 0,.int .i64 (0),.bool false,.int .i64 (0),.str 0 0,.nils,.nils,.nils,.nils,.bool false,.str 0 0,.nils,.nils],.slice 2723 0 1 (.some 1) 7]
 nx:=4348
 ins:=[(2723,cellsO [.str 1 109,.int .i64 (2),.bool false,.int .i64 (1),.str 0 0,.nils,.nils] 43 0 0 0 true),
  (3097,cellsO [.str 1 65] 9 0 0 0 true),
  (3108,cellsO [.str 1 97,.slice 3097 0 1 .none 1,.bool false,.int .i64 (0),.str 0 0,.int .i64 (0),.bool false,.int .i64 (0),.str 0 0,.nils,.nils,.nils,.nils,.bool false] 260 0 0 0 true),
  (3114,cellsO [.slice 3108 0 1 (.some 1) 14,.nils] 265 0 0 0 true),
  (3242,cellsO [.int .i64 (2),.str 1 97,.int .i64 (0),.bool false,.int .i64 (0),.str 0 0,.nils,.nils,.nils,.nils,.bool false] 89 0 0 0 true),
  (3325,cellsO [.int .i64 (3),.str 1 107,.int .i64 (0),.bool false,.int .i64 (0),.str 0 0,.nils,.nils,.nils,.slice 3242 0 1 (.some 1) 11,.bool false,.int .i64 (1),.str 1 109,.int .i64 (0),.bool false,.int .i64 (0),.str 0 0,.nils,.nils,.nils,.nils,.bool false] 89 0 0 0 true),
  (3633,cellsO [] 31 0 0 0 true),
  (3634,cellsO [.slice 3633 0 0 (.some 0) 6] 27 0 0 0 true),
  (4323,.map [(.int .i64 (0),.agg [.int .i64 (0),.slice 4331 0 1 .none 1,.slice 4336 0 1 .none 7],0),(.int .i64 (1),.agg [.int .i64 (1),.slice 4341 0 1 .none 1,.slice 4346 0 1 .none 7],1)] 2),
  (4324,.map [] 0),
  (4325,.map [] 0),
  (4326,cellsO [.map 4323,.map 4324,.map 4325,.int .i64 (2),.int .i64 (0)] 149 0 0 0 false),
  (4331,cellsO [.str 1 65] 9 0 0 0 true),
  (4336,cellsO [.str 1 107,.int .i64 (2),.bool false,.int .i64 (1),.str 0 0,.nils,.nils] 208 0 0 0 true),
  (4341,cellsO [.str 1 65] 9 0 0 0 true),
  (4346,cellsO [.str 1 107,.int .i64 (2),.bool false,.int .i64 (2),.str 0 0,.nils,.nils] 208 0 0 0 true)]
 ord:=[4326,3634,3114,3325,2723,4323,4324,4325,3633,3108,3242,4331,4336,4341,4346,3097]
 v:=.tup [.agg [.slice 5885 0 1 .none 2,.slice 5882 0 1 .none 1],.int .i64 (0)]
 outs:=[(4323,.map [(.int .i64 (0),.agg [.int .i64 (0),.slice 4331 0 1 .none 1,.slice 4336 0 1 .none 7],0),(.int .i64 (1),.agg [.int .i64 (1),.slice 4341 0 1 .none 1,.slice 4346 0 1 .none 7],1)] 2),
  (4324,.map [] 0),
  (4325,.map [] 0),
  (4326,cellsO [.map 4708,.map 4709,.map 4710,.int .i64 (2),.int .i64 (0)] 149 0 0 0 false),
  (4708,.map [(.int .i64 (0),.agg [.int .i64 (0),.slice 4716 0 1 .none 1,.slice 4721 0 1 .none 7],0),(.int .i64 (1),.agg [.int .i64 (1),.slice 4726 0 1 .none 1,.slice 4731 0 1 .none 7],1)] 2),
  (4709,.map [] 0),
  (4710,.map [] 0),
  (4716,cellsO [.str 1 65] 9 0 0 0 false),
  (4721,cellsO [.str 1 107,.int .i64 (2),.bool false,.int .i64 (1),.str 0 0,.nils,.nils] 208 0 0 0 false),
  (4726,cellsO [.str 1 65] 9 0 0 0 false),
  (4731,cellsO [.str 1 107,.int .i64 (2),.bool false,.int .i64 (2),.str 0 0,.nils,.nils] 208 0 0 0 false),
  (5880,cellsO [.int .i64 (6),.bool false,.int .i64 (1),.str 0 0,.nils,.nils] 31 0 0 0 false),
  (5882,cellsO [.slice 5880 0 1 .none 6] 27 0 0 0 false),
  (5885,cellsO [.str 1 97,.int .i64 (1)] 95 0 0 0 false)]
 nx':=5886
noncomputable def t3:Cut where
 f:=8
 args:=[.agg [.slice 2719 0 2 .none 3,.nils,.int .i64 (2),.int .i64 (0)],.str 37 53303686111912317562848822434010562916966589854532696361938938387851003849946803360514381,.slice 2723 0 1 (.some 1) 7]
 nx:=2724
 ins:=[(2700,cellsO [.str 1 65] 9 0 0 0 true),
  (2705,cellsO [.str 1 107,.int .i64 (2),.bool false,.int .i64 (1),.str 0 0,.nils,.nils] 208 0 0 0 true),
  (2711,cellsO [.str 1 65] 9 0 0 0 true),
  (2716,cellsO [.str 1 107,.int .i64 (2),.bool false,.int .i64 (2),.str 0 0,.nils,.nils] 208 0 0 0 true),
  (2719,cellsO [.int .i64 (0),.slice 2700 0 1 .none 1,.slice 2705 0 1 .none 7,.int .i64 (1),.slice 2711 0 1 .none 1,.slice 2716 0 1 .none 7] 109 0 0 2 true),
  (2723,cellsO [.str 1 109,.int .i64 (2),.bool false,.int .i64 (1),.str 0 0,.nils,.nils] 43 0 0 0 true)]
 ord:=[2719,2723,2700,2705,2711,2716]
 v:=.tup [.agg [.slice 6522 0 1 .none 1,.slice 6484 0 1 .none 1,.slice 6517 0 2 .none 3,.nils,.int .i64 (2),.int .i64 (0)],.int .i64 (0)]
 outs:=[(6476,cellsO [.int .i64 (2),.bool false,.int .i64 (2),.str 0 0,.nils,.nils] 31 0 0 0 false),
  (6484,cellsO [.slice 6476 0 1 .none 6] 27 0 0 0 false),
  (6498,cellsO [.str 1 65] 9 0 0 0 false),
  (6503,cellsO [.str 1 107,.int .i64 (2),.bool false,.int .i64 (1),.str 0 0,.nils,.nils] 208 0 0 0 false),
  (6509,cellsO [.str 1 65] 9 0 0 0 false),
  (6514,cellsO [.str 1 107,.int .i64 (2),.bool false,.int .i64 (2),.str 0 0,.nils,.nils] 208 0 0 0 false),
  (6516,.cls 6517 .none 6),
  (6517,cellsO [.int .i64 (0),.slice 6498 0 1 .none 1,.slice 6503 0 1 .none 7,.int .i64 (1),.slice 6509 0 1 .none 1,.slice 6514 0 1 .none 7] 109 6516 0 2 false),
  (6522,cellsO [.str 3 7024225] 9 0 0 0 false)]
 nx':=6523
noncomputable def t4:Cut where
 f:=8
 args:=[.agg [.nils,.nils,.int .i64 (0),.int .i64 (0)],.str 9 2013298270734487143762,.nils]
 nx:=6524
 ins:=[]
 ord:=[]
 v:=.tup [.agg [.nils,.nils,.nils,.nils,.int .i64 (0),.int .i64 (0)],.int .i64 (170)]
 outs:=[]
 nx':=6986
noncomputable def t5:Cut where
 f:=8
 args:=[.agg [.nils,.nils,.int .i64 (0),.int .i64 (0)],.str 10 227544128064629958264146,.nils]
 nx:=6987
 ins:=[]
 ord:=[]
 v:=.tup [.agg [.nils,.nils,.nils,.nils,.int .i64 (0),.int .i64 (0)],.int .i64 (190)]
 outs:=[]
 nx':=8106
end Go.Proofs.K9
