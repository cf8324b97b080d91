/-
  A hook: a map's keys, numbers, in order. Own text.
-/
import Derived.Test.YtjcpnonpiiipgaaGreatDoorExo8
import Derived.Shelf.Strings.Search1
import Derived.Shelf.Strings.Search2
import Derived.Test.YtjcpnonpiiipgaaGreatDoorProg
import Derived.KernelRfl
set_option linter.all false
namespace Go.Exo
def keysI:List (V×V×Nat)→Option (List Int)
 |[]=>some []
 |(.int .i64 n,_,_)::r=>(match keysI r with|some l=>some (n::l)|none=>none)
 |_::_=>none
def risesI:Int→List Int→Bool
 |lo,[]=>ltF lo 9223372036854775808
 |lo,n::r=>ltF lo n&&risesI n r
def bornsB:Nat→List (V×V×Nat)→Nat→Bool
 |lo,[],clock=>Nat.ble lo clock
 |lo,(_,_,b)::r,clock=>Nat.ble lo b&&bornsB (Nat.succ b) r clock
noncomputable def hkSorted (fn:Nat)(its:List Nat)(e:TypeId):Hook:=fun f args H nx=>
 cond (Nat.beq f fn) (match args with
  |[.func (.func g) [] [.ptr l 0]]=>cond (its.any (Nat.beq g)) (match getH H l with
   |.cells vs len _ cls _ _ _=>cond (Nat.beq cls 0&&Nat.ble 1 len) (match getC vs 0 with
    |.map m=>(match getH H m with
     |.map es clock=>(match keysI es with
      |some ks=>cond (risesI (-9223372036854775809) ks&&bornsB 0 es clock&&Nat.ble ks.length 1000) (match ks with
       |[]=>some (.nils,H,nx)
       |k::r=>T.ofK .bad ((k::r).map (V.int .i64)) 0 .e fun cs=>T.setK .no (.cells cs (Nat.succ r.length) e 0 0 0 false) H nx fun H=>some (.slice nx 0 (Nat.succ r.length) none 1,H,Nat.succ nx)) none
      |none=>none)
     |_=>none)
    |_=>none) none
   |_=>none) none
  |_=>none) none
noncomputable def hkDel1 (fn:Nat):Hook:=fun f args H nx=>
 cond (Nat.beq f fn) (match args with
  |[.slice l off 1 cap 1,.int .i64 (.ofNat 0),.int .i64 (.ofNat 1)]=>(match wr l off [.int .i64 0] H nx undefV with
   |.valH _ H' _=>some (.slice l off 0 cap 1,H',nx)
   |_=>none)
  |_=>none) none
def cntS (c:Nat):Nat→Nat→Nat
 |0,_=>0
 |l+1,n=>cond (Nat.beq (n % 256) c) (Nat.succ (cntS c l (n / 256))) (cntS c l (n / 256))
def hkCount (fn:Nat):Hook:=fun f args H nx=>
 cond (Nat.beq f fn) (match args with
  |[.str l n,.str 1 x]=>some (.int .i64 (.ofNat (cntS x l n)),H,nx)
  |_=>none) none
end Go.Exo

namespace Go.Proofs
open Go.Shelf
def Tryz.lays219_ren:Go.Shelf.Ren:=⟨fun|219=>521|217=>372|225=>565|224=>566|267=>567|266=>462|314=>602|n=>n,fun|9=>9|3=>3|4=>4|5=>5|46=>201|146=>615|51=>376|n=>n,fun|1=>2|n=>n⟩
theorem Tryz.lays219:Go.Proofs.Lays.n219 Tryz.prog Tryz.lays219_ren:={
 mixed:=by kernel_rfl
 f217:=Tryz.func372.trans (congrArg some (by kernel_rfl))
 f219:=Tryz.func521.trans (congrArg some (by kernel_rfl))
 f224:=Tryz.func566.trans (congrArg some (by kernel_rfl))
 f225:=Tryz.func565.trans (congrArg some (by kernel_rfl))
 f266:=Tryz.func462.trans (congrArg some (by kernel_rfl))
 f267:=Tryz.func567.trans (congrArg some (by kernel_rfl))
 f314:=Tryz.func602.trans (congrArg some (by kernel_rfl))
 t3:=Tryz.underlying3
 a3:=Tryz.isAgg3
 z3:=Tryz.sizeOf3
 v3:=Tryz.zeroValue3
 t4:=Tryz.underlying4
 a4:=Tryz.isAgg4
 z4:=Tryz.sizeOf4
 v4:=Tryz.zeroValue4
 t5:=Tryz.underlying5
 a5:=Tryz.isAgg5
 z5:=Tryz.sizeOf5
 v5:=Tryz.zeroValue5
 t9:=Tryz.underlying9
 a9:=Tryz.isAgg9
 z9:=Tryz.sizeOf9
 v9:=Tryz.zeroValue9
 t46:=Tryz.underlying201
 a46:=Tryz.isAgg201
 z46:=Tryz.sizeOf201
 v46:=Tryz.zeroValue201
 t51:=Tryz.underlying376
 a51:=Tryz.isAgg376
 z51:=Tryz.sizeOf376
 v51:=Tryz.zeroValue376
 t146:=Tryz.underlying615
 a146:=Tryz.isAgg615
 z146:=Tryz.sizeOf615
 v146:=Tryz.zeroValue615
 g1:=by kernel_rfl }
open Go.RowKit Go.Lib in
theorem Tryz.stringslite_Index (s sub:ByteArray)(m:Int)(w:World)(hs:s.size<4294967281)(hm:w.cell? ⟨2,0,none⟩=some (.int .i64 m)) :
  Calls Tryz.prog 521 #[.string s,.string sub] w fun e w'=>e=.returned (.int .i64 (Lib.index s.data.toList sub.data.toList))∧w'=w:=Any.stringslite_Index Tryz.lays219 s sub m w hs hm
end Go.Proofs

namespace Go.Proofs.K9
open Go.Exo
instance sx0:Sx:=⟨fun _=>[]⟩
instance dc0:Dc:=⟨fun _=>none⟩
instance tb0:Tb:=⟨none⟩
theorem globals9:Tryz.prog.globals.size=9:=by kernel_rfl
noncomputable def hkI0:Hook:=hkIndex 521
noncomputable def hkI:Hook:=hkOr hkI0 (hkOr (hkSorted 54 [99,100] 2) (hkOr (hkDel1 257) (hkCount 615)))
def Base (w:World):Prop:=9≤w.heap.size∧∃ m,w.cell? ⟨2,0,none⟩=some (.int .i64 m)
theorem base_gd:Gd0 9 Base where
 keep:=fun w w' h ⟨h1,m,hm⟩=>by
  refine⟨?_,m,?_⟩
  ·have:=h 8 (by omega)
   have h2:w.heap[8]? = some w.heap[8]:=Array.getElem?_eq_getElem (by omega)
   rw[h2] at this
   have:=(Array.getElem?_eq_some_iff.1 this).1
   omega
  ·have hb:=h 2 (by omega)
   unfold World.cell? at hm ⊢
   rw[hb];exact hm
 size:=fun w h=>h.1
theorem hooksI0:Hooks Tryz.prog 9 Base hkI0:=Hooks.index base_gd fun s sub w ⟨_,m,hm⟩ hs=>Tryz.stringslite_Index s sub m w hs hm
end Go.Proofs.K9

namespace Go.Proofs.K9
open Go.Exo
set_option maxRecDepth 100000
noncomputable def lex1:Cut where
 f:=73
 args:=[.str 56 191150849526329242408353426126752313671417067053568576330738494664334033756564757827024547869492054314402530789646880057631422010576469]
 nx:=233
 ins:=[]
 ord:=[]
 v:=.tup [.slice 353 0 21 .none 4,.int .i64 (0),.int .i64 (0)]
 outs:=[(247,.cls 353 .none 84),
  (353,cellsO [.int .i64 (1),.int .i64 (0),.str 6 75103028596309,.int .u64 (0),.int .i64 (5),.int .i64 (7),.str 1 91,.int .u64 (0),.int .i64 (4),.int .i64 (8),.str 0 0,.int .u64 (3),.int .i64 (5),.int .i64 (9),.str 1 44,.int .u64 (0),.int .i64 (4),.int .i64 (11),.str 0 0,.int .u64 (1),.int .i64 (5),.int .i64 (12),.str 1 44,.int .u64 (0),.int .i64 (4),.int .i64 (14),.str 0 0,.int .u64 (1),.int .i64 (5),.int .i64 (15),.str 1 93,.int .u64 (0),.int .i64 (1),.int .i64 (17),.str 2 21313,.int .u64 (0),.int .i64 (1),.int .i64 (20),.str 1 120,.int .u64 (0),.int .i64 (1),.int .i64 (22),.str 6 86115525870930,.int .u64 (0),.int .i64 (1),.int .i64 (29),.str 1 120,.int .u64 (0),.int .i64 (5),.int .i64 (30),.str 1 44,.int .u64 (0),.int .i64 (1),.int .i64 (32),.str 5 500069396323,.int .u64 (0),.int .i64 (5),.int .i64 (37),.str 1 40,.int .u64 (0),.int .i64 (5),.int .i64 (38),.str 1 42,.int .u64 (0),.int .i64 (5),.int .i64 (39),.str 1 41,.int .u64 (0),.int .i64 (1),.int .i64 (41),.str 5 353349423695,.int .u64 (0),.int .i64 (1),.int .i64 (47),.str 2 22850,.int .u64 (0),.int .i64 (1),.int .i64 (50),.str 1 120,.int .u64 (0),.int .i64 (1),.int .i64 (52),.str 4 1129530692,.int .u64 (0)] 158 247 0 2 false)]
 nx':=354
noncomputable def unw1:Cut where
 f:=123
 args:=[.ptr 22 0,.ptr 372 0]
 nx:=373
 ins:=[(22,cellsO [.slice 232 0 21 .none 4,.int .i64 (56),.int .i64 (0),.int .i64 (1),.int .i64 (0)] 151 0 0 0 false),
  (232,cellsO [.int .i64 (1),.int .i64 (0),.str 6 75103028596309,.int .u64 (0),.int .i64 (5),.int .i64 (7),.str 1 91,.int .u64 (0),.int .i64 (4),.int .i64 (8),.str 0 0,.int .u64 (3),.int .i64 (5),.int .i64 (9),.str 1 44,.int .u64 (0),.int .i64 (4),.int .i64 (11),.str 0 0,.int .u64 (1),.int .i64 (5),.int .i64 (12),.str 1 44,.int .u64 (0),.int .i64 (4),.int .i64 (14),.str 0 0,.int .u64 (1),.int .i64 (5),.int .i64 (15),.str 1 93,.int .u64 (0),.int .i64 (1),.int .i64 (17),.str 2 21313,.int .u64 (0),.int .i64 (1),.int .i64 (20),.str 1 120,.int .u64 (0),.int .i64 (1),.int .i64 (22),.str 6 86115525870930,.int .u64 (0),.int .i64 (1),.int .i64 (29),.str 1 120,.int .u64 (0),.int .i64 (5),.int .i64 (30),.str 1 44,.int .u64 (0),.int .i64 (1),.int .i64 (32),.str 5 500069396323,.int .u64 (0),.int .i64 (5),.int .i64 (37),.str 1 40,.int .u64 (0),.int .i64 (5),.int .i64 (38),.str 1 42,.int .u64 (0),.int .i64 (5),.int .i64 (39),.str 1 41,.int .u64 (0),.int .i64 (1),.int .i64 (41),.str 5 353349423695,.int .u64 (0),.int .i64 (1),.int .i64 (47),.str 2 22850,.int .u64 (0),.int .i64 (1),.int .i64 (50),.str 1 120,.int .u64 (0),.int .i64 (1),.int .i64 (52),.str 4 1129530692,.int .u64 (0)] 158 0 0 2 true),
  (372,cellsO [.int .i64 (0),.bool false,.bool false,.bool false,.nils,.nils,.nils,.bool false,.bool false,.bool false,.int .i64 (0),.str 0 0,.int .i64 (0),.bool false,.int .i64 (0),.str 0 0,.nils,.nils,.nils,.nils,.bool false,.int .i64 (0),.str 0 0,.int .i64 (0),.bool false,.int .i64 (0),.str 0 0,.nils,.nils,.nils,.nils,.bool false,.int .i64 (0),.str 0 0,.int .i64 (0),.bool false,.int .i64 (0),.str 0 0,.nils,.nils,.nils,.nils,.bool false,.int .i64 (0),.str 0 0,.int .i64 (0),.bool false,.int .i64 (0),.str 0 0,.nils,.nils,.nils,.nils,.bool false,.str 0 0,.nils,.nils] 73 0 0 0 false)]
 ord:=[22,372,232]
 v:=.tup []
 outs:=[(22,cellsO [.slice 232 0 21 .none 4,.int .i64 (56),.int .i64 (0),.int .i64 (10),.int .i64 (0)] 151 0 0 0 false),
  (372,cellsO [.int .i64 (1),.bool false,.bool false,.bool false,.nils,.nils,.nils,.bool false,.bool false,.bool false,.int .i64 (0),.str 0 0,.int .i64 (0),.bool false,.int .i64 (0),.str 0 0,.nils,.nils,.nils,.nils,.bool false,.int .i64 (0),.str 0 0,.int .i64 (0),.bool false,.int .i64 (0),.str 0 0,.nils,.nils,.nils,.nils,.bool false,.int .i64 (0),.str 0 0,.int .i64 (0),.bool false,.int .i64 (0),.str 0 0,.nils,.nils,.nils,.nils,.bool false,.int .i64 (5),.str 0 0,.int .i64 (0),.bool false,.int .i64 (0),.str 0 0,.nils,.nils,.nils,.slice 884 0 3 .none 11,.bool false,.str 1 120,.nils,.nils] 73 0 0 0 false),
  (742,.cls 884 (.some 11) 33),
  (884,cellsO [.int .i64 (0),.str 0 0,.int .i64 (2),.bool false,.int .i64 (3),.str 0 0,.nils,.nils,.nils,.nils,.bool false,.int .i64 (0),.str 0 0,.int .i64 (2),.bool false,.int .i64 (1),.str 0 0,.nils,.nils,.nils,.nils,.bool false,.int .i64 (0),.str 0 0,.int .i64 (2),.bool false,.int .i64 (1),.str 0 0,.nils,.nils,.nils,.nils,.bool false] 52 742 0 2 false)]
 nx':=984
noncomputable def tell1:Cut where
 f:=130
 args:=[.ptr 22 0,.ptr 1002 0]
 nx:=1003
 ins:=[(22,cellsO [.slice 232 0 21 .none 4,.int .i64 (56),.int .i64 (0),.int .i64 (11),.int .i64 (0)] 151 0 0 0 false),
  (232,cellsO [.int .i64 (1),.int .i64 (0),.str 6 75103028596309,.int .u64 (0),.int .i64 (5),.int .i64 (7),.str 1 91,.int .u64 (0),.int .i64 (4),.int .i64 (8),.str 0 0,.int .u64 (3),.int .i64 (5),.int .i64 (9),.str 1 44,.int .u64 (0),.int .i64 (4),.int .i64 (11),.str 0 0,.int .u64 (1),.int .i64 (5),.int .i64 (12),.str 1 44,.int .u64 (0),.int .i64 (4),.int .i64 (14),.str 0 0,.int .u64 (1),.int .i64 (5),.int .i64 (15),.str 1 93,.int .u64 (0),.int .i64 (1),.int .i64 (17),.str 2 21313,.int .u64 (0),.int .i64 (1),.int .i64 (20),.str 1 120,.int .u64 (0),.int .i64 (1),.int .i64 (22),.str 6 86115525870930,.int .u64 (0),.int .i64 (1),.int .i64 (29),.str 1 120,.int .u64 (0),.int .i64 (5),.int .i64 (30),.str 1 44,.int .u64 (0),.int .i64 (1),.int .i64 (32),.str 5 500069396323,.int .u64 (0),.int .i64 (5),.int .i64 (37),.str 1 40,.int .u64 (0),.int .i64 (5),.int .i64 (38),.str 1 42,.int .u64 (0),.int .i64 (5),.int .i64 (39),.str 1 41,.int .u64 (0),.int .i64 (1),.int .i64 (41),.str 5 353349423695,.int .u64 (0),.int .i64 (1),.int .i64 (47),.str 2 22850,.int .u64 (0),.int .i64 (1),.int .i64 (50),.str 1 120,.int .u64 (0),.int .i64 (1),.int .i64 (52),.str 4 1129530692,.int .u64 (0)] 158 0 0 2 true),
  (1002,cellsO [.int .i64 (0),.bool false,.bool false,.bool false,.nils,.nils,.nils,.bool false,.bool false,.bool false,.int .i64 (0),.str 0 0,.int .i64 (0),.bool false,.int .i64 (0),.str 0 0,.nils,.nils,.nils,.nils,.bool false,.int .i64 (0),.str 0 0,.int .i64 (0),.bool false,.int .i64 (0),.str 0 0,.nils,.nils,.nils,.nils,.bool false,.int .i64 (0),.str 0 0,.int .i64 (0),.bool false,.int .i64 (0),.str 0 0,.nils,.nils,.nils,.nils,.bool false,.int .i64 (0),.str 0 0,.int .i64 (0),.bool false,.int .i64 (0),.str 0 0,.nils,.nils,.nils,.nils,.bool false,.str 0 0,.nils,.nils] 73 0 0 0 false)]
 ord:=[22,1002,232]
 v:=.tup []
 outs:=[(22,cellsO [.slice 232 0 21 .none 4,.int .i64 (56),.int .i64 (0),.int .i64 (21),.int .i64 (0)] 151 0 0 0 false),
  (1002,cellsO [.int .i64 (7),.bool false,.bool false,.bool false,.nils,.slice 1397 0 2 .none 12,.slice 1606 0 1 .none 12,.bool false,.bool false,.bool false,.int .i64 (0),.str 0 0,.int .i64 (0),.bool false,.int .i64 (0),.str 0 0,.nils,.nils,.nils,.nils,.bool false,.int .i64 (0),.str 0 0,.int .i64 (0),.bool false,.int .i64 (0),.str 0 0,.nils,.nils,.nils,.nils,.bool false,.int .i64 (0),.str 0 0,.int .i64 (0),.bool false,.int .i64 (0),.str 0 0,.nils,.nils,.nils,.nils,.bool false,.int .i64 (0),.str 0 0,.int .i64 (0),.bool false,.int .i64 (0),.str 0 0,.nils,.nils,.nils,.nils,.bool false,.str 0 0,.nils,.nils] 73 0 0 0 false),
  (1396,.cls 1397 .none 24),
  (1397,cellsO [.int .i64 (2),.str 1 120,.int .i64 (0),.bool false,.int .i64 (0),.str 0 0,.nils,.nils,.nils,.nils,.bool false,.str 0 0,.int .i64 (8),.str 0 0,.int .i64 (0),.bool false,.int .i64 (0),.str 0 0,.nils,.nils,.nils,.nils,.bool false,.str 0 0] 303 1396 0 2 false),
  (1606,cellsO [.int .i64 (2),.str 1 120,.int .i64 (0),.bool false,.int .i64 (0),.str 0 0,.nils,.nils,.nils,.nils,.bool false,.bool true] 307 0 0 0 false)]
 nx':=1618
noncomputable def parse1:Cut where
 f:=20
 args:=[.str 56 191150849526329242408353426126752313671417067053568576330738494664334033756564757827024547869492054314402530789646880057631422010576469]
 nx:=18
 ins:=[]
 ord:=[]
 v:=.tup [.agg [.slice 1620 0 2 .none 57],.int .i64 (0),.int .i64 (0)]
 outs:=[(742,.cls 884 (.some 11) 33),
  (884,cellsO [.int .i64 (0),.str 0 0,.int .i64 (2),.bool false,.int .i64 (3),.str 0 0,.nils,.nils,.nils,.nils,.bool false,.int .i64 (0),.str 0 0,.int .i64 (2),.bool false,.int .i64 (1),.str 0 0,.nils,.nils,.nils,.nils,.bool false,.int .i64 (0),.str 0 0,.int .i64 (2),.bool false,.int .i64 (1),.str 0 0,.nils,.nils,.nils,.nils,.bool false] 52 742 0 2 false),
  (1396,.cls 1397 .none 24),
  (1397,cellsO [.int .i64 (2),.str 1 120,.int .i64 (0),.bool false,.int .i64 (0),.str 0 0,.nils,.nils,.nils,.nils,.bool false,.str 0 0,.int .i64 (8),.str 0 0,.int .i64 (0),.bool false,.int .i64 (0),.str 0 0,.nils,.nils,.nils,.nils,.bool false,.str 0 0] 303 1396 0 2 false),
  (1606,cellsO [.int .i64 (2),.str 1 120,.int .i64 (0),.bool false,.int .i64 (0),.str 0 0,.nils,.nils,.nils,.nils,.bool false,.bool true] 307 0 0 0 false),
  (1619,.cls 1620 .none 114),
  (1620,cellsO [.int .i64 (1),.bool false,.bool false,.bool false,.nils,.nils,.nils,.bool false,.bool false,.bool false,.int .i64 (0),.str 0 0,.int .i64 (0),.bool false,.int .i64 (0),.str 0 0,.nils,.nils,.nils,.nils,.bool false,.int .i64 (0),.str 0 0,.int .i64 (0),.bool false,.int .i64 (0),.str 0 0,.nils,.nils,.nils,.nils,.bool false,.int .i64 (0),.str 0 0,.int .i64 (0),.bool false,.int .i64 (0),.str 0 0,.nils,.nils,.nils,.nils,.bool false,.int .i64 (5),.str 0 0,.int .i64 (0),.bool false,.int .i64 (0),.str 0 0,.nils,.nils,.nils,.slice 884 0 3 .none 11,.bool false,.str 1 120,.nils,.nils,.int .i64 (7),.bool false,.bool false,.bool false,.nils,.slice 1397 0 2 .none 12,.slice 1606 0 1 .none 12,.bool false,.bool false,.bool false,.int .i64 (0),.str 0 0,.int .i64 (0),.bool false,.int .i64 (0),.str 0 0,.nils,.nils,.nils,.nils,.bool false,.int .i64 (0),.str 0 0,.int .i64 (0),.bool false,.int .i64 (0),.str 0 0,.nils,.nils,.nils,.nils,.bool false,.int .i64 (0),.str 0 0,.int .i64 (0),.bool false,.int .i64 (0),.str 0 0,.nils,.nils,.nils,.nils,.bool false,.int .i64 (0),.str 0 0,.int .i64 (0),.bool false,.int .i64 (0),.str 0 0,.nils,.nils,.nils,.nils,.bool false,.str 0 0,.nils,.nils] 73 1619 0 2 false)]
 nx':=1623
noncomputable def do1a:Cut where
 f:=23
 args:=[.ptr 1633 0,.agg [.nils,.slice 1636 0 1 (.some 1) 1],.agg [.int .i64 (1),.bool false,.bool false,.bool false,.nils,.nils,.nils,.bool false,.bool false,.bool false,.int .i64 (0),.str 0 0,.int .i64 (0),.bool false,.int .i64 (0),.str 0 0,.nils,.nils,.nils,.nils,.bool false,.int .i64 (0),.str 0 0,.int .i64 (0),.bool false,.int .i64 (0),.str 0 0,.nils,.nils,.nils,.nils,.bool false,.int .i64 (0),.str 0 0,.int .i64 (0),.bool false,.int .i64 (0),.str 0 0,.nils,.nils,.nils,.nils,.bool false,.int .i64 (5),.str 0 0,.int .i64 (0),.bool false,.int .i64 (0),.str 0 0,.nils,.nils,.nils,.slice 884 0 3 .none 11,.bool false,.str 1 120,.nils,.nils],.nils]
 nx:=1639
 ins:=[(884,cellsO [.int .i64 (0),.str 0 0,.int .i64 (2),.bool false,.int .i64 (3),.str 0 0,.nils,.nils,.nils,.nils,.bool false,.int .i64 (0),.str 0 0,.int .i64 (2),.bool false,.int .i64 (1),.str 0 0,.nils,.nils,.nils,.nils,.bool false,.int .i64 (0),.str 0 0,.int .i64 (2),.bool false,.int .i64 (1),.str 0 0,.nils,.nils,.nils,.nils,.bool false] 52 0 0 2 true),
  (1630,.map [] 0),
  (1631,.map [] 0),
  (1632,.map [] 0),
  (1633,cellsO [.map 1630,.map 1631,.map 1632,.int .i64 (0),.int .i64 (0)] 98 0 0 0 false),
  (1635,cellsO [] 26 0 0 0 true),
  (1636,cellsO [.slice 1635 0 0 (.some 0) 6] 24 0 0 0 true)]
 ord:=[1633,1636,884,1630,1631,1632,1635]
 v:=.tup [.agg [.slice 2212 0 1 .none 2,.slice 2101 0 3 .none 1],.int .i64 (0)]
 outs:=[(1630,.map [] 0),
  (1631,.map [] 0),
  (1632,.map [] 0),
  (1633,cellsO [.map 1833,.map 1834,.map 1835,.int .i64 (0),.int .i64 (0)] 98 0 0 0 false),
  (1833,.map [] 0),
  (1834,.map [] 0),
  (1835,.map [] 0),
  (2084,cellsO [.int .i64 (2),.bool false,.int .i64 (3),.str 0 0,.nils,.nils] 26 0 0 0 false),
  (2091,cellsO [.int .i64 (2),.bool false,.int .i64 (1),.str 0 0,.nils,.nils] 26 0 0 0 false),
  (2093,.cls 2101 (.some 0) 3),
  (2099,cellsO [.int .i64 (2),.bool false,.int .i64 (1),.str 0 0,.nils,.nils] 26 0 0 0 false),
  (2101,cellsO [.slice 2091 0 1 .none 6,.slice 2099 0 1 .none 6,.slice 2084 0 1 .none 6] 24 2093 0 2 false),
  (2212,cellsO [.str 1 120,.int .i64 (0)] 121 0 0 0 false)]
 nx':=2213
noncomputable def do1b:Cut where
 f:=23
 args:=[.ptr 1633 0,.agg [.slice 2212 0 1 .none 2,.slice 2101 0 3 .none 1],.agg [.int .i64 (7),.bool false,.bool false,.bool false,.nils,.slice 1397 0 2 .none 12,.slice 1606 0 1 .none 12,.bool false,.bool false,.bool false,.int .i64 (0),.str 0 0,.int .i64 (0),.bool false,.int .i64 (0),.str 0 0,.nils,.nils,.nils,.nils,.bool false,.int .i64 (0),.str 0 0,.int .i64 (0),.bool false,.int .i64 (0),.str 0 0,.nils,.nils,.nils,.nils,.bool false,.int .i64 (0),.str 0 0,.int .i64 (0),.bool false,.int .i64 (0),.str 0 0,.nils,.nils,.nils,.nils,.bool false,.int .i64 (0),.str 0 0,.int .i64 (0),.bool false,.int .i64 (0),.str 0 0,.nils,.nils,.nils,.nils,.bool false,.str 0 0,.nils,.nils],.nils]
 nx:=2214
 ins:=[(1397,cellsO [.int .i64 (2),.str 1 120,.int .i64 (0),.bool false,.int .i64 (0),.str 0 0,.nils,.nils,.nils,.nils,.bool false,.str 0 0,.int .i64 (8),.str 0 0,.int .i64 (0),.bool false,.int .i64 (0),.str 0 0,.nils,.nils,.nils,.nils,.bool false,.str 0 0] 303 0 0 2 true),
  (1606,cellsO [.int .i64 (2),.str 1 120,.int .i64 (0),.bool false,.int .i64 (0),.str 0 0,.nils,.nils,.nils,.nils,.bool false,.bool true] 307 0 0 0 true),
  (1633,cellsO [.map 1833,.map 1834,.map 1835,.int .i64 (0),.int .i64 (0)] 98 0 0 0 false),
  (1833,.map [] 0),
  (1834,.map [] 0),
  (1835,.map [] 0),
  (2084,cellsO [.int .i64 (2),.bool false,.int .i64 (3),.str 0 0,.nils,.nils] 26 0 0 0 true),
  (2091,cellsO [.int .i64 (2),.bool false,.int .i64 (1),.str 0 0,.nils,.nils] 26 0 0 0 true),
  (2099,cellsO [.int .i64 (2),.bool false,.int .i64 (1),.str 0 0,.nils,.nils] 26 0 0 0 true),
  (2101,cellsO [.slice 2091 0 1 .none 6,.slice 2099 0 1 .none 6,.slice 2084 0 1 .none 6] 24 0 0 2 true),
  (2212,cellsO [.str 1 120,.int .i64 (0)] 121 0 0 0 true)]
 ord:=[1633,2212,2101,1397,1606,1833,1834,1835,2091,2099,2084]
 v:=.tup [.agg [.slice 3397 0 2 .none 2,.slice 3394 0 2 .none 1],.int .i64 (0)]
 outs:=[(1633,cellsO [.map 2621,.map 2622,.map 2623,.int .i64 (0),.int .i64 (0)] 98 0 0 0 false),
  (1833,.map [] 0),
  (1834,.map [] 0),
  (1835,.map [] 0),
  (2621,.map [] 0),
  (2622,.map [] 0),
  (2623,.map [] 0),
  (3084,.cls 3085 .none 12),
  (3085,cellsO [.int .i64 (2),.bool false,.int .i64 (1),.str 0 0,.nils,.nils,.int .i64 (2),.bool false,.int .i64 (2),.str 0 0,.nils,.nils] 26 3084 0 2 false),
  (3097,.cls 3098 .none 12),
  (3098,cellsO [.int .i64 (2),.bool false,.int .i64 (3),.str 0 0,.nils,.nils,.int .i64 (2),.bool false,.int .i64 (1),.str 0 0,.nils,.nils] 26 3097 0 2 false),
  (3393,.cls 3394 .none 2),
  (3394,cellsO [.slice 3098 0 2 .none 6,.slice 3085 0 2 .none 6] 24 3393 0 2 false),
  (3397,cellsO [.str 1 120,.int .i64 (0),.str 8 2966227785111400291,.int .i64 (0)] 121 0 0 0 false)]
 nx':=3398
noncomputable def done1:Cut where
 f:=12
 args:=[.str 56 191150849526329242408353426126752313671417067053568576330738494664334033756564757827024547869492054314402530789646880057631422010576469]
 nx:=16
 ins:=[]
 ord:=[]
 v:=.tup [.agg [.slice 3397 0 2 .none 2,.slice 3394 0 2 .none 1],.agg [.nils,.nils,.int .i64 (0),.int .i64 (0)],.int .i64 (0)]
 outs:=[(3084,.cls 3085 .none 12),
  (3085,cellsO [.int .i64 (2),.bool false,.int .i64 (1),.str 0 0,.nils,.nils,.int .i64 (2),.bool false,.int .i64 (2),.str 0 0,.nils,.nils] 26 3084 0 2 false),
  (3097,.cls 3098 .none 12),
  (3098,cellsO [.int .i64 (2),.bool false,.int .i64 (3),.str 0 0,.nils,.nils,.int .i64 (2),.bool false,.int .i64 (1),.str 0 0,.nils,.nils] 26 3097 0 2 false),
  (3393,.cls 3394 .none 2),
  (3394,cellsO [.slice 3098 0 2 .none 6,.slice 3085 0 2 .none 6] 24 3393 0 2 false),
  (3397,cellsO [.str 1 120,.int .i64 (0),.str 8 2966227785111400291,.int .i64 (0)] 121 0 0 0 false)]
 nx':=3426
noncomputable def parse2:Cut where
 f:=20
 args:=[.str 34 2908717355013853205912113924580100965400719666793560040966277800192642234693538371]
 nx:=3430
 ins:=[]
 ord:=[]
 v:=.tup [.agg [.slice 4291 0 2 .none 57],.int .i64 (0),.int .i64 (0)]
 outs:=[(3798,cellsO [.str 1 65] 9 0 0 0 false),
  (3835,cellsO [.str 1 84] 9 0 0 0 false),
  (3853,cellsO [.str 0 0,.slice 3835 0 1 .none 1,.int .i64 (1),.bool false,.int .i64 (0),.str 0 0,.int .i64 (0),.bool false,.int .i64 (0),.str 0 0,.nils,.nils,.nils,.nils,.bool false] 255 0 0 0 false),
  (3882,cellsO [.str 1 97,.slice 3798 0 1 .none 1,.bool false,.int .i64 (0),.str 0 0,.int .i64 (0),.bool false,.int .i64 (0),.str 0 0,.nils,.nils,.nils,.nils,.bool false,.str 1 98,.nils,.bool false,.int .i64 (0),.str 0 0,.int .i64 (0),.bool false,.int .i64 (0),.str 0 0,.nils,.nils,.nils,.nils,.bool false] 249 0 0 0 false),
  (3887,cellsO [.slice 3882 0 2 .none 14,.slice 3853 0 1 .none 15] 244 0 0 0 false),
  (4272,.cls 4273 .none 24),
  (4273,cellsO [.int .i64 (2),.str 1 97,.int .i64 (0),.bool false,.int .i64 (0),.str 0 0,.nils,.nils,.nils,.nils,.bool false,.str 0 0,.int .i64 (2),.str 1 98,.int .i64 (0),.bool false,.int .i64 (0),.str 0 0,.nils,.nils,.nils,.nils,.bool false,.str 0 0] 303 4272 0 2 false),
  (4290,.cls 4291 .none 114),
  (4291,cellsO [.int .i64 (3),.bool false,.bool false,.bool false,.slice 3887 0 1 .none 2,.nils,.nils,.bool false,.bool false,.bool false,.int .i64 (0),.str 0 0,.int .i64 (0),.bool false,.int .i64 (0),.str 0 0,.nils,.nils,.nils,.nils,.bool false,.int .i64 (0),.str 0 0,.int .i64 (0),.bool false,.int .i64 (0),.str 0 0,.nils,.nils,.nils,.nils,.bool false,.int .i64 (0),.str 0 0,.int .i64 (0),.bool false,.int .i64 (0),.str 0 0,.nils,.nils,.nils,.nils,.bool false,.int .i64 (0),.str 0 0,.int .i64 (0),.bool false,.int .i64 (0),.str 0 0,.nils,.nils,.nils,.nils,.bool false,.str 0 0,.nils,.nils,.int .i64 (7),.bool false,.bool false,.bool false,.nils,.slice 4273 0 2 .none 12,.nils,.bool false,.bool false,.bool false,.int .i64 (0),.str 0 0,.int .i64 (0),.bool false,.int .i64 (0),.str 0 0,.nils,.nils,.nils,.nils,.bool false,.int .i64 (0),.str 0 0,.int .i64 (0),.bool false,.int .i64 (0),.str 0 0,.nils,.nils,.nils,.nils,.bool false,.int .i64 (0),.str 0 0,.int .i64 (0),.bool false,.int .i64 (0),.str 0 0,.nils,.nils,.nils,.nils,.bool false,.int .i64 (0),.str 0 0,.int .i64 (0),.bool false,.int .i64 (0),.str 0 0,.nils,.nils,.nils,.nils,.bool false,.str 0 0,.nils,.nils] 73 4290 0 2 false)]
 nx':=4294
noncomputable def do2a:Cut where
 f:=23
 args:=[.ptr 4304 0,.agg [.nils,.slice 4307 0 1 (.some 1) 1],.agg [.int .i64 (3),.bool false,.bool false,.bool false,.slice 3887 0 1 .none 2,.nils,.nils,.bool false,.bool false,.bool false,.int .i64 (0),.str 0 0,.int .i64 (0),.bool false,.int .i64 (0),.str 0 0,.nils,.nils,.nils,.nils,.bool false,.int .i64 (0),.str 0 0,.int .i64 (0),.bool false,.int .i64 (0),.str 0 0,.nils,.nils,.nils,.nils,.bool false,.int .i64 (0),.str 0 0,.int .i64 (0),.bool false,.int .i64 (0),.str 0 0,.nils,.nils,.nils,.nils,.bool false,.int .i64 (0),.str 0 0,.int .i64 (0),.bool false,.int .i64 (0),.str 0 0,.nils,.nils,.nils,.nils,.bool false,.str 0 0,.nils,.nils],.nils]
 nx:=4310
 ins:=[(3798,cellsO [.str 1 65] 9 0 0 0 true),
  (3835,cellsO [.str 1 84] 9 0 0 0 true),
  (3853,cellsO [.str 0 0,.slice 3835 0 1 .none 1,.int .i64 (1),.bool false,.int .i64 (0),.str 0 0,.int .i64 (0),.bool false,.int .i64 (0),.str 0 0,.nils,.nils,.nils,.nils,.bool false] 255 0 0 0 true),
  (3882,cellsO [.str 1 97,.slice 3798 0 1 .none 1,.bool false,.int .i64 (0),.str 0 0,.int .i64 (0),.bool false,.int .i64 (0),.str 0 0,.nils,.nils,.nils,.nils,.bool false,.str 1 98,.nils,.bool false,.int .i64 (0),.str 0 0,.int .i64 (0),.bool false,.int .i64 (0),.str 0 0,.nils,.nils,.nils,.nils,.bool false] 249 0 0 0 true),
  (3887,cellsO [.slice 3882 0 2 .none 14,.slice 3853 0 1 .none 15] 244 0 0 0 true),
  (4301,.map [] 0),
  (4302,.map [] 0),
  (4303,.map [] 0),
  (4304,cellsO [.map 4301,.map 4302,.map 4303,.int .i64 (0),.int .i64 (0)] 98 0 0 0 false),
  (4306,cellsO [] 26 0 0 0 true),
  (4307,cellsO [.slice 4306 0 0 (.some 0) 6] 24 0 0 0 true)]
 ord:=[4304,4307,3887,4301,4302,4303,4306,3882,3853,3798,3835]
 v:=.tup [.agg [.slice 4549 0 2 .none 2,.slice 4546 0 1 .none 1],.int .i64 (0)]
 outs:=[(4301,.map [] 0),
  (4302,.map [] 0),
  (4303,.map [] 0),
  (4304,cellsO [.map 4463,.map 4464,.map 4465,.int .i64 (2),.int .i64 (1)] 98 0 0 0 false),
  (4463,.map [(.int .i64 (0),.agg [.int .i64 (0),.slice 4502 0 1 .none 1,.nils],0),(.int .i64 (1),.agg [.int .i64 (1),.nils,.nils],1)] 2),
  (4464,.map [(.int .i64 (0),.agg [.int .i64 (0),.int .i64 (0),.int .i64 (1),.str 1 84,.nils],0)] 1),
  (4465,.map [(.int .i64 (0),.slice 4520 0 1 .none 1,0),(.int .i64 (1),.slice 4522 0 1 .none 1,1)] 2),
  (4502,cellsO [.str 1 65] 9 0 0 0 false),
  (4520,cellsO [.int .i64 (0)] 2 0 0 0 false),
  (4522,cellsO [.int .i64 (0)] 2 0 0 0 false),
  (4543,.cls 4544 .none 12),
  (4544,cellsO [.int .i64 (6),.bool false,.int .i64 (0),.str 0 0,.nils,.nils,.int .i64 (6),.bool false,.int .i64 (1),.str 0 0,.nils,.nils] 26 4543 0 2 false),
  (4546,cellsO [.slice 4544 0 2 .none 6] 24 0 0 0 false),
  (4549,cellsO [.str 1 97,.int .i64 (1),.str 1 98,.int .i64 (1)] 121 0 0 0 false)]
 nx':=4550
noncomputable def do2b:Cut where
 f:=23
 args:=[.ptr 4304 0,.agg [.slice 4549 0 2 .none 2,.slice 4546 0 1 .none 1],.agg [.int .i64 (7),.bool false,.bool false,.bool false,.nils,.slice 4273 0 2 .none 12,.nils,.bool false,.bool false,.bool false,.int .i64 (0),.str 0 0,.int .i64 (0),.bool false,.int .i64 (0),.str 0 0,.nils,.nils,.nils,.nils,.bool false,.int .i64 (0),.str 0 0,.int .i64 (0),.bool false,.int .i64 (0),.str 0 0,.nils,.nils,.nils,.nils,.bool false,.int .i64 (0),.str 0 0,.int .i64 (0),.bool false,.int .i64 (0),.str 0 0,.nils,.nils,.nils,.nils,.bool false,.int .i64 (0),.str 0 0,.int .i64 (0),.bool false,.int .i64 (0),.str 0 0,.nils,.nils,.nils,.nils,.bool false,.str 0 0,.nils,.nils],.nils]
 nx:=4551
 ins:=[(4273,cellsO [.int .i64 (2),.str 1 97,.int .i64 (0),.bool false,.int .i64 (0),.str 0 0,.nils,.nils,.nils,.nils,.bool false,.str 0 0,.int .i64 (2),.str 1 98,.int .i64 (0),.bool false,.int .i64 (0),.str 0 0,.nils,.nils,.nils,.nils,.bool false,.str 0 0] 303 0 0 2 true),
  (4304,cellsO [.map 4463,.map 4464,.map 4465,.int .i64 (2),.int .i64 (1)] 98 0 0 0 false),
  (4463,.map [(.int .i64 (0),.agg [.int .i64 (0),.slice 4502 0 1 .none 1,.nils],0),(.int .i64 (1),.agg [.int .i64 (1),.nils,.nils],1)] 2),
  (4464,.map [(.int .i64 (0),.agg [.int .i64 (0),.int .i64 (0),.int .i64 (1),.str 1 84,.nils],0)] 1),
  (4465,.map [(.int .i64 (0),.slice 4520 0 1 .none 1,0),(.int .i64 (1),.slice 4522 0 1 .none 1,1)] 2),
  (4502,cellsO [.str 1 65] 9 0 0 0 true),
  (4520,cellsO [.int .i64 (0)] 2 0 0 0 true),
  (4522,cellsO [.int .i64 (0)] 2 0 0 0 true),
  (4544,cellsO [.int .i64 (6),.bool false,.int .i64 (0),.str 0 0,.nils,.nils,.int .i64 (6),.bool false,.int .i64 (1),.str 0 0,.nils,.nils] 26 0 0 2 true),
  (4546,cellsO [.slice 4544 0 2 .none 6] 24 0 0 0 true),
  (4549,cellsO [.str 1 97,.int .i64 (1),.str 1 98,.int .i64 (1)] 121 0 0 0 true)]
 ord:=[4304,4549,4546,4273,4463,4464,4465,4544,4502,4520,4522]
 v:=.tup [.agg [.slice 5183 0 2 .none 2,.slice 5180 0 1 .none 1],.int .i64 (0)]
 outs:=[(4304,cellsO [.map 4909,.map 4910,.map 4911,.int .i64 (2),.int .i64 (1)] 98 0 0 0 false),
  (4463,.map [(.int .i64 (0),.agg [.int .i64 (0),.slice 4502 0 1 .none 1,.nils],0),(.int .i64 (1),.agg [.int .i64 (1),.nils,.nils],1)] 2),
  (4464,.map [(.int .i64 (0),.agg [.int .i64 (0),.int .i64 (0),.int .i64 (1),.str 1 84,.nils],0)] 1),
  (4465,.map [(.int .i64 (0),.slice 4520 0 1 .none 1,0),(.int .i64 (1),.slice 4522 0 1 .none 1,1)] 2),
  (4909,.map [(.int .i64 (0),.agg [.int .i64 (0),.slice 4917 0 1 .none 1,.nils],0),(.int .i64 (1),.agg [.int .i64 (1),.nils,.nils],1)] 2),
  (4910,.map [(.int .i64 (0),.agg [.int .i64 (0),.int .i64 (0),.int .i64 (1),.str 1 84,.nils],0)] 1),
  (4911,.map [(.int .i64 (0),.slice 4927 0 1 .none 1,0),(.int .i64 (1),.slice 4929 0 1 .none 1,1)] 2),
  (4917,cellsO [.str 1 65] 9 0 0 0 false),
  (4927,cellsO [.int .i64 (0)] 2 0 0 0 false),
  (4929,cellsO [.int .i64 (0)] 2 0 0 0 false),
  (5171,.cls 5172 .none 12),
  (5172,cellsO [.int .i64 (6),.bool false,.int .i64 (0),.str 0 0,.nils,.nils,.int .i64 (6),.bool false,.int .i64 (1),.str 0 0,.nils,.nils] 26 5171 0 2 false),
  (5180,cellsO [.slice 5172 0 2 .none 6] 24 0 0 0 false),
  (5183,cellsO [.str 1 97,.int .i64 (1),.str 1 98,.int .i64 (1)] 121 0 0 0 false)]
 nx':=5184
noncomputable def done2:Cut where
 f:=12
 args:=[.str 34 2908717355013853205912113924580100965400719666793560040966277800192642234693538371]
 nx:=3428
 ins:=[]
 ord:=[]
 v:=.tup [.agg [.slice 5183 0 2 .none 2,.slice 5180 0 1 .none 1],.agg [.slice 5198 0 2 .none 3,.slice 5204 0 1 .none 5,.int .i64 (2),.int .i64 (1)],.int .i64 (0)]
 outs:=[(5171,.cls 5172 .none 12),
  (5172,cellsO [.int .i64 (6),.bool false,.int .i64 (0),.str 0 0,.nils,.nils,.int .i64 (6),.bool false,.int .i64 (1),.str 0 0,.nils,.nils] 26 5171 0 2 false),
  (5180,cellsO [.slice 5172 0 2 .none 6] 24 0 0 0 false),
  (5183,cellsO [.str 1 97,.int .i64 (1),.str 1 98,.int .i64 (1)] 121 0 0 0 false),
  (5191,cellsO [.str 1 65] 9 0 0 0 false),
  (5197,.cls 5198 .none 6),
  (5198,cellsO [.int .i64 (0),.slice 5191 0 1 .none 1,.nils,.int .i64 (1),.nils,.nils] 101 5197 0 2 false),
  (5204,cellsO [.int .i64 (0),.int .i64 (0),.int .i64 (1),.str 1 84,.nils] 104 0 0 0 false)]
 nx':=5205
noncomputable def parse3:Cut where
 f:=20
 args:=[.str 40 818735471105013012945698668337268496511731439572081767722577358825885353511492840242292919194179]
 nx:=5209
 ins:=[]
 ord:=[]
 v:=.tup [.agg [.slice 5920 0 3 .none 57],.int .i64 (0),.int .i64 (0)]
 outs:=[(5575,cellsO [.str 1 65] 9 0 0 0 false),
  (5612,cellsO [.str 1 84] 9 0 0 0 false),
  (5630,cellsO [.str 0 0,.slice 5612 0 1 .none 1,.int .i64 (1),.bool false,.int .i64 (0),.str 0 0,.int .i64 (0),.bool false,.int .i64 (0),.str 0 0,.nils,.nils,.nils,.nils,.bool false] 255 0 0 0 false),
  (5659,cellsO [.str 1 97,.slice 5575 0 1 .none 1,.bool false,.int .i64 (0),.str 0 0,.int .i64 (0),.bool false,.int .i64 (0),.str 0 0,.nils,.nils,.nils,.nils,.bool false,.str 1 98,.nils,.bool false,.int .i64 (0),.str 0 0,.int .i64 (0),.bool false,.int .i64 (0),.str 0 0,.nils,.nils,.nils,.nils,.bool false] 249 0 0 0 false),
  (5664,cellsO [.slice 5659 0 2 .none 14,.slice 5630 0 1 .none 15] 244 0 0 0 false),
  (5696,cellsO [.str 1 97] 9 0 0 0 false),
  (5701,.cls 5920 .none 171),
  (5903,cellsO [.int .i64 (2),.str 1 98,.int .i64 (0),.bool false,.int .i64 (0),.str 0 0,.nils,.nils,.nils,.nils,.bool false,.str 0 0] 303 0 0 0 false),
  (5920,cellsO [.int .i64 (3),.bool false,.bool false,.bool false,.slice 5664 0 1 .none 2,.nils,.nils,.bool false,.bool false,.bool false,.int .i64 (0),.str 0 0,.int .i64 (0),.bool false,.int .i64 (0),.str 0 0,.nils,.nils,.nils,.nils,.bool false,.int .i64 (0),.str 0 0,.int .i64 (0),.bool false,.int .i64 (0),.str 0 0,.nils,.nils,.nils,.nils,.bool false,.int .i64 (0),.str 0 0,.int .i64 (0),.bool false,.int .i64 (0),.str 0 0,.nils,.nils,.nils,.nils,.bool false,.int .i64 (0),.str 0 0,.int .i64 (0),.bool false,.int .i64 (0),.str 0 0,.nils,.nils,.nils,.nils,.bool false,.str 0 0,.nils,.nils,.int .i64 (6),.bool false,.bool false,.bool false,.nils,.nils,.nils,.bool false,.bool false,.bool false,.int .i64 (0),.str 0 0,.int .i64 (0),.bool false,.int .i64 (0),.str 0 0,.nils,.nils,.nils,.nils,.bool false,.int .i64 (0),.str 0 0,.int .i64 (0),.bool false,.int .i64 (0),.str 0 0,.nils,.nils,.nils,.nils,.bool false,.int .i64 (0),.str 0 0,.int .i64 (0),.bool false,.int .i64 (0),.str 0 0,.nils,.nils,.nils,.nils,.bool false,.int .i64 (0),.str 0 0,.int .i64 (0),.bool false,.int .i64 (0),.str 0 0,.nils,.nils,.nils,.nils,.bool false,.str 0 0,.nils,.slice 5696 0 1 .none 1,.int .i64 (7),.bool false,.bool false,.bool false,.nils,.slice 5903 0 1 .none 12,.nils,.bool false,.bool false,.bool false,.int .i64 (0),.str 0 0,.int .i64 (0),.bool false,.int .i64 (0),.str 0 0,.nils,.nils,.nils,.nils,.bool false,.int .i64 (0),.str 0 0,.int .i64 (0),.bool false,.int .i64 (0),.str 0 0,.nils,.nils,.nils,.nils,.bool false,.int .i64 (0),.str 0 0,.int .i64 (0),.bool false,.int .i64 (0),.str 0 0,.nils,.nils,.nils,.nils,.bool false,.int .i64 (0),.str 0 0,.int .i64 (0),.bool false,.int .i64 (0),.str 0 0,.nils,.nils,.nils,.nils,.bool false,.str 0 0,.nils,.nils] 73 5701 0 2 false)]
 nx':=5923
noncomputable def do3a:Cut where
 f:=23
 args:=[.ptr 5933 0,.agg [.nils,.slice 5936 0 1 (.some 1) 1],.agg [.int .i64 (3),.bool false,.bool false,.bool false,.slice 5664 0 1 .none 2,.nils,.nils,.bool false,.bool false,.bool false,.int .i64 (0),.str 0 0,.int .i64 (0),.bool false,.int .i64 (0),.str 0 0,.nils,.nils,.nils,.nils,.bool false,.int .i64 (0),.str 0 0,.int .i64 (0),.bool false,.int .i64 (0),.str 0 0,.nils,.nils,.nils,.nils,.bool false,.int .i64 (0),.str 0 0,.int .i64 (0),.bool false,.int .i64 (0),.str 0 0,.nils,.nils,.nils,.nils,.bool false,.int .i64 (0),.str 0 0,.int .i64 (0),.bool false,.int .i64 (0),.str 0 0,.nils,.nils,.nils,.nils,.bool false,.str 0 0,.nils,.nils],.nils]
 nx:=5939
 ins:=[(5575,cellsO [.str 1 65] 9 0 0 0 true),
  (5612,cellsO [.str 1 84] 9 0 0 0 true),
  (5630,cellsO [.str 0 0,.slice 5612 0 1 .none 1,.int .i64 (1),.bool false,.int .i64 (0),.str 0 0,.int .i64 (0),.bool false,.int .i64 (0),.str 0 0,.nils,.nils,.nils,.nils,.bool false] 255 0 0 0 true),
  (5659,cellsO [.str 1 97,.slice 5575 0 1 .none 1,.bool false,.int .i64 (0),.str 0 0,.int .i64 (0),.bool false,.int .i64 (0),.str 0 0,.nils,.nils,.nils,.nils,.bool false,.str 1 98,.nils,.bool false,.int .i64 (0),.str 0 0,.int .i64 (0),.bool false,.int .i64 (0),.str 0 0,.nils,.nils,.nils,.nils,.bool false] 249 0 0 0 true),
  (5664,cellsO [.slice 5659 0 2 .none 14,.slice 5630 0 1 .none 15] 244 0 0 0 true),
  (5930,.map [] 0),
  (5931,.map [] 0),
  (5932,.map [] 0),
  (5933,cellsO [.map 5930,.map 5931,.map 5932,.int .i64 (0),.int .i64 (0)] 98 0 0 0 false),
  (5935,cellsO [] 26 0 0 0 true),
  (5936,cellsO [.slice 5935 0 0 (.some 0) 6] 24 0 0 0 true)]
 ord:=[5933,5936,5664,5930,5931,5932,5935,5659,5630,5575,5612]
 v:=.tup [.agg [.slice 6154 0 2 .none 2,.slice 6151 0 1 .none 1],.int .i64 (0)]
 outs:=[(5930,.map [] 0),
  (5931,.map [] 0),
  (5932,.map [] 0),
  (5933,cellsO [.map 6068,.map 6069,.map 6070,.int .i64 (2),.int .i64 (1)] 98 0 0 0 false),
  (6068,.map [(.int .i64 (0),.agg [.int .i64 (0),.slice 6107 0 1 .none 1,.nils],0),(.int .i64 (1),.agg [.int .i64 (1),.nils,.nils],1)] 2),
  (6069,.map [(.int .i64 (0),.agg [.int .i64 (0),.int .i64 (0),.int .i64 (1),.str 1 84,.nils],0)] 1),
  (6070,.map [(.int .i64 (0),.slice 6125 0 1 .none 1,0),(.int .i64 (1),.slice 6127 0 1 .none 1,1)] 2),
  (6107,cellsO [.str 1 65] 9 0 0 0 false),
  (6125,cellsO [.int .i64 (0)] 2 0 0 0 false),
  (6127,cellsO [.int .i64 (0)] 2 0 0 0 false),
  (6148,.cls 6149 .none 12),
  (6149,cellsO [.int .i64 (6),.bool false,.int .i64 (0),.str 0 0,.nils,.nils,.int .i64 (6),.bool false,.int .i64 (1),.str 0 0,.nils,.nils] 26 6148 0 2 false),
  (6151,cellsO [.slice 6149 0 2 .none 6] 24 0 0 0 false),
  (6154,cellsO [.str 1 97,.int .i64 (1),.str 1 98,.int .i64 (1)] 121 0 0 0 false)]
 nx':=6155
noncomputable def do3b:Cut where
 f:=23
 args:=[.ptr 5933 0,.agg [.slice 6154 0 2 .none 2,.slice 6151 0 1 .none 1],.agg [.int .i64 (6),.bool false,.bool false,.bool false,.nils,.nils,.nils,.bool false,.bool false,.bool false,.int .i64 (0),.str 0 0,.int .i64 (0),.bool false,.int .i64 (0),.str 0 0,.nils,.nils,.nils,.nils,.bool false,.int .i64 (0),.str 0 0,.int .i64 (0),.bool false,.int .i64 (0),.str 0 0,.nils,.nils,.nils,.nils,.bool false,.int .i64 (0),.str 0 0,.int .i64 (0),.bool false,.int .i64 (0),.str 0 0,.nils,.nils,.nils,.nils,.bool false,.int .i64 (0),.str 0 0,.int .i64 (0),.bool false,.int .i64 (0),.str 0 0,.nils,.nils,.nils,.nils,.bool false,.str 0 0,.nils,.slice 5696 0 1 .none 1],.nils]
 nx:=6156
 ins:=[(5696,cellsO [.str 1 97] 9 0 0 0 true),
  (5933,cellsO [.map 6068,.map 6069,.map 6070,.int .i64 (2),.int .i64 (1)] 98 0 0 0 true),
  (6068,.map [(.int .i64 (0),.agg [.int .i64 (0),.slice 6107 0 1 .none 1,.nils],0),(.int .i64 (1),.agg [.int .i64 (1),.nils,.nils],1)] 2),
  (6069,.map [(.int .i64 (0),.agg [.int .i64 (0),.int .i64 (0),.int .i64 (1),.str 1 84,.nils],0)] 1),
  (6070,.map [(.int .i64 (0),.slice 6125 0 1 .none 1,0),(.int .i64 (1),.slice 6127 0 1 .none 1,1)] 2),
  (6107,cellsO [.str 1 65] 9 0 0 0 true),
  (6125,cellsO [.int .i64 (0)] 2 0 0 0 true),
  (6127,cellsO [.int .i64 (0)] 2 0 0 0 true),
  (6149,cellsO [.int .i64 (6),.bool false,.int .i64 (0),.str 0 0,.nils,.nils,.int .i64 (6),.bool false,.int .i64 (1),.str 0 0,.nils,.nils] 26 0 0 2 true),
  (6151,cellsO [.slice 6149 0 2 .none 6] 24 0 0 0 true),
  (6154,cellsO [.str 1 97,.int .i64 (1),.str 1 98,.int .i64 (1)] 121 0 0 0 true)]
 ord:=[5933,6154,6151,5696,6068,6069,6070,6149,6107,6125,6127]
 v:=.tup [.agg [.nils,.nils],.int .i64 (150)]
 outs:=[(6068,.map [(.int .i64 (0),.agg [.int .i64 (0),.slice 6107 0 1 .none 1,.nils],0),(.int .i64 (1),.agg [.int .i64 (1),.nils,.nils],1)] 2),
  (6069,.map [(.int .i64 (0),.agg [.int .i64 (0),.int .i64 (0),.int .i64 (1),.str 1 84,.nils],0)] 1),
  (6070,.map [(.int .i64 (0),.slice 6125 0 1 .none 1,0),(.int .i64 (1),.slice 6127 0 1 .none 1,1)] 2)]
 nx':=6304
noncomputable def done3:Cut where
 f:=12
 args:=[.str 40 818735471105013012945698668337268496511731439572081767722577358825885353511492840242292919194179]
 nx:=5207
 ins:=[]
 ord:=[]
 v:=.tup [.agg [.nils,.nils],.agg [.slice 6318 0 2 .none 3,.slice 6324 0 1 .none 5,.int .i64 (2),.int .i64 (1)],.int .i64 (150)]
 outs:=[(6311,cellsO [.str 1 65] 9 0 0 0 false),
  (6317,.cls 6318 .none 6),
  (6318,cellsO [.int .i64 (0),.slice 6311 0 1 .none 1,.nils,.int .i64 (1),.nils,.nils] 101 6317 0 2 false),
  (6324,cellsO [.int .i64 (0),.int .i64 (0),.int .i64 (1),.str 1 84,.nils] 104 0 0 0 false)]
 nx':=6325
noncomputable def lex4:Cut where
 f:=73
 args:=[.str 50 989785226268125623260168391994599281748334478160011491764737885757332080502952609253875086042807938068704050649938350659]
 nx:=6563
 ins:=[]
 ord:=[]
 v:=.tup [.slice 6694 0 23 .none 4,.int .i64 (0),.int .i64 (0)]
 outs:=[(6577,.cls 6694 .none 92),
  (6694,cellsO [.int .i64 (1),.int .i64 (0),.str 6 76228174631491,.int .u64 (0),.int .i64 (5),.int .i64 (7),.str 1 40,.int .u64 (0),.int .i64 (1),.int .i64 (8),.str 1 97,.int .u64 (0),.int .i64 (5),.int .i64 (9),.str 1 58,.int .u64 (0),.int .i64 (1),.int .i64 (10),.str 1 65,.int .u64 (0),.int .i64 (5),.int .i64 (11),.str 1 41,.int .u64 (0),.int .i64 (5),.int .i64 (12),.str 1 45,.int .u64 (0),.int .i64 (5),.int .i64 (13),.str 1 91,.int .u64 (0),.int .i64 (5),.int .i64 (14),.str 1 58,.int .u64 (0),.int .i64 (1),.int .i64 (15),.str 1 84,.int .u64 (0),.int .i64 (5),.int .i64 (16),.str 1 93,.int .u64 (0),.int .i64 (5),.int .i64 (17),.str 1 45,.int .u64 (0),.int .i64 (5),.int .i64 (18),.str 1 62,.int .u64 (0),.int .i64 (5),.int .i64 (19),.str 1 40,.int .u64 (0),.int .i64 (1),.int .i64 (20),.str 1 98,.int .u64 (0),.int .i64 (5),.int .i64 (21),.str 1 41,.int .u64 (0),.int .i64 (1),.int .i64 (23),.str 6 79453696050500,.int .u64 (0),.int .i64 (1),.int .i64 (30),.str 6 76228242195780,.int .u64 (0),.int .i64 (1),.int .i64 (37),.str 1 97,.int .u64 (0),.int .i64 (1),.int .i64 (39),.str 6 86115525870930,.int .u64 (0),.int .i64 (1),.int .i64 (46),.str 1 97,.int .u64 (0),.int .i64 (5),.int .i64 (47),.str 1 44,.int .u64 (0),.int .i64 (1),.int .i64 (49),.str 1 98,.int .u64 (0)] 158 6577 0 2 false)]
 nx':=6695
noncomputable def tell4:Cut where
 f:=130
 args:=[.ptr 6333 0,.ptr 6889 0]
 nx:=6890
 ins:=[(6333,cellsO [.slice 6562 0 23 .none 4,.int .i64 (50),.int .i64 (0),.int .i64 (20),.int .i64 (0)] 151 0 0 0 false),
  (6562,cellsO [.int .i64 (1),.int .i64 (0),.str 6 76228174631491,.int .u64 (0),.int .i64 (5),.int .i64 (7),.str 1 40,.int .u64 (0),.int .i64 (1),.int .i64 (8),.str 1 97,.int .u64 (0),.int .i64 (5),.int .i64 (9),.str 1 58,.int .u64 (0),.int .i64 (1),.int .i64 (10),.str 1 65,.int .u64 (0),.int .i64 (5),.int .i64 (11),.str 1 41,.int .u64 (0),.int .i64 (5),.int .i64 (12),.str 1 45,.int .u64 (0),.int .i64 (5),.int .i64 (13),.str 1 91,.int .u64 (0),.int .i64 (5),.int .i64 (14),.str 1 58,.int .u64 (0),.int .i64 (1),.int .i64 (15),.str 1 84,.int .u64 (0),.int .i64 (5),.int .i64 (16),.str 1 93,.int .u64 (0),.int .i64 (5),.int .i64 (17),.str 1 45,.int .u64 (0),.int .i64 (5),.int .i64 (18),.str 1 62,.int .u64 (0),.int .i64 (5),.int .i64 (19),.str 1 40,.int .u64 (0),.int .i64 (1),.int .i64 (20),.str 1 98,.int .u64 (0),.int .i64 (5),.int .i64 (21),.str 1 41,.int .u64 (0),.int .i64 (1),.int .i64 (23),.str 6 79453696050500,.int .u64 (0),.int .i64 (1),.int .i64 (30),.str 6 76228242195780,.int .u64 (0),.int .i64 (1),.int .i64 (37),.str 1 97,.int .u64 (0),.int .i64 (1),.int .i64 (39),.str 6 86115525870930,.int .u64 (0),.int .i64 (1),.int .i64 (46),.str 1 97,.int .u64 (0),.int .i64 (5),.int .i64 (47),.str 1 44,.int .u64 (0),.int .i64 (1),.int .i64 (49),.str 1 98,.int .u64 (0)] 158 0 0 2 true),
  (6889,cellsO [.int .i64 (0),.bool false,.bool false,.bool false,.nils,.nils,.nils,.bool false,.bool false,.bool false,.int .i64 (0),.str 0 0,.int .i64 (0),.bool false,.int .i64 (0),.str 0 0,.nils,.nils,.nils,.nils,.bool false,.int .i64 (0),.str 0 0,.int .i64 (0),.bool false,.int .i64 (0),.str 0 0,.nils,.nils,.nils,.nils,.bool false,.int .i64 (0),.str 0 0,.int .i64 (0),.bool false,.int .i64 (0),.str 0 0,.nils,.nils,.nils,.nils,.bool false,.int .i64 (0),.str 0 0,.int .i64 (0),.bool false,.int .i64 (0),.str 0 0,.nils,.nils,.nils,.nils,.bool false,.str 0 0,.nils,.nils] 73 0 0 0 false)]
 ord:=[6333,6889,6562]
 v:=.tup []
 outs:=[(6333,cellsO [.slice 6562 0 23 .none 4,.int .i64 (50),.int .i64 (0),.int .i64 (23),.int .i64 (0)] 151 0 0 0 false),
  (6889,cellsO [.int .i64 (7),.bool false,.bool false,.bool false,.nils,.slice 7253 0 2 .none 12,.nils,.bool false,.bool false,.bool false,.int .i64 (0),.str 0 0,.int .i64 (0),.bool false,.int .i64 (0),.str 0 0,.nils,.nils,.nils,.nils,.bool false,.int .i64 (0),.str 0 0,.int .i64 (0),.bool false,.int .i64 (0),.str 0 0,.nils,.nils,.nils,.nils,.bool false,.int .i64 (0),.str 0 0,.int .i64 (0),.bool false,.int .i64 (0),.str 0 0,.nils,.nils,.nils,.nils,.bool false,.int .i64 (0),.str 0 0,.int .i64 (0),.bool false,.int .i64 (0),.str 0 0,.nils,.nils,.nils,.nils,.bool false,.str 0 0,.nils,.nils] 73 0 0 0 false),
  (7252,.cls 7253 .none 24),
  (7253,cellsO [.int .i64 (2),.str 1 97,.int .i64 (0),.bool false,.int .i64 (0),.str 0 0,.nils,.nils,.nils,.nils,.bool false,.str 0 0,.int .i64 (2),.str 1 98,.int .i64 (0),.bool false,.int .i64 (0),.str 0 0,.nils,.nils,.nils,.nils,.bool false,.str 0 0] 303 7252 0 2 false)]
 nx':=7269
noncomputable def parse4:Cut where
 f:=20
 args:=[.str 50 989785226268125623260168391994599281748334478160011491764737885757332080502952609253875086042807938068704050649938350659]
 nx:=6329
 ins:=[]
 ord:=[]
 v:=.tup [.agg [.slice 7270 0 3 .none 57],.int .i64 (0),.int .i64 (0)]
 outs:=[(6739,cellsO [.str 1 65] 9 0 0 0 false),
  (6776,cellsO [.str 1 84] 9 0 0 0 false),
  (6794,cellsO [.str 0 0,.slice 6776 0 1 .none 1,.int .i64 (1),.bool false,.int .i64 (0),.str 0 0,.int .i64 (0),.bool false,.int .i64 (0),.str 0 0,.nils,.nils,.nils,.nils,.bool false] 255 0 0 0 false),
  (6823,cellsO [.str 1 97,.slice 6739 0 1 .none 1,.bool false,.int .i64 (0),.str 0 0,.int .i64 (0),.bool false,.int .i64 (0),.str 0 0,.nils,.nils,.nils,.nils,.bool false,.str 1 98,.nils,.bool false,.int .i64 (0),.str 0 0,.int .i64 (0),.bool false,.int .i64 (0),.str 0 0,.nils,.nils,.nils,.nils,.bool false] 249 0 0 0 false),
  (6828,cellsO [.slice 6823 0 2 .none 14,.slice 6794 0 1 .none 15] 244 0 0 0 false),
  (6866,cellsO [.str 1 97] 9 0 0 0 false),
  (6871,.cls 7270 .none 171),
  (7252,.cls 7253 .none 24),
  (7253,cellsO [.int .i64 (2),.str 1 97,.int .i64 (0),.bool false,.int .i64 (0),.str 0 0,.nils,.nils,.nils,.nils,.bool false,.str 0 0,.int .i64 (2),.str 1 98,.int .i64 (0),.bool false,.int .i64 (0),.str 0 0,.nils,.nils,.nils,.nils,.bool false,.str 0 0] 303 7252 0 2 false),
  (7270,cellsO [.int .i64 (3),.bool false,.bool false,.bool false,.slice 6828 0 1 .none 2,.nils,.nils,.bool false,.bool false,.bool false,.int .i64 (0),.str 0 0,.int .i64 (0),.bool false,.int .i64 (0),.str 0 0,.nils,.nils,.nils,.nils,.bool false,.int .i64 (0),.str 0 0,.int .i64 (0),.bool false,.int .i64 (0),.str 0 0,.nils,.nils,.nils,.nils,.bool false,.int .i64 (0),.str 0 0,.int .i64 (0),.bool false,.int .i64 (0),.str 0 0,.nils,.nils,.nils,.nils,.bool false,.int .i64 (0),.str 0 0,.int .i64 (0),.bool false,.int .i64 (0),.str 0 0,.nils,.nils,.nils,.nils,.bool false,.str 0 0,.nils,.nils,.int .i64 (6),.bool false,.bool false,.bool true,.nils,.nils,.nils,.bool false,.bool false,.bool false,.int .i64 (0),.str 0 0,.int .i64 (0),.bool false,.int .i64 (0),.str 0 0,.nils,.nils,.nils,.nils,.bool false,.int .i64 (0),.str 0 0,.int .i64 (0),.bool false,.int .i64 (0),.str 0 0,.nils,.nils,.nils,.nils,.bool false,.int .i64 (0),.str 0 0,.int .i64 (0),.bool false,.int .i64 (0),.str 0 0,.nils,.nils,.nils,.nils,.bool false,.int .i64 (0),.str 0 0,.int .i64 (0),.bool false,.int .i64 (0),.str 0 0,.nils,.nils,.nils,.nils,.bool false,.str 0 0,.nils,.slice 6866 0 1 .none 1,.int .i64 (7),.bool false,.bool false,.bool false,.nils,.slice 7253 0 2 .none 12,.nils,.bool false,.bool false,.bool false,.int .i64 (0),.str 0 0,.int .i64 (0),.bool false,.int .i64 (0),.str 0 0,.nils,.nils,.nils,.nils,.bool false,.int .i64 (0),.str 0 0,.int .i64 (0),.bool false,.int .i64 (0),.str 0 0,.nils,.nils,.nils,.nils,.bool false,.int .i64 (0),.str 0 0,.int .i64 (0),.bool false,.int .i64 (0),.str 0 0,.nils,.nils,.nils,.nils,.bool false,.int .i64 (0),.str 0 0,.int .i64 (0),.bool false,.int .i64 (0),.str 0 0,.nils,.nils,.nils,.nils,.bool false,.str 0 0,.nils,.nils] 73 6871 0 2 false)]
 nx':=7273
noncomputable def do4a:Cut where
 f:=23
 args:=[.ptr 7283 0,.agg [.nils,.slice 7286 0 1 (.some 1) 1],.agg [.int .i64 (3),.bool false,.bool false,.bool false,.slice 6828 0 1 .none 2,.nils,.nils,.bool false,.bool false,.bool false,.int .i64 (0),.str 0 0,.int .i64 (0),.bool false,.int .i64 (0),.str 0 0,.nils,.nils,.nils,.nils,.bool false,.int .i64 (0),.str 0 0,.int .i64 (0),.bool false,.int .i64 (0),.str 0 0,.nils,.nils,.nils,.nils,.bool false,.int .i64 (0),.str 0 0,.int .i64 (0),.bool false,.int .i64 (0),.str 0 0,.nils,.nils,.nils,.nils,.bool false,.int .i64 (0),.str 0 0,.int .i64 (0),.bool false,.int .i64 (0),.str 0 0,.nils,.nils,.nils,.nils,.bool false,.str 0 0,.nils,.nils],.nils]
 nx:=7289
 ins:=[(6739,cellsO [.str 1 65] 9 0 0 0 true),
  (6776,cellsO [.str 1 84] 9 0 0 0 true),
  (6794,cellsO [.str 0 0,.slice 6776 0 1 .none 1,.int .i64 (1),.bool false,.int .i64 (0),.str 0 0,.int .i64 (0),.bool false,.int .i64 (0),.str 0 0,.nils,.nils,.nils,.nils,.bool false] 255 0 0 0 true),
  (6823,cellsO [.str 1 97,.slice 6739 0 1 .none 1,.bool false,.int .i64 (0),.str 0 0,.int .i64 (0),.bool false,.int .i64 (0),.str 0 0,.nils,.nils,.nils,.nils,.bool false,.str 1 98,.nils,.bool false,.int .i64 (0),.str 0 0,.int .i64 (0),.bool false,.int .i64 (0),.str 0 0,.nils,.nils,.nils,.nils,.bool false] 249 0 0 0 true),
  (6828,cellsO [.slice 6823 0 2 .none 14,.slice 6794 0 1 .none 15] 244 0 0 0 true),
  (7280,.map [] 0),
  (7281,.map [] 0),
  (7282,.map [] 0),
  (7283,cellsO [.map 7280,.map 7281,.map 7282,.int .i64 (0),.int .i64 (0)] 98 0 0 0 false),
  (7285,cellsO [] 26 0 0 0 true),
  (7286,cellsO [.slice 7285 0 0 (.some 0) 6] 24 0 0 0 true)]
 ord:=[7283,7286,6828,7280,7281,7282,7285,6823,6794,6739,6776]
 v:=.tup [.agg [.slice 7504 0 2 .none 2,.slice 7501 0 1 .none 1],.int .i64 (0)]
 outs:=[(7280,.map [] 0),
  (7281,.map [] 0),
  (7282,.map [] 0),
  (7283,cellsO [.map 7418,.map 7419,.map 7420,.int .i64 (2),.int .i64 (1)] 98 0 0 0 false),
  (7418,.map [(.int .i64 (0),.agg [.int .i64 (0),.slice 7457 0 1 .none 1,.nils],0),(.int .i64 (1),.agg [.int .i64 (1),.nils,.nils],1)] 2),
  (7419,.map [(.int .i64 (0),.agg [.int .i64 (0),.int .i64 (0),.int .i64 (1),.str 1 84,.nils],0)] 1),
  (7420,.map [(.int .i64 (0),.slice 7475 0 1 .none 1,0),(.int .i64 (1),.slice 7477 0 1 .none 1,1)] 2),
  (7457,cellsO [.str 1 65] 9 0 0 0 false),
  (7475,cellsO [.int .i64 (0)] 2 0 0 0 false),
  (7477,cellsO [.int .i64 (0)] 2 0 0 0 false),
  (7498,.cls 7499 .none 12),
  (7499,cellsO [.int .i64 (6),.bool false,.int .i64 (0),.str 0 0,.nils,.nils,.int .i64 (6),.bool false,.int .i64 (1),.str 0 0,.nils,.nils] 26 7498 0 2 false),
  (7501,cellsO [.slice 7499 0 2 .none 6] 24 0 0 0 false),
  (7504,cellsO [.str 1 97,.int .i64 (1),.str 1 98,.int .i64 (1)] 121 0 0 0 false)]
 nx':=7505
noncomputable def do4b:Cut where
 f:=23
 args:=[.ptr 7283 0,.agg [.slice 7504 0 2 .none 2,.slice 7501 0 1 .none 1],.agg [.int .i64 (6),.bool false,.bool false,.bool true,.nils,.nils,.nils,.bool false,.bool false,.bool false,.int .i64 (0),.str 0 0,.int .i64 (0),.bool false,.int .i64 (0),.str 0 0,.nils,.nils,.nils,.nils,.bool false,.int .i64 (0),.str 0 0,.int .i64 (0),.bool false,.int .i64 (0),.str 0 0,.nils,.nils,.nils,.nils,.bool false,.int .i64 (0),.str 0 0,.int .i64 (0),.bool false,.int .i64 (0),.str 0 0,.nils,.nils,.nils,.nils,.bool false,.int .i64 (0),.str 0 0,.int .i64 (0),.bool false,.int .i64 (0),.str 0 0,.nils,.nils,.nils,.nils,.bool false,.str 0 0,.nils,.slice 6866 0 1 .none 1],.nils]
 nx:=7506
 ins:=[(6866,cellsO [.str 1 97] 9 0 0 0 true),
  (7283,cellsO [.map 7418,.map 7419,.map 7420,.int .i64 (2),.int .i64 (1)] 98 0 0 0 false),
  (7418,.map [(.int .i64 (0),.agg [.int .i64 (0),.slice 7457 0 1 .none 1,.nils],0),(.int .i64 (1),.agg [.int .i64 (1),.nils,.nils],1)] 2),
  (7419,.map [(.int .i64 (0),.agg [.int .i64 (0),.int .i64 (0),.int .i64 (1),.str 1 84,.nils],0)] 1),
  (7420,.map [(.int .i64 (0),.slice 7475 0 1 .none 1,0),(.int .i64 (1),.slice 7477 0 1 .none 1,1)] 2),
  (7457,cellsO [.str 1 65] 9 0 0 0 true),
  (7475,cellsO [.int .i64 (0)] 2 0 0 0 true),
  (7477,cellsO [.int .i64 (0)] 2 0 0 0 true),
  (7499,cellsO [.int .i64 (6),.bool false,.int .i64 (0),.str 0 0,.nils,.nils,.int .i64 (6),.bool false,.int .i64 (1),.str 0 0,.nils,.nils] 26 0 0 2 true),
  (7501,cellsO [.slice 7499 0 2 .none 6] 24 0 0 0 true),
  (7504,cellsO [.str 1 97,.int .i64 (1),.str 1 98,.int .i64 (1)] 121 0 0 0 true)]
 ord:=[7283,7504,7501,6866,7418,7419,7420,7499,7457,7475,7477]
 v:=.tup [.agg [.slice 7701 0 2 .none 2,.slice 7698 0 1 .none 1],.int .i64 (0)]
 outs:=[(7283,cellsO [.map 7618,.map 7619,.map 7620,.int .i64 (2),.int .i64 (1)] 98 0 0 0 false),
  (7418,.map [(.int .i64 (0),.agg [.int .i64 (0),.slice 7457 0 1 .none 1,.nils],0),(.int .i64 (1),.agg [.int .i64 (1),.nils,.nils],1)] 2),
  (7419,.map [(.int .i64 (0),.agg [.int .i64 (0),.int .i64 (0),.int .i64 (1),.str 1 84,.nils],0)] 1),
  (7420,.map [(.int .i64 (0),.slice 7475 0 1 .none 1,0),(.int .i64 (1),.slice 7477 0 1 .none 1,1)] 2),
  (7618,.map [(.int .i64 (1),.agg [.int .i64 (1),.nils,.nils],1)] 2),
  (7619,.map [] 1),
  (7620,.map [(.int .i64 (1),.slice 7638 0 0 .none 1,1)] 2),
  (7638,cellsO [.int .i64 (0)] 2 0 0 0 false),
  (7695,.cls 7696 .none 12),
  (7696,cellsO [.int .i64 (0),.bool false,.int .i64 (0),.str 0 0,.nils,.nils,.int .i64 (6),.bool false,.int .i64 (1),.str 0 0,.nils,.nils] 26 7695 0 2 false),
  (7698,cellsO [.slice 7696 0 2 .none 6] 24 0 0 0 false),
  (7701,cellsO [.str 1 97,.int .i64 (1),.str 1 98,.int .i64 (1)] 121 0 0 0 false)]
 nx':=7702
noncomputable def do4c:Cut where
 f:=23
 args:=[.ptr 7283 0,.agg [.slice 7701 0 2 .none 2,.slice 7698 0 1 .none 1],.agg [.int .i64 (7),.bool false,.bool false,.bool false,.nils,.slice 7253 0 2 .none 12,.nils,.bool false,.bool false,.bool false,.int .i64 (0),.str 0 0,.int .i64 (0),.bool false,.int .i64 (0),.str 0 0,.nils,.nils,.nils,.nils,.bool false,.int .i64 (0),.str 0 0,.int .i64 (0),.bool false,.int .i64 (0),.str 0 0,.nils,.nils,.nils,.nils,.bool false,.int .i64 (0),.str 0 0,.int .i64 (0),.bool false,.int .i64 (0),.str 0 0,.nils,.nils,.nils,.nils,.bool false,.int .i64 (0),.str 0 0,.int .i64 (0),.bool false,.int .i64 (0),.str 0 0,.nils,.nils,.nils,.nils,.bool false,.str 0 0,.nils,.nils],.nils]
 nx:=7703
 ins:=[(7253,cellsO [.int .i64 (2),.str 1 97,.int .i64 (0),.bool false,.int .i64 (0),.str 0 0,.nils,.nils,.nils,.nils,.bool false,.str 0 0,.int .i64 (2),.str 1 98,.int .i64 (0),.bool false,.int .i64 (0),.str 0 0,.nils,.nils,.nils,.nils,.bool false,.str 0 0] 303 0 0 2 true),
  (7283,cellsO [.map 7618,.map 7619,.map 7620,.int .i64 (2),.int .i64 (1)] 98 0 0 0 false),
  (7618,.map [(.int .i64 (1),.agg [.int .i64 (1),.nils,.nils],1)] 2),
  (7619,.map [] 1),
  (7620,.map [(.int .i64 (1),.slice 7638 0 0 .none 1,1)] 2),
  (7638,cellsO [.int .i64 (0)] 2 0 0 0 true),
  (7696,cellsO [.int .i64 (0),.bool false,.int .i64 (0),.str 0 0,.nils,.nils,.int .i64 (6),.bool false,.int .i64 (1),.str 0 0,.nils,.nils] 26 0 0 2 true),
  (7698,cellsO [.slice 7696 0 2 .none 6] 24 0 0 0 true),
  (7701,cellsO [.str 1 97,.int .i64 (1),.str 1 98,.int .i64 (1)] 121 0 0 0 true)]
 ord:=[7283,7701,7698,7253,7618,7619,7620,7696,7638]
 v:=.tup [.agg [.slice 8297 0 2 .none 2,.slice 8294 0 1 .none 1],.int .i64 (0)]
 outs:=[(7283,cellsO [.map 8037,.map 8038,.map 8039,.int .i64 (2),.int .i64 (1)] 98 0 0 0 false),
  (7618,.map [(.int .i64 (1),.agg [.int .i64 (1),.nils,.nils],1)] 2),
  (7619,.map [] 1),
  (7620,.map [(.int .i64 (1),.slice 7638 0 0 .none 1,1)] 2),
  (8037,.map [(.int .i64 (1),.agg [.int .i64 (1),.nils,.nils],0)] 1),
  (8038,.map [] 0),
  (8039,.map [] 0),
  (8285,.cls 8286 .none 12),
  (8286,cellsO [.int .i64 (0),.bool false,.int .i64 (0),.str 0 0,.nils,.nils,.int .i64 (6),.bool false,.int .i64 (1),.str 0 0,.nils,.nils] 26 8285 0 2 false),
  (8294,cellsO [.slice 8286 0 2 .none 6] 24 0 0 0 false),
  (8297,cellsO [.str 1 97,.int .i64 (1),.str 1 98,.int .i64 (1)] 121 0 0 0 false)]
 nx':=8298
noncomputable def done4:Cut where
 f:=12
 args:=[.str 50 989785226268125623260168391994599281748334478160011491764737885757332080502952609253875086042807938068704050649938350659]
 nx:=6327
 ins:=[]
 ord:=[]
 v:=.tup [.agg [.slice 8297 0 2 .none 2,.slice 8294 0 1 .none 1],.agg [.slice 8305 0 1 .none 3,.nils,.int .i64 (2),.int .i64 (1)],.int .i64 (0)]
 outs:=[(8285,.cls 8286 .none 12),
  (8286,cellsO [.int .i64 (0),.bool false,.int .i64 (0),.str 0 0,.nils,.nils,.int .i64 (6),.bool false,.int .i64 (1),.str 0 0,.nils,.nils] 26 8285 0 2 false),
  (8294,cellsO [.slice 8286 0 2 .none 6] 24 0 0 0 false),
  (8297,cellsO [.str 1 97,.int .i64 (1),.str 1 98,.int .i64 (1)] 121 0 0 0 false),
  (8305,cellsO [.int .i64 (1),.nils,.nils] 101 0 0 0 false)]
 nx':=8307
noncomputable def parse5:Cut where
 f:=20
 args:=[.str 28 5068229766450136047893250384419239440697281332491676839919641644629]
 nx:=8311
 ins:=[]
 ord:=[]
 v:=.tup [.agg [.slice 9098 0 2 .none 57],.int .i64 (0),.int .i64 (0)]
 outs:=[(8728,cellsO [.int .i64 (0),.str 0 0,.int .i64 (2),.bool false,.int .i64 (1),.str 0 0,.nils,.nils,.nils,.nils,.bool false] 52 0 0 0 false),
  (9018,cellsO [.int .i64 (2),.str 1 120,.int .i64 (0),.bool false,.int .i64 (0),.str 0 0,.nils,.nils,.nils,.nils,.bool false,.int .i64 (0),.str 0 0,.int .i64 (2),.bool false,.int .i64 (0),.str 0 0,.nils,.nils,.nils,.nils,.bool false] 52 0 0 0 false),
  (9080,cellsO [.int .i64 (14),.str 1 47,.int .i64 (0),.bool false,.int .i64 (0),.str 0 0,.nils,.nils,.nils,.slice 9018 0 2 (.some 2) 11,.bool false,.str 0 0] 303 0 0 0 false),
  (9097,.cls 9098 .none 114),
  (9098,cellsO [.int .i64 (1),.bool false,.bool false,.bool false,.nils,.nils,.nils,.bool false,.bool false,.bool false,.int .i64 (0),.str 0 0,.int .i64 (0),.bool false,.int .i64 (0),.str 0 0,.nils,.nils,.nils,.nils,.bool false,.int .i64 (0),.str 0 0,.int .i64 (0),.bool false,.int .i64 (0),.str 0 0,.nils,.nils,.nils,.nils,.bool false,.int .i64 (0),.str 0 0,.int .i64 (0),.bool false,.int .i64 (0),.str 0 0,.nils,.nils,.nils,.nils,.bool false,.int .i64 (5),.str 0 0,.int .i64 (0),.bool false,.int .i64 (0),.str 0 0,.nils,.nils,.nils,.slice 8728 0 1 .none 11,.bool false,.str 1 120,.nils,.nils,.int .i64 (7),.bool false,.bool false,.bool false,.nils,.slice 9080 0 1 .none 12,.nils,.bool false,.bool false,.bool false,.int .i64 (0),.str 0 0,.int .i64 (0),.bool false,.int .i64 (0),.str 0 0,.nils,.nils,.nils,.nils,.bool false,.int .i64 (0),.str 0 0,.int .i64 (0),.bool false,.int .i64 (0),.str 0 0,.nils,.nils,.nils,.nils,.bool false,.int .i64 (0),.str 0 0,.int .i64 (0),.bool false,.int .i64 (0),.str 0 0,.nils,.nils,.nils,.nils,.bool false,.int .i64 (0),.str 0 0,.int .i64 (0),.bool false,.int .i64 (0),.str 0 0,.nils,.nils,.nils,.nils,.bool false,.str 0 0,.nils,.nils] 73 9097 0 2 false)]
 nx':=9101
noncomputable def do5a:Cut where
 f:=23
 args:=[.ptr 9111 0,.agg [.nils,.slice 9114 0 1 (.some 1) 1],.agg [.int .i64 (1),.bool false,.bool false,.bool false,.nils,.nils,.nils,.bool false,.bool false,.bool false,.int .i64 (0),.str 0 0,.int .i64 (0),.bool false,.int .i64 (0),.str 0 0,.nils,.nils,.nils,.nils,.bool false,.int .i64 (0),.str 0 0,.int .i64 (0),.bool false,.int .i64 (0),.str 0 0,.nils,.nils,.nils,.nils,.bool false,.int .i64 (0),.str 0 0,.int .i64 (0),.bool false,.int .i64 (0),.str 0 0,.nils,.nils,.nils,.nils,.bool false,.int .i64 (5),.str 0 0,.int .i64 (0),.bool false,.int .i64 (0),.str 0 0,.nils,.nils,.nils,.slice 8728 0 1 .none 11,.bool false,.str 1 120,.nils,.nils],.nils]
 nx:=9117
 ins:=[(8728,cellsO [.int .i64 (0),.str 0 0,.int .i64 (2),.bool false,.int .i64 (1),.str 0 0,.nils,.nils,.nils,.nils,.bool false] 52 0 0 0 true),
  (9108,.map [] 0),
  (9109,.map [] 0),
  (9110,.map [] 0),
  (9111,cellsO [.map 9108,.map 9109,.map 9110,.int .i64 (0),.int .i64 (0)] 98 0 0 0 false),
  (9113,cellsO [] 26 0 0 0 true),
  (9114,cellsO [.slice 9113 0 0 (.some 0) 6] 24 0 0 0 true)]
 ord:=[9111,9114,8728,9108,9109,9110,9113]
 v:=.tup [.agg [.slice 9382 0 1 .none 2,.slice 9379 0 1 .none 1],.int .i64 (0)]
 outs:=[(9108,.map [] 0),
  (9109,.map [] 0),
  (9110,.map [] 0),
  (9111,cellsO [.map 9237,.map 9238,.map 9239,.int .i64 (0),.int .i64 (0)] 98 0 0 0 false),
  (9237,.map [] 0),
  (9238,.map [] 0),
  (9239,.map [] 0),
  (9377,cellsO [.int .i64 (2),.bool false,.int .i64 (1),.str 0 0,.nils,.nils] 26 0 0 0 false),
  (9379,cellsO [.slice 9377 0 1 .none 6] 24 0 0 0 false),
  (9382,cellsO [.str 1 120,.int .i64 (0)] 121 0 0 0 false)]
 nx':=9383
noncomputable def do5b:Cut where
 f:=23
 args:=[.ptr 9111 0,.agg [.slice 9382 0 1 .none 2,.slice 9379 0 1 .none 1],.agg [.int .i64 (7),.bool false,.bool false,.bool false,.nils,.slice 9080 0 1 .none 12,.nils,.bool false,.bool false,.bool false,.int .i64 (0),.str 0 0,.int .i64 (0),.bool false,.int .i64 (0),.str 0 0,.nils,.nils,.nils,.nils,.bool false,.int .i64 (0),.str 0 0,.int .i64 (0),.bool false,.int .i64 (0),.str 0 0,.nils,.nils,.nils,.nils,.bool false,.int .i64 (0),.str 0 0,.int .i64 (0),.bool false,.int .i64 (0),.str 0 0,.nils,.nils,.nils,.nils,.bool false,.int .i64 (0),.str 0 0,.int .i64 (0),.bool false,.int .i64 (0),.str 0 0,.nils,.nils,.nils,.nils,.bool false,.str 0 0,.nils,.nils],.nils]
 nx:=9384
 ins:=[(9018,cellsO [.int .i64 (2),.str 1 120,.int .i64 (0),.bool false,.int .i64 (0),.str 0 0,.nils,.nils,.nils,.nils,.bool false,.int .i64 (0),.str 0 0,.int .i64 (2),.bool false,.int .i64 (0),.str 0 0,.nils,.nils,.nils,.nils,.bool false] 52 0 0 0 true),
  (9080,cellsO [.int .i64 (14),.str 1 47,.int .i64 (0),.bool false,.int .i64 (0),.str 0 0,.nils,.nils,.nils,.slice 9018 0 2 (.some 2) 11,.bool false,.str 0 0] 303 0 0 0 true),
  (9111,cellsO [.map 9237,.map 9238,.map 9239,.int .i64 (0),.int .i64 (0)] 98 0 0 0 true),
  (9237,.map [] 0),
  (9238,.map [] 0),
  (9239,.map [] 0),
  (9377,cellsO [.int .i64 (2),.bool false,.int .i64 (1),.str 0 0,.nils,.nils] 26 0 0 0 true),
  (9379,cellsO [.slice 9377 0 1 .none 6] 24 0 0 0 true),
  (9382,cellsO [.str 1 120,.int .i64 (0)] 121 0 0 0 true)]
 ord:=[9111,9382,9379,9080,9237,9238,9239,9377,9018]
 v:=.tup [.agg [.nils,.nils],.int .i64 (190)]
 outs:=[(9237,.map [] 0),
  (9238,.map [] 0),
  (9239,.map [] 0)]
 nx':=9918
noncomputable def done5:Cut where
 f:=12
 args:=[.str 28 5068229766450136047893250384419239440697281332491676839919641644629]
 nx:=8309
 ins:=[]
 ord:=[]
 v:=.tup [.agg [.nils,.nils],.agg [.nils,.nils,.int .i64 (0),.int .i64 (0)],.int .i64 (190)]
 outs:=[]
 nx':=9922
end Go.Proofs.K9
