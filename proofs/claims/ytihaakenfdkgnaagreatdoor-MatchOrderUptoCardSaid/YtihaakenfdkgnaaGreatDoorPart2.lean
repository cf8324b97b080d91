/-
  EXO, part C: regions made ready; the machine. Own text.
-/
import Derived.Test.YtihaakenfdkgnaaGreatDoorPart1
import Derived.Lib.FrozenHead
set_option linter.all false
noncomputable section
namespace Go.Exo
section plan
variable (P:Program)
def gdOf (ops:Array Oper)(o:Oper):Gd:=
 match o.guard with
 |none=>none
 |some (j,want)=>match (ops[j]?).bind (·.dst) with
  |some t=>some (t,want)
  |none=>none
def eP (ops:Array Oper)(o:Oper):Bool:=
 match o.guard with
 |none=>false
 |some (j,_)=>match (ops[j]?).bind (·.dst) with
  |some _=>false
  |none=>true
def aF (ops:Array Oper)(i:Nat)(o:Oper):PStep:={ idx:=i,fast:=o.guard.isNone,dst:=o.dst,guard:=gdOf ops o,op:=cond (eP ops o) .bad (bK P o),again:=[],apart:=[] }
def bH (ops:Array Oper):List Oper->Nat->List PStep
 |[],_=>[]
 |o::r,i=>aF P ops i o::bH ops r (Nat.succ i)
def AOp.cls:AOp->Nat
 |.mv _|.pick .. | .build .. | .nilck _|.bin .. | .eqv .. | .un .. | .convI .. | .mkIface .. | .mkFunc .. | .slStr .. | .slSl .. | .slArr .. | .faddr .. | .field .. | .idxSl .. | .idxArr .. | .idxStr .. | .idxAgg .. | .capv .. | .extCmp .. | .eqAgg ..
 |.tassert .. | .extract .. | .extIB .. | .maxI ..=>0
 |.alloc .. | .box .. | .bslice .. | .mkMap|.convSB .. | .rangeS _|.mkSl ..=>1
 |.load1 _|.loadN .. | .lookup .. | .len .. | .convBS _=>2
 |.store ..=>3
 |_=>4
def sub (a b:Nat):Bool:=Nat.beq (Nat.land a b) a
def aW (i:Nat):Nat:=Nat.shiftLeft 1 i
def ready (done:Nat)(fits:AOp->Bool):List (PStep×Nat)->Option (PStep×Nat)
 |[]=>none
 |(s,b)::r=>cond (Nat.beq (Nat.land (aW s.idx) done) 0&&sub b done&&fits s.op) (some (s,b)) (ready done fits r)
def du (b:Nat):List PStep->List (Nat×Gd×AOp)
 |[]=>[]
 |s::r=>match s.dst with
  |some d=>cond (Nat.beq s.op.cls 2&&Nat.beq (Nat.land (aW s.idx) b) 0) ((d,s.guard,s.op)::du b r) (du b r)
  |none=>du b r
def ep (b:Nat):List PStep->List (Gd×AOp)
 |[]=>[]
 |s::r=>cond (Nat.beq (Nat.land (aW s.idx) b) 0) ((s.guard,s.op)::ep b r) (ep b r)
def co (all:List (PStep×Nat)):Nat->Nat->List PStep->List PStep->List PStep
 |0,_,_,_=>[]
 |n+1,done,acts,reads=>
  match ready done (fun o=>Nat.ble o.cls 2) all with
  |some (s,_)=>s::co all n (Nat.lor done (aW s.idx)) acts (cond (Nat.beq s.op.cls 2) (s::reads) reads)
  |none=>match ready done (fun _=>true) all with
   |some (s,b)=>
    let s':PStep:={ s with again:=du b reads,apart:=ep b acts,fast:=s.fast&&(du b reads).isEmpty&&(ep b acts).isEmpty }
    s'::co all n (Nat.lor done (aW s.idx)) (s::acts) reads
   |none=>[]
def zipB:List PStep->List Nat->List (PStep×Nat)
 |s::r,b::bs=>(s,b)::zipB r bs
 |_,_=>[]
def fq:List PStep->Bool
 |[]=>true
 |s::r=>match s.apart with|[]=>fq r|_::_=>false
def aoTmps:AO->List Nat|.tmp t=>[t]|.val _=>[]
def okT (z s:PStep):Bool:=
 s.fast&&match s.op with
 |.store _ _ _=>s.dst.isNone
 |o=>Nat.beq o.cls 0&&(match z.op with|.store _ a x=>(match s.dst with|some d=>!(aoTmps a).contains d && !(aoTmps x).contains d|none=>true)|_=>false)
def rO (i:Nat):List (PStep×Nat)->Nat
 |[]=>0
 |(s,b)::r=>cond (Nat.beq s.idx i) b (rO i r)
def rP (_:List (PStep×Nat))(l:List PStep):Bool:=fq l
def dl (t:Nat):List (PStep×Nat)->Option Nat
 |[]=>none
 |(s,_)::r=>match s.dst with|some d=>cond (Nat.beq d t) (some s.idx) (dl t r)|none=>dl t r
def nE (o:Oper):List Nat:=o.op.operands.toList.filterMap fun|.tmp t=>some t|_=>none
def lateB (i t:Nat):List (PStep×Nat)->Bool
 |[]=>false
 |(s,b)::r=>cond ((match s.dst with|some d=>Nat.beq d t|none=>false)&&Nat.beq (Nat.land (aW i) b) (aW i)&&Nat.ble 3 s.op.cls&&s.guard.isNone) true (lateB i t r)
def rQ (all:List (PStep×Nat))(b i:Nat)(t:Nat):Bool:=match dl t all with|some j=>cond (Nat.beq (Nat.land (aW j) b) (aW j)) true (lateB i t all)|none=>true
def jV:List (PStep×Nat)->Bool
 |[]=>true
 |(s,_)::r=>cond (match s.dst with|some d=>(dl d r).isNone|none=>true) (jV r) false
def rR (all:List (PStep×Nat))(b:Nat):Gd->Bool|none=>true|some (t,_)=>(match dl t all with|some j=>Nat.beq (Nat.land (aW j) b) (aW j)|none=>false)
def opsOk (all:List (PStep×Nat)):List Oper->List (PStep×Nat)->Bool
 |o::r,(s,b)::l=>cond ((nE o).all (rQ all b s.idx)&&rR all b s.guard&&cond (Nat.beq s.op.cls 2) s.dst.isSome true) (opsOk all r l) false
 |[],[]=>true
 |_,_=>false
def befE (t:T Nat):List Edge->Nat->Nat
 |[],s=>s
 |e::r,s=>befE t r (cond (Region.binds .any e) (Nat.lor s (Nat.lor (aW e.on) (t.get 0 e.on))) s)
def befL:List Oper->Nat->T Nat->List Nat
 |[],_,_=>[]
 |o::r,i,t=>befE t o.after.toList 0::T.setK 0 (befE t o.after.toList 0) t i fun t=>befL r (Nat.succ i) t
def backE (mx:Bool)(i:Nat):List Edge->Bool
 |[]=>true
 |e::r=>cond (Nat.ble (Nat.succ e.on) i || (mx && !Region.binds .any e)) (backE mx i r) false
def ug (mx:Bool):List Oper->Nat->Bool
 |[],_=>true
 |o::r,i=>cond (backE mx i o.after.toList) (ug mx r (Nat.succ i)) false
def uh (ops:Array Oper):List (PStep×Nat):=zipB (bH P ops ops.toList 0) (befL ops.toList 0 .e)
def rS (i:Nat):List PStep->Bool
 |[]=>false
 |s::r=>cond (Nat.beq s.idx i) true (rS i r)
def wC (m si:Nat)(r:List PStep):Nat->Bool
 |0=>true
 |n+1=>cond (Nat.beq n si || Nat.beq (Nat.land (aW n) m) (aW n) || rS n r) (wC m si r n) false
def quietB (ops:Array Oper)(s:PStep)(r:List PStep):Bool:=wC (rO s.idx (uh P ops)) s.idx r ops.toList.length
def pU (ops:Array Oper):List PStep:=
 let all:=uh P ops
 let l:=co all ops.toList.length 0 [] []
 cond (rP all l&&ug (P.follows .mixedOrders) ops.toList 0&&jV all&&opsOk all ops.toList all&&Nat.beq l.length ops.toList.length) l [{ idx:=0,fast:=true,dst:=none,guard:=none,op:=.bad,again:=[],apart:=[] }]
def yn (ops:Array Oper)(draw:Bool):List PStep:=cond draw (pU P ops) (bH P ops ops.toList 0)
structure AFn where
 ntmps:Nat
 body:Code
 results:List ResultVar
 sizes:List (Option Nat)
def nF:List ResultVar->Bool
 |[]=>true
 |.tmp _::r=>nF r
 |.cell _ t::r=>cond (tyOf P t).isSome (nF r) false
def fnOf (f:Nat):Option AFn:=
 match mf P f with
 |some fn=>(match fn.body with
  |some c=>cond (fn.name == "runtime.NumGoroutine" || !nF P fn.results.toList) none
    (some { ntmps:=fn.ntmps,body:=c,results:=fn.results.toList,sizes:=fn.results.toList.map fun|.tmp _=>none|.cell _ t=>if dg P t then some (eN P t) else none })
  |none=>none)
 |none=>none
end plan
structure Ctx where
 fn:Nat
 tm:T V
 sz:Nat
 ds:List ADef
 kind:CallKind
 round:Option Nat
 cs:List AFrame
 H:T AObj
 nx:Nat
inductive Out where
 |st (m:AMode)(todo:List AItem)(c:Ctx)
 |fail (why fn idx:Nat)
def selEUO (a b c d:(T V->Nat->(T V->Out)->Out)->(T V->Out)->Nat->Out)(m:Nat):(T V->Nat->(T V->Out)->Out)->(T V->Out)->Nat->Out:=
 Nat.rec (motive:=fun _=>(T V->Nat->(T V->Out)->Out)->(T V->Out)->Nat->Out) a (fun m _=>Nat.rec (motive:=fun _=>(T V->Nat->(T V->Out)->Out)->(T V->Out)->Nat->Out) b (fun m _=>Nat.rec (motive:=fun _=>(T V->Nat->(T V->Out)->Out)->(T V->Out)->Nat->Out) c (fun _ _=>d) m) m) m
def selNUO (a b c d:V->T V->T V->T V->T V->(T V->Nat->(T V->Out)->Out)->(T V->Out)->Nat->Out)(m:Nat):V->T V->T V->T V->T V->(T V->Nat->(T V->Out)->Out)->(T V->Out)->Nat->Out:=
 Nat.rec (motive:=fun _=>V->T V->T V->T V->T V->(T V->Nat->(T V->Out)->Out)->(T V->Out)->Nat->Out) a (fun m _=>Nat.rec (motive:=fun _=>V->T V->T V->T V->T V->(T V->Nat->(T V->Out)->Out)->(T V->Out)->Nat->Out) b (fun m _=>Nat.rec (motive:=fun _=>V->T V->T V->T V->T V->(T V->Nat->(T V->Out)->Out)->(T V->Out)->Nat->Out) c (fun _ _=>d) m) m) m
def eAUO (ih:(T V->Nat->(T V->Out)->Out))(k:(T V->Out))(r:Nat):Out:=ih .e r fun x=>k (.n au x .e .e .e)
def eBUO (ih:(T V->Nat->(T V->Out)->Out))(k:(T V->Out))(r:Nat):Out:=ih .e r fun x=>k (.n au .e x .e .e)
def eCUO (ih:(T V->Nat->(T V->Out)->Out))(k:(T V->Out))(r:Nat):Out:=ih .e r fun x=>k (.n au .e .e x .e)
def eDUO (ih:(T V->Nat->(T V->Out)->Out))(k:(T V->Out))(r:Nat):Out:=ih .e r fun x=>k (.n au .e .e .e x)
def nAUO (u:V)(a b c e:T V)(ih:(T V->Nat->(T V->Out)->Out))(k:(T V->Out))(r:Nat):Out:=ih a r fun x=>k (.n u x b c e)
def nBUO (u:V)(a b c e:T V)(ih:(T V->Nat->(T V->Out)->Out))(k:(T V->Out))(r:Nat):Out:=ih b r fun x=>k (.n u a x c e)
def nCUO (u:V)(a b c e:T V)(ih:(T V->Nat->(T V->Out)->Out))(k:(T V->Out))(r:Nat):Out:=ih c r fun x=>k (.n u a b x e)
def nDUO (u:V)(a b c e:T V)(ih:(T V->Nat->(T V->Out)->Out))(k:(T V->Out))(r:Nat):Out:=ih e r fun x=>k (.n u a b c x)
def jEUO (ih:(T V->Nat->(T V->Out)->Out))(k:(T V->Out))(j:Nat)(_:Out):Out:=selEUO eAUO eBUO eCUO eDUO (Nat.mod j 4) ih k (Nat.div j 4)
def jNUO (u:V)(a b c e:T V)(ih:(T V->Nat->(T V->Out)->Out))(k:(T V->Out))(j:Nat)(_:Out):Out:=selNUO nAUO nBUO nCUO nDUO (Nat.mod j 4) u a b c e ih k (Nat.div j 4)
def sEUO (v:V)(ih:(T V->Nat->(T V->Out)->Out))(i:Nat)(k:(T V->Out)):Out:=Nat.rec (motive:=fun _=>Out) (k (.n v .e .e .e .e)) (jEUO ih k) i
def sNUO (u:V)(a b c e:T V)(_ _ _ _:V->(T V->Nat->(T V->Out)->Out)->Nat->(T V->Out)->Out)(v:V)(ih:(T V->Nat->(T V->Out)->Out))(i:Nat)(k:(T V->Out)):Out:=Nat.rec (motive:=fun _=>Out) (k (.n v a b c e)) (jNUO u a b c e ih k) i
def stUO (v:V)(_:Nat)(ih:(T V->Nat->(T V->Out)->Out))(t:T V)(i:Nat)(k:(T V->Out)):Out:=T.rec (motive:=fun _=>V->(T V->Nat->(T V->Out)->Out)->Nat->(T V->Out)->Out) sEUO sNUO t v ih i k
def zUO (t:T V)(_:Nat)(k:(T V->Out)):Out:=k t
def setUO (v:V)(t:T V)(i:Nat)(k:(T V->Out)):Out:=Nat.rec (motive:=fun _=>(T V->Nat->(T V->Out)->Out)) zUO (stUO v) (Nat.succ i) t i k
def selEHO (a b c d:(T AObj->Nat->(T AObj->Out)->Out)->(T AObj->Out)->Nat->Out)(m:Nat):(T AObj->Nat->(T AObj->Out)->Out)->(T AObj->Out)->Nat->Out:=
 Nat.rec (motive:=fun _=>(T AObj->Nat->(T AObj->Out)->Out)->(T AObj->Out)->Nat->Out) a (fun m _=>Nat.rec (motive:=fun _=>(T AObj->Nat->(T AObj->Out)->Out)->(T AObj->Out)->Nat->Out) b (fun m _=>Nat.rec (motive:=fun _=>(T AObj->Nat->(T AObj->Out)->Out)->(T AObj->Out)->Nat->Out) c (fun _ _=>d) m) m) m
def selNHO (a b c d:AObj->T AObj->T AObj->T AObj->T AObj->(T AObj->Nat->(T AObj->Out)->Out)->(T AObj->Out)->Nat->Out)(m:Nat):AObj->T AObj->T AObj->T AObj->T AObj->(T AObj->Nat->(T AObj->Out)->Out)->(T AObj->Out)->Nat->Out:=
 Nat.rec (motive:=fun _=>AObj->T AObj->T AObj->T AObj->T AObj->(T AObj->Nat->(T AObj->Out)->Out)->(T AObj->Out)->Nat->Out) a (fun m _=>Nat.rec (motive:=fun _=>AObj->T AObj->T AObj->T AObj->T AObj->(T AObj->Nat->(T AObj->Out)->Out)->(T AObj->Out)->Nat->Out) b (fun m _=>Nat.rec (motive:=fun _=>AObj->T AObj->T AObj->T AObj->T AObj->(T AObj->Nat->(T AObj->Out)->Out)->(T AObj->Out)->Nat->Out) c (fun _ _=>d) m) m) m
def eAHO (ih:(T AObj->Nat->(T AObj->Out)->Out))(k:(T AObj->Out))(r:Nat):Out:=ih .e r fun x=>k (.n .no x .e .e .e)
def eBHO (ih:(T AObj->Nat->(T AObj->Out)->Out))(k:(T AObj->Out))(r:Nat):Out:=ih .e r fun x=>k (.n .no .e x .e .e)
def eCHO (ih:(T AObj->Nat->(T AObj->Out)->Out))(k:(T AObj->Out))(r:Nat):Out:=ih .e r fun x=>k (.n .no .e .e x .e)
def eDHO (ih:(T AObj->Nat->(T AObj->Out)->Out))(k:(T AObj->Out))(r:Nat):Out:=ih .e r fun x=>k (.n .no .e .e .e x)
def nAHO (u:AObj)(a b c e:T AObj)(ih:(T AObj->Nat->(T AObj->Out)->Out))(k:(T AObj->Out))(r:Nat):Out:=ih a r fun x=>k (.n u x b c e)
def nBHO (u:AObj)(a b c e:T AObj)(ih:(T AObj->Nat->(T AObj->Out)->Out))(k:(T AObj->Out))(r:Nat):Out:=ih b r fun x=>k (.n u a x c e)
def nCHO (u:AObj)(a b c e:T AObj)(ih:(T AObj->Nat->(T AObj->Out)->Out))(k:(T AObj->Out))(r:Nat):Out:=ih c r fun x=>k (.n u a b x e)
def nDHO (u:AObj)(a b c e:T AObj)(ih:(T AObj->Nat->(T AObj->Out)->Out))(k:(T AObj->Out))(r:Nat):Out:=ih e r fun x=>k (.n u a b c x)
def jEHO (ih:(T AObj->Nat->(T AObj->Out)->Out))(k:(T AObj->Out))(j:Nat)(_:Out):Out:=selEHO eAHO eBHO eCHO eDHO (Nat.mod j 4) ih k (Nat.div j 4)
def jNHO (u:AObj)(a b c e:T AObj)(ih:(T AObj->Nat->(T AObj->Out)->Out))(k:(T AObj->Out))(j:Nat)(_:Out):Out:=selNHO nAHO nBHO nCHO nDHO (Nat.mod j 4) u a b c e ih k (Nat.div j 4)
def sEHO (v:AObj)(ih:(T AObj->Nat->(T AObj->Out)->Out))(i:Nat)(k:(T AObj->Out)):Out:=Nat.rec (motive:=fun _=>Out) (k (.n v .e .e .e .e)) (jEHO ih k) i
def sNHO (u:AObj)(a b c e:T AObj)(_ _ _ _:AObj->(T AObj->Nat->(T AObj->Out)->Out)->Nat->(T AObj->Out)->Out)(v:AObj)(ih:(T AObj->Nat->(T AObj->Out)->Out))(i:Nat)(k:(T AObj->Out)):Out:=Nat.rec (motive:=fun _=>Out) (k (.n v a b c e)) (jNHO u a b c e ih k) i
def stHO (v:AObj)(_:Nat)(ih:(T AObj->Nat->(T AObj->Out)->Out))(t:T AObj)(i:Nat)(k:(T AObj->Out)):Out:=T.rec (motive:=fun _=>AObj->(T AObj->Nat->(T AObj->Out)->Out)->Nat->(T AObj->Out)->Out) sEHO sNHO t v ih i k
def zHO (t:T AObj)(_:Nat)(k:(T AObj->Out)):Out:=k t
def mg (v:AObj)(t:T AObj)(i:Nat)(k:(T AObj->Out)):Out:=Nat.rec (motive:=fun _=>(T AObj->Nat->(T AObj->Out)->Out)) zHO (stHO v) (Nat.succ i) t i k
abbrev Ih:=AMode->List AItem->Ctx->Out
def setD (d:Option Nat)(v:V)(tm:T V)(sz:Nat)(k:T V->Out):Out:=
 match d with
 |none=>k tm
 |some d=>cond (Nat.ble (Nat.succ d) sz) (setUO v tm d k) (.fail 100 d sz)
mutual
def V.eqB:V->V->Bool
 |.bool a,.bool b=>a==b
 |.int k a,.int k' b=>Nat.beq (kNum k) (kNum k')&&eqF a b
 |.str l n,.str l' n'=>Nat.beq l l'&&Nat.beq n n'
 |.nilp,.nilp|.nils,.nils|.nilm,.nilm|.nilf,.nilf|.nili,.nili=>true
 |.ptr l o,.ptr l' o'=>Nat.beq l l'&&Nat.beq o o'
 |.slice l o n c e,.slice l' o' n' c' e'=>Nat.beq l l'&&Nat.beq o o'&&Nat.beq n n'&&c==c'&&Nat.beq e e'
 |.map l,.map l'=>Nat.beq l l'
 |.func fn a b,.func fn' a' b'=>decide (fn=fn')&&V.eqL a a'&&V.eqL b b'
 |.iface t v,.iface t' v'=>Nat.beq t t'&&V.eqB v v'
 |.agg a,.agg b=>V.eqL a b
 |.tup a,.tup b=>V.eqL a b
 |.sym l,.sym l'=>Nat.beq l l'
 |.top l,.top l'=>Nat.beq l l'
 |.emp l e,.emp l' e'=>Nat.beq l l'&&Nat.beq e e'
 |.x t,.x t'=>t.beq t'
 |.xa s i j,.xa s' i' j'=>Nat.beq j j'&&s.beq s'&&i.beq i'
 |.lst l t,.lst l' t'=>Nat.beq l l'&&t.beq t'
 |_,_=>false
def V.eqL:List V->List V->Bool
 |[],[]=>true
 |a::r,b::s=>V.eqB a b&&V.eqL r s
 |_,_=>false
end
variable [Sx] [Dc]
def gdGo (g:Gd)(tm:T V)(yes no:Out)(i:Nat):Out:=
 match g with
 |none=>yes
 |some (t,want)=>(match getU tm t with
  |.bool b=>cond (b==want) yes no
  |.tup _=>no
  |.x u=>(match Dc.dec u with|some b=>cond (b==want) yes no|none=>.fail 101 t i)
  |_=>.fail 101 t i)
def ft (tm:T V)(H:T AObj)(nx:Nat)(k:Out):List (Nat×Gd×AOp)->Out
 |[]=>k
 |(d,g,o)::r=>gdGo g tm (match exOp o tm H nx with
  |.val v=>cond (V.eqB v (getU tm d)) (ft tm H nx k r) (.fail 102 d 0)
  |_=>.fail 103 d 0) (ft tm H nx k r) d
def clsFree (H:T AObj)(l:Nat):Bool:=match getH H l with|.cells _ _ _ cls _ _ _=>Nat.beq cls 0|_=>false
def apart2 (H:T AObj)(x y:V):Bool:=
 match x,y with
 |.ptr l _,.ptr l' _=>cond (Nat.beq l l') false (clsFree H l)
 |_,_=>false
def rT (o:AOp)(tm:T V)(H:T AObj)(k:Out):List (Gd×AOp)->Out
 |[]=>k
 |(g,p)::r=>(match o,p with
  |.store _ a _,.store _ b _=>gdGo g tm (cond (apart2 H (a.ev tm) (b.ev tm)) (rT o tm H k r) (.fail 104 0 0)) (rT o tm H k r) 0
  |_,_=>.fail 105 0 0)
section machine
variable (P:Program)
def cq (f:Nat)(args:List V)(kind:CallKind)(cs:List AFrame)(H:T AObj)(nx:Nat)(ih:Ih):Out:=
 match fnOf P f with
 |some fn=>cond (Nat.ble args.length fn.ntmps)
   (T.ofK au args 0 .e fun tm=>ih .run (match kind with|.normal=>[.call f args,.code fn.body]|_=>[.code fn.body]) { fn:=f,tm,sz:=fn.ntmps,ds:=[],kind,round:=none,cs,H,nx }) (.fail 106 f 0)
 |none=>.fail 107 f 0
def il (tm:T V)(sz:Nat):List Nat->List V->(T V->Out)->Out
 |p::ps,v::vs,k=>cond (Nat.ble (Nat.succ p) sz) (setUO v tm p fun tm=>il tm sz ps vs k) (.fail 108 p sz)
 |[],[],k=>k tm
 |_,_,_=>.fail 109 0 0
def rU (l:Nat)(args:List V)(cs:List AFrame)(H:T AObj)(nx:Nat)(ih:Ih):Out:=
 match getH H l with
 |.loop _ _ fn tm sz ps assign body _=>il tm sz ps args fun tm=>
   ih .run [.code assign,.beginRound,.code body] { fn,tm,sz,ds:=[],kind:=.normal,round:=some l,cs,H,nx }
 |_=>.fail 110 l 0
def raise (m:AMode)(chain:List (V×Bool)):AMode:=match m with|.panicking old=>.panicking (chain++old)|_=>.panicking chain
def mN (c:Ctx)(tm:T V)(todo:List AItem)(mode:AMode):AFrame:=
 { fn:=c.fn,tmps:=tm,size:=c.sz,todo,defers:=c.ds,mode,kind:=c.kind,round:=c.round }
def jW (f:AFrame)(cs:List AFrame)(H:T AObj)(nx:Nat):Ctx:=
 { fn:=f.fn,tm:=f.tmps,sz:=f.size,ds:=f.defers,kind:=f.kind,round:=f.round,cs,H,nx }
structure Reg where
 ops:Array Oper
 draw:Bool
 k:List AItem
 ih:Ih
abbrev Go1:=T V->Ctx->Out
def Ctx.setH (c:Ctx)(H:T AObj)(nx:Nat):Ctx:={ c with H,nx }
def goOn (s:PStep)(g:Go1)(c:Ctx)(tm:T V):Out:=ft tm c.H c.nx (g tm c) s.again
def rVal (v:V)(s:PStep)(_:List PStep)(g:Go1)(tm:T V)(c:Ctx)(_:Reg):Out:=setD s.dst v tm c.sz fun tm=>goOn s g c tm
def rValF (v:V)(s:PStep)(_:List PStep)(g:Go1)(tm:T V)(c:Ctx)(_:Reg):Out:=setD s.dst v tm c.sz fun tm=>g tm c
def rValH (v:V)(H:T AObj)(nx:Nat)(s:PStep)(_:List PStep)(g:Go1)(tm:T V)(c:Ctx)(_:Reg):Out:=setD s.dst v tm c.sz fun tm=>goOn s g (c.setH H nx) tm
def rValHF (v:V)(H:T AObj)(nx:Nat)(s:PStep)(_:List PStep)(g:Go1)(tm:T V)(c:Ctx)(_:Reg):Out:=setD s.dst v tm c.sz fun tm=>g tm (c.setH H nx)
def rEnter (f:Nat)(args:List V)(s:PStep)(r:List PStep)(_:Go1)(tm:T V)(c:Ctx)(R:Reg):Out:=
 cq P f args .normal (mN c tm (.steps (s::r) R.ops R.draw::R.k) .run::c.cs) c.H c.nx R.ih
def rRound (l:Nat)(args:List V)(s:PStep)(r:List PStep)(_:Go1)(tm:T V)(c:Ctx)(R:Reg):Out:=
 rU l args (mN c tm (.steps (s::r) R.ops R.draw::R.k) .run::c.cs) c.H c.nx R.ih
def rV (d:ADef)(s:PStep)(_:List PStep)(g:Go1)(tm:T V)(c:Ctx)(_:Reg):Out:=
 match c.round with|none=>setD s.dst au tm c.sz fun tm=>g tm { c with ds:=d::c.ds }|some _=>.fail 111 c.fn s.idx
def rPan (v:V)(s:PStep)(_:List PStep)(_:Go1)(tm:T V)(c:Ctx)(R:Reg):Out:=cond (R.draw && !c.ds.isEmpty) (.fail 135 c.fn s.idx) (R.ih (.panicking [(v,false)]) [] { c with tm })
def rRec (s:PStep)(_:List PStep)(g:Go1)(tm:T V)(c:Ctx)(_:Reg):Out:=
 match c.kind,c.round,c.cs with
 |.deferred,none,f::fs=>(match f.mode with
  |.panicking ((v,false)::old)=>setD s.dst v tm c.sz fun tm=>g tm { c with cs:={ f with mode:=.panicking ((v,true)::old) }::fs }
  |_=>setD s.dst .nili tm c.sz fun tm=>g tm c)
 |_,_,_=>.fail 112 c.fn s.idx
def rFail (w:Nat)(s:PStep)(_:List PStep)(_:Go1)(_:T V)(c:Ctx)(_:Reg):Out:=.fail w c.fn s.idx
abbrev Arm:=PStep->List PStep->Go1->T V->Ctx->Reg->Out
def jX (r:Res):Arm:=Res.rec (motive:=fun _=>Arm) rVal rValH (rEnter P) rRound rV rPan rRec rFail r
def wD (r:Res):Arm:=Res.rec (motive:=fun _=>Arm) rValF rValHF (rEnter P) rRound rV rPan rRec rFail r
def nG (s:PStep)(r:List PStep)(g:Go1)(tm:T V)(c:Ctx)(R:Reg):Out:=wD P (exOp s.op tm c.H c.nx) s r g tm c R
def ui (s:PStep)(r:List PStep)(g:Go1)(tm:T V)(c:Ctx)(R:Reg):Out:=
 gdGo s.guard tm (rT s.op tm c.H (jX P (exOp s.op tm c.H c.nx) s r g tm c R) s.apart) (setD s.dst au tm c.sz fun tm=>g tm c) s.idx
def xEnd (R:Reg)(tm:T V)(c:Ctx):Out:=R.ih .run R.k { c with tm }
def iS (R:Reg)(s:PStep)(r:List PStep)(g:Go1)(tm:T V)(c:Ctx):Out:=
 Bool.rec (motive:=fun _=>Arm) (ui P) (nG P) s.fast s r g tm c R
def xs (R:Reg)(l:List PStep):Go1:=List.rec (motive:=fun _=>Go1) (xEnd R) (fun s r g=>iS P R s r g) l
def finish (f:AFrame)(v:V)(cs:List AFrame)(H:T AObj)(nx:Nat)(ih:Ih):Out:=
 match f.mode with
 |.run=>(match f.todo with
  |.steps (s::r) ops draw::k=>setD s.dst v f.tmps f.size fun tm=>ft tm H nx (xs P { ops,draw,k,ih } r tm (jW f cs H nx)) s.again
  |.inRF l::k=>ih .run (.endRF l::k) (jW f cs H nx)
  |_=>.fail 113 f.fn 0)
 |_=>.fail 113 f.fn 0
def fu (m:AMode):AMode:=match m with|.panicking ((_,true)::_)=>.returning|m=>m
def uj (c:Ctx)(v:V)(ih:Ih):Out:=
 match c.cs with
 |[]=>.fail 114 c.fn 0
 |f::fs=>(match c.kind with
  |.normal=>finish P f v fs c.H c.nx ih
  |.deferred=>(match f.mode with
   |.run=>.fail 115 c.fn 0
   |m=>ih (fu m) f.todo (jW f fs c.H c.nx))
  |_=>.fail 115 c.fn 0)
def pV (jump:Option Code)(c:Ctx)(ih:Ih):Out:=
 match c.round with
 |none=>(match jump with|none|some .ret=>ih .returning [] c|_=>.fail 116 c.fn 0)
 |some l=>(match c.kind,getH c.H l with
  |.normal,.loop _ _ fn tm sz ps assign body defers=>
   mg (.loop (match jump with|none=>.ready|some _=>.done) jump fn tm sz ps assign body defers) c.H l fun H=>
    uj P { c with H } (.bool jump.isNone) ih
  |_,_=>.fail 117 c.fn 0)
def ji:List AItem->Bool
 |[]=>false
 |.halt _::_=>true
 |_::k=>ji k
def nH (id:Nat):List AItem->Option (List AItem)
 |.inBlock j::k=>cond (Nat.beq j id) (some k) (nH id k)
 |.halt _::_=>none
 |_::k=>nH id k
 |[]=>none
def nI (l:Nat):List AItem->Option (List AItem)
 |.inScope body::k=>(match findLabel body l with
  |some rest=>some (.code rest::.inScope body::k)
  |none=>nI l k)
 |.halt _::_=>none
 |_::k=>nI l k
 |[]=>none
def rfK (f:Operand)(ps:Array Tmp)(assign body:Code)(k:List AItem)(c:Ctx)(ih:Ih)(nx defers:Nat)(mark:List ADef)(H:T AObj):Out:=
 match AO.ev (ap f) c.tm with
 |.func (.func g) first captured=>mg (.loop .ready none c.fn c.tm c.sz ps.toList assign body defers) H nx fun H=>
   cq P g (first++(.func (.yield nx) [] []::captured)) .normal ({ fn:=c.fn,tmps:=c.tm,size:=c.sz,todo:=.inRF nx::k,defers:=mark++c.ds,mode:=.run,kind:=c.kind,round:=c.round }::c.cs) H (Nat.succ nx) ih
 |_=>.fail 118 c.fn 0
abbrev CArm:=Ctx->List AItem->Ih->Out
def cSkip (c:Ctx)(k:List AItem)(ih:Ih):Out:=ih .run k c
def rW (ops:Array Oper)(draw:Bool)(c:Ctx)(k:List AItem)(ih:Ih):Out:=xs P { ops,draw,k,ih } (yn P ops draw) c.tm c
def cSeq (a b:Code)(c:Ctx)(k:List AItem)(ih:Ih):Out:=ih .run (.code a::.code b::k) c
def cCond (x:Operand)(a b:Code)(c:Ctx)(k:List AItem)(ih:Ih):Out:=
 match AO.ev (ap x) c.tm with
 |.bool t=>ih .run (.code (cond t a b)::k) c
 |.x t=>(match Dc.dec t with|some d=>ih .run (.code (cond d a b)::k) c|none=>.fail 119 c.fn 0)
 |_=>.fail 119 c.fn 0
def cBlock (id:Nat)(b:Code)(c:Ctx)(k:List AItem)(ih:Ih):Out:=ih .run (.code b::.inBlock id::k) c
def dE:Code->Option (Nat×Nat×Nat×Code)
 |.seq (.region _ ops false) rest=>(match ops.toList with
  |[o1,o2]=>(match o1.op,o1.dst,o1.guard,o2.op,o2.dst,o2.guard with
   |.next (.tmp t) false,some d1,none,.extract (.tmp d) 0,some d2,none=>cond (Nat.beq d d1) (some (t,d1,d2,rest)) none
   |_,_,_,_,_,_=>none)
  |_=>none)
 |_=>none
def gj:Code->List Nat
 |.region _ ops _=>ops.toList.filterMap (·.dst)
 |.seq a b=>gj a++gj b
 |.cond _ a b=>gj a++gj b
 |.block _ b|.loop b|.scope b=>gj b
 |_=>[]
def memN (x:Nat):List Nat->Bool
 |[]=>false
 |y::r=>cond (Nat.beq x y) true (memN x r)
def jY:List Nat->List Nat
 |[]=>[]
 |x::r=>cond (memN x r) (jY r) (x::jY r)
def roO:AObj->AObj
 |.cells vs len elem cls rel fz _=>.cells vs len elem cls rel fz true
 |.map es c=>.mapR es c
 |.mapR es c=>.mapR es c
 |.cls a b c=>.cls a b c
 |.keep s=>.keep s
 |_=>.no
def roT (H:T AObj):T AObj:=T.rec (motive:=fun _=>T AObj) .e (fun v _ _ _ _ a b c d=>.n (roO v) a b c d) H
def V.lone:V->Bool|.agg _|.junk=>false|_=>true
def topsK {β:Type}:List Nat->Nat->T V->(T V->β)->β
 |[],_,tm,k=>k tm
 |d::ds,l,tm,k=>T.setK au (.top l) tm d fun tm=>topsK ds (Nat.succ l) tm k
def fv (tm:T V):List Nat->Bool
 |[]=>true
 |d::ds=>cond (getU tm d).lone (fv tm ds) false
def im (ds:List Nat)(a b:T V):Nat->Bool
 |0=>true
 |n+1=>cond (memN n ds || (V.eqB (getU a n) (getU b n)&&(getU a n).noX)) (im ds a b n) false
def jj (since:Nat):List (V×V×Nat)->Bool
 |[]=>true
 |(_,_,b)::r=>cond (Nat.ble (Nat.succ b) since&&bornNe b r) (jj since r) false
where bornNe (b:Nat):List (V×V×Nat)->Bool
 |[]=>true
 |(_,_,c)::r=>cond (Nat.beq b c) false (bornNe b r)
def nJ:CallKind->CallKind->Bool|.normal,.normal=>true|_,_=>false
def ct (rest:Code)(c:Ctx)(H:T AObj)(r m clock d1 d2 L:Nat)(D:List Nat)(tm:T V)(ih:Ih)(e:V×V×Nat):Option (List V):=
 T.setK au (.tup [.bool true,e.1,e.2.1]) tm d1 fun tm=>T.setK au (.bool true) tm d2 fun tm=>T.setK .no (.mit m e.2.2 clock) H r fun H=>
 match ih .run [.code rest,.halt L] { c with tm,cs:=[],H,nx:=Nat.succ L } with
 |.st .run (.halt L'::_) c'=>(match c'.cs,c'.ds,c'.round with
  |[],[],none=>cond (Nat.beq L' L&&Nat.beq c'.fn c.fn&&Nat.beq c'.sz c.sz&&nJ c'.kind c.kind&&fv c'.tm D&&im (d1::d2::D) c'.tm tm c.sz) (some (D.map (getU c'.tm))) none
  |_,_,_=>none)
 |_=>none
inductive Turn where
 |no
 |one (v:V)
 |many
def turnV (l:Nat)(v:V):Turn->Turn
 |.no=>(match v with|.top l'=>cond (Nat.beq l l') .no .many|v=>cond v.fine (.one v) .many)
 |.one u=>(match v with|.top l'=>cond (Nat.beq l l') (.one u) .many|_=>.many)
 |.many=>.many
def nK:Nat->List V->List Turn->List Turn
 |l,v::vs,t::ts=>turnV l v t::nK (Nat.succ l) vs ts
 |_,_,_=>[]
def lm (rest:Code)(c:Ctx)(H:T AObj)(r m clock d1 d2 L:Nat)(D:List Nat)(tm:T V)(ih:Ih):List (V×V×Nat)->List Turn->Option (List Turn)
 |[],ts=>some ts
 |e::es,ts=>match ct rest c H r m clock d1 d2 L D tm ih e with
  |some vs=>lm rest c H r m clock d1 d2 L D tm ih es (nK c.nx vs ts)
  |none=>none
def gC {β:Type}:List Nat->List Turn->Nat->T V->(T V->β)->β
 |d::ds,t::ts,l,tm,k=>(match t with
  |.no=>gC ds ts (Nat.succ l) tm k
  |.one v=>T.setK au v tm d fun tm=>gC ds ts (Nat.succ l) tm k
  |.many=>T.setK au (.top l) tm d fun tm=>gC ds ts (Nat.succ l) tm k)
 |_,_,_,tm,k=>k tm
def yo (b rest:Code)(r m since d1 d2:Nat)(c:Ctx)(k:List AItem)(ih:Ih)(D:List Nat)(L:Nat)(es:List (V×V×Nat))(clock:Nat):Out:=
 cond (Nat.beq clock since&&jj since es&&fv c.tm D&&Nat.ble (Nat.succ d1) c.sz&&Nat.ble (Nat.succ d2) c.sz&&nJ c.kind .normal)
  (topsK D c.nx c.tm fun tm0=>
   match lm rest c (roT c.H) r m clock d1 d2 L D tm0 ih es (D.map fun _=>.no) with
   |some ts=>gC D ts c.nx c.tm fun tm=>T.setK au (.tup [.bool false]) tm d1 fun tm=>T.setK au (.bool false) tm d2 fun tm=>mg .no c.H r fun H=>
    ih .run (.code rest::.inLoop b::k) { c with tm,H,nx:=Nat.succ L }
   |none=>.fail 143 c.fn 0) (.fail 144 c.fn 0)
def cLoop (b:Code)(c:Ctx)(k:List AItem)(ih:Ih):Out:=ih .run (.code b::.inLoop b::k) c
def oneE:List (V×V×Nat)->Bool|[_]=>true|_=>false
def wE (b:Code)(c:Ctx)(k:List AItem)(ih:Ih):Out:=
 match dE b with
 |none=>ih .run (.code b::.inLoop b::k) c
 |some (t,d1,d2,rest)=>(match getU c.tm t with
  |.ptr r 0=>(match getH c.H r with
   |.mit0 m since=>(match c.round,c.ds,getH c.H m with
    |none,[],.map es clock=>cond (oneE es) (ih .run (.code b::.inLoop b::k) c) <| cond (memN t (d1::d2::gj rest) || memN d1 (d2::gj rest) || memN d2 (gj rest)) (.fail 145 c.fn 0)
      (yo b rest r m since d1 d2 c k ih (jY (gj rest)) (Nat.add c.nx (jY (gj rest)).length) es clock)
    |_,_,_=>.fail 146 c.fn 0)
   |_=>ih .run (.code b::.inLoop b::k) c)
  |_=>ih .run (.code b::.inLoop b::k) c)
def cRF (f:Operand)(ps:Array Tmp)(assign body:Code)(c:Ctx)(k:List AItem)(ih:Ih):Out:=
 match c.round with
 |none=>mg .defd c.H c.nx fun H=>rfK P f ps assign body k c ih (Nat.succ c.nx) c.nx [.collected c.nx] H
 |some l=>(match getH c.H l with
  |.loop _ _ _ _ _ _ _ _ defers=>rfK P f ps assign body k c ih c.nx defers [] c.H
  |_=>.fail 120 c.fn 0)
def cExit (id:Nat)(c:Ctx)(k:List AItem)(ih:Ih):Out:=match nH id k with|some k=>ih .run k c|none=>cond (ji k) (.fail 141 c.fn 0) (pV P (some (.exit id)) c ih)
def cScope (b:Code)(c:Ctx)(k:List AItem)(ih:Ih):Out:=ih .run (.code b::.inScope b::k) c
def cGoto (l:Nat)(c:Ctx)(k:List AItem)(ih:Ih):Out:=match nI l k with|some k=>ih .run k c|none=>cond (ji k) (.fail 142 c.fn 0) (pV P (some (.goto l)) c ih)
def cRet (c:Ctx)(_:List AItem)(ih:Ih):Out:=pV P (some .ret) c ih
def cRefuse (c:Ctx)(_:List AItem)(_:Ih):Out:=.fail 121 c.fn 0
def yq (code:Code):CArm:=
 Code.rec (motive:=fun _=>CArm) cSkip (fun _ ops draw=>rW P ops draw) (fun a b _ _=>cSeq a b) (fun x a b _ _=>cCond x a b) (fun id b _=>cBlock id b) (fun b _=>wE b)
  (fun f ps a b _ _=>cRF P f ps a b) (fun id=>cExit P id) (fun b _=>cScope b) (fun _=>cSkip) (fun l=>cGoto P l) (cRet P) (fun _=>cRefuse) code
def wF (c:Ctx)(k:List AItem)(ih:Ih):Out:=
 match c.round with
 |some l=>(match getH c.H l with
  |.loop .ready p fn tm sz ps assign body defers=>mg (.loop .busy p fn tm sz ps assign body defers) c.H l fun H=>ih .run k { c with H }
  |_=>.fail 122 c.fn 0)
 |none=>.fail 123 c.fn 0
def iEnd (l:Nat)(c:Ctx)(k:List AItem)(ih:Ih):Out:=
 match getH c.H l with
 |.loop .busy ..=>.fail 124 c.fn 0
 |.loop _ p fn tm sz ps assign body defers=>mg (.loop .exhausted p fn tm sz ps assign body defers) c.H l fun H=>
   ih .run (match p with|some code=>.code code::k|none=>k) { c with H }
 |_=>.fail 125 c.fn 0
def iNo (c:Ctx)(_:List AItem)(_:Ih):Out:=.fail 126 c.fn 0
def resK (tm:T V)(H:T AObj):List ResultVar->List (Option Nat)->(List V->Res)->Res
 |.tmp t::r,_::s,k=>resK tm H r s fun l=>k (getU tm t::l)
 |.cell a _::r,none::s,k=>(match dK (getU tm a) H with|.val v=>resK tm H r s fun l=>k (v::l)|_=>.fail 0)
 |.cell a _::r,some n::s,k=>(match dL n (getU tm a) H with|.val v=>resK tm H r s fun l=>k (v::l)|_=>.fail 0)
 |[],_,k=>k []
 |_,_,_=>.fail 0
def resV (f:Nat)(tm:T V)(H:T AObj):Res:=
 match fnOf P f with
 |some fn=>resK tm H fn.results fn.sizes fun l=>(match l with|[v]=>.val v|l=>.val (.tup l))
 |none=>.fail 0
def rzOk (f:AFrame):Bool:=
 match f.mode,f.todo,f.defers with
 |.run,.steps (s::r) ops true::_,_::_=>quietB P ops s r
 |.run,.steps [] _ true::_,_::_=>false
 |_,_,_=>true
def unw (m:AMode)(todo:List AItem)(c:Ctx)(ih:Ih):Out:=
 match c.ds with
 |.collected l::ds=>(match getH c.H l with
  |.defd=>mg .no c.H l fun H=>ih m todo { c with ds,H }
  |_=>.fail 127 c.fn 0)
 |.call fn captured args::ds=>(match fn with
  |.func g=>cq P g (args++captured) .deferred ({ fn:=c.fn,tmps:=c.tm,size:=c.sz,todo,defers:=ds,mode:=m,kind:=c.kind,round:=c.round }::c.cs) c.H c.nx ih
  |_=>.fail 128 c.fn 0)
 |[]=>(match c.cs with
  |[]=>.st m todo c
  |f::fs=>(match m with
   |.run=>.fail 129 c.fn 0
   |.returning=>(match resV P c.fn c.tm c.H with
    |.val v=>uj P c v ih
    |_=>.fail 130 c.fn 0)
   |.panicking chain=>cond (rzOk P f&&(mf P c.fn).isSome) (ih (raise f.mode chain) f.todo (jW f fs c.H c.nx)) (.fail 134 f.fn 0)))
abbrev Hook:=Nat->List V->T AObj->Nat->Option (V×T AObj×Nat)
def panV:V->Option V|.tup [.bad,u]=>some u|_=>none
def iPan (c:Ctx)(u:V)(ih:Ih):Out:=
 match c.cs with
 |[]=>.fail 137 c.fn 0
 |f::fs=>cond (rzOk P f&&(mf P c.fn).isSome) (ih (raise f.mode [(u,false)]) f.todo (jW f fs c.H c.nx)) (.fail 136 c.fn 0)
def iCall (hk:Hook)(f:Nat)(args:List V)(c:Ctx)(k:List AItem)(ih:Ih):Out:=
 match hk f args c.H c.nx with
 |some (v,H,nx)=>(match panV v with|some u=>iPan P { c with H,nx } u ih|none=>uj P { c with H,nx } v ih)
 |none=>ih .run k c
def yr (hk:Hook)(it:AItem):CArm:=
 AItem.rec (motive:=fun _=>CArm) (fun code=>yq P code) (fun _=>cSkip) (fun b=>cLoop b) (fun _=>cSkip) (fun _ _ _=>iNo) (fun _=>iNo) (fun l=>iEnd l) wF (fun f args=>iCall P hk f args) (fun l c k _=>.st .run (.halt l::k) c) it
def sRun (hk:Hook)(todo:List AItem)(c:Ctx)(ih:Ih):Out:=
 List.rec (motive:=fun _=>Ctx->Ih->Out) (fun c ih=>pV P none c ih) (fun it k _ c ih=>yr P hk it c k ih) todo c ih
def step (hk:Hook)(ih:Ih)(m:AMode)(todo:List AItem)(c:Ctx):Out:=
 AMode.rec (motive:=fun _=>List AItem->Ctx->Ih->Out) (sRun P hk) (fun todo c ih=>unw P .returning todo c ih) (fun ch todo c ih=>unw P (.panicking ch) todo c ih) m todo c ih
def run (hk:Hook)(n:Nat):Ih:=Nat.rec (motive:=fun _=>Ih) (fun m todo c=>.st m todo c) (fun _ ih=>step P hk ih) n
end machine
end Go.Exo
end

noncomputable section
namespace Go.Exo
def putF {α:Type}(d v:α):Nat->T α->Nat->T α
 |0,t,_=>t
 |f+1,t,i=>match t,i with
  |.e,0=>.n v .e .e .e .e
  |.e,j+1=>(match j % 4 with
   |0=>.n d (putF d v f .e (j / 4)) .e .e .e
   |1=>.n d .e (putF d v f .e (j / 4)) .e .e
   |2=>.n d .e .e (putF d v f .e (j / 4)) .e
   |_=>.n d .e .e .e (putF d v f .e (j / 4)))
  |.n _ a b c x,0=>.n v a b c x
  |.n u a b c x,j+1=>(match j % 4 with
   |0=>.n u (putF d v f a (j / 4)) b c x
   |1=>.n u a (putF d v f b (j / 4)) c x
   |2=>.n u a b (putF d v f c (j / 4)) x
   |_=>.n u a b c (putF d v f x (j / 4)))
def put {α:Type}(d:α)(t:T α)(i:Nat)(v:α):T α:=putF d v (i+1) t i
section
variable {α:Type}(d v:α)
theorem gD (i:Nat):(T.e:T α).get d i=d:=rfl
theorem rX (u:α)(a b c x:T α):(T.n u a b c x).get d 0=u:=rfl
theorem ln (u:α)(a b c x:T α)(j:Nat):(T.n u a b c x).get d (j+1)=sel (a.get d) (b.get d) (c.get d) (x.get d) (j % 4) (j / 4):=rfl
theorem sel_0 {β:Type}(a b c e:β):sel a b c e 0=a:=rfl
theorem sel_1 {β:Type}(a b c e:β):sel a b c e 1=b:=rfl
theorem sel_2 {β:Type}(a b c e:β):sel a b c e 2=c:=rfl
theorem sel_3 {β:Type}(a b c e:β):sel a b c e 3=e:=rfl
theorem four (m:Nat)(h:m<4):m=0\/m=1\/m=2\/m=3:=by omega
theorem get_putF:∀ (f:Nat)(t:T α)(i:Nat),i<f->∀ j,(putF d v f t i).get d j=if j=i then v else t.get d j:=by
 intro f;induction f with
 |zero=>intro t i h;omega
 |succ f ih=>
  intro t i hi j;cases i with
  |zero=>
   cases t with
   |e=>cases j with
    |zero=>simp[putF,rX]
    |succ j=>
     simp only[putF,ln,gD];rcases four (j % 4) (Nat.mod_lt _ (by omega)) with h|h|h|h<;>rw[h]<;>simp[sel_0,sel_1,sel_2,sel_3,gD]
   |n u a b c x=>cases j with
    |zero=>simp[putF,rX]
    |succ j=>simp[putF,ln]
  |succ k=>
   have hk:k / 4<f:=by omega
   cases t with
   |e=>
    rcases four (k % 4) (Nat.mod_lt _ (by omega)) with h|h|h|h <;>
    ·simp only[putF,h]
     cases j with
     |zero=>simp[rX,gD]
     |succ j=>
      simp only[ln,gD];rcases four (j % 4) (Nat.mod_lt _ (by omega)) with q|q|q|q<;>rw[q]<;>simp only[sel_0,sel_1,sel_2,sel_3,gD,ih _ _ hk]
      all_goals first
       |(by_cases e:j / 4=k / 4
         ·rw[if_pos e,if_pos (by omega)]
         ·rw[if_neg e,if_neg (by omega)])
       |(rw[if_neg (by omega)])
   |n u a b c x=>
    rcases four (k % 4) (Nat.mod_lt _ (by omega)) with h|h|h|h <;>
    ·simp only[putF,h]
     cases j with
     |zero=>simp[rX]
     |succ j=>
      simp only[ln];rcases four (j % 4) (Nat.mod_lt _ (by omega)) with q|q|q|q<;>rw[q]<;>simp only[sel_0,sel_1,sel_2,sel_3,ih _ _ hk]
      all_goals first
       |(by_cases e:j / 4=k / 4
         ·rw[if_pos e,if_pos (by omega)]
         ·rw[if_neg e,if_neg (by omega)])
       |(rw[if_neg (by omega)])
theorem jZ (t:T α)(i j:Nat):(put d t i v).get d j=if j=i then v else t.get d j:=get_putF d v (i+1) t i (by omega) j
end
theorem setCR_eq (v:V)(t:T V)(i:Nat)(k:T V->Res):setCR v t i k=k (put .bad t i v):=by
 have h:∀ (n:Nat)(t:T V)(i:Nat)(k:T V->Res),Nat.rec (motive:=fun _=>(T V->Nat->(T V->Res)->Res)) zCR (stCR v) n t i k=k (putF .bad v n t i):=by
  intro n;induction n with
  |zero=>intro t i k;rfl
  |succ n ih=>
   intro t i k;have e:(Nat.rec (motive:=fun _=>(T V->Nat->(T V->Res)->Res)) zCR (stCR v) n:(T V->Nat->(T V->Res)->Res))=fun t i k=>k (putF .bad v n t i):=by funext t i k;exact ih t i k
   show stCR v n (Nat.rec (motive:=fun _=>(T V->Nat->(T V->Res)->Res)) zCR (stCR v) n) t i k=_;rw[e];cases i with
   |zero=>cases t<;>rfl
   |succ j=>
    cases t with
    |e=>
     show selECR _ _ _ _ (j % 4) _ _ _=_;rcases four (j % 4) (Nat.mod_lt _ (by omega)) with h|h|h|h<;>(simp only[putF,h];rfl)
    |n u a b c x=>
     show selNCR _ _ _ _ (j % 4) _ _ _ _ _ _ _ _=_;rcases four (j % 4) (Nat.mod_lt _ (by omega)) with h|h|h|h<;>(simp only[putF,h];rfl)
 exact h (i+1) t i k
theorem aJ (v:AObj)(t:T AObj)(i:Nat)(k:T AObj->Res):dJ v t i k=k (put .no t i v):=by
 have h:∀ (n:Nat)(t:T AObj)(i:Nat)(k:T AObj->Res),Nat.rec (motive:=fun _=>(T AObj->Nat->(T AObj->Res)->Res)) zHR (stHR v) n t i k=k (putF .no v n t i):=by
  intro n;induction n with
  |zero=>intro t i k;rfl
  |succ n ih=>
   intro t i k;have e:(Nat.rec (motive:=fun _=>(T AObj->Nat->(T AObj->Res)->Res)) zHR (stHR v) n:(T AObj->Nat->(T AObj->Res)->Res))=fun t i k=>k (putF .no v n t i):=by funext t i k;exact ih t i k
   show stHR v n (Nat.rec (motive:=fun _=>(T AObj->Nat->(T AObj->Res)->Res)) zHR (stHR v) n) t i k=_;rw[e];cases i with
   |zero=>cases t<;>rfl
   |succ j=>
    cases t with
    |e=>
     show selEHR _ _ _ _ (j % 4) _ _ _=_;rcases four (j % 4) (Nat.mod_lt _ (by omega)) with h|h|h|h<;>(simp only[putF,h];rfl)
    |n u a b c x=>
     show selNHR _ _ _ _ (j % 4) _ _ _ _ _ _ _ _=_;rcases four (j % 4) (Nat.mod_lt _ (by omega)) with h|h|h|h<;>(simp only[putF,h];rfl)
 exact h (i+1) t i k
theorem uk (v:V)(t:T V)(i:Nat)(k:T V->Out):setUO v t i k=k (put au t i v):=by
 have h:∀ (n:Nat)(t:T V)(i:Nat)(k:T V->Out),Nat.rec (motive:=fun _=>(T V->Nat->(T V->Out)->Out)) zUO (stUO v) n t i k=k (putF au v n t i):=by
  intro n;induction n with
  |zero=>intro t i k;rfl
  |succ n ih=>
   intro t i k;have e:(Nat.rec (motive:=fun _=>(T V->Nat->(T V->Out)->Out)) zUO (stUO v) n:(T V->Nat->(T V->Out)->Out))=fun t i k=>k (putF au v n t i):=by funext t i k;exact ih t i k
   show stUO v n (Nat.rec (motive:=fun _=>(T V->Nat->(T V->Out)->Out)) zUO (stUO v) n) t i k=_;rw[e];cases i with
   |zero=>cases t<;>rfl
   |succ j=>
    cases t with
    |e=>
     show selEUO _ _ _ _ (j % 4) _ _ _=_;rcases four (j % 4) (Nat.mod_lt _ (by omega)) with h|h|h|h<;>(simp only[putF,h];rfl)
    |n u a b c x=>
     show selNUO _ _ _ _ (j % 4) _ _ _ _ _ _ _ _=_;rcases four (j % 4) (Nat.mod_lt _ (by omega)) with h|h|h|h<;>(simp only[putF,h];rfl)
 exact h (i+1) t i k
theorem dN (v:AObj)(t:T AObj)(i:Nat)(k:T AObj->Out):mg v t i k=k (put .no t i v):=by
 have h:∀ (n:Nat)(t:T AObj)(i:Nat)(k:T AObj->Out),Nat.rec (motive:=fun _=>(T AObj->Nat->(T AObj->Out)->Out)) zHO (stHO v) n t i k=k (putF .no v n t i):=by
  intro n;induction n with
  |zero=>intro t i k;rfl
  |succ n ih=>
   intro t i k;have e:(Nat.rec (motive:=fun _=>(T AObj->Nat->(T AObj->Out)->Out)) zHO (stHO v) n:(T AObj->Nat->(T AObj->Out)->Out))=fun t i k=>k (putF .no v n t i):=by funext t i k;exact ih t i k
   show stHO v n (Nat.rec (motive:=fun _=>(T AObj->Nat->(T AObj->Out)->Out)) zHO (stHO v) n) t i k=_;rw[e];cases i with
   |zero=>cases t<;>rfl
   |succ j=>
    cases t with
    |e=>
     show selEHO _ _ _ _ (j % 4) _ _ _=_;rcases four (j % 4) (Nat.mod_lt _ (by omega)) with h|h|h|h<;>(simp only[putF,h];rfl)
    |n u a b c x=>
     show selNHO _ _ _ _ (j % 4) _ _ _ _ _ _ _ _=_;rcases four (j % 4) (Nat.mod_lt _ (by omega)) with h|h|h|h<;>(simp only[putF,h];rfl)
 exact h (i+1) t i k
theorem setF_eq {α β:Type}(d v:α):∀ (f:Nat)(t:T α)(i:Nat)(k:T α->β),T.setF d v f t i k=k (putF d v f t i):=by
 intro f;induction f with
 |zero=>intro t i k;rfl
 |succ f ih=>
  intro t i k;have e:(T.setF d v f:SetK α β)=fun t i k=>k (putF d v f t i):=by funext t i k;exact ih t i k
  cases t with
  |e=>
   show T.onE d v (T.setF d v f) i k=_;rw[e];cases i with
   |zero=>rfl
   |succ j=>
    show sel (β:=α->SetK α β->(T α->β)->Nat->β) _ _ _ _ (j % 4) _ _ _ _=_;rcases four (j % 4) (Nat.mod_lt _ (by omega)) with h|h|h|h<;>(simp only[putF,h];rfl)
  |n u a b c x=>
   show T.onN v (T.setF d v f) i k u a b c x=_;rw[e];cases i with
   |zero=>rfl
   |succ j=>
    show sel (β:=α->T α->T α->T α->T α->SetK α β->(T α->β)->Nat->β) _ _ _ _ (j % 4) _ _ _ _ _ _ _ _=_;rcases four (j % 4) (Nat.mod_lt _ (by omega)) with h|h|h|h<;>(simp only[putF,h];rfl)
theorem bO {α β:Type}(d v:α)(t:T α)(i:Nat)(k:T α->β):T.setK d v t i k=k (put d t i v):=setF_eq d v _ t i k
def putL {α:Type}(d:α):List α->Nat->T α->T α
 |[],_,t=>t
 |v::r,i,t=>putL d r (i+1) (put d t i v)
theorem bw {α β:Type}(d:α):∀ (l:List α)(i:Nat)(t:T α)(k:T α->β),T.ofK d l i t k=k (putL d l i t)
 |[],_,_,_=>rfl
 |v::r,i,t,k=>by
  show T.setK d v t i (fun t=>T.ofK d r (i+1) t k)=_;rw[bO,bw d r];rfl
theorem mO:∀ (l:List V)(i:Nat)(t:T V)(k:T V->Res),setL l i t k=k (putL .bad l i t)
 |[],_,_,_=>rfl
 |v::r,i,t,k=>by
  show setCR v t i (fun t=>setL r (i+1) t k)=_;rw[setCR_eq,mO r];rfl
theorem bY {α:Type}(d:α):∀ (l:List α)(i:Nat)(t:T α)(j:Nat),(putL d l i t).get d j=if i<=j then (l[j-i]?).getD (t.get d j) else t.get d j
 |[],i,t,j=>by simp[putL]
 |v::r,i,t,j=>by
  rw[putL,bY d r,jZ];by_cases h:i<=j
  ·rw[if_pos h]
   by_cases e:j=i
   ·subst e;rw[if_neg (by omega)];simp
   ·have h1:i+1<=j:=by omega
    rw[if_pos h1,if_neg e];have:j-i=(j-(i+1))+1:=by omega
    rw[this];simp
  ·rw[if_neg h,if_neg (by omega),if_neg (by omega)]
theorem aD (t:T V)(i j:Nat)(v:V):getU (put au t i v) j=if j=i then v else getU t j:=jZ _ _ _ _ _
theorem ar (t:T AObj)(i j:Nat)(v:AObj):getH (put .no t i v) j=if j=i then v else getH t j:=jZ _ _ _ _ _
theorem bp {α:Type}(d:α)(t:T α):∀ n i,(t.range d n i).length=n
 |0,_=>rfl
 |n+1,i=>by show (T.range d t n (i+1)).length+1=_;rw[bp d t n]
theorem bP {α:Type}(d:α)(t:T α):∀ n i j,j<n->(t.range d n i)[j]? = some (t.get d (i+j))
 |0,_,_,h=>absurd h (by omega)
 |n+1,i,0,_=>rfl
 |n+1,i,j+1,h=>by
  show (T.range d t n (i+1))[j]? = _;rw[bP d t n (i+1) j (by omega)];congr 2;omega
end Go.Exo
end

noncomputable section
namespace Go.Exo
theorem r6 (k:IntKind)(n:Int)(h:k.min<=n/\n<=k.max):k.wrap n=n:=by
 obtain⟨h1,h2⟩:=h;cases k<;>simp[IntKind.min,IntKind.max,IntKind.wrap,IntKind.signed,IntKind.bits] at h1 h2 ⊢ <;> omega
theorem dO (k:IntKind)(n:Int):gt k n=k.wrap n:=by
 cases n with
 |ofNat m=>
  simp only[gt];cases h:Nat.ble m.succ (limN k) with
  |false=>rfl
  |true=>
   have:=ab h;refine (r6 k _ ?_).symm;cases k<;>simp only[limN] at this<;>simp[IntKind.min,IntKind.max,IntKind.signed,IntKind.bits]<;>omega
 |negSucc m=>
  simp only[gt];cases h:Nat.ble m.succ (limM k) with
  |false=>rfl
  |true=>
   have:=ab h;refine (r6 k _ ?_).symm;cases k<;>simp only[limM] at this<;>first|omega|(simp[IntKind.min,IntKind.max,IntKind.signed,IntKind.bits]<;>omega)
theorem r7 (a b:Int):addF a b=a+b:=by cases a<;>cases b<;>rfl
theorem mQ (a b:Int):subF a b=a-b:=by
 cases a<;>cases b<;>try rfl
 rename_i m n;simp only[subF];cases h:Nat.ble n m with
 |true=>
  have h1:=ab h;show Int.ofNat (m-n)=(m:Int)-n;simp only[Int.ofNat_eq_natCast];omega
 |false=>
  have h1:¬ n<=m:=fun hh=>by rw[an hh] at h;cases h
  show Int.negSucc (n-m-1)=(m:Int)-n;rw[Int.negSucc_eq];omega
theorem fw (a b:Int):ltF a b=decide (a<b):=by
 cases a<;>cases b<;>simp only[ltF]
 ·rename_i m n
  rw[Bool.eq_iff_iff,Nat.ble_eq];simp;omega
 ·rename_i m n;simp;omega
 ·rename_i m n;simp;omega
 ·rename_i m n
  rw[Bool.eq_iff_iff,Nat.ble_eq];simp[Int.negSucc_eq];omega
theorem gE (a b:Int):eqF a b=(a==b):=by
 cases a<;>cases b<;>simp only[eqF]
 ·rw[Bool.eq_iff_iff,Nat.beq_eq];simp;omega
 ·simp
 ·simp
 ·rw[Bool.eq_iff_iff,Nat.beq_eq];simp
theorem isZ_eq (a:Int):isZ a=decide (a=0):=by
 cases a<;>simp only[isZ]
 ·rw[Bool.eq_iff_iff,Nat.beq_eq];simp
 ·simp
theorem fx (k k':IntKind):(Nat.beq (kNum k) (kNum k')=true)<->k=k':=by
 rw[Nat.beq_eq];cases k<;>cases k'<;>simp[kNum]
theorem bt:∀ k n,(sB k n).length=k
 |0,_=>rfl
 |k+1,n=>by simp[sB,bt k]
theorem nL:∀ l:List UInt8,cG l<256 ^ l.length
 |[]=>by simp[cG]
 |b::r=>by
  have:=nL r;have hb:b.toNat<256:=b.toNat_lt;simp only[cG,List.length_cons,Nat.pow_succ];show b.toNat+256*cG r<_;omega
theorem nM:∀ l:List UInt8,sB l.length (cG l)=l
 |[]=>rfl
 |b::r=>by
  have hb:b.toNat<256:=b.toNat_lt;simp only[List.length_cons,sB];have e1:cG (b::r)=b.toNat+256*cG r:=rfl;have e2:cG (b::r) % 256=b.toNat:=by rw[e1];omega
  have e3:cG (b::r) / 256=cG r:=by rw[e1];omega
  rw[e2,e3,nM r];simp
theorem nN:∀ k n,n<256 ^ k->cG (sB k n)=n
 |0,n,h=>by simp at h;subst h;rfl
 |k+1,n,h=>by
  show (UInt8.ofNat (n % 256)).toNat+256*cG (sB k (n / 256))=n;rw[nN k (n / 256) (by rw[Nat.pow_succ] at h;omega)];have:(UInt8.ofNat (n % 256)).toNat=n % 256:=by simp
  omega
theorem sB_inj {k n n':Nat}(h:n<256 ^ k)(h':n'<256 ^ k)(e:sB k n=sB k n'):n=n':=by
 rw[<- nN k n h,<- nN k n' h',e]
theorem pY (n i:Nat):jf n i=n / 256 ^ i % 256:=by
 show Nat.land (n >>> (8*i)) 255=_;have:(255:Nat)=2 ^ 8-1:=rfl;rw[this];show (n >>> (8*i)) &&& (2 ^ 8-1)=_;rw[Nat.and_two_pow_sub_one_eq_mod,Nat.shiftRight_eq_div_pow,Nat.pow_mul]
theorem wL:∀ k n i,i<k->(sB k n)[i]? = some (UInt8.ofNat (n / 256 ^ i % 256))
 |0,_,_,h=>absurd h (by omega)
 |k+1,n,0,_=>by simp[sB]
 |k+1,n,i+1,h=>by
  show (sB k (n / 256))[i]? = _;rw[wL k (n / 256) i (by omega),Nat.div_div_eq_div_mul,<- Nat.pow_succ']
theorem r8:∀ j k n,(sB (j+k) n).drop j=sB k (n / 256 ^ j)
 |0,k,n=>by simp
 |j+1,k,n=>by
  have:j+1+k=(j+k)+1:=by omega
  rw[this];show (sB (j+k) (n / 256)).drop j=_;rw[r8 j k,Nat.div_div_eq_div_mul,<- Nat.pow_succ']
theorem r9:∀ k n,sB k (n % 256 ^ k)=sB k n
 |0,_=>rfl
 |k+1,n=>by
  have h1:n % 256 ^ (k+1) % 256=n % 256:=Nat.mod_mod_of_dvd _ ⟨256 ^ k,by rw[Nat.pow_succ,Nat.mul_comm]⟩
  have h2:n % 256 ^ (k+1) / 256=n / 256 % 256 ^ k:=by
   rw[Nat.pow_succ,Nat.mul_comm,Nat.mod_mul_right_div_self]
  simp only[sB,h1,h2,r9 k]
theorem sd:∀ m k n,m<=k->(sB k n).take m=sB m n
 |0,_,_,_=>by simp[sB]
 |m+1,0,_,h=>absurd h (by omega)
 |m+1,k+1,n,h=>by simp[sB,sd m k (n / 256) (by omega)]
theorem yu (n lo m:Nat):cutS n lo m=n / 256 ^ lo % 256 ^ m:=by
 show (n >>> (8*lo)) % (256 ^ m)=_;rw[Nat.shiftRight_eq_div_pow,Nat.pow_mul]
theorem cutS_lt (n lo m:Nat):cutS n lo m<256 ^ m:=by rw[yu];exact Nat.mod_lt _ (Nat.pow_pos (by omega))
theorem sB_cut (k n lo hi:Nat)(h1:lo<=hi)(h2:hi<=k):((sB k n).drop lo).take (hi-lo)=sB (hi-lo) (cutS n lo (hi-lo)):=by
 have e:k=lo+(k-lo):=by omega
 rw[e,r8,sd _ _ _ (by omega),yu,r9]
theorem pZ:∀ k n j m,n<256 ^ k->sB k n++sB j m=sB (k+j) (n+m*256 ^ k)
 |0,n,j,m,h=>by simp at h;subst h;simp[sB]
 |k+1,n,j,m,h=>by
  have e:k+1+j=(k+j)+1:=by omega
  rw[e];have h1:(n+m*256 ^ (k+1)) % 256=n % 256:=by rw[Nat.pow_succ,<- Nat.mul_assoc,Nat.add_mul_mod_self_right]
  have h2:(n+m*256 ^ (k+1)) / 256=n / 256+m*256 ^ k:=by rw[Nat.pow_succ,<- Nat.mul_assoc,Nat.add_mul_div_right _ _ (by omega)]
  simp only[sB,h1,h2,List.cons_append];rw[pZ k (n / 256) j m (by rw[Nat.pow_succ] at h;omega)]
theorem yv (l n m:Nat):catS l n m=n+m*256 ^ l:=by
 show n+m <<< (8*l)=_;rw[Nat.shiftLeft_eq,Nat.pow_mul]
theorem catS_lt (l n j m:Nat)(h:n<256 ^ l)(h':m<256 ^ j):catS l n m<256 ^ (l+j):=by
 rw[yv,Nat.pow_add];have:m+1<=256 ^ j:=h'
 calc n+m*256 ^ l<256 ^ l+m*256 ^ l:=by omega
  _=(m+1)*256 ^ l:=by rw[Nat.add_mul];omega
  _<=256 ^ j*256 ^ l:=Nat.mul_le_mul_right _ this
  _=256 ^ l*256 ^ j:=Nat.mul_comm _ _
end Go.Exo
end
