/-
  EXO, part A: the abstract machine's data and its steps. Own text. An abstract value stands for the model's values whose
  addresses are named by places; the kernel evaluates the machine, so the hot parts are written by recursors.
-/
import GoSem.Step
set_option linter.all false
noncomputable section
namespace Go.Exo
def aa:=@Nat.eq_of_beq_eq_true
def ab:=@Nat.le_of_ble_eq_true
def ae:=@List.getElem?_eq_some_iff
def ag:=@Array.getElem?_eq_some_iff
def ah:=@List.getElem?_eq_getElem
def ai:=@List.mem_cons_of_mem
def aj:=@List.mem_cons_self
def ak:=@List.getD_cons_zero
def al:=@List.getD_cons_succ
def am:=@Nat.le_refl
def an:=@Nat.ble_eq_true_of_le
end Go.Exo
namespace Go.Exo
inductive T (α:Type) where
 |e:T α
 |n (v:α)(a b c d:T α):T α
def sel {β:Type}(a b c d:β)(m:Nat):β:=
 Nat.rec (motive:=fun _=>β) a (fun m _=>Nat.rec (motive:=fun _=>β) b (fun m _=>Nat.rec (motive:=fun _=>β) c (fun _ _=>d) m) m) m
def T.get {α:Type}(d:α)(t:T α):Nat->α:=
 T.rec (motive:=fun _=>Nat->α) (fun _=>d)
  (fun v _ _ _ _ ga gb gc gd i=>Nat.rec (motive:=fun _=>α) v (fun j _=>sel ga gb gc gd (Nat.mod j 4) (Nat.div j 4)) i) t
abbrev SetK (α β:Type):=T α->Nat->(T α->β)->β
section
variable {α β:Type}
def T.eA (d:α)(ih:SetK α β)(k:T α->β)(r:Nat):β:=ih .e r fun x=>k (.n d x .e .e .e)
def T.eB (d:α)(ih:SetK α β)(k:T α->β)(r:Nat):β:=ih .e r fun x=>k (.n d .e x .e .e)
def T.eC (d:α)(ih:SetK α β)(k:T α->β)(r:Nat):β:=ih .e r fun x=>k (.n d .e .e x .e)
def T.eD (d:α)(ih:SetK α β)(k:T α->β)(r:Nat):β:=ih .e r fun x=>k (.n d .e .e .e x)
def T.onE (d v:α)(ih:SetK α β)(i:Nat)(k:T α->β):β:=
 Nat.rec (motive:=fun _=>β) (k (.n v .e .e .e .e))
  (fun j _=>sel (β:=α->SetK α β->(T α->β)->Nat->β) T.eA T.eB T.eC T.eD (Nat.mod j 4) d ih k (Nat.div j 4)) i
def T.nA (u:α)(a b c e:T α)(ih:SetK α β)(k:T α->β)(r:Nat):β:=ih a r fun x=>k (.n u x b c e)
def T.nB (u:α)(a b c e:T α)(ih:SetK α β)(k:T α->β)(r:Nat):β:=ih b r fun x=>k (.n u a x c e)
def T.nC (u:α)(a b c e:T α)(ih:SetK α β)(k:T α->β)(r:Nat):β:=ih c r fun x=>k (.n u a b x e)
def T.nD (u:α)(a b c e:T α)(ih:SetK α β)(k:T α->β)(r:Nat):β:=ih e r fun x=>k (.n u a b c x)
def T.onN (v:α)(ih:SetK α β)(i:Nat)(k:T α->β)(u:α)(a b c e:T α):β:=
 Nat.rec (motive:=fun _=>β) (k (.n v a b c e))
  (fun j _=>sel (β:=α->T α->T α->T α->T α->SetK α β->(T α->β)->Nat->β) T.nA T.nB T.nC T.nD (Nat.mod j 4) u a b c e ih k (Nat.div j 4)) i
def T.setF (d v:α)(fuel:Nat):SetK α β:=
 Nat.rec (motive:=fun _=>SetK α β) (fun t _ k=>k t)
  (fun _ ih t i k=>T.rec (motive:=fun _=>β) (T.onE d v ih i k) (fun u a b c e _ _ _ _=>T.onN v ih i k u a b c e) t) fuel
def cnd {β:Type}(b:Bool)(x y:β):β:=Bool.rec (motive:=fun _=>β) y x b
def T.setK (d v:α)(t:T α)(i:Nat)(k:T α->β):β:=T.setF d v (Nat.succ i) t i k
end
def T.ofK {α β:Type}(d:α)(l:List α):Nat->T α->(T α->β)->β:=
 List.rec (motive:=fun _=>Nat->T α->(T α->β)->β) (fun _ t k=>k t) (fun v _ ih i t k=>T.setK d v t i fun t=>ih (Nat.succ i) t k) l
def T.range {α:Type}(d:α)(t:T α)(n:Nat):Nat->List α:=
 Nat.rec (motive:=fun _=>Nat->List α) (fun _=>[]) (fun _ ih i=>t.get d i::ih (Nat.succ i)) n
inductive Kd where
 |int (k:IntKind)
 |bool
 |str
 |sl (e:TypeId)
 |raw
inductive X where
 |var (l i:Nat)(k:Kd)
 |int (k:IntKind)(n:Int)
 |bool (b:Bool)
 |str (l n:Nat)
 |nil (e:TypeId)
 |bin (op:BinOp)(a b:X)
 |un (op:UnOp)(a:X)
 |conv (k:IntKind)(a:X)
 |len (a:X)
 |inr (i n:X)
 |rng (lo hi n:X)
 |cmp (a b:X)
 |atx (s i:X)
 |sub (s lo hi:X)
 |el (s i:X)(j:Nat)(k:Kd)
 |cut (s lo hi:X)
 |isnil (s:X)
 |snoc (s row:X)
 |cat (s t:X)
 |app (l f:Nat)(args:X)(k:Kd)
 |nilA
 |cons (a r:X)
class Sx where
 row:TypeId->List Kd
class Dc where
 dec:X->Option Bool
inductive V where
 |bool (b:Bool)
 |int (k:IntKind)(n:Int)
 |str (len n:Nat)
 |nilp
 |ptr (l off:Nat)
 |nils
 |slice (l off len:Nat)(cap:Option Nat)(esz:Nat)
 |nilm
 |map (l:Nat)
 |func (fn:Fn)(first captured:List V)
 |nilf
 |iface (t:TypeId)(v:V)
 |nili
 |agg (cs:List V)
 |tup (vs:List V)
 |sym (l:Nat)
 |top (l:Nat)
 |emp (l esz:Nat)
 |x (t:X)
 |xa (s i:X)(j:Nat)
 |lst (l:Nat)(t:X)
 |junk
 |bad
def au:V:=.tup []
def cG:List UInt8->Nat
 |[]=>0
 |b::r=>Nat.add b.toNat (Nat.mul 256 (cG r))
def ofVal:Nat->Value->V
 |_,.bool b=>.bool b
 |_,.int k n=>.int k n
 |_,.string s=>.str s.data.toList.length (cG s.data.toList)
 |_,.pointer none=>.nilp
 |_,.slice none 0 0=>.nils
 |_,.map none=>.nilm
 |_,.nilFunc=>.nilf
 |_,.nilIface=>.nili
 |n+1,.iface t v=>.iface t (ofVal n v)
 |n+1,.agg cs=>.agg (cs.toList.map (ofVal n))
 |n+1,.tuple vs=>.tup (vs.toList.map (ofVal n))
 |_,.func (.func f) ⟨[]⟩ ⟨[]⟩=>.func (.func f) [] []
 |_,_=>.bad
def V.cells:V->List V
 |.agg cs=>cs
 |.junk=>[]
 |v=>[v]
def V.real:V->Bool
 |.junk=>false
 |_=>true
def V.one:V->Bool
 |.agg _|.tup _|.bad|.top _|.junk=>false
 |_=>true
mutual
def V.noX:V->Bool
 |.x _|.xa _ _ _|.lst _ _|.junk=>false
 |.func _ a b=>V.noXL a&&V.noXL b
 |.iface _ v=>v.noX
 |.agg cs=>V.noXL cs
 |.tup cs=>V.noXL cs
 |_=>true
def V.noXL:List V->Bool
 |[]=>true
 |v::r=>v.noX&&V.noXL r
end
inductive AObj where
 |no
 |cells (vs:T V)(len:Nat)(elem:TypeId)(cls rel fz:Nat)(ro:Bool)
 |map (es:List (V×V×Nat))(clock:Nat)
 |mapR (es:List (V×V×Nat))(clock:Nat)
 |mit0 (m since:Nat)
 |mit (m born clock:Nat)
 |siter (len n pos:Nat)
 |loop (st:LoopState)(pending:Option Code)(fn:Nat)(tmps:T V)(size:Nat)(params:List Nat)(assign body:Code)(defers:Nat)
 |defd
 |cls (cur:Nat)(lim:Option Nat)(mk:Nat)
 |keep (s:Nat)
 |own (e:TypeId)
def nj (elem:TypeId)(l:List V):AObj:=T.ofK .bad l 0 .e fun vs=>.cells vs l.length elem 0 0 0 false
inductive AO where
 |tmp (t:Nat)
 |val (v:V)
def ap:Operand->AO
 |.tmp t=>.tmp t
 |.const v=>.val (ofVal 8 v)
 |.global g=>.val (.ptr g 0)
 |.func f=>.val (.func (.func f) [] [])
inductive AOp where
 |mv (x:AO)
 |pick (c a b:AO)
 |alloc (vs:T V)(len:Nat)(elem:TypeId)
 |box (elem:TypeId)(x:AO)
 |build (zero:List V)(parts:List (Nat×Nat×AO))
 |bslice (elem:TypeId)(esz len:Nat)(zero:List V)(parts:List (Nat×Nat×AO))
 |load1 (x:AO)
 |loadN (n:Nat)(x:AO)
 |store (n:Nat)(a x:AO)
 |nilck (x:AO)
 |bin (op:BinOp)(x y:AO)
 |eqv (neg cst:Bool)(d:TypeDesc)(x y:AO)
 |un (op:UnOp)(x:AO)
 |convI (k:IntKind)(x:AO)
 |convSB (elem:TypeId)(x:AO)
 |convBS (x:AO)
 |mkIface (t:TypeId)(x:AO)
 |mkFunc (fn:Fn)(first captured:List AO)
 |mkMap
 |slStr (x:AO)(lo hi:Option AO)
 |slSl (esz:Nat)(x:AO)(lo hi mx:Option AO)
 |slArr (n esz:Nat)(x:AO)(lo hi:Option AO)
 |faddr (off:Nat)(x:AO)
 |field (size:Option Nat)(off:Nat)(x:AO)
 |idxSl (esz:Nat)(x i:AO)
 |idxArr (n esz:Nat)(x i:AO)
 |idxStr (x i:AO)
 |lookup (kd:TypeDesc)(ks:List TypeDesc)(zero:V)(ok:Bool)(x k:AO)
 |mupd (kd:TypeDesc)(ks:List TypeDesc)(m k v:AO)
 |rangeS (x:AO)
 |nextS (x:AO)
 |tassert (t:TypeId)(ok:Bool)(zero:V)(x:AO)
 |extract (x:AO)(i:Nat)
 |call (f:AO)(args:List AO)
 |extIB (x y:AO)
 |len (shape:Nat)(x:AO)
 |append (elem:TypeId)(esz bytes:Nat)(zero:List V)(s x:AO)
 |maxI (x y:AO)
 |recover
 |defer (f:AO)(args:List AO)
 |panic (x:AO)
 |rangeM (x:AO)
 |entryM (x:AO)
 |mapEnt (kd:TypeDesc)(ks:List TypeDesc)(zero:V)(m k:AO)
 |entSt (m s v:AO)
 |idxAgg (n esz:Nat)(agg:Bool)(x i:AO)
 |capv (x:AO)
 |appN (elem:TypeId)(esz bytes:Nat)(zero:List V)(s x:AO)
 |clearS (esz:Nat)(zero:List V)(x:AO)
 |extCmp (x y:AO)
 |eqAgg (neg:Bool)(ks:List TypeDesc)(x y:AO)
 |asg (x:AO)
 |mdel (kd:TypeDesc)(ks:List TypeDesc)(m k:AO)
 |nextM (x:AO)
 |mkSl (elem:TypeId)(esz bytes:Nat)(zero:List V)(l c:AO)
 |bad
mutual
def V.fine:V->Bool
 |.bad|.sym _|.top _|.x _|.xa _ _ _|.lst _ _|.junk=>false
 |.iface _ v=>v.fine
 |.agg cs=>V.fineL cs
 |.tup cs=>V.fineL cs
 |.func (.func _) a b=>V.fineL a&&V.fineL b
 |.func _ _ _=>false
 |.ptr _ _|.slice _ _ _ _ _|.map _|.emp _ _=>false
 |_=>true
def V.fineL:List V->Bool
 |[]=>true
 |v::r=>v.fine&&V.fineL r
end
def isC:Operand->Bool|.const _=>true|_=>false
section comp
variable (P:Program)
def sufs {α:Type}:Nat->List α->List (List α)
 |0,_=>[]
 |n+1,l=>l::sufs n (l.drop 32)
def nthO {α:Type}:List α->Nat->Option α
 |[],_=>none
 |a::_,0=>some a
 |_::r,n+1=>nthO r n
def tyT:T (List TypeInfo):=T.ofK [] (sufs (Nat.succ (Nat.div P.types.toList.length 32)) P.types.toList) 0 .e id
def fnT:T (List Func):=T.ofK [] (sufs (Nat.succ (Nat.div P.funcs.toList.length 32)) P.funcs.toList) 0 .e id
def aT (t:TypeId):Option TypeInfo:=nthO ((tyT P).get [] (Nat.div t 32)) (Nat.mod t 32)
def mf (f:FuncId):Option Func:=nthO ((fnT P).get [] (Nat.div f 32)) (Nat.mod f 32)
def undT (t:TypeId):Option TypeDesc:=
 match aT P t with
 |some i=>(match i.desc with
  |.named _ u=>(match aT P u with|some j=>some j.desc|none=>none)
  |d=>some d)
 |none=>none
def aggD:TypeDesc->Bool|.struct _|.array _ _=>true|_=>false
def tyOf (t:TypeId):Option (TypeDesc×TypeInfo):=
 match undT P t with
 |some d=>(match aT P t with|some i=>some (d,i)|none=>none)
 |none=>none
def aG (i:TypeInfo):Option V:=
 match i.zero with
 |some z=>cond (ofVal 8 z).fine (some (ofVal 8 z)) none
 |none=>none
def dg (t:TypeId):Bool:=match undT P t with|some d=>aggD d|none=>false
def eN (t:TypeId):Nat:=match aT P t with|some i=>i.size|none=>0
def aR (place:Nat->Option (Nat×Nat)):List (Nat×Operand)->Option (List (Nat×Nat×AO))
 |[]=>some []
 |(i,x)::r=>match place i,aR place r with
  |some (off,size),some l=>some ((off,size,ap x)::l)
  |_,_=>none
def br (l:List V):Nat->List V
 |0=>[]
 |n+1=>l++br l n
def gq (fs:List Field):Bool:=fs.all fun f=>(aT P f.type).isSome
def rA:TypeDesc->Bool|.int _|.string|.bool=>true|_=>false
def gh:List Field->Nat->Option (List TypeDesc)
 |[],_=>some []
 |f::r,i=>cond (Nat.beq f.offset i&&f.name != "_") (match undT P f.type,gh r (Nat.succ i) with
  |some d,some l=>cond (rA d) (some (d::l)) none
  |_,_=>none) none
def iQ (t:TypeId)(fs:Array Field):Option (List TypeDesc):=
 match gh P fs.toList 0 with
 |some l=>cond (P.stoodInHeld t) none (some l)
 |none=>none
def keyD (t:TypeId):TypeDesc->Option (List TypeDesc)|.int _|.string|.bool=>some []|.struct fs=>iQ P t fs|_=>none
def gr (c:Call):AOp:=
 match c.callee with
 |.value x=>(match x with
  |.func f=>(match mf P f with
   |some fn=>(match fn.body with
    |some _=>.call (ap x) (c.args.toList.map ap)
    |none=>(match c.args.toList with
     |[y,z]=>cond (fn.name == "internal/bytealg.IndexByteString" && (fn.origin == "" || fn.origin == "internal/bytealg.IndexByteString")) (.extIB (ap y) (ap z)) (cond (fn.name == "internal/bytealg.abigen_runtime_cmpstring" && (fn.origin == "" || fn.origin == "internal/bytealg.abigen_runtime_cmpstring")) (.extCmp (ap y) (ap z)) .bad)
     |_=>.bad))
   |none=>.bad)
  |x=>.call (ap x) (c.args.toList.map ap))
 |.builtin .len=>(match c.args.toList,c.argTypes.toList with
  |[x],[t]=>(match undT P t with|some .string=>.len 0 (ap x)|some (.slice _)=>.len 1 (ap x)|some (.map _ _)=>.len 2 (ap x)|_=>.bad)
  |_,_=>.bad)
 |.builtin .append=>(match c.args.toList,c.argTypes.toList with
  |[s,x],[t,u]=>(match undT P t,undT P u with
   |some (.slice e),some (.slice _)=>(match aT P e with
    |some i=>(match aG i with|some z=>cond (Nat.beq z.cells.length i.size) (.append e i.size i.bytes z.cells (ap s) (ap x)) .bad|none=>.bad)
    |none=>.bad)
   |some (.slice e),some (.int _)=>(match aT P e with
    |some i=>(match aG i with|some z=>cond (Nat.beq z.cells.length i.size) (.appN e i.size i.bytes z.cells (ap s) (ap x)) .bad|none=>.bad)
    |none=>.bad)
   |_,_=>.bad)
  |_,_=>.bad)
 |.builtin .cap=>(match c.args.toList,c.argTypes.toList with
  |[x],[t]=>(match undT P t with|some (.slice _)=>.capv (ap x)|_=>.bad)
  |_,_=>.bad)
 |.builtin .clear=>(match c.args.toList,c.argTypes.toList with
  |[x],[t]=>(match undT P t with
   |some (.slice e)=>(match aT P e with
    |some i=>(match aG i with|some z=>cond (Nat.beq z.cells.length i.size) (.clearS i.size z.cells (ap x)) .bad|none=>.bad)
    |none=>.bad)
   |_=>.bad)
  |_,_=>.bad)
 |.builtin .delete=>(match c.args.toList,c.argTypes.toList with
  |[m,k],[t,_]=>(match undT P t with
   |some (.map kt _)=>(match undT P kt with|some dk=>(match keyD P kt dk with|some ks=>.mdel dk ks (ap m) (ap k)|none=>.bad)|none=>.bad)
   |_=>.bad)
  |_,_=>.bad)
 |.builtin .max=>(match c.args.toList with|[x,y]=>.maxI (ap x) (ap y)|_=>.bad)
 |.builtin .recover=>.recover
 |_=>.bad
def ay (o:Op):AOp:=
 match o with
 |.move x=>.mv (ap x)
 |.assign x=>.asg (ap x)
 |.pick c a b=>.pick (ap c) (ap a) (ap b)
 |.alloc t=>(match tyOf P t with|some (_,i)=>(match aG i with|some z=>T.ofK .bad z.cells 0 .e fun vs=>.alloc vs z.cells.length t|none=>.bad)|none=>.bad)
 |.box t x=>.box t (ap x)
 |.build t ps=>
  (match tyOf P t with
  |some (d,i)=>(match aG i,d with
   |some z,.struct fs=>cond (gq P fs.toList) (match aR (fun i=>(fs[i]?).map fun f=>(f.offset,eN P f.type)) ps.toList with|some l=>.build z.cells l|none=>.bad) .bad
   |some z,.array _ e=>(match aT P e with
    |some ie=>(match aR (fun i=>some (i*ie.size,ie.size)) ps.toList with|some l=>.build z.cells l|none=>.bad)
    |none=>.bad)
   |_,_=>.bad)
  |none=>.bad)
 |.buildSlice t len ps=>
  (match undT P t with
  |some (.slice e)=>(match aT P e with
   |some i=>(match aG i with
    |some z=>cond (Nat.ble (len*i.size) 16777216&&Nat.beq z.cells.length i.size) (match aR (fun j=>some (j*i.size,i.size)) ps.toList with|some l=>.bslice e i.size len (br z.cells len) l|none=>.bad) .bad
    |none=>.bad)
   |none=>.bad)
  |_=>.bad)
 |.load t x=>(match tyOf P t with|some (d,i)=>cond (aggD d) (.loadN i.size (ap x)) (.load1 (ap x))|none=>.bad)
 |.store t a x=>(match aT P t with|some i=>.store i.size (ap a) (ap x)|none=>.bad)
 |.nilCheck x=>.nilck (ap x)
 |.binOp op t x y _=>
  (match undT P t with
  |some (.int _)|some .string=>.bin op (ap x) (ap y)
  |some (.struct fs)=>(match iQ P t fs with|some l=>(match op with|.eql=>.eqAgg false l (ap x) (ap y)|.neq=>.eqAgg true l (ap x) (ap y)|_=>.bad)|none=>.bad)
  |some d=>(match op with|.eql=>.eqv false (isC x || isC y) d (ap x) (ap y)|.neq=>.eqv true (isC x || isC y) d (ap x) (ap y)|_=>.bad)
  |none=>.bad)
 |.unOp op _ x=>.un op (ap x)
 |.convert a b x=>
  (match undT P a,undT P b with
  |some (.int _),some (.int k)=>.convI k (ap x)
  |some .string,some (.slice e)=>(match undT P e with|some (.int .u8)=>.convSB e (ap x)|_=>.bad)
  |some (.slice e),some .string=>(match undT P e with|some (.int .u8)=>.convBS (ap x)|_=>.bad)
  |_,_=>.bad)
 |.makeInterface t x=>(match undT P t with|some (.interface _)|none=>.bad|_=>.mkIface t (ap x))
 |.makeFunc fn f c=>(match fn with|.func _=>.mkFunc fn (f.toList.map ap) (c.toList.map ap)|_=>.bad)
 |.makeMap _ none=>.mkMap
 |.makeSlice t l c=>(match undT P t with
  |some (.slice e)=>(match aT P e with
   |some i=>(match aG i with
    |some z=>cond (Nat.beq z.cells.length i.size) (.mkSl e i.size i.bytes z.cells (ap l) (ap c)) .bad
    |none=>.bad)
   |none=>.bad)
  |_=>.bad)
 |.slice t x lo hi mx=>
  (match undT P t with
  |some .string=>(match mx with|none=>.slStr (ap x) (lo.map ap) (hi.map ap)|_=>.bad)
  |some (.slice e)=>(match aT P e with|some i=>.slSl i.size (ap x) (lo.map ap) (hi.map ap) (mx.map ap)|none=>.bad)
  |_=>.bad)
 |.fieldAddr t x f=>(match undT P t with
  |some (.struct fs)=>(match fs[f]? with
   |some fd=>(match aT P fd.type with|some i=>cond (Nat.beq i.size 0) .bad (.faddr fd.offset (ap x))|none=>.bad)
   |none=>.bad)
  |_=>.bad)
 |.field t x f=>(match undT P t with
  |some (.struct fs)=>(match fs[f]? with
   |some fd=>(match tyOf P fd.type with|some (d,i)=>.field (cond (aggD d) (some i.size) none) fd.offset (ap x)|none=>.bad)
   |none=>.bad)
  |_=>.bad)
 |.indexAddr t x i=>(match undT P t with
  |some (.slice e)=>(match aT P e with|some ie=>.idxSl ie.size (ap x) (ap i)|none=>.bad)
  |some (.array n e)=>(match aT P e with|some ie=>.idxArr n ie.size (ap x) (ap i)|none=>.bad)
  |_=>.bad)
 |.index t x i=>(match undT P t with
  |some .string=>.idxStr (ap x) (ap i)
  |some (.array n e)=>(match tyOf P e with|some (d,ie)=>.idxAgg n ie.size (aggD d) (ap x) (ap i)|none=>.bad)
  |_=>.bad)
 |.mapEntry t m k=>(match undT P t with
  |some (.map kt e)=>(match undT P kt,aT P e with
   |some dk,some ie=>(match aG ie with|some z=>(match keyD P kt dk with|some ks=>.mapEnt dk ks z (ap m) (ap k)|none=>.bad)|none=>.bad)
   |_,_=>.bad)
  |_=>.bad)
 |.entryStore _ m s v=>.entSt (ap m) (ap s) (ap v)
 |.entry x=>.entryM (ap x)
 |.lookup t x k ok=>(match undT P t with
  |some (.map kt e)=>(match undT P kt,aT P e with
   |some dk,some ie=>(match aG ie with|some z=>(match keyD P kt dk with|some ks=>.lookup dk ks z ok (ap x) (ap k)|none=>.bad)|none=>.bad)
   |_,_=>.bad)
  |_=>.bad)
 |.insert t m k v|.mapUpdate t m k v=>(match undT P t with
  |some (.map kt _)=>(match undT P kt with|some dk=>(match keyD P kt dk with|some ks=>.mupd dk ks (ap m) (ap k) (ap v)|none=>.bad)|none=>.bad)
  |_=>.bad)
 |.range t x=>(match undT P t with|some .string=>.rangeS (ap x)|some (.map _ _)=>.rangeM (ap x)|_=>.bad)
 |.next x true=>.nextS (ap x)
 |.next x false=>.nextM (ap x)
 |.typeAssert x _ t ok=>(match tyOf P t with
  |some (d,i)=>(match d,aG i with|.interface _,_=>.bad|_,some z=>.tassert t ok z (ap x)|_,none=>.bad)
  |none=>.bad)
 |.extract x i=>.extract (ap x) i
 |.call c=>gr P c
 |.defer c=>(match c.callee with|.value x=>.defer (ap x) (c.args.toList.map ap)|_=>.bad)
 |.panic x=>.panic (ap x)
 |_=>.bad
def ce (n:Nat):Operand->Bool
 |.tmp _|.func _=>true
 |.const v=>(ofVal 8 v).fine
 |.global g=>Nat.ble (Nat.succ g) n
def bK (o:Oper):AOp:=cond (o.op.operands.toList.all (ce P.globals.size)) (ay P o.op) .bad
end comp
abbrev Gd:=Option (Nat×Bool)
structure PStep where
 idx:Nat
 fast:Bool
 dst:Option Nat
 guard:Gd
 op:AOp
 again:List (Nat×Gd×AOp)
 apart:List (Gd×AOp)
inductive AItem where
 |code (c:Code)
 |inBlock (id:Nat)
 |inLoop (c:Code)
 |inScope (c:Code)
 |steps (l:List PStep)(ops:Array Oper)(draw:Bool)
 |inRF (l:Nat)
 |endRF (l:Nat)
 |beginRound
 |call (f:Nat)(args:List V)
 |halt (l:Nat)
inductive ADef where
 |call (fn:Fn)(captured args:List V)
 |collected (l:Nat)
inductive AMode where
 |run
 |returning
 |panicking (chain:List (V×Bool))
structure AFrame where
 fn:Nat
 tmps:T V
 size:Nat
 todo:List AItem
 defers:List ADef
 mode:AMode
 kind:CallKind
 round:Option Nat
def selU (a b c d:Nat->V)(m:Nat):Nat->V:=
 Nat.rec (motive:=fun _=>Nat->V) a (fun m _=>Nat.rec (motive:=fun _=>Nat->V) b (fun m _=>Nat.rec (motive:=fun _=>Nat->V) c (fun _ _=>d) m) m) m
def gSU (ga gb gc gd:Nat->V)(j:Nat)(_:V):V:=selU ga gb gc gd (Nat.mod j 4) (Nat.div j 4)
def gNU (v:V)(_ _ _ _:T V)(ga gb gc gd:Nat->V)(i:Nat):V:=Nat.rec (motive:=fun _=>V) v (gSU ga gb gc gd) i
def gEU (_:Nat):V:=au
def getU (t:T V):Nat->V:=T.rec (motive:=fun _=>Nat->V) gEU gNU t
theorem getU_eq (t:T V)(i:Nat):getU t i=t.get au i:=rfl
def selC (a b c d:Nat->V)(m:Nat):Nat->V:=
 Nat.rec (motive:=fun _=>Nat->V) a (fun m _=>Nat.rec (motive:=fun _=>Nat->V) b (fun m _=>Nat.rec (motive:=fun _=>Nat->V) c (fun _ _=>d) m) m) m
def gSC (ga gb gc gd:Nat->V)(j:Nat)(_:V):V:=selC ga gb gc gd (Nat.mod j 4) (Nat.div j 4)
def gNC (v:V)(_ _ _ _:T V)(ga gb gc gd:Nat->V)(i:Nat):V:=Nat.rec (motive:=fun _=>V) v (gSC ga gb gc gd) i
def gEC (_:Nat):V:=.bad
def getC (t:T V):Nat->V:=T.rec (motive:=fun _=>Nat->V) gEC gNC t
theorem mK (t:T V)(i:Nat):getC t i=t.get .bad i:=rfl
def selH (a b c d:Nat->AObj)(m:Nat):Nat->AObj:=
 Nat.rec (motive:=fun _=>Nat->AObj) a (fun m _=>Nat.rec (motive:=fun _=>Nat->AObj) b (fun m _=>Nat.rec (motive:=fun _=>Nat->AObj) c (fun _ _=>d) m) m) m
def gSH (ga gb gc gd:Nat->AObj)(j:Nat)(_:AObj):AObj:=selH ga gb gc gd (Nat.mod j 4) (Nat.div j 4)
def gNH (v:AObj)(_ _ _ _:T AObj)(ga gb gc gd:Nat->AObj)(i:Nat):AObj:=Nat.rec (motive:=fun _=>AObj) v (gSH ga gb gc gd) i
def gEH (_:Nat):AObj:=.no
def getH (t:T AObj):Nat->AObj:=T.rec (motive:=fun _=>Nat->AObj) gEH gNH t
theorem rC (t:T AObj)(i:Nat):getH t i=t.get .no i:=rfl
end Go.Exo
end

noncomputable section
namespace Go.Exo
inductive Res where
 |val (v:V)
 |valH (v:V)(H:T AObj)(nx:Nat)
 |enter (f:Nat)(args:List V)
 |round (l:Nat)(args:List V)
 |defer (d:ADef)
 |pan (v:V)
 |recover
 |fail (why:Nat)
def selECR (a b c d:(T V->Nat->(T V->Res)->Res)->(T V->Res)->Nat->Res)(m:Nat):(T V->Nat->(T V->Res)->Res)->(T V->Res)->Nat->Res:=
 Nat.rec (motive:=fun _=>(T V->Nat->(T V->Res)->Res)->(T V->Res)->Nat->Res) a (fun m _=>Nat.rec (motive:=fun _=>(T V->Nat->(T V->Res)->Res)->(T V->Res)->Nat->Res) b (fun m _=>Nat.rec (motive:=fun _=>(T V->Nat->(T V->Res)->Res)->(T V->Res)->Nat->Res) c (fun _ _=>d) m) m) m
def selNCR (a b c d:V->T V->T V->T V->T V->(T V->Nat->(T V->Res)->Res)->(T V->Res)->Nat->Res)(m:Nat):V->T V->T V->T V->T V->(T V->Nat->(T V->Res)->Res)->(T V->Res)->Nat->Res:=
 Nat.rec (motive:=fun _=>V->T V->T V->T V->T V->(T V->Nat->(T V->Res)->Res)->(T V->Res)->Nat->Res) a (fun m _=>Nat.rec (motive:=fun _=>V->T V->T V->T V->T V->(T V->Nat->(T V->Res)->Res)->(T V->Res)->Nat->Res) b (fun m _=>Nat.rec (motive:=fun _=>V->T V->T V->T V->T V->(T V->Nat->(T V->Res)->Res)->(T V->Res)->Nat->Res) c (fun _ _=>d) m) m) m
def eACR (ih:(T V->Nat->(T V->Res)->Res))(k:(T V->Res))(r:Nat):Res:=ih .e r fun x=>k (.n .bad x .e .e .e)
def eBCR (ih:(T V->Nat->(T V->Res)->Res))(k:(T V->Res))(r:Nat):Res:=ih .e r fun x=>k (.n .bad .e x .e .e)
def eCCR (ih:(T V->Nat->(T V->Res)->Res))(k:(T V->Res))(r:Nat):Res:=ih .e r fun x=>k (.n .bad .e .e x .e)
def eDCR (ih:(T V->Nat->(T V->Res)->Res))(k:(T V->Res))(r:Nat):Res:=ih .e r fun x=>k (.n .bad .e .e .e x)
def nACR (u:V)(a b c e:T V)(ih:(T V->Nat->(T V->Res)->Res))(k:(T V->Res))(r:Nat):Res:=ih a r fun x=>k (.n u x b c e)
def nBCR (u:V)(a b c e:T V)(ih:(T V->Nat->(T V->Res)->Res))(k:(T V->Res))(r:Nat):Res:=ih b r fun x=>k (.n u a x c e)
def nCCR (u:V)(a b c e:T V)(ih:(T V->Nat->(T V->Res)->Res))(k:(T V->Res))(r:Nat):Res:=ih c r fun x=>k (.n u a b x e)
def nDCR (u:V)(a b c e:T V)(ih:(T V->Nat->(T V->Res)->Res))(k:(T V->Res))(r:Nat):Res:=ih e r fun x=>k (.n u a b c x)
def jECR (ih:(T V->Nat->(T V->Res)->Res))(k:(T V->Res))(j:Nat)(_:Res):Res:=selECR eACR eBCR eCCR eDCR (Nat.mod j 4) ih k (Nat.div j 4)
def jNCR (u:V)(a b c e:T V)(ih:(T V->Nat->(T V->Res)->Res))(k:(T V->Res))(j:Nat)(_:Res):Res:=selNCR nACR nBCR nCCR nDCR (Nat.mod j 4) u a b c e ih k (Nat.div j 4)
def sECR (v:V)(ih:(T V->Nat->(T V->Res)->Res))(i:Nat)(k:(T V->Res)):Res:=Nat.rec (motive:=fun _=>Res) (k (.n v .e .e .e .e)) (jECR ih k) i
def sNCR (u:V)(a b c e:T V)(_ _ _ _:V->(T V->Nat->(T V->Res)->Res)->Nat->(T V->Res)->Res)(v:V)(ih:(T V->Nat->(T V->Res)->Res))(i:Nat)(k:(T V->Res)):Res:=Nat.rec (motive:=fun _=>Res) (k (.n v a b c e)) (jNCR u a b c e ih k) i
def stCR (v:V)(_:Nat)(ih:(T V->Nat->(T V->Res)->Res))(t:T V)(i:Nat)(k:(T V->Res)):Res:=T.rec (motive:=fun _=>V->(T V->Nat->(T V->Res)->Res)->Nat->(T V->Res)->Res) sECR sNCR t v ih i k
def zCR (t:T V)(_:Nat)(k:(T V->Res)):Res:=k t
def setCR (v:V)(t:T V)(i:Nat)(k:(T V->Res)):Res:=Nat.rec (motive:=fun _=>(T V->Nat->(T V->Res)->Res)) zCR (stCR v) (Nat.succ i) t i k
def selEHR (a b c d:(T AObj->Nat->(T AObj->Res)->Res)->(T AObj->Res)->Nat->Res)(m:Nat):(T AObj->Nat->(T AObj->Res)->Res)->(T AObj->Res)->Nat->Res:=
 Nat.rec (motive:=fun _=>(T AObj->Nat->(T AObj->Res)->Res)->(T AObj->Res)->Nat->Res) a (fun m _=>Nat.rec (motive:=fun _=>(T AObj->Nat->(T AObj->Res)->Res)->(T AObj->Res)->Nat->Res) b (fun m _=>Nat.rec (motive:=fun _=>(T AObj->Nat->(T AObj->Res)->Res)->(T AObj->Res)->Nat->Res) c (fun _ _=>d) m) m) m
def selNHR (a b c d:AObj->T AObj->T AObj->T AObj->T AObj->(T AObj->Nat->(T AObj->Res)->Res)->(T AObj->Res)->Nat->Res)(m:Nat):AObj->T AObj->T AObj->T AObj->T AObj->(T AObj->Nat->(T AObj->Res)->Res)->(T AObj->Res)->Nat->Res:=
 Nat.rec (motive:=fun _=>AObj->T AObj->T AObj->T AObj->T AObj->(T AObj->Nat->(T AObj->Res)->Res)->(T AObj->Res)->Nat->Res) a (fun m _=>Nat.rec (motive:=fun _=>AObj->T AObj->T AObj->T AObj->T AObj->(T AObj->Nat->(T AObj->Res)->Res)->(T AObj->Res)->Nat->Res) b (fun m _=>Nat.rec (motive:=fun _=>AObj->T AObj->T AObj->T AObj->T AObj->(T AObj->Nat->(T AObj->Res)->Res)->(T AObj->Res)->Nat->Res) c (fun _ _=>d) m) m) m
def eAHR (ih:(T AObj->Nat->(T AObj->Res)->Res))(k:(T AObj->Res))(r:Nat):Res:=ih .e r fun x=>k (.n .no x .e .e .e)
def eBHR (ih:(T AObj->Nat->(T AObj->Res)->Res))(k:(T AObj->Res))(r:Nat):Res:=ih .e r fun x=>k (.n .no .e x .e .e)
def eCHR (ih:(T AObj->Nat->(T AObj->Res)->Res))(k:(T AObj->Res))(r:Nat):Res:=ih .e r fun x=>k (.n .no .e .e x .e)
def eDHR (ih:(T AObj->Nat->(T AObj->Res)->Res))(k:(T AObj->Res))(r:Nat):Res:=ih .e r fun x=>k (.n .no .e .e .e x)
def nAHR (u:AObj)(a b c e:T AObj)(ih:(T AObj->Nat->(T AObj->Res)->Res))(k:(T AObj->Res))(r:Nat):Res:=ih a r fun x=>k (.n u x b c e)
def nBHR (u:AObj)(a b c e:T AObj)(ih:(T AObj->Nat->(T AObj->Res)->Res))(k:(T AObj->Res))(r:Nat):Res:=ih b r fun x=>k (.n u a x c e)
def nCHR (u:AObj)(a b c e:T AObj)(ih:(T AObj->Nat->(T AObj->Res)->Res))(k:(T AObj->Res))(r:Nat):Res:=ih c r fun x=>k (.n u a b x e)
def nDHR (u:AObj)(a b c e:T AObj)(ih:(T AObj->Nat->(T AObj->Res)->Res))(k:(T AObj->Res))(r:Nat):Res:=ih e r fun x=>k (.n u a b c x)
def jEHR (ih:(T AObj->Nat->(T AObj->Res)->Res))(k:(T AObj->Res))(j:Nat)(_:Res):Res:=selEHR eAHR eBHR eCHR eDHR (Nat.mod j 4) ih k (Nat.div j 4)
def jNHR (u:AObj)(a b c e:T AObj)(ih:(T AObj->Nat->(T AObj->Res)->Res))(k:(T AObj->Res))(j:Nat)(_:Res):Res:=selNHR nAHR nBHR nCHR nDHR (Nat.mod j 4) u a b c e ih k (Nat.div j 4)
def sEHR (v:AObj)(ih:(T AObj->Nat->(T AObj->Res)->Res))(i:Nat)(k:(T AObj->Res)):Res:=Nat.rec (motive:=fun _=>Res) (k (.n v .e .e .e .e)) (jEHR ih k) i
def sNHR (u:AObj)(a b c e:T AObj)(_ _ _ _:AObj->(T AObj->Nat->(T AObj->Res)->Res)->Nat->(T AObj->Res)->Res)(v:AObj)(ih:(T AObj->Nat->(T AObj->Res)->Res))(i:Nat)(k:(T AObj->Res)):Res:=Nat.rec (motive:=fun _=>Res) (k (.n v a b c e)) (jNHR u a b c e ih k) i
def stHR (v:AObj)(_:Nat)(ih:(T AObj->Nat->(T AObj->Res)->Res))(t:T AObj)(i:Nat)(k:(T AObj->Res)):Res:=T.rec (motive:=fun _=>AObj->(T AObj->Nat->(T AObj->Res)->Res)->Nat->(T AObj->Res)->Res) sEHR sNHR t v ih i k
def zHR (t:T AObj)(_:Nat)(k:(T AObj->Res)):Res:=k t
def dJ (v:AObj)(t:T AObj)(i:Nat)(k:(T AObj->Res)):Res:=Nat.rec (motive:=fun _=>(T AObj->Nat->(T AObj->Res)->Res)) zHR (stHR v) (Nat.succ i) t i k
def AO.ev (x:AO)(tm:T V):V:=AO.rec (motive:=fun _=>T V->V) (fun t tm=>getU tm t) (fun v _=>v) x tm
def limN:IntKind->Nat
 |.i8=>128|.u8=>256|.i16=>32768|.u16=>65536|.i32=>2147483648|.u32=>4294967296|.i64=>9223372036854775808|.u64=>18446744073709551616
def limM:IntKind->Nat
 |.i8=>128|.i16=>32768|.i32=>2147483648|.i64=>9223372036854775808|_=>0
def kNum:IntKind->Nat
 |.i8=>0|.i16=>1|.i32=>2|.i64=>3|.u8=>4|.u16=>5|.u32=>6|.u64=>7
def gt (k:IntKind)(n:Int):Int:=
 match n with
 |.ofNat m=>cond (Nat.ble (Nat.succ m) (limN k)) (.ofNat m) (k.wrap (.ofNat m))
 |.negSucc m=>cond (Nat.ble (Nat.succ m) (limM k)) (.negSucc m) (k.wrap (.negSucc m))
def addF (a b:Int):Int:=
 match a,b with
 |.ofNat m,.ofNat n=>.ofNat (Nat.add m n)
 |a,b=>a+b
def subF (a b:Int):Int:=
 match a,b with
 |.ofNat m,.ofNat n=>cond (Nat.ble n m) (.ofNat (Nat.sub m n)) (.negSucc (Nat.sub (Nat.sub n m) 1))
 |a,b=>a-b
def ltF (a b:Int):Bool:=
 match a,b with
 |.ofNat m,.ofNat n=>Nat.ble (Nat.succ m) n
 |.ofNat _,.negSucc _=>false
 |.negSucc _,.ofNat _=>true
 |.negSucc m,.negSucc n=>Nat.ble (Nat.succ n) m
def eqF (a b:Int):Bool:=
 match a,b with
 |.ofNat m,.ofNat n=>Nat.beq m n
 |.negSucc m,.negSucc n=>Nat.beq m n
 |_,_=>false
def isZ (a:Int):Bool:=match a with|.ofNat m=>Nat.beq m 0|.negSucc _=>false
def pQ (k:IntKind)(f:BitVec k.bits->BitVec k.bits->BitVec k.bits)(a b:Int):V:=.int k (k.wrap (f (BitVec.ofInt k.bits a) (BitVec.ofInt k.bits b)).toNat)
def binI (op:BinOp)(k:IntKind)(a b:Int):Res:=
 match op with
 |.add=>.val (.int k (gt k (addF a b)))
 |.sub=>.val (.int k (gt k (subF a b)))
 |.mul=>.val (.int k (gt k (a*b)))
 |.quo=>cond (isZ b) (.fail 1) (.val (.int k (gt k (a.tdiv b))))
 |.rem=>cond (isZ b) (.fail 1) (.val (.int k (a.tmod b)))
 |.and=>.val (pQ k (· &&& ·) a b)
 |.or=>.val (pQ k (· ||| ·) a b)
 |.xor=>.val (pQ k (· ^^^ ·) a b)
 |.andNot=>.val (pQ k (fun x y=>x &&& ~~~ y) a b)
 |.eql=>.val (.bool (eqF a b))
 |.neq=>.val (.bool (!eqF a b))
 |.lss=>.val (.bool (ltF a b))
 |.leq=>.val (.bool (!ltF b a))
 |.gtr=>.val (.bool (ltF b a))
 |.geq=>.val (.bool (!ltF a b))
 |_=>.fail 2
def shlF (k:IntKind)(a b:Int):Res:=match b with|.ofNat n=>.val (.int k (k.wrap (a*2 ^ (min n k.bits))))|_=>.fail 3
def shrF (k:IntKind)(a b:Int):Res:=match b with|.ofNat n=>.val (.int k (a.fdiv (2 ^ (min n k.bits))))|_=>.fail 3
def binII (op:BinOp)(k:IntKind)(a:Int)(k':IntKind)(b:Int):Res:=
 match op with
 |.shl=>shlF k a b
 |.shr=>shrF k a b
 |op=>cond (Nat.beq (kNum k) (kNum k')) (binI op k a b) (.fail 4)
def sB:Nat->Nat->List UInt8
 |0,_=>[]
 |k+1,n=>UInt8.ofNat (n % 256)::sB k (n / 256)
def jf (n i:Nat):Nat:=Nat.land (Nat.shiftRight n (Nat.mul 8 i)) 255
def cutS (n lo m:Nat):Nat:=Nat.mod (Nat.shiftRight n (Nat.mul 8 lo)) (Nat.pow 256 m)
def catS (l n m:Nat):Nat:=Nat.add n (Nat.shiftLeft m (Nat.mul 8 l))
def binS (op:BinOp)(l n l' n':Nat):Res:=
 match op with
 |.add=>cond (Nat.ble (Nat.add l l') 9223372036854775807) (.val (.str (Nat.add l l') (catS l n n'))) (.fail 5)
 |.eql=>.val (.bool (Nat.beq l l'&&Nat.beq n n'))
 |.neq=>.val (.bool (!(Nat.beq l l'&&Nat.beq n n')))
 |.lss=>.val (.bool (Op.bytesLess (sB l n) (sB l' n')))
 |.leq=>.val (.bool (Op.bytesLess (sB l n) (sB l' n') || (Nat.beq l l'&&Nat.beq n n')))
 |.gtr=>.val (.bool (!(Op.bytesLess (sB l n) (sB l' n') || (Nat.beq l l'&&Nat.beq n n'))))
 |.geq=>.val (.bool (!Op.bytesLess (sB l n) (sB l' n')))
 |_=>.fail 6
def binV (op:BinOp)(x y:V):Res:=
 match x with
 |.int k a=>(match y with|.int k' b=>binII op k a k' b|_=>.fail 7)
 |.str l n=>(match y with|.str l' n'=>binS op l n l' n'|_=>.fail 7)
 |_=>.fail 7
def eqV (cst:Bool)(d:TypeDesc)(x y:V):Option Bool:=
 match d,x,y with
 |.interface _,.nili,.nili=>cond cst (some true) none
 |.bool,.bool a,.bool b=>some (a==b)
 |.pointer _,.nilp,.nilp=>some true
 |.pointer _,.nilp,.ptr _ _=>some false
 |.pointer _,.ptr _ _,.nilp=>some false
 |.interface _,.nili,.iface _ _=>some false
 |.interface _,.iface _ _,.nili=>some false
 |.slice _,.nils,.nils=>some true
 |.slice _,.nils,.slice _ _ _ _ _=>some false
 |.slice _,.slice _ _ _ _ _,.nils=>some false
 |.slice _,.nils,.emp _ _=>some false
 |.slice _,.emp _ _,.nils=>some false
 |.map _ _,.nilm,.nilm=>some true
 |.map _ _,.nilm,.map _=>some false
 |.map _ _,.map _,.nilm=>some false
 |.func _ _ _,.nilf,.nilf=>some true
 |.func _ _ _,.nilf,.func _ _ _=>some false
 |.func _ _ _,.func _ _ _,.nilf=>some false
 |_,_,_=>none
def eqvR (neg cst:Bool)(d:TypeDesc)(x y:V):Res:=
 match eqV cst d x y with
 |some b=>.val (.bool (cond neg (!b) b))
 |none=>.fail 8
def unV (op:UnOp)(x:V):Res:=
 match op,x with
 |.neg,.int k n=>.val (.int k (gt k (subF 0 n)))
 |.xor,.int k n=>.val (pQ k (· ^^^ ·) (if k.signed then -1 else k.max) n)
 |.not,.bool b=>.val (.bool (!b))
 |_,_=>.fail 9
def setL (l:List V):Nat->T V->(T V->Res)->Res:=
 List.rec (motive:=fun _=>Nat->T V->(T V->Res)->Res) (fun _ t k=>k t) (fun v _ ih i t k=>setCR v t i fun t=>ih (Nat.succ i) t k) l
def gu:List V->Bool
 |[]=>true
 |v::r=>cond v.one (gu r) false
def clsOk (H:T AObj)(l:Nat)(cls pos:Nat):Bool:=
 match getH H cls with
 |.cls cur lim _=>(match lim with|none=>true|some m=>cond (Nat.beq cur l) true (Nat.ble pos m))
 |_=>false
def rdOk (H:T AObj)(l cls pos:Nat):Bool:=match cls with|0=>true|c+1=>clsOk H l (c+1) pos
def minO (lim:Option Nat)(p:Nat):Nat:=match lim with|none=>p|some m=>cond (Nat.ble m p) m p
def wrCls (H:T AObj)(l cls pos:Nat)(k:T AObj->Res):Res:=
 match cls with
 |0=>k H
 |c+1=>(match getH H (c+1) with
  |.cls cur lim mk=>(match lim with
   |none=>dJ (.cls l (some pos) mk) H (c+1) k
   |some m=>cond (Nat.beq cur l) (T.setK .no (.cls l (some (minO (some m) pos)) mk) H (c+1) k) (.fail 11))
  |_=>.fail 12)
def fzOk (fz off:Nat):Bool:=match fz with|n+2=>Nat.ble n off|_=>true
def ym (l off:Nat)(vs:List V)(H:T AObj)(nx:Nat)(v:V)(cs:T V)(len:Nat)(elem:TypeId)(cls rel fz:Nat):Res:=
 cond (Nat.ble (Nat.add off vs.length) len&&fzOk fz off&&gu vs)
  (wrCls H l cls (Nat.add rel off) fun H=>setL vs off cs fun cs=>dJ (.cells cs len elem cls rel fz false) H l fun H=>.valH v H nx) (.fail 13)
def wr (l off:Nat)(vs:List V)(H:T AObj)(nx:Nat)(v:V):Res:=
 match getH H l with
 |.cells cs len elem cls rel fz ro=>cond ro (.fail 14) (ym l off vs H nx v cs len elem cls rel fz)
 |_=>.fail 15
def rd1 (l off:Nat)(H:T AObj):Res:=
 match getH H l with
 |.cells cs len _ cls rel _ _=>cond (Nat.ble (Nat.succ off) len&&rdOk H l cls (Nat.add rel (Nat.succ off))) (.val (getC cs off)) (.fail 16)
 |_=>.fail 17
def rdN (l off n:Nat)(H:T AObj)(k:List V->Res):Res:=
 match getH H l with
 |.cells cs len _ cls rel _ _=>cond (Nat.ble (Nat.add off n) len&&rdOk H l cls (Nat.add rel (Nat.add off n))) (k (cs.range .bad n off)) (.fail 18)
 |_=>.fail 19
def cn (o:AObj)(H:T AObj)(nx:Nat)(k:T AObj->Nat->Res):Res:=dJ o H nx fun H=>k H (Nat.succ nx)
def bV (elem:TypeId)(vs:List V)(fz:Nat)(H:T AObj)(nx:Nat)(v:V):Res:=
 T.ofK .bad vs 0 .e fun cs=>cn (.cells cs vs.length elem 0 0 fz false) H nx fun H nx=>.valH v H nx
def pR (c:V)(a b:V):Res:=match c with|.bool t=>.val (cond t a b)|_=>.fail 20
def jg (o:AObj)(H:T AObj)(nx:Nat):Res:=cn o H nx fun H nx'=>.valH (.ptr nx 0) H nx'
def xBox (elem:TypeId)(v:V)(H:T AObj)(nx:Nat):Res:=cond v.real (bV elem v.cells 0 H nx (.ptr nx 0)) (.fail 301)
def bU (vs:List V):Nat->List V->List V
 |_,[]=>[]
 |0,c::r=>match vs with
  |[]=>c::r
  |v::vs=>v::bU vs 0 r
 |n+1,c::r=>c::bU vs n r
def bD (tm:T V):List (Nat×Nat×AO)->List V->(List V->Res)->Res
 |[],cs,k=>k cs
 |(off,size,x)::r,cs,k=>
  cond (Nat.beq (x.ev tm).cells.length size&&Nat.ble (Nat.add off size) cs.length&&(x.ev tm).real) (bD tm r (bU (x.ev tm).cells off cs) k) (.fail 21)
def ws (n:Nat)(a x:V)(H:T AObj)(nx:Nat):Res:=
 match a with
 |.ptr l off=>cond (Nat.beq x.cells.length n&&x.real) (wr l off x.cells H nx au) (.fail 22)
 |_=>.fail 23
def dK (a:V)(H:T AObj):Res:=match a with|.ptr l off=>rd1 l off H|_=>.fail 24
def dL (n:Nat)(a:V)(H:T AObj):Res:=match a with|.ptr l off=>rdN l off n H fun cs=>.val (.agg cs)|_=>.fail 25
def xNil (x:V):Res:=
 match x with
 |.ptr l off=>.val (.ptr l off)
 |.func (.func f) a b=>.val (.func (.func f) a b)
 |.func (.yield f) a b=>.val (.func (.yield f) a b)
 |.map l=>.val (.map l)
 |_=>.fail 26
def np (k:IntKind)(x:V):Res:=match x with|.int _ n=>.val (.int k (gt k n))|_=>.fail 27
def dM:Nat->Nat->List V
 |0,_=>[]
 |k+1,n=>.int .u8 (.ofNat (Nat.mod n 256))::dM k (Nat.div n 256)
def fl (elem:TypeId)(x:V)(H:T AObj)(nx:Nat):Res:=
 match x with
 |.str l n=>bV elem (dM l n) 1 H nx (.slice nx 0 l none 1)
 |_=>.fail 28
def nq:List V->(Nat->Res)->Res
 |[],k=>k 0
 |v::r,k=>match v with
  |.int .u8 (.ofNat b)=>nq r fun n=>k (Nat.add (Nat.mod b 256) (Nat.mul 256 n))
  |_=>.fail 29
def fm (x:V)(H:T AObj):Res:=
 match x with
 |.nils=>.val (.str 0 0)
 |.slice l off n _ _=>rdN l off n H fun cs=>nq cs fun m=>.val (.str n m)
 |_=>.fail 30
def eO (d:Nat)(x:Option V)(k:Nat->Res):Res:=
 match x with
 |none=>k d
 |some v=>(match v with|.int _ (.ofNat n)=>k n|_=>.fail 31)
def evL (tm:T V)(l:List AO):List V:=l.map fun x=>x.ev tm
def evO (tm:T V)(x:Option AO):Option V:=x.map fun x=>x.ev tm
def nr (x:V)(lo hi:Option V):Res:=
 match x with
 |.str l n=>eO l hi fun h=>eO 0 lo fun a=>cond (Nat.ble a h&&Nat.ble h l) (.val (.str (Nat.sub h a) (cutS n a (Nat.sub h a)))) (.fail 32)
 |_=>.fail 33
def slK (l off esz a h c:Nat):Res:=.val (.slice l (cond (Nat.beq a c) off (Nat.add off (Nat.mul a esz))) (Nat.sub h a) (some (Nat.sub c a)) esz)
def ud (es:Nat)(x:V)(lo hi mx:Option V):Res:=
 match x with
 |.nils=>(match mx with
  |none=>eO 0 hi fun h=>eO 0 lo fun a=>cond (Nat.beq a 0&&Nat.beq h 0) (.val .nils) (.fail 34)
  |some _=>.fail 34)
 |.slice l off len cap esz=>cond (Nat.beq es esz) (match mx with
  |none=>eO len hi fun h=>eO 0 lo fun a=>(match cap with
   |some c=>cond (Nat.ble a h&&Nat.ble h c) (slK l off es a h c) (.fail 36)
   |none=>cond (Nat.ble a h&&Nat.ble h len&&(Nat.ble (Nat.succ a) len || Nat.beq a 0)) (.val (.slice l (Nat.add off (Nat.mul a es)) (Nat.sub h a) none es)) (cond (Nat.beq a h&&Nat.beq h len) (.val (.emp l es)) (.fail 37)))
  |some m=>(match hi with
   |none=>.fail 35
   |some hv=>eO 0 (some m) fun m=>eO 0 (some hv) fun h=>eO 0 lo fun a=>
    cond (Nat.ble a h&&Nat.ble h m&&(match cap with|some c=>Nat.ble m c|none=>Nat.ble m len)) (slK l off es a h m) (.fail 35))) (.fail 35)
 |_=>.fail 38
def xSlArr (_ _:Nat)(_:V)(_ _:Option V):Res:=.fail 807
def ns (off:Nat)(x:V):Res:=match x with|.ptr l o=>.val (.ptr l (Nat.add o off))|_=>.fail 41
def nthV:List V->Nat->V
 |[],_=>.bad
 |v::_,0=>v
 |_::r,n+1=>nthV r n
def jh (size:Option Nat)(off:Nat)(x:V):Res:=
 match x with
 |.agg cs=>(match size with
  |some n=>cond (Nat.ble (Nat.add off n) cs.length) (.val (.agg ((cs.drop off).take n))) (.fail 42)
  |none=>cond (Nat.ble (Nat.succ off) cs.length) (.val (nthV cs off)) (.fail 43))
 |_=>.fail 44
def nt (esz:Nat)(x i:V):Res:=
 match x with
 |.slice l off len _ _=>(match i with|.int _ (.ofNat n)=>cond (Nat.ble (Nat.succ n) len) (.val (.ptr l (Nat.add off (Nat.mul n esz)))) (.fail 45)|_=>.fail 46)
 |_=>.fail 47
def jS (m esz:Nat)(x i:V):Res:=
 match x with
 |.ptr l off=>(match i with|.int _ (.ofNat n)=>cond (Nat.ble (Nat.succ n) m) (.val (.ptr l (Nat.add off (Nat.mul n esz)))) (.fail 48)|_=>.fail 49)
 |_=>.fail 50
def jT (x i:V):Res:=
 match x with
 |.str l n=>(match i with|.int _ (.ofNat j)=>cond (Nat.ble (Nat.succ j) l) (.val (.int .u8 (.ofNat (jf n j)))) (.fail 51)|_=>.fail 52)
 |_=>.fail 53
def bW:List V->List V->Option Bool
 |[],[]=>some true
 |.int k a::r,.int k' b::s=>cond (Nat.beq (kNum k) (kNum k')) (cond (eqF a b) (bW r s) (some false)) none
 |.str l n::r,.str l' n'::s=>cond (Nat.beq l l'&&Nat.beq n n') (bW r s) (some false)
 |.bool a::r,.bool b::s=>cond (a==b) (bW r s) (some false)
 |_,_=>none
def gi (x y:V):Option Bool:=
 match x,y with
 |.int k a,.int k' b=>cond (Nat.beq (kNum k) (kNum k')) (some (eqF a b)) none
 |.str l n,.str l' n'=>some (Nat.beq l l'&&Nat.beq n n')
 |.bool a,.bool b=>some (a==b)
 |.agg a,.agg b=>bW a b
 |_,_=>none
def findK (k:V)(no:Res)(yes:V->Res):List (V×V×Nat)->Res
 |[]=>no
 |(a,v,_)::r=>match gi k a with
  |some true=>yes v
  |some false=>findK k no yes r
  |none=>.fail 54
def pS (dk:TypeDesc)(x:V):Bool:=
 match dk,x with
 |.int _,.int _ _=>true
 |.string,.str _ _=>true
 |.bool,.bool _=>true
 |_,_=>false
def fitL:List TypeDesc->List V->Bool
 |[],[]=>true
 |d::ds,v::vs=>cond (pS d v) (fitL ds vs) false
 |_,_=>false
def keyK (dk:TypeDesc)(ks:List TypeDesc)(x:V):Bool:=
 match dk,x with
 |.struct _,.agg cs=>fitL ks cs
 |d,v=>pS d v
def nu (neg:Bool)(ks:List TypeDesc)(x y:V):Res:=
 match x,y with
 |.agg a,.agg b=>cond (fitL ks a) (match bW a b with|some t=>.val (.bool (cond neg (!t) t))|none=>.fail 150) (.fail 151)
 |_,_=>.fail 152
def cY (zero:V)(ok:Bool)(x k:V)(H:T AObj):Res:=
 match x with
 |.nilm=>.val (cond ok (.tup [zero,.bool false]) zero)
 |.map l=>(match getH H l with
  |.map es _=>findK k (.val (cond ok (.tup [zero,.bool false]) zero)) (fun v=>.val (cond ok (.tup [v,.bool true]) v)) es
  |.mapR es _=>findK k (.val (cond ok (.tup [zero,.bool false]) zero)) (fun v=>.val (cond ok (.tup [v,.bool true]) v)) es
  |_=>.fail 55)
 |_=>.fail 56
def updK (k v:V)(clock:Nat)(f:List (V×V×Nat)->Nat->Res):List (V×V×Nat)->Res
 |[]=>f [(k,v,clock)] (Nat.succ clock)
 |(a,u,b)::r=>match gi k a with
  |some true=>f ((k,v,b)::r) clock
  |some false=>updK k v clock (fun l c=>f ((a,u,b)::l) c) r
  |none=>.fail 57
def xMupd (m k v:V)(H:T AObj)(nx:Nat):Res:=
 match m with
 |.map l=>(match getH H l with
  |.map es clock=>updK k v clock (fun es clock=>dJ (.map es clock) H l fun H=>.valH au H nx) es
  |_=>.fail 58)
 |_=>.fail 59
def delK (k:V)(f:List (V×V×Nat)->Res):List (V×V×Nat)->Res
 |[]=>f []
 |(a,u,b)::r=>match gi k a with
  |some true=>f r
  |some false=>delK k (fun l=>f ((a,u,b)::l)) r
  |none=>.fail 57
def xMdel (m k:V)(H:T AObj)(nx:Nat):Res:=
 match m with
 |.nilm=>.valH au H nx
 |.map l=>(match getH H l with
  |.map es clock=>delK k (fun es=>dJ (.map es clock) H l fun H=>.valH au H nx) es
  |_=>.fail 171)
 |_=>.fail 172
def entK (k z:V)(clock:Nat)(f:V->Nat->List (V×V×Nat)->Nat->Res):List (V×V×Nat)->Res
 |[]=>f z clock [(k,z,clock)] (Nat.succ clock)
 |(a,u,b)::r=>match gi k a with
  |some true=>f u b ((k,u,b)::r) clock
  |some false=>entK k z clock (fun v b' l c=>f v b' ((a,u,b)::l) c) r
  |none=>.fail 57
def bornK (n:Nat)(v:V)(f:List (V×V×Nat)->Res):List (V×V×Nat)->Res
 |[]=>.fail 153
 |(a,u,b)::r=>cond (Nat.beq b n) (f ((a,v,b)::r)) (bornK n v (fun l=>f ((a,u,b)::l)) r)
def rD (zero m k:V)(H:T AObj)(nx:Nat):Res:=
 match m with
 |.map l=>(match getH H l with
  |.map es clock=>entK k zero clock (fun v b es clock=>dJ (.map es clock) H l fun H=>.valH (.tup [v,.int .i64 (.ofNat b)]) H nx) es
  |_=>.fail 58)
 |_=>.fail 59
def wu (m s v:V)(H:T AObj)(nx:Nat):Res:=
 match m with
 |.map l=>(match getH H l with
  |.map es clock=>(match s with|.int _ (.ofNat n)=>bornK n v (fun es=>dJ (.map es clock) H l fun H=>.valH au H nx) es|_=>.fail 154)
  |_=>.fail 58)
 |_=>.fail 59
def rE (_ _:Nat)(_:Bool)(_ _:V):Res:=.fail 803
def gw (b:Nat):List (V×V×Nat)->Res
 |[]=>.fail 158
 |(k,v,c)::r=>cond (Nat.beq c b) (.val (.tup [k,v])) (gw b r)
def rG (x:V)(H:T AObj)(nx:Nat):Res:=
 match x with
 |.map l=>(match getH H l with
  |.map _ clock=>cn (.mit0 l clock) H nx fun H nx'=>.valH (.ptr nx 0) H nx'
  |_=>.fail 159)
 |_=>.fail 160
def rH (x:V)(H:T AObj):Res:=
 match x with
 |.ptr r 0=>(match getH H r with
  |.mit m b c=>(match getH H m with|.mapR es c'=>cond (Nat.beq c c') (gw b es) (.fail 161)|.map es c'=>cond (Nat.beq c c') (gw b es) (.fail 161)|_=>.fail 161)
  |_=>.fail 162)
 |_=>.fail 163
def gx (e esz bytes:Nat)(zero:List V)(l c:V)(H:T AObj)(nx:Nat):Res:=
 match l with
 |.int .i64 (.ofNat n)=>(match c with
  |.int .i64 (.ofNat m)=>cond (Nat.beq n m&&Nat.ble (Nat.mul n bytes) 16777216&&Nat.ble n 16777216) (bV e (br zero n) 0 H nx (.slice nx 0 n (some n) esz)) (.fail 171)
  |_=>.fail 172)
 |_=>.fail 173
def wv (x:V)(H:T AObj)(nx:Nat):Res:=
 match x with
 |.ptr r 0=>(match getH H r with
  |.mit0 m since=>(match getH H m with
   |.map [(k,v,b)] c=>cond (Nat.beq c since&&Nat.ble (Nat.succ b) since) (dJ (.mit m b c) H r fun H=>.valH (.tup [.bool true,k,v]) H nx) (.fail 164)
   |_=>.fail 165)
  |.mit m b c=>(match getH H m with
   |.map [(_,_,b')] c'=>cond (Nat.beq c c'&&Nat.beq b b'&&Nat.ble (Nat.succ b) c) (.valH (.tup [.bool false]) H nx) (.fail 166)
   |_=>.fail 167)
  |_=>.fail 168)
 |_=>.fail 169
def rI (_:V)(_:T AObj)(_:Nat):Res:=.fail 805
def ww (_:V)(_:T AObj)(_:Nat):Res:=.fail 806
def gz (t:TypeId)(ok:Bool)(zero x:V):Res:=
 match x with
 |.iface u v=>cond (Nat.beq u t) (.val (cond ok (.tup [v,.bool true]) v)) (cond ok (.val (.tup [zero,.bool false])) (.fail 64))
 |.nili=>cond ok (.val (.tup [zero,.bool false])) (.fail 65)
 |_=>.fail 66
def gA (x:V)(i:Nat):Res:=match x with|.tup vs=>cond (Nat.ble (Nat.succ i) vs.length) (.val (nthV vs i)) (.fail 67)|_=>.fail 68
def xCall (f:V)(args:List V):Res:=
 match f with
 |.func fn first captured=>(match fn with
  |.func g=>.enter g (first++(args++captured))
  |.yield l=>.round l (first++args)
  |_=>.fail 69)
 |_=>.fail 70
def findB (n b:Nat):Nat->Nat->V
 |0,_=>.int .i64 (.negSucc 0)
 |k+1,i=>cond (Nat.beq (jf n i) b) (.int .i64 (.ofNat i)) (findB n b k (Nat.succ i))
def nv (x y:V):Res:=match x,y with|.str l n,.int .u8 (.ofNat b)=>cond (Nat.ble (Nat.succ b) 256) (.val (findB n b l 0)) (.fail 71)|_,_=>.fail 72
def xLen (sh:Nat)(x:V)(H:T AObj):Res:=
 match x with
 |.str l _=>cond (Nat.beq sh 0) (.val (.int .i64 (.ofNat l))) (.fail 73)
 |.nils=>cond (Nat.beq sh 1) (.val (.int .i64 (.ofNat 0))) (.fail 73)
 |.emp _ _=>cond (Nat.beq sh 1) (.val (.int .i64 (.ofNat 0))) (.fail 73)
 |.slice _ _ n _ _=>cond (Nat.beq sh 1) (.val (.int .i64 (.ofNat n))) (.fail 73)
 |.nilm=>cond (Nat.beq sh 2) (.val (.int .i64 (.ofNat 0))) (.fail 73)
 |.map l=>cond (Nat.beq sh 2) (match getH H l with|.map es _=>.val (.int .i64 (.ofNat es.length))|.mapR es _=>.val (.int .i64 (.ofNat es.length))|_=>.fail 73) (.fail 73)
 |_=>.fail 74
def dh (need bytes:Nat):Bool:=Nat.ble (Nat.mul need bytes) 140737488355328&&Nat.ble need 1099511627776000
def grow (elem:TypeId)(esz bytes need:Nat)(cs:List V)(H:T AObj)(nx:Nat):Res:=
 cond (dh need bytes&&Nat.beq cs.length (Nat.mul need esz)) (bV elem cs 0 H nx (.slice nx 0 need none esz)) (.fail 75)
def fzUp (fz off:Nat):Nat:=match fz with|n+2=>Nat.add (Nat.sub n off) 2|_=>2
def ue (elem:TypeId)(esz off need:Nat)(old news:List V)(H:T AObj)(nx c p rel mk:Nat)(lim:Option Nat)(fz:Nat):Res:=
 T.setK .no (.cls nx (cond (Nat.ble mk p) lim (some (minO lim p))) (max mk (Nat.add p news.length))) H c fun H=>
 T.ofK .bad (old++news) 0 .e fun cs=>dJ (.cells cs (Nat.mul need esz) elem c (Nat.add rel off) (fzUp fz off) false) H nx fun H=>.valH (.slice nx 0 need none esz) H (Nat.succ nx)
def upon1 (elem:TypeId)(esz l off len need:Nat)(old news:List V)(H:T AObj)(nx:Nat)(cs:T V)(clen:Nat)(cls rel fz:Nat):Res:=
 cond (fzOk fz (Nat.add off (Nat.mul len esz)))
 (match cls with
 |0=>dJ (.cells cs clen elem nx 0 fz false) H l fun H=>ue elem esz off need old news H (Nat.succ nx) nx (Nat.add off (Nat.mul len esz)) 0 clen none fz
 |c+1=>(match getH H (c+1) with
  |.cls _ lim mk=>ue elem esz off need old news H nx (c+1) (Nat.add rel (Nat.add off (Nat.mul len esz))) rel mk lim fz
  |_=>.fail 76)) (.fail 77)
def upon (elem:TypeId)(esz bytes l off len need:Nat)(news:List V)(H:T AObj)(nx:Nat):Res:=
 cond (dh need bytes&&gu news&&Nat.beq (Nat.add (Nat.mul len esz) news.length) (Nat.mul need esz)) (rdN l off (Nat.mul len esz) H fun old=>
  match getH H l with
  |.cells cs clen el cls rel fz ro=>cond (ro || !Nat.beq el elem) (.fail 78) (upon1 elem esz l off len need old news H nx cs clen cls rel fz)
  |_=>.fail 79) (.fail 80)
def app (elem:TypeId)(esz bytes:Nat)(s:V)(n:Nat)(news:List V)(H:T AObj)(nx:Nat):Res:=
 match s with
 |.nils=>(match n with|0=>.val .nils|m+1=>grow elem esz bytes (m+1) news H nx)
 |.slice l off len cap es=>cond (Nat.beq es esz) (match cap with
  |some c=>cond (Nat.ble (Nat.add len n) c)
    (wr l (Nat.add off (Nat.mul len esz)) news H nx (.slice l off (Nat.add len n) (some c) esz))
    (rdN l off (Nat.mul len esz) H fun old=>grow elem esz bytes (Nat.add len n) (old++news) H nx)
  |none=>(match n with
   |0=>.val (.slice l off len none esz)
   |m+1=>upon elem esz bytes l off len (Nat.add len (m+1)) news H nx)) (.fail 81)
 |_=>.fail 81
def mL (elem:TypeId)(esz bytes:Nat)(s x:V)(H:T AObj)(nx:Nat):Res:=
 match x with
 |.nils=>app elem esz bytes s 0 [] H nx
 |.emp _ _=>app elem esz bytes s 0 [] H nx
 |.slice l off n _ _=>rdN l off (Nat.mul n esz) H fun news=>app elem esz bytes s n news H nx
 |_=>.fail 82
def xCap (_:V):Res:=.fail 804
def xAppN (_ _ _:Nat)(_:List V)(_ _:V)(_:T AObj)(_:Nat):Res:=.fail 801
def wy (_:List V)(_:V)(_:T AObj)(_:Nat):Res:=.fail 800
def cmpB:List UInt8->List UInt8->Int
 |[],[]=>.ofNat 0
 |[],_::_=>.negSucc 0
 |_::_,[]=>.ofNat 1
 |a::r,b::s=>cond (Nat.ble (Nat.succ a.toNat) b.toNat) (.negSucc 0) (cond (Nat.ble (Nat.succ b.toNat) a.toNat) (.ofNat 1) (cmpB r s))
def rJ (_ _:V):Res:=.fail 802
def xMax (x y:V):Res:=match x,y with|.int k a,.int k' b=>cond (Nat.beq (kNum k) (kNum k')) (.val (.int k (cond (ltF a b) b a))) (.fail 83)|_,_=>.fail 84
def nw (f:V)(args:List V):Res:=match f with|.func fn first captured=>.defer (.call fn captured (first++args))|_=>.fail 85
def wz (x:V):Res:=match x with|.iface t v=>.pan (.iface t v)|_=>.fail 86
def aL:BinOp->Bool|.eql|.neq|.lss|.leq|.gtr|.geq=>true|_=>false
def X.kd:X->Kd
 |.var _ _ k=>k
 |.int k _=>.int k
 |.bool _=>.bool
 |.str _ _=>.str
 |.nil e=>.sl e
 |.bin op a _=>cond (aL op) .bool a.kd
 |.un op a=>(match op with|.not=>.bool|_=>a.kd)
 |.conv k _=>.int k
 |.len _=>.int .i64
 |.inr _ _=>.bool
 |.rng _ _ _=>.bool
 |.cmp _ _=>.int .i64
 |.atx _ _=>.int .u8
 |.sub _ _ _=>.str
 |.el _ _ _ k=>k
 |.cut s _ _=>s.kd
 |.isnil _=>.bool
 |.snoc s _=>s.kd
 |.cat s _=>s.kd
 |.app _ _ _ k=>k
 |.nilA=>.raw
 |.cons _ _=>.raw
def opN:BinOp->Nat
 |.add=>0|.sub=>1|.mul=>2|.quo=>3|.rem=>4|.and=>5|.or=>6|.xor=>7|.andNot=>8|.shl=>9|.shr=>10
 |.eql=>11|.neq=>12|.lss=>13|.leq=>14|.gtr=>15|.geq=>16
def unN:UnOp->Nat|.neg=>0|.not=>1|.xor=>2|.plus=>3
def Kd.beq:Kd->Kd->Bool
 |.int a,.int b=>Nat.beq (kNum a) (kNum b)
 |.bool,.bool|.str,.str|.raw,.raw=>true
 |.sl a,.sl b=>Nat.beq a b
 |_,_=>false
def X.beq:X->X->Bool
 |.var l i k,.var l' i' k'=>Nat.beq l l'&&Nat.beq i i'&&k.beq k'
 |.int k n,.int k' n'=>Nat.beq (kNum k) (kNum k')&&eqF n n'
 |.bool a,.bool b=>a==b
 |.str l n,.str l' n'=>Nat.beq l l'&&Nat.beq n n'
 |.nil a,.nil b=>Nat.beq a b
 |.bin op a b,.bin op' a' b'=>Nat.beq (opN op) (opN op')&&a.beq a'&&b.beq b'
 |.un op a,.un op' a'=>Nat.beq (unN op) (unN op')&&a.beq a'
 |.conv k a,.conv k' a'=>Nat.beq (kNum k) (kNum k')&&a.beq a'
 |.len a,.len a'=>a.beq a'
 |.inr a b,.inr a' b'=>a.beq a'&&b.beq b'
 |.rng a b c,.rng a' b' c'=>a.beq a'&&b.beq b'&&c.beq c'
 |.cmp a b,.cmp a' b'=>a.beq a'&&b.beq b'
 |.atx a b,.atx a' b'=>a.beq a'&&b.beq b'
 |.sub a b c,.sub a' b' c'=>a.beq a'&&b.beq b'&&c.beq c'
 |.el s i j k,.el s' i' j' k'=>Nat.beq j j'&&k.beq k'&&s.beq s'&&i.beq i'
 |.cut a b c,.cut a' b' c'=>a.beq a'&&b.beq b'&&c.beq c'
 |.isnil a,.isnil a'=>a.beq a'
 |.snoc a b,.snoc a' b'=>a.beq a'&&b.beq b'
 |.cat a b,.cat a' b'=>a.beq a'&&b.beq b'
 |.app l f a k,.app l' f' a' k'=>Nat.beq l l'&&Nat.beq f f'&&k.beq k'&&a.beq a'
 |.nilA,.nilA=>true
 |.cons a b,.cons a' b'=>a.beq a'&&b.beq b'
 |_,_=>false
def toX:V->Option X
 |.int k n=>cond (eqF (gt k n) n) (some (.int k n)) none
 |.bool b=>some (.bool b)
 |.str l n=>cond (Nat.ble l 9223372036854775807) (some (.str l n)) none
 |.x t=>some t
 |.lst _ t=>some t
 |_=>none
def asX:V->Option X|.x t=>some t|.lst _ t=>some t|_=>none
def kdI:Kd->Option IntKind|.int k=>some k|_=>none
def kdS:Kd->Option TypeId|.sl e=>some e|_=>none
def iR:Kd->Bool|.str=>true|_=>false
def fo:Kd->Bool|.bool=>true|_=>false
section sx
variable [Sx] [Dc]
def yes (t:X)(r:Res):Res:=match Dc.dec t with|some true=>r|_=>.fail 302
def ny:Int:=4611686018427387904
def sxInt (op:BinOp)(k:IntKind)(a b:X):Res:=
 match kdI b.kd with
 |some k'=>cond (Nat.beq (kNum k) (kNum k')) (match op with
  |.quo|.rem=>yes (.bin .neq b (.int k 0)) (.val (.x (.bin op a b)))
  |.shl|.shr=>.fail 303
  |op=>.val (.x (.bin op a b))) (.fail 304)
 |none=>.fail 305
def sxStr (op:BinOp)(a b:X):Res:=
 cond (iR b.kd) (match op with
  |.add=>yes (.inr (.len a) (.int .i64 ny)) (yes (.inr (.len b) (.int .i64 ny)) (.val (.x (.bin op a b))))
  |op=>cond (aL op) (.val (.x (.bin op a b))) (.fail 306)) (.fail 307)
def sxBin (op:BinOp)(x y:V):Res:=
 match toX x with
 |some a=>(match toX y with
  |some b=>(match kdI a.kd with
   |some k=>sxInt op k a b
   |none=>cond (iR a.kd) (sxStr op a b) (.fail 308))
  |none=>.fail 309)
 |none=>.fail 309
def eqN (neg:Bool)(t:X):V:=.x (cond neg (.un .not t) t)
def sxEqv (neg:Bool)(d:TypeDesc)(x y:V):Res:=
 match d with
 |.bool=>(match toX x with
  |some a=>(match toX y with
   |some b=>cond (fo a.kd&&fo b.kd) (.val (eqN neg (.bin .eql a b))) (.fail 310)
   |none=>.fail 310)
  |none=>.fail 310)
 |.slice _=>(match asX x,y with
  |some s,.nils=>(match kdS s.kd with|some _=>.val (eqN neg (.isnil s))|none=>.fail 311)
  |_,_=>(match x,asX y with
   |.nils,some s=>(match kdS s.kd with|some _=>.val (eqN neg (.isnil s))|none=>.fail 311)
   |_,_=>.fail 311))
 |_=>.fail 312
def sxUn (op:UnOp)(t:X):Res:=
 match op with
 |.not=>cond (fo t.kd) (.val (.x (.un .not t))) (.fail 313)
 |.neg=>(match kdI t.kd with|some _=>.val (.x (.un .neg t))|none=>.fail 313)
 |_=>.fail 313
def rL (k:IntKind)(t:X):Res:=match kdI t.kd with|some _=>.val (.x (.conv k t))|none=>.fail 314
def sxLen (sh:Nat)(t:X):Res:=
 match t.kd with
 |.str=>cond (Nat.beq sh 0) (.val (.x (.len t))) (.fail 315)
 |.sl _=>cond (Nat.beq sh 1) (.val (.x (.len t))) (.fail 315)
 |_=>.fail 315
def bndX (d:X):Option V->Option X
 |none=>some d
 |some v=>(match toX v with|some t=>(match kdI t.kd with|some _=>some t|none=>none)|none=>none)
def mM (s:X)(lo hi:Option V):Res:=
 cond (iR s.kd) (match bndX (.int .i64 0) lo,bndX (.len s) hi with
  |some a,some h=>yes (.rng a h (.len s)) (.val (.x (.sub s a h)))
  |_,_=>.fail 316) (.fail 316)
def rM (esz:Nat)(s:X)(lo hi mx:Option V):Res:=
 match kdS s.kd,mx with
 |some e,none=>cond (Nat.beq esz (Sx.row e).length) (match bndX (.int .i64 0) lo,bndX (.len s) hi with
  |some a,some h=>yes (.rng a h (.len s)) (.val (.x (.cut s a h)))
  |_,_=>.fail 317) (.fail 317)
 |_,_=>.fail 317
def sxIdx (esz:Nat)(s:X)(i:V):Res:=
 match kdS s.kd,toX i with
 |some e,some t=>(match kdI t.kd with|some _=>cond (Nat.beq esz (Sx.row e).length) (yes (.inr t (.len s)) (.val (.xa s t 0))) (.fail 318)|none=>.fail 318)
 |_,_=>.fail 318
def jU (s:X)(i:V):Res:=
 match toX i with
 |some t=>(match kdI t.kd with|some _=>cond (iR s.kd) (yes (.inr t (.len s)) (.val (.x (.atx s t)))) (.fail 319)|none=>.fail 319)
 |none=>.fail 319
def nthK:List Kd->Nat->Option Kd
 |[],_=>none
 |k::_,0=>some k
 |_::r,n+1=>nthK r n
def elsX (s i:X)(j:Nat)(ks:List Kd):Nat->Option (List V)
 |0=>some []
 |n+1=>(match nthK ks j,elsX s i (Nat.succ j) ks n with|some k,some l=>some (.x (.el s i j k)::l)|_,_=>none)
def sxLd1 (s i:X)(j:Nat):Res:=
 match kdS s.kd with
 |some e=>(match nthK (Sx.row e) j with|some k=>.val (.x (.el s i j k))|none=>.fail 320)
 |none=>.fail 320
def sxLdN (n:Nat)(s i:X)(j:Nat):Res:=
 match kdS s.kd with
 |some e=>(match elsX s i j (Sx.row e) n with|some l=>.val (.agg l)|none=>.fail 321)
 |none=>.fail 321
def sxMax (x y:V):Res:=
 match toX x,toX y with
 |some a,some b=>(match kdI a.kd,kdI b.kd with
  |some k,some k'=>cond (Nat.beq (kNum k) (kNum k')) (match Dc.dec (.bin .lss a b) with|some t=>.val (cond t y x)|none=>.fail 322) (.fail 322)
  |_,_=>.fail 322)
 |_,_=>.fail 322
def sxCmp (x y:V):Res:=
 match toX x,toX y with
 |some a,some b=>cond (iR a.kd&&iR b.kd) (.val (.x (.cmp a b))) (.fail 323)
 |_,_=>.fail 323
def rN (t:X)(a b:V):Res:=match Dc.dec t with|some c=>.val (cond c a b)|none=>.fail 324
def onX2 (x y:V)(r:Res):Option Res:=match asX x with|some _=>some r|none=>(match asX y with|some _=>some r|none=>none)
def onX (x:V)(r:X->Res):Option Res:=match asX x with|some t=>some (r t)|none=>none
def onA (x:V)(r:X->X->Nat->Res):Option Res:=match x with|.xa s i j=>some (r s i j)|_=>none
def sxOp (o:AOp)(tm:T V):Option Res:=
 match o with
 |.pick c a b=>onX (c.ev tm) fun t=>rN t (a.ev tm) (b.ev tm)
 |.load1 x=>onA (x.ev tm) sxLd1
 |.loadN n x=>onA (x.ev tm) (sxLdN n)
 |.nilck x=>onA (x.ev tm) fun s i j=>.val (.xa s i j)
 |.bin op x y=>onX2 (x.ev tm) (y.ev tm) (sxBin op (x.ev tm) (y.ev tm))
 |.eqv neg _ d x y=>onX2 (x.ev tm) (y.ev tm) (sxEqv neg d (x.ev tm) (y.ev tm))
 |.un op x=>onX (x.ev tm) (sxUn op)
 |.convI k x=>onX (x.ev tm) (rL k)
 |.slStr x lo hi=>onX (x.ev tm) fun s=>mM s (evO tm lo) (evO tm hi)
 |.slSl esz x lo hi mx=>onX (x.ev tm) fun s=>rM esz s (evO tm lo) (evO tm hi) (evO tm mx)
 |.faddr off x=>onA (x.ev tm) fun s i j=>.val (.xa s i (Nat.add j off))
 |.idxSl esz x i=>onX (x.ev tm) fun s=>sxIdx esz s (i.ev tm)
 |.idxStr x i=>onX (x.ev tm) fun s=>jU s (i.ev tm)
 |.len sh x=>onX (x.ev tm) (sxLen sh)
 |.maxI x y=>onX2 (x.ev tm) (y.ev tm) (sxMax (x.ev tm) (y.ev tm))
 |.extCmp x y=>onX2 (x.ev tm) (y.ev tm) (sxCmp (x.ev tm) (y.ev tm))
 |_=>none
end sx
section sxa
variable [Sx] [Dc]
def toXk (k:Kd)(v:V):Option X:=
 match v with
 |.nils=>(match kdS k with|some e=>some (.nil e)|none=>none)
 |v=>(match toX v with|some t=>cond (t.kd.beq k) (some t) none|none=>none)
def rowX:List Kd->List V->Option X
 |[],[]=>some .nilA
 |k::ks,v::vs=>(match toXk k v,rowX ks vs with|some a,some r=>some (.cons a r)|_,_=>none)
 |_,_=>none
def roomN (bytes n:Nat):Int:=.ofNat (Nat.sub (Nat.succ (Nat.div 140737488355328 bytes)) n)
def wA (elem:TypeId)(esz bytes l:Nat)(t:X)(x:V)(H:T AObj)(nx:Nat):Res:=
 match getH H l,kdS t.kd with
 |.own e,some e'=>cond (Nat.beq e elem&&Nat.beq e' elem&&Nat.beq esz (Sx.row elem).length) (match x with
  |.slice k off 1 _ _=>rdN k off esz H fun news=>(match rowX (Sx.row elem) news with
   |some a=>yes (.inr (.len t) (.int .i64 (roomN bytes 1))) (dJ .no H l fun H=>dJ (.own elem) H nx fun H=>.valH (.lst nx (.snoc t a)) H (Nat.succ nx))
   |none=>.fail 331)
  |_=>.fail 332) (.fail 333)
 |_,_=>.fail 334
def ownM:Bool:=match Dc.dec (.bool true) with|some true=>true|_=>false
def wB (elem:TypeId)(esz bytes:Nat)(x:V)(H:T AObj)(nx:Nat)(alt:Res):Res:=
 match x with
 |.slice k off 1 _ _=>rdN k off esz H fun news=>cond (V.fineL news && !ownM) alt (match rowX (Sx.row elem) news with
  |some a=>cond (Nat.beq esz (Sx.row elem).length&&dh 1 bytes) (dJ (.own elem) H (Nat.succ nx) fun H=>.valH (.lst (Nat.succ nx) (.snoc (.nil elem) a)) H (Nat.succ (Nat.succ nx))) (.fail 335)
  |none=>alt)
 |_=>alt
def uf (elem:TypeId)(esz bytes:Nat)(s x:V)(H:T AObj)(nx:Nat):Res:=
 match s with
 |.lst l t=>wA elem esz bytes l t x H nx
 |.nils=>wB elem esz bytes x H nx (mL elem esz bytes .nils x H nx)
 |s=>mL elem esz bytes s x H nx
end sxa
def pT [Sx] [Dc](o:AOp)(tm:T V)(H:T AObj)(nx:Nat):Res:=
 AOp.casesOn (motive:=fun _=>T V->T AObj->Nat->Res) o
  (fun x tm _ _=>.val (x.ev tm))
  (fun c a b tm _ _=>pR (c.ev tm) (a.ev tm) (b.ev tm))
  (fun vs len elem _ H nx=>jg (.cells vs len elem 0 0 0 false) H nx)
  (fun t x tm H nx=>xBox t (x.ev tm) H nx)
  (fun z ps tm _ _=>bD tm ps z fun cs=>.val (.agg cs))
  (fun elem esz len z ps tm H nx=>bD tm ps z fun cs=>bV elem cs 0 H nx (.slice nx 0 len (some len) esz))
  (fun x tm H _=>dK (x.ev tm) H)
  (fun n x tm H _=>dL n (x.ev tm) H)
  (fun n a x tm H nx=>ws n (a.ev tm) (x.ev tm) H nx)
  (fun x tm _ _=>xNil (x.ev tm))
  (fun op x y tm _ _=>binV op (x.ev tm) (y.ev tm))
  (fun neg cst d x y tm _ _=>eqvR neg cst d (x.ev tm) (y.ev tm))
  (fun op x tm _ _=>unV op (x.ev tm))
  (fun k x tm _ _=>np k (x.ev tm))
  (fun e x tm H nx=>fl e (x.ev tm) H nx)
  (fun x tm H _=>fm (x.ev tm) H)
  (fun t x tm _ _=>.val (.iface t (x.ev tm)))
  (fun fn f c tm _ _=>.val (.func fn (evL tm f) (evL tm c)))
  (fun _ H nx=>cn (.map [] 0) H nx fun H nx'=>.valH (.map nx) H nx')
  (fun x lo hi tm _ _=>nr (x.ev tm) (evO tm lo) (evO tm hi))
  (fun es x lo hi mx tm _ _=>ud es (x.ev tm) (evO tm lo) (evO tm hi) (evO tm mx))
  (fun n esz x lo hi tm _ _=>xSlArr n esz (x.ev tm) (evO tm lo) (evO tm hi))
  (fun off x tm _ _=>ns off (x.ev tm))
  (fun size off x tm _ _=>jh size off (x.ev tm))
  (fun esz x i tm _ _=>nt esz (x.ev tm) (i.ev tm))
  (fun n esz x i tm _ _=>jS n esz (x.ev tm) (i.ev tm))
  (fun x i tm _ _=>jT (x.ev tm) (i.ev tm))
  (fun kd ks z ok x k tm H _=>cnd (keyK kd ks (k.ev tm)) (cY z ok (x.ev tm) (k.ev tm) H) (.fail 98))
  (fun kd ks m k v tm H nx=>cnd (keyK kd ks (k.ev tm)) (xMupd (m.ev tm) (k.ev tm) (v.ev tm) H nx) (.fail 98))
  (fun x tm H nx=>rI (x.ev tm) H nx)
  (fun x tm H nx=>ww (x.ev tm) H nx)
  (fun t ok z x tm _ _=>gz t ok z (x.ev tm))
  (fun x i tm _ _=>gA (x.ev tm) i)
  (fun f args tm _ _=>xCall (f.ev tm) (evL tm args))
  (fun x y tm _ _=>nv (x.ev tm) (y.ev tm))
  (fun sh x tm H _=>xLen sh (x.ev tm) H)
  (fun e esz bytes _ s x tm H nx=>uf e esz bytes (s.ev tm) (x.ev tm) H nx)
  (fun x y tm _ _=>xMax (x.ev tm) (y.ev tm))
  (fun _ _ _=>.recover)
  (fun f args tm _ _=>nw (f.ev tm) (evL tm args))
  (fun x tm _ _=>wz (x.ev tm))
  (fun x tm H nx=>rG (x.ev tm) H nx)
  (fun x tm H _=>rH (x.ev tm) H)
  (fun kd ks z m k tm H nx=>cnd (keyK kd ks (k.ev tm)) (rD z (m.ev tm) (k.ev tm) H nx) (.fail 98))
  (fun m s v tm H nx=>wu (m.ev tm) (s.ev tm) (v.ev tm) H nx)
  (fun n e g x i tm _ _=>rE n e g (x.ev tm) (i.ev tm))
  (fun x tm _ _=>xCap (x.ev tm))
  (fun e esz bytes z s x tm H nx=>xAppN e esz bytes z (s.ev tm) (x.ev tm) H nx)
  (fun _ z x tm H nx=>wy z (x.ev tm) H nx)
  (fun x y tm _ _=>rJ (x.ev tm) (y.ev tm))
  (fun neg ks x y tm _ _=>nu neg ks (x.ev tm) (y.ev tm))
  (fun x tm _ _=>.val (x.ev tm))
  (fun kd ks m k tm H nx=>cnd (keyK kd ks (k.ev tm)) (xMdel (m.ev tm) (k.ev tm) H nx) (.fail 98))
  (fun x tm H nx=>wv (x.ev tm) H nx)
  (fun e esz bytes z l c tm H nx=>gx e esz bytes z (l.ev tm) (c.ev tm) H nx)
  (fun _ _ _=>.fail 99)
  tm H nx
def exOp [Sx] [Dc](o:AOp)(tm:T V)(H:T AObj)(nx:Nat):Res:=match sxOp o tm with|some r=>r|none=>pT o tm H nx
end Go.Exo
end
