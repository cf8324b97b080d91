/-
  The program's tie, each closed fact by itself. Own text.
-/
import Derived.Test.YtihaakenfdkgnaaGreatDoorRows
import Derived.LaidByTextLater
import Derived.SevenTiedAt
import Derived.Test.YtihaakenfdkgnaaGreatDoorMoTieB
import Derived.Test.YtihaakenfdkgnaaGreatDoorMoTieC
import Derived.Test.YtihaakenfdkgnaaGreatDoorMoTieD
import Derived.Test.YtihaakenfdkgnaaGreatDoorMoTieE
import Derived.Test.YtihaakenfdkgnaaGreatDoorMoTieF
import Derived.Test.YtihaakenfdkgnaaGreatDoorPart28
import Derived.Test.YtihaakenfdkgnaaGreatDoorPart13
import Derived.Lib.Index
import Derived.Test.YtihaakenfdkgnaaGreatDoorPart14
import Derived.Shelf.Strings.Search1
import Derived.Shelf.Strings.Search2
import Derived.Ground.NamesProg
import Derived.Test.YtihaakenfdkgnaaGreatDoorProg
import Derived.KernelRfl
set_option linter.all false
noncomputable section
namespace Go.Proofs.YtihaakenfdkgnaaGreatDoor
open Go
set_option maxRecDepth 100000
theorem tie:Tryz.prog.laidByTextLater [("unicode/utf8.acceptRanges",Rows.laid_unicode_utf8_acceptRanges),("strconv.ErrSyntax",Rows.laid_strconv_ErrSyntax),("strconv.ErrRange",Rows.laid_strconv_ErrRange),("internal/strconv.uint64pow10",Rows.laid_internal_strconv_uint64pow10),("math/bits.deBruijn32tab",Rows.laid_math_bits_deBruijn32tab),("math/bits.deBruijn64tab",Rows.laid_math_bits_deBruijn64tab)] [.data,.sentinel,.sentinel,.data,.data,.data] true:=
 Program.laidByTextLater_of_run 566 400 8 ti0 ti1 ti2 ti3 tiG ti6 ti7 ti8 ti9
theorem fY:Rows.matchOrderUptoRow.laidByTextAt .later Tryz.pinned [.pinned,.data,.pinned,.sentinel,.sentinel,.data,.data,.data] true:=
 OpenClaim.laidByTextAt_pinned rfl rfl tie rfl rfl rfl rfl (fun y hy _e=>by
  simp only[Rows.matchOrderUptoRow,List.zip_cons_cons,List.zip_nil_right,List.mem_cons,List.mem_nil_iff,or_false] at hy
  rcases hy with rfl|rfl|rfl|rfl|rfl|rfl|rfl|rfl
  ·exact⟨dC,by kernel_rfl⟩
  ·cases _e
  ·exact⟨dD,by kernel_rfl⟩
  ·cases _e
  ·cases _e
  ·cases _e
  ·cases _e
  ·cases _e) fits1
end Go.Proofs.YtihaakenfdkgnaaGreatDoor
end

noncomputable section
namespace Go.Proofs.YtihaakenfdkgnaaGreatDoor.matchOrder
open Go.ChangeShapes Go.WideShapes Go.ChangeAt Go.RowKit Go.Exo Go.Proofs.Wo
set_option maxRecDepth 100000
def args0:Array Value:=#[.slice none 0 0]
theorem lifted (hK:rx)(os:Os)(started:os.Started)(H:Type)(enc:TypeId×Value->H)(F:Stop.Interp) :
  ReturnsInHanded {} Tryz.checked os 3 .any ((Rows.OpenSpec.upto Rows.matchOrderSpec).preRow enc Tryz.prog Tryz.f3 Rows.matchOrderUptoRow.domain false Rows.matchOrderUptoRow.laid) (((Rows.OpenSpec.upto Rows.matchOrderSpec).at F).post enc Tryz.prog Tryz.f3 false true false false):=by
 refine returnsInHanded_of_row (C:=Tryz.checked) (s:=Rows.OpenSpec.upto Rows.matchOrderSpec) k_own started (by kernel_rfl) Tryz.func3
  ⟨iP os,fun _ _=>0,⟨#[],args0,[]⟩,World.laidAll_os _ _ _,shaped os _,rfl,(Input.okWide_of_okWideB (by kernel_rfl)).2,?_,by simp[Assume.holds]⟩ ?_
 ·obtain⟨x,hx,hx1⟩:∃ x:List (DataW H)×List (DataW H)×List MemPlace,DataW.whole enc Tryz.prog ((iP os).forCall (fun _ _=>0) ⟨#[],args0,[]⟩).memory Tryz.f3.params.toList (Rows.OpenSpec.upto Rows.matchOrderSpec).vars false args0.toList 8=some x/\
    x=([.nil],[],[]):=⟨_,by kernel_rfl,rfl⟩
  subst hx1;exact OpenSpec.preRow_of_cond 8 hx (by kernel_rfl) (fun k hk=>by cases hk;kernel_rfl) (by kernel_rfl) (laid_met os _)
 intro W base args ds gs before hval0 hW _ hcond _ hL hsh _;have hval:∀ (j:Nat) t v,Tryz.f3.params[j]? = some t->args[j]? = some v->Value.okWide Tryz.prog W .any base t v:=hval0;have hW':=hW;have hlt:=hW.lt;obtain⟨p,q,hA0,hV,rfl,hfz,hnd⟩:=hW;have hA:DataW.TrodAll enc Tryz.prog W 0 (fun _=>true) true Tryz.f3.params.toList args.toList ds p:=hA0;rw[Tryz.params3] at hA hval;obtain⟨v0,vs0,d0,ds0,p0,q0,hargs,rfl,rfl,h0,r0⟩:=trodAll_cons hA;obtain⟨rfl,rfl,rfl⟩:=trodAll_nil r0;obtain rfl:args=#[v0]:=by cases args;simp_all
 obtain⟨rfl,rfl⟩:=trodVars_none hV;obtain⟨a0,l0',n0,c0,rfl,g0,m0⟩:=open22 (hval 0 22 v0 rfl rfl) h0;have hc:Rows.uptoBulkAll ([d0]++[])<=1048576:=of_decide_eq_true (hcond Rows.uptoSmall rfl)
 have hm:bh c0<=1048576:=by
  simp only[List.append_nil,Rows.uptoBulkAll] at hc;omega
 refine (walk hK ⟨base_of hsh,tabs_of hL⟩ g0 hm).mono fun e W' ⟨he,hg⟩=>?_
 subst he;have l0:∀ x∈p0,x.block<W.heap.size:=fun x hx=>hlt x (by simp[hx])
 refine⟨_,rfl,_,_,_,[],p0,[],hW',?_,?_,?_,hg.frame _,fun h=>by cases h⟩
 ·exact trodAll_cons_mk (shut_bool Tryz.underlying4 _) trodAll_mk0
 ·exact trodAll_mk1 (Below.trod k_laid k_r22 k_rows h0 hg l0)
 ·rfl
theorem over (hK:rx):Rows.MatchOrderUptoSaid:=
 OpenClaim.holds_of_cond 3 Tryz.f3 rfl rfl rfl rfl rfl rfl rfl ⟨rfl,rfl,rfl,rfl,rfl⟩ rfl rfl rfl rfl rfl uq Tryz.func3 closed
  k_inst (by unfold Func.isWrapper;first|(rw[if_pos (by decide +kernel)];kernel_rfl)|(rw[if_neg (by decide +kernel)];exact⟨rfl,rfl⟩))
  (fun os started H enc _ F=>by rw[OpenClaim.pre_eq_preRow];exact lifted hK os started H enc F)
theorem card (hK:rx):Rows.MatchOrderUptoCardSaid:=
 Claim7.holds_tied_plain_at .later [] [.pinned,.data,.pinned,.sentinel,.sentinel,.data,.data,.data] true Rows.matchOrderUptoCard.stood.harness true
  (over hK) (fun _ h=>by cases h) k_wft (fun _ h=>by cases h) fY rfl ⟨rfl,rfl⟩ k_mainIs rfl
  (fun f fn hf hfn=>by
   obtain rfl:f=3:=Option.some.inj (uq.symm.trans hf) |>.symm
   obtain rfl:fn=Tryz.f3:=(Option.some.inj (Tryz.func3.symm.trans hfn)).symm
   exact⟨k_looks,fun j t ht=>by
    rw[Tryz.params3] at ht
    have hm:t∈[22]:=by
     have:=Array.mem_of_getElem? ht
     simpa using this
    have hall:([22].all fun u=>!Tryz.prog.wantsStandIn u)=true:=by kernel_rfl
    exact (show Tryz.prog.wantsStandIn t=false by simpa using List.all_eq_true.1 hall t hm)⟩)
  k_goes
end Go.Proofs.YtihaakenfdkgnaaGreatDoor.matchOrder
end

noncomputable section
namespace Go.Exo
variable [Sx] [Dc] [Tb]
theorem ik (sub:List UInt8):∀ (s:List UInt8),s.length<sub.length->Lib.index s sub = -1
 |[],h=>by
  cases sub with
  |nil=>simp at h
  |cons _ _=>rfl
 |b::l,h=>by
  have hp:sub.isPrefixOf (b::l)=false:=by
   cases hh:sub.isPrefixOf (b::l) with
   |false=>rfl
   |true=>
    have:=(List.isPrefixOf_iff_prefix.1 hh).length_le;omega
  have ih:=ik sub l (by simp at h;omega);simp[Lib.index,hp,ih]
theorem Br {l n m x i:Nat}(hx:x<256 ^ m)(hi:i+m<=l):Nat.beq (Nat.mod (Nat.shiftRight n (Nat.mul 8 i)) (Nat.pow 256 m)) x=(sB m x).isPrefixOf ((sB l n).drop i):=by
 have e1:Nat.mod (Nat.shiftRight n (Nat.mul 8 i)) (Nat.pow 256 m)=n / 256 ^ i % 256 ^ m:=by
  show (n >>> (8*i)) % 256 ^ m=_;rw[Nat.shiftRight_eq_div_pow,Nat.pow_mul]
 rw[e1];obtain⟨k,rfl⟩:∃ k,l=i+k:=⟨l-i,by omega⟩
 rw[r8,Bool.eq_iff_iff,Nat.beq_eq,List.isPrefixOf_iff_prefix,List.prefix_iff_eq_take,bt,sd m k _ (by omega)];constructor
 ·intro e;rw[<- e,r9]
 ·intro e
  have h2:sB m (n / 256 ^ i % 256 ^ m)=sB m x:=by rw[r9];exact e.symm
  exact sB_inj (Nat.mod_lt _ (Nat.pow_pos (by omega))) hx h2
theorem wm {l n m x:Nat}(hm:1<=m)(hml:m<=l)(hx:x<256 ^ m):∀ (k i:Nat),i+k=l-m+1->
  u9 n x (Nat.pow 256 m) k i=(if Lib.index ((sB l n).drop i) (sB m x) = -1 then -1 else Lib.index ((sB l n).drop i) (sB m x)+i)
 |0,i,hi=>by
  have:Lib.index ((sB l n).drop i) (sB m x) = -1:=ik (sB m x) ((sB l n).drop i) (by rw[List.length_drop,bt,bt];omega);rw[if_pos this];rfl
 |k+1,i,hi=>by
  have ih:=wm (n:=n) hm hml hx k (i+1) (by omega);have hlt:i<(sB l n).length:=by rw[bt];omega
  have hstep:u9 n x (Nat.pow 256 m) (k+1) i=cond (Nat.beq (Nat.mod (Nat.shiftRight n (Nat.mul 8 i)) (Nat.pow 256 m)) x) (Int.ofNat i) (u9 n x (Nat.pow 256 m) k (i+1)):=rfl;rw[hstep,Br (l:=l) hx (by omega),ih];have hd:(sB l n).drop i=(sB l n)[i]::(sB l n).drop (i+1):=List.drop_eq_getElem_cons hlt;generalize (sB l n).drop (i+1)=r at hd ⊢;rw[hd];rcases Bool.eq_false_or_eq_true ((sB m x).isPrefixOf ((sB l n)[i]::r)) with hp|hp
  ·have hv:Lib.index ((sB l n)[i]::r) (sB m x)=0:=by simp only[Lib.index,hp,if_true]
   rw[hp,hv];simp
  ·rw[hp]
   simp only[cond_false];by_cases h1:Lib.index r (sB m x) = -1
   ·have hv:Lib.index ((sB l n)[i]::r) (sB m x) = -1:=by simp[Lib.index,hp,h1]
    rw[hv,h1];simp
   ·have hge:=Lib.index_ge r (sB m x)
    have hv:Lib.index ((sB l n)[i]::r) (sB m x)=Lib.index r (sB m x)+1:=by simp[Lib.index,hp,h1]
    rw[hv,if_neg h1,if_neg (by omega)]
    push_cast
    omega
theorem idxS_eq {l n m x:Nat}(hx:x<256 ^ m):idxS l n m x=Lib.index (sB l n) (sB m x):=by
 unfold idxS;cases hb:Nat.ble m l with
 |false=>
  have:¬ m<=l:=fun h=>by rw[an h] at hb;cases hb
  simp only[cond_false];rw[ik (sB m x) (sB l n) (by rw[bt,bt];omega)];rfl
 |true=>
  simp only[cond_true];have hml:=ab hb;by_cases hm:1<=m
  ·have:=wm (n:=n) hm hml hx (l-m+1) 0 (by omega)
   have e:Nat.succ (Nat.sub l m)=l-m+1:=rfl;rw[e,this,List.drop_zero];split
   ·rename_i h;rw[h]
   ·simp
  ·have hm0:m=0:=by omega
   subst hm0;have hx0:x=0:=by simpa using hx
   subst hx0
   have h1:u9 n 0 (Nat.pow 256 0) (Nat.succ (Nat.sub l 0)) 0=0:=by
    show cond (Nat.beq (Nat.mod (Nat.shiftRight n (Nat.mul 8 0)) 1) 0) (Int.ofNat 0) _=0;have:Nat.mod (Nat.shiftRight n (Nat.mul 8 0)) 1=0:=Nat.mod_one _;rw[this];rfl
   rw[h1];have:sB 0 0=[]:=rfl;rw[this];cases sB l n<;>simp[Lib.index]
theorem aq.index {P:Program}{k:Nat}{G:World->Prop}{fn:Nat}(hG:Gd0 k G)
  (h:∀ (s sub:ByteArray)(w:World),G w->s.size<4294967281->Calls P fn #[.string s,.string sub] w fun e w'=>e=.returned (.int .i64 (Lib.index s.data.toList sub.data.toList))/\w'=w):aq P k G (sK fn):=by
 intro w0 hw0 E H nx w f args xs v H' nx' hwr hgl hxs hh;unfold sK at hh;cases hf:Nat.beq f fn with
 |false=>rw[hf] at hh;cases hh
 |true=>
  rw[hf] at hh;have e:=aa hf;subst e;simp only[cond_true] at hh;split at hh
  ·rename_i l n m x
   cases hb:Nat.ble l 4294967280 with
   |false=>rw[hb] at hh;cases hh
   |true=>
    rw[hb] at hh;simp only[cond_true,Option.some.injEq,Prod.mk.injEq] at hh;obtain⟨rfl,rfl,rfl⟩:=hh;cases hxs with
    |cons _ X _ _ hX h2=>
     cases h2 with
     |cons _ Y _ _ hY h3=>
      cases h3;cases hX with
      |str _ _ s hs1 hs2=>
       cases hY with
       |str _ _ t ht1 ht2=>
        have hsz:s.size=l:=by
         have:=congrArg List.length hs1;rw[bt] at this;simpa using this
        refine (h s t w (hw0.at hG hwr) (by have:=ab hb;omega)).mono fun e w' ⟨h1,h2⟩=>?_
        subst h2;refine .ret ⟨_,E,h1,Env.le.refl E,?_,hwr,am _,Keep.refl E H nx⟩;rw[hs1,ht1,idxS_eq ht2];exact .int .i64 _
  ·cases hh
end Go.Exo
end

noncomputable section
namespace Go.Exo
def pI:List (V×V×Nat)->Option (List Int)
 |[]=>some []
 |(.int .i64 n,_,_)::r=>(match pI r with|some l=>some (n::l)|none=>none)
 |_::_=>none
def fZ:Int->List Int->Bool
 |lo,[]=>ltF lo 9223372036854775808
 |lo,n::r=>ltF lo n&&fZ n r
def pJ:Nat->List (V×V×Nat)->Nat->Bool
 |lo,[],clock=>Nat.ble lo clock
 |lo,(_,_,b)::r,clock=>Nat.ble lo b&&pJ (Nat.succ b) r clock
def pK (fn:Nat)(its:List Nat)(e:TypeId):Hook:=fun f args H nx=>
 cond (Nat.beq f fn) (match args with
  |[.func (.func g) [] [.ptr l 0]]=>cond (its.any (Nat.beq g)) (match getH H l with
   |.cells vs len _ cls _ _ _=>cond (Nat.beq cls 0&&Nat.ble 1 len) (match getC vs 0 with
    |.map m=>(match getH H m with
     |.map es clock=>(match pI es with
      |some ks=>cond (fZ (-9223372036854775809) ks&&pJ 0 es clock&&Nat.ble ks.length 1000) (match ks with
       |[]=>some (.nils,H,nx)
       |k::r=>T.ofK .bad ((k::r).map (V.int .i64)) 0 .e fun cs=>T.setK .no (.cells cs (Nat.succ r.length) e 0 0 0 false) H nx fun H=>some (.slice nx 0 (Nat.succ r.length) none 1,H,Nat.succ nx)) none
      |none=>none)
     |_=>none)
    |_=>none) none
   |_=>none) none
  |_=>none) none
def cntS (c:Nat):Nat->Nat->Nat
 |0,_=>0
 |l+1,n=>cond (Nat.beq (n % 256) c) (Nat.succ (cntS c l (n / 256))) (cntS c l (n / 256))
def ub (fn:Nat):Hook:=fun f args H nx=>
 cond (Nat.beq f fn) (match args with
  |[.str l n,.str 1 x]=>some (.int .i64 (.ofNat (cntS x l n)),H,nx)
  |_=>none) none
end Go.Exo
end

noncomputable section
namespace Go.Proofs
open Go.Shelf
def Tryz.lays219_ren:Go.Shelf.Ren:=⟨fun|219=>431|217=>247|225=>461|224=>462|267=>463|266=>339|314=>486|n=>n,fun|9=>9|3=>3|4=>4|5=>5|46=>145|146=>508|51=>382|n=>n,fun|1=>0|n=>n⟩
theorem Tryz.lays219:Go.Proofs.Lays.n219 Tryz.prog Tryz.lays219_ren:={
 mixed:=by kernel_rfl
 f217:=Tryz.func247.trans (congrArg some (by kernel_rfl))
 f219:=Tryz.func431.trans (congrArg some (by kernel_rfl))
 f224:=Tryz.func462.trans (congrArg some (by kernel_rfl))
 f225:=Tryz.func461.trans (congrArg some (by kernel_rfl))
 f266:=Tryz.func339.trans (congrArg some (by kernel_rfl))
 f267:=Tryz.func463.trans (congrArg some (by kernel_rfl))
 f314:=Tryz.func486.trans (congrArg some (by kernel_rfl))
 t3:=Tryz.underlying3
 a3:=Tryz.isAgg3
 z3:=Tryz.sizeOf3
 v3:=Tryz.zeroValue3
 t4:=Tryz.underlying4
 a4:=Tryz.isAgg4
 z4:=Tryz.sizeOf4
 v4:=Tryz.zeroValue4
 t5:=Tryz.underlying5
 a5:=Tryz.isAgg5
 z5:=Tryz.sizeOf5
 v5:=Tryz.zeroValue5
 t9:=Tryz.underlying9
 a9:=Tryz.isAgg9
 z9:=Tryz.sizeOf9
 v9:=Tryz.zeroValue9
 t46:=Tryz.underlying145
 a46:=Tryz.isAgg145
 z46:=Tryz.sizeOf145
 v46:=Tryz.zeroValue145
 t51:=Tryz.underlying382
 a51:=Tryz.isAgg382
 z51:=Tryz.sizeOf382
 v51:=Tryz.zeroValue382
 t146:=Tryz.underlying508
 a146:=Tryz.isAgg508
 z146:=Tryz.sizeOf508
 v146:=Tryz.zeroValue508
 g1:=by kernel_rfl }
open Go.RowKit Go.Lib in
theorem Tryz.stringslite_Index (s sub:ByteArray)(m:Int)(w:World)(hs:s.size<4294967281)(hm:w.cell? ⟨0,0,none⟩=some (.int .i64 m)) :
  Calls Tryz.prog 431 #[.string s,.string sub] w fun e w'=>e=.returned (.int .i64 (Lib.index s.data.toList sub.data.toList))/\w'=w:=Any.stringslite_Index Tryz.lays219 s sub m w hs hm
end Go.Proofs
end

noncomputable section
namespace Go.Proofs.K9
open Go.Exo
instance sx0:Sx:=⟨fun _=>[]⟩
instance dc0:Dc:=⟨fun _=>none⟩
instance tb0:Tb:=⟨none⟩
theorem bF:Tryz.prog.globals.size=9:=by kernel_rfl
def hkI0:Hook:=sK 431
def hkI:Hook:=hkOr hkI0 (hkOr (pK 96 [148] 2) (ub 516))
def Base (w:World):Prop:=9<=w.heap.size/\∃ m,w.cell? ⟨0,0,none⟩=some (.int .i64 m)
theorem cm:Gd0 9 Base where
 keep:=fun w w' h ⟨h1,m,hm⟩=>by
  refine⟨?_,m,?_⟩
  ·have:=h 8 (by omega)
   have h2:w.heap[8]? = some w.heap[8]:=Array.getElem?_eq_getElem (by omega);rw[h2] at this;have:=(ag.1 this).1;omega
  ·have hb:=h 0 (by omega)
   unfold World.cell? at hm ⊢;rw[hb];exact hm
 size:=fun w h=>h.1
theorem hooksI0:aq Tryz.prog 9 Base hkI0:=aq.index cm fun s sub w ⟨_,m,hm⟩ hs=>Tryz.stringslite_Index s sub m w hs hm
end Go.Proofs.K9
end

noncomputable section
namespace Go.Proofs.K9
open Go.Exo
set_option maxRecDepth 100000
def zz:List V:=[.bool false,.int .i64 (0),.str 0 0,.int .i64 (0),.bool false,.int .i64 (0),.str 0 0,.nils,.nils,.nils,.nils]
def t1:Cut where
 f:=14
 args:=[.str 26 156075777989054515596670910191749036355513044339961411411394893]
 nx:=57
 ins:=[]
 ord:=[]
 v:=.agg ([.int .i64 (0),.bool false,.bool false,.bool false,.slice 417 0 1 .none 2,.nils,.nils,.bool false,.bool false]++zz++zz++zz++zz++[.bool false,.str 0 0,.nils,.nils])
 outs:=[(383,aB ([.str 1 114,.nils,.int .i64 (0)]++zz++[.bool false]) 165 0 0 0 false),(412,aB ([.str 1 97,.nils]++zz++[.bool false,.str 1 98,.nils]++zz++[.bool false]) 163 0 0 0 false),(417,aB [.slice 412 0 2 .none 14,.slice 383 0 1 .none 15] 161 0 0 0 false)]
 nx':=651
def f1:Cut where
 f:=13
 args:=[.ptr 41 0,.agg [.nils,.nils,.nils],.agg ([.int .i64 (0),.bool false,.bool false,.bool false,.slice 417 0 1 .none 2,.nils,.nils,.bool false,.bool false]++zz++zz++zz++zz++[.bool false,.str 0 0,.nils,.nils])]
 nx:=651
 ins:=[(38,.map [(.int .i64 (0),.agg [.int .i64 (0),.nils,.nils],0),(.int .i64 (1),.agg [.int .i64 (1),.nils,.nils],1)] 2),(39,.map [(.int .i64 (0),.agg [.int .i64 (0),.int .i64 (0),.int .i64 (1),.str 1 84,.nils],0)] 1),(40,.map [(.int .i64 (0),.slice 54 0 1 .none 1,0),(.int .i64 (1),.slice 56 0 1 .none 1,1)] 2),(41,aB [.map 38,.map 39,.map 40,.int .i64 (2),.int .i64 (1)] 83 0 0 0 true),(54,aB [.int .i64 (0)] 2 0 0 0 true),(56,aB [.int .i64 (0)] 2 0 0 0 true),(383,aB ([.str 1 114,.nils,.int .i64 (0)]++zz++[.bool false]) 165 0 0 0 true),(412,aB ([.str 1 97,.nils]++zz++[.bool false,.str 1 98,.nils]++zz++[.bool false]) 163 0 0 0 true),(417,aB [.slice 412 0 2 .none 14,.slice 383 0 1 .none 15] 161 0 0 0 true)]
 ord:=[41,417,38,39,40,412,383,54,56]
 v:=.tup [.slice 990 0 2 .none 1,.int .i64 (0)]
 outs:=[(38,.map [(.int .i64 (0),.agg [.int .i64 (0),.nils,.nils],0),(.int .i64 (1),.agg [.int .i64 (1),.nils,.nils],1)] 2),(39,.map [(.int .i64 (0),.agg [.int .i64 (0),.int .i64 (0),.int .i64 (1),.str 1 84,.nils],0)] 1),(40,.map [(.int .i64 (0),.slice 54 0 1 .none 1,0),(.int .i64 (1),.slice 56 0 1 .none 1,1)] 2),(963,.cls 969 .none 18),(969,aB [.int .i64 (6),.bool false,.int .i64 (0),.str 0 0,.nils,.nils,.int .i64 (7),.bool false,.int .i64 (0),.str 0 0,.nils,.nils,.int .i64 (6),.bool false,.int .i64 (1),.str 0 0,.nils,.nils] 29 963 0 2 false),(981,.cls 987 .none 18),(987,aB [.int .i64 (6),.bool false,.int .i64 (1),.str 0 0,.nils,.nils,.int .i64 (7),.bool false,.int .i64 (0),.str 0 0,.nils,.nils,.int .i64 (6),.bool false,.int .i64 (0),.str 0 0,.nils,.nils] 29 981 0 2 false),(989,.cls 990 .none 2),(990,aB [.slice 969 0 3 .none 6,.slice 987 0 3 .none 6] 24 989 0 2 false)]
 nx':=1027
def t2:Cut where
 f:=14
 args:=[.str 39 3165592858382605304438455597635766248724378494545860047958561962176314857405872461122425340237]
 nx:=1027
 ins:=[]
 ord:=[]
 v:=.agg ([.int .i64 (0),.bool false,.bool false,.bool false,.slice 1672 0 2 .none 2,.nils,.nils,.bool false,.bool false]++zz++zz++zz++zz++[.bool false,.str 0 0,.nils,.nils])
 outs:=[(1535,aB ([.str 0 0,.nils,.int .i64 (1)]++zz++[.bool false]) 165 0 0 0 false),(1564,aB ([.str 1 97,.nils]++zz++[.bool false,.str 1 98,.nils]++zz++[.bool false]) 163 0 0 0 false),(1637,aB ([.str 0 0,.nils,.int .i64 (1)]++zz++[.bool false]) 165 0 0 0 false),(1666,aB ([.str 1 98,.nils]++zz++[.bool false,.str 1 99,.nils]++zz++[.bool false]) 163 0 0 0 false),(1671,.cls 1672 .none 4),(1672,aB [.slice 1564 0 2 .none 14,.slice 1535 0 1 .none 15,.slice 1666 0 2 .none 14,.slice 1637 0 1 .none 15] 161 1671 0 2 false)]
 nx':=1906
def f2:Cut where
 f:=13
 args:=[.ptr 41 0,.agg [.nils,.nils,.nils],.agg ([.int .i64 (0),.bool false,.bool false,.bool false,.slice 1672 0 2 .none 2,.nils,.nils,.bool false,.bool false]++zz++zz++zz++zz++[.bool false,.str 0 0,.nils,.nils])]
 nx:=1906
 ins:=[(38,.map [(.int .i64 (0),.agg [.int .i64 (0),.nils,.nils],0),(.int .i64 (1),.agg [.int .i64 (1),.nils,.nils],1)] 2),(39,.map [(.int .i64 (0),.agg [.int .i64 (0),.int .i64 (0),.int .i64 (1),.str 1 84,.nils],0)] 1),(40,.map [(.int .i64 (0),.slice 54 0 1 .none 1,0),(.int .i64 (1),.slice 56 0 1 .none 1,1)] 2),(41,aB [.map 38,.map 39,.map 40,.int .i64 (2),.int .i64 (1)] 83 0 0 0 true),(54,aB [.int .i64 (0)] 2 0 0 0 true),(56,aB [.int .i64 (0)] 2 0 0 0 true),(1535,aB ([.str 0 0,.nils,.int .i64 (1)]++zz++[.bool false]) 165 0 0 0 true),(1564,aB ([.str 1 97,.nils]++zz++[.bool false,.str 1 98,.nils]++zz++[.bool false]) 163 0 0 0 true),(1637,aB ([.str 0 0,.nils,.int .i64 (1)]++zz++[.bool false]) 165 0 0 0 true),(1666,aB ([.str 1 98,.nils]++zz++[.bool false,.str 1 99,.nils]++zz++[.bool false]) 163 0 0 0 true),(1672,aB [.slice 1564 0 2 .none 14,.slice 1535 0 1 .none 15,.slice 1666 0 2 .none 14,.slice 1637 0 1 .none 15] 161 0 0 2 true)]
 ord:=[41,1672,38,39,40,1564,1535,1666,1637,54,56]
 v:=.tup [.nils,.int .i64 (0)]
 outs:=[(38,.map [(.int .i64 (0),.agg [.int .i64 (0),.nils,.nils],0),(.int .i64 (1),.agg [.int .i64 (1),.nils,.nils],1)] 2),(39,.map [(.int .i64 (0),.agg [.int .i64 (0),.int .i64 (0),.int .i64 (1),.str 1 84,.nils],0)] 1),(40,.map [(.int .i64 (0),.slice 54 0 1 .none 1,0),(.int .i64 (1),.slice 56 0 1 .none 1,1)] 2)]
 nx':=2306
def t3:Cut where
 f:=14
 args:=[.str 29 2618517039690413243940716763499831017421069106057448910852682392289613]
 nx:=2306
 ins:=[]
 ord:=[]
 v:=.agg ([.int .i64 (0),.bool false,.bool false,.bool false,.slice 2714 0 2 .none 2,.nils,.nils,.bool false,.bool false]++zz++zz++zz++zz++[.bool false,.str 0 0,.nils,.nils])
 outs:=[(2642,aB ([.str 0 0,.nils,.int .i64 (1)]++zz++[.bool false]) 165 0 0 0 false),(2671,aB ([.str 1 97,.nils]++zz++[.bool false,.str 1 98,.nils]++zz++[.bool false]) 163 0 0 0 false),(2707,aB ([.str 1 99,.nils]++zz++[.bool false]) 163 0 0 0 false),(2713,.cls 2714 .none 4),(2714,aB [.slice 2671 0 2 .none 14,.slice 2642 0 1 .none 15,.slice 2707 0 1 (.some 1) 14,.nils] 161 2713 0 2 false)]
 nx':=2948
def f3:Cut where
 f:=13
 args:=[.ptr 41 0,.agg [.nils,.nils,.nils],.agg ([.int .i64 (0),.bool false,.bool false,.bool false,.slice 2714 0 2 .none 2,.nils,.nils,.bool false,.bool false]++zz++zz++zz++zz++[.bool false,.str 0 0,.nils,.nils])]
 nx:=2948
 ins:=[(38,.map [(.int .i64 (0),.agg [.int .i64 (0),.nils,.nils],0),(.int .i64 (1),.agg [.int .i64 (1),.nils,.nils],1)] 2),(39,.map [(.int .i64 (0),.agg [.int .i64 (0),.int .i64 (0),.int .i64 (1),.str 1 84,.nils],0)] 1),(40,.map [(.int .i64 (0),.slice 54 0 1 .none 1,0),(.int .i64 (1),.slice 56 0 1 .none 1,1)] 2),(41,aB [.map 38,.map 39,.map 40,.int .i64 (2),.int .i64 (1)] 83 0 0 0 true),(54,aB [.int .i64 (0)] 2 0 0 0 true),(56,aB [.int .i64 (0)] 2 0 0 0 true),(2642,aB ([.str 0 0,.nils,.int .i64 (1)]++zz++[.bool false]) 165 0 0 0 true),(2671,aB ([.str 1 97,.nils]++zz++[.bool false,.str 1 98,.nils]++zz++[.bool false]) 163 0 0 0 true),(2707,aB ([.str 1 99,.nils]++zz++[.bool false]) 163 0 0 0 true),(2714,aB [.slice 2671 0 2 .none 14,.slice 2642 0 1 .none 15,.slice 2707 0 1 (.some 1) 14,.nils] 161 0 0 2 true)]
 ord:=[41,2714,38,39,40,2671,2642,2707,54,56]
 v:=.tup [.slice 3343 0 2 .none 1,.int .i64 (0)]
 outs:=[(38,.map [(.int .i64 (0),.agg [.int .i64 (0),.nils,.nils],0),(.int .i64 (1),.agg [.int .i64 (1),.nils,.nils],1)] 2),(39,.map [(.int .i64 (0),.agg [.int .i64 (0),.int .i64 (0),.int .i64 (1),.str 1 84,.nils],0)] 1),(40,.map [(.int .i64 (0),.slice 54 0 1 .none 1,0),(.int .i64 (1),.slice 56 0 1 .none 1,1)] 2),(3316,.cls 3322 .none 18),(3322,aB [.int .i64 (6),.bool false,.int .i64 (0),.str 0 0,.nils,.nils,.int .i64 (6),.bool false,.int .i64 (1),.str 0 0,.nils,.nils,.int .i64 (6),.bool false,.int .i64 (0),.str 0 0,.nils,.nils] 29 3316 0 2 false),(3334,.cls 3340 .none 18),(3340,aB [.int .i64 (6),.bool false,.int .i64 (0),.str 0 0,.nils,.nils,.int .i64 (6),.bool false,.int .i64 (1),.str 0 0,.nils,.nils,.int .i64 (6),.bool false,.int .i64 (1),.str 0 0,.nils,.nils] 29 3334 0 2 false),(3342,.cls 3343 .none 2),(3343,aB [.slice 3322 0 3 .none 6,.slice 3340 0 3 .none 6] 24 3342 0 2 false)]
 nx':=3452
def t4:Cut where
 f:=14
 args:=[.str 18 8460884878404909014558362392077560284725581]
 nx:=3452
 ins:=[]
 ord:=[]
 v:=.agg ([.int .i64 (0),.bool false,.bool false,.bool false,.slice 3615 0 1 .none 2,.nils,.nils,.bool false,.bool false]++zz++zz++zz++zz++[.bool false,.str 0 0,.nils,.nils])
 outs:=[(3609,aB ([.str 1 97,.nils]++zz++[.bool false]) 163 0 0 0 false),(3615,aB [.slice 3609 0 1 (.some 1) 14,.nils] 161 0 0 0 false)]
 nx':=3849
def w4:Cut where
 f:=15
 args:=[.ptr 41 0,.agg [.nils,.nils,.nils],.agg ([.int .i64 (0),.bool false,.bool false,.bool false,.slice 3615 0 1 .none 2,.nils,.nils,.bool false,.bool false]++zz++zz++zz++zz++[.bool false,.str 0 0,.nils,.nils])]
 nx:=3849
 ins:=[(38,.map [(.int .i64 (0),.agg [.int .i64 (0),.nils,.nils],0),(.int .i64 (1),.agg [.int .i64 (1),.nils,.nils],1)] 2),(39,.map [(.int .i64 (0),.agg [.int .i64 (0),.int .i64 (0),.int .i64 (1),.str 1 84,.nils],0)] 1),(40,.map [(.int .i64 (0),.slice 54 0 1 .none 1,0),(.int .i64 (1),.slice 56 0 1 .none 1,1)] 2),(41,aB [.map 38,.map 39,.map 40,.int .i64 (2),.int .i64 (1)] 83 0 0 0 true),(54,aB [.int .i64 (0)] 2 0 0 0 true),(56,aB [.int .i64 (0)] 2 0 0 0 true),(3609,aB ([.str 1 97,.nils]++zz++[.bool false]) 163 0 0 0 true),(3615,aB [.slice 3609 0 1 (.some 1) 14,.nils] 161 0 0 0 true)]
 ord:=[41,3615,38,39,40,3609,54,56]
 v:=.tup [.int .i64 (2),.int .i64 (0)]
 outs:=[(38,.map [(.int .i64 (0),.agg [.int .i64 (0),.nils,.nils],0),(.int .i64 (1),.agg [.int .i64 (1),.nils,.nils],1)] 2),(39,.map [(.int .i64 (0),.agg [.int .i64 (0),.int .i64 (0),.int .i64 (1),.str 1 84,.nils],0)] 1),(40,.map [(.int .i64 (0),.slice 54 0 1 .none 1,0),(.int .i64 (1),.slice 56 0 1 .none 1,1)] 2)]
 nx':=3999
def t5:Cut where
 f:=14
 args:=[.str 18 8460884878404909014558362392077560284725581]
 nx:=3999
 ins:=[]
 ord:=[]
 v:=.agg ([.int .i64 (0),.bool false,.bool false,.bool false,.slice 4162 0 1 .none 2,.nils,.nils,.bool false,.bool false]++zz++zz++zz++zz++[.bool false,.str 0 0,.nils,.nils])
 outs:=[(4156,aB ([.str 1 97,.nils]++zz++[.bool false]) 163 0 0 0 false),(4162,aB [.slice 4156 0 1 (.some 1) 14,.nils] 161 0 0 0 false)]
 nx':=4396
def f5:Cut where
 f:=13
 args:=[.nilp,.agg [.nils,.nils,.nils],.agg ([.int .i64 (0),.bool false,.bool false,.bool false,.slice 4162 0 1 .none 2,.nils,.nils,.bool false,.bool false]++zz++zz++zz++zz++[.bool false,.str 0 0,.nils,.nils])]
 nx:=4396
 ins:=[(4156,aB ([.str 1 97,.nils]++zz++[.bool false]) 163 0 0 0 true),(4162,aB [.slice 4156 0 1 (.some 1) 14,.nils] 161 0 0 0 true)]
 ord:=[4162,4156]
 v:=.tup [.nils,.int .i64 (1)]
 outs:=[]
 nx':=4405
end Go.Proofs.K9
end
