/-
  MatchOrder: the law answers true. Own text.
-/
import Derived.Test.YtihaakenfdkgnaaGreatDoorPart26
import Derived.Test.YtihaakenfdkgnaaGreatDoorPart15
import Derived.Test.YtihaakenfdkgnaaGreatDoorPart2
import GoSem.ClaimGoes
import GoSem.ClaimJoined
set_option linter.all false
noncomputable section
namespace Go.Proofs.Wo
open Go.Exo Go.Exo.Wo Go.Lib Go.RowKit
set_option maxRecDepth 100000
variable {k:Nat}{G:World->Prop}
open Classical in
def tyF (F:List Cl->List Cl)(c:List Cl):List Cl:=if Wts vK (F c) then F c else c
theorem yh {f:FuncId}{Pre:List Cl->Prop}{F:List Cl->List Cl}(hS:Go.Exo.Spec Tryz.prog G f [vA] (.one vA) Pre F):Go.Exo.Spec Tryz.prog G f [vA] (.one vA) Pre (tyF F):=by
 intro w φ args cls hw hφ ha hp;refine (hS w φ args cls hw hφ ha hp).mono ?_;rintro e w' ⟨x,φ',rfl,h1,h2,h3,h4,h5⟩;have h5':ArgR (rel φ') [vA] [x] (F cls):=h5
 have hk:Wts vK (F cls):=by
  have:=h5'.wt;simpa[kinds,Ash.ks] using this
 have e:tyF F cls=F cls:=by unfold tyF;rw[if_pos hk]
 exact⟨x,φ',rfl,h1,h2,h3,h4,by rw[e];exact h5⟩
theorem typed_ok {F:List Cl->List Cl}(h:∀ c,cN c (F c)):FcOk (tyF F):=fun c hw=>by
 unfold tyF;split
 ·rename_i hk
  refine⟨hk,?_⟩;obtain⟨k,b,n,s,nl,ys,ml,rs,rfl,-⟩:=row6 hw;obtain⟨ml',rs',e,e2⟩:=(h _).2 k b n s nl ys ml rs rfl;rw[e];simp only[nrmR,nrm,e2]
 ·exact⟨hw,rfl⟩
theorem yi {Fc:List Cl->List Cl}{C:List Cl->Int}{M n:Nat}(hG:Gd0 k G)(hS18:Go.Exo.Spec Tryz.prog G 18 [vA] (.one vA) (eJ n) Fc)
  (hS:Go.Exo.Spec Tryz.prog G 22 [.one (.sl 29),.one (.sl 29)] (.one (.one iK)) (fun c=>SizeOf.sizeOf c<dp M) (cO C (dp M))) :
  Go.Exo.Spec Tryz.prog G 7 [.one (.sl 24)] (.one (.one (.sl 24))) (fun c=>∃ nl rows,c=[Cl.sl nl rows]/\OrdP Fc C M n rows) (ordF Fc C M):=by
 rintro w φ args cls hw hφ ha ⟨nl,rows,rfl,hp⟩;cases ha with
 |one hx h0=>
  cases h0;refine (order7 hG hS18 hS hw hφ hx hp).mono ?_;rintro e w' ⟨y,φ',rfl,s1,s2,s3,s4,s5⟩;exact⟨y,φ',rfl,s1,s2,s3,⟨s4.block,s4.size,s4.os,s4.output,s4.tape⟩,.one s5 .nil⟩
theorem law_ok (hG:Gd0 k G)(hk0:0<k)(hsz:Tryz.prog.globals.size<=k)(hT:∀ w,G w->Go.Lib.Utf8Tabs 1 2 w)(hK:Go.Exo.Spec Tryz.prog G 4 [] (.one (.one .bool)) (fun _=>True) (fun _=>[.bool true]))(M:Nat):∃ tb,Klaw.Sound Tryz.prog k G tb (l8 M) (fun _=>[.bool true]):=by
 have hC:=yg hG (may_at hG hk0 hsz hT) (dp M);obtain⟨tbm,hm⟩:=mcmp_x hG hk0 hsz hC;have hS22:=Ctr.Sound.spec (by kernel_rfl) hG hk0 hsz hm rfl;obtain⟨F,hF,hFp⟩:=A0 hG hk0 hsz M;have hF':=yh hF;have hFc:=typed_ok hFp;have h7:=yi (M:=M) hG hF' hS22;have h9:=wb hG hk0 hsz (dp M) 42;obtain⟨tb0,Fg,h0,hB⟩:=great_n hG hk0 hsz M;obtain⟨tb1,h1⟩:=check_v hG hk0 hsz M;obtain⟨tb4,h4⟩:=sm_ok hG hk0 hsz M;obtain⟨tb5,h5⟩:=less_x hG hk0 hsz hC;obtain⟨tb6,h6⟩:=zD hG hk0 hsz (dp M)
 letI:Tb:=⟨some (9,tbLw Fg (tyF F) M)⟩
 have hxM:∀ (x:Nat) c,x=1000000\/x=1000001\/x=1000004->tbLw Fg (tyF F) M x c=.bool true->SizeOf.sizeOf c<M:=fun x c hx h=>by
  rw[tbLw,if_pos hx] at h;simpa using h
 have hxD:∀ (x:Nat) c,x=1000005\/x=1000006->tbLw Fg (tyF F) M x c=.bool true->SizeOf.sizeOf c<dp M:=fun x c hx h=>by
  rw[tbLw,if_neg (by omega),if_pos hx] at h;simpa using h
 have hx2:∀ c,tbLw Fg (tyF F) M 1000002 c=.bool true->∃ nl rows,c=[Cl.sl nl rows]/\OrdP (tyF F) (Cm M) M M rows:=fun c h=>by
  rw[tbLw,if_neg (by omega),if_neg (by omega),if_pos rfl] at h;simpa using h
 have hx3:∀ c,tbLw Fg (tyF F) M 1000003 c=.bool true->ordPre (dp M) 42 c:=fun c h=>by
  rw[tbLw,if_neg (by omega),if_neg (by omega),if_neg (by omega),if_pos rfl] at h;simpa using h
 exact⟨_,Ctr.ofT (hk:=i4) Nat.lt_wfRel.wf lawM (l9 M) hG (fun D=>@aq.or _ (dcOf D) _ _ _ _ _ _
   (@aq.ctr _ (dcOf D) _ _ _ _ 9 (by kernel_rfl) _ _ _ _ h0 (by kernel_rfl) _ _ (bm (fun c=>by obtain⟨b,e⟩:=hB c;rw[e];simp) (fun c=>by simp[tbLw])) (some 1000000) (fun c h=>hxM 1000000 c (by omega) h) hG hk0 hsz rfl)
   (@aq.or _ (dcOf D) _ _ _ _ _ _
   (@aq.ctr _ (dcOf D) _ _ _ _ 9 (by kernel_rfl) _ _ _ _ h1 (by kernel_rfl) _ _ (bm (fun c=>by simp) (fun c=>by simp[tbLw])) (some 1000001) (fun c h=>hxM 1000001 c (by omega) h) hG hk0 hsz rfl)
   (@aq.or _ (dcOf D) _ _ _ _ _ _
   (aq.specP h7 (bm (fun c=>by unfold ordF;split<;>simp) (fun c=>by simp[tbLw])) hx2 hG hk0 rfl D)
   (@aq.or _ (dcOf D) _ _ _ _ _ _
   (aq.specP h9 (bm (fun c=>by unfold ordG;split<;>simp) (fun c=>by simp[tbLw])) hx3 hG hk0 rfl D)
   (@aq.or _ (dcOf D) _ _ _ _ _ _
   (@aq.ctr _ (dcOf D) _ _ _ _ 9 (by kernel_rfl) _ _ _ _ h4 (by kernel_rfl) _ _ (bm (fun c=>by unfold smF;split<;>simp) (fun c=>by simp[tbLw])) (some 1000004) (fun c h=>hxM 1000004 c (by omega) h) hG hk0 hsz rfl)
   (@aq.or _ (dcOf D) _ _ _ _ _ _
   (@aq.ctr _ (dcOf D) _ _ _ _ 9 (by kernel_rfl) _ _ _ _ h5 (by kernel_rfl) _ _ (bm (fun c=>by unfold rf;split<;>simp) (fun c=>by simp[tbLw])) (some 1000005) (fun c h=>hxD 1000005 c (by omega) h) hG hk0 hsz rfl)
   (@aq.or _ (dcOf D) _ _ _ _ _ _
   (@aq.ctr _ (dcOf D) _ _ _ _ 9 (by kernel_rfl) _ _ _ _ h6 (by kernel_rfl) _ _ (bm (fun c=>by unfold bN;split<;>simp) (fun c=>by simp[tbLw])) (some 1000006) (fun c h=>hxD 1000006 c (by omega) h) hG hk0 hsz rfl)
   (aq.spec hK (bm (fun c=>by simp) (fun c=>by simp[tbLw])) hG hk0 rfl D)))))))) hsz (L:=9) (by kernel_rfl) rfl (trs:=[lawt0,lawt1,lawt2,lawt3]) (by kernel_rfl) lawt_ok lawV ⟨⟨lawt0_ok,lawV0 hFc⟩,⟨lawt1_ok,lawV1 hB⟩,⟨lawt2_ok,lawV2⟩,⟨lawt3_ok,lawV3⟩,trivial⟩⟩
end Go.Proofs.Wo
end

noncomputable section
namespace Go.Proofs.Wo
open Go.Exo Go.Exo.Wo Go.Lib
theorem pH {r:List Cl}:∀ {l:List (List Cl)},r∈l->bh r<=cQ l
 |y::l,h=>by
  simp only[cQ];rcases List.mem_cons.1 h with rfl|h
  ·omega
  ·have:=pH h;omega
theorem zR:∀ (ys:List (List Cl))(n:Int),ys.foldl kl n<=n+cQ ys
 |[],n=>by simp[cQ]
 |y::ys,n=>by
  have h:=zR ys (kl n y)
  have:kl n y<=n+bh y:=by
   unfold kl;split
   ·simp only[bh,iY];omega
   ·omega
  simp only[List.foldl_cons,cQ];omega
theorem tr_mass (n:Nat):∀ r:List Cl,SizeOf.sizeOf r<n->(trR r).1<=bh r/\(trR r).2.1<=bh r/\(trR r).2.2.1<=bh r:=by
 induction n with
 |zero=>intro r h;omega
 |succ n ih=>
  intro r h;by_cases hr:∃ k b i s nl ys ml rs,r=[Cl.int k,.bool b,.int i,.str s,.sl nl ys,.sl ml rs]
  ·obtain⟨k,b,i,s,nl,ys,ml,rs,rfl⟩:=hr
   rw[jL]
   have key:∀ (l:List (List Cl))(a:Sz),(∀ x∈l,x∈rs)->(trRs a l).1<=a.1+cQ l/\(0<=a.2.1->(trRs a l).2.1<=a.2.1+cQ l)/\(trRs a l).2.2.1<=a.2.2.1+cQ l:=by
    intro l;induction l with
    |nil=>intro a _;simp[trRs,cQ]
    |cons x l ihl=>
     intro a hx;have z:=List.sizeOf_lt_of_mem (hx x (.head _));simp only[List.cons.sizeOf_spec,Cl.sl.sizeOf_spec] at h;have hz:=ih x (by omega);have h0:=trR_0 x;have q:=ihl (aQ a (trR x)) fun y hy=>hx y (.tail _ hy)
     have e1:(aQ a (trR x)).1=a.1+(trR x).1:=rfl;have e3:(aQ a (trR x)).2.2.1=a.2.2.1+(trR x).2.2.1:=rfl
     have e2:0<=a.2.1->0<=(aQ a (trR x)).2.1/\(aQ a (trR x)).2.1<=a.2.1+bh x:=fun ha=>by
      unfold aQ;simp only;split<;>omega
     show (trRs (aQ a (trR x)) l).1<=_/\(0<=a.2.1->(trRs (aQ a (trR x)) l).2.1<=_)/\(trRs (aQ a (trR x)) l).2.2.1<=_;simp only[cQ];refine⟨by omega,fun ha=>?_,by omega⟩;have:=e2 ha;have:=q.2.1 this.1;omega
   have q:=key rs (1,0,ys.foldl kl (s.length:Int),(rs.length:Int)) fun _ h=>h
   have hk:=zR ys (s.length:Int);have q2:=q.2.1 (by simp);simp only[bh,iY] at q q2 ⊢;refine⟨by omega,by omega,by omega⟩
  ·have e:trR r=(0,0,0,0):=by
    unfold trR;split
    ·rename_i k b i s nl ys ml rs
     exact absurd ⟨k,b,i,s,nl,ys,ml,rs,rfl⟩ hr
    ·rfl
   rw[e];simp
theorem law_fits {M:Nat}{c:List Cl}(hs:4*SizeOf.sizeOf c+50<M)(hm:bh c<=1048576):l8 M c:=by
 refine⟨hs,?_⟩;rintro nl rows rfl r hr xl d rfl v hv
 have hv1:bh v<=1048576:=by
  have h1:=pH hv;have h2:=pH hr;simp only[bh,iY] at h2 hm;omega
 have t:=tr_mass _ v (Nat.lt_succ_self _);have hb:big=4611686018427387904:=rfl;exact⟨by omega,by omega,by omega⟩
end Go.Proofs.Wo
end

noncomputable section
namespace Go.Exo
def wG (bits f:Nat):Bool:=Nat.beq (Nat.land (Nat.shiftRight bits f) 1) 1
def cloF (t:T (List Nat)):Nat->List Nat->Nat->List Nat->List Nat
 |0,_,_,acc=>acc.reverse
 |_+1,[],_,acc=>acc.reverse
 |n+1,f::todo,bits,acc=>cond (wG bits f) (cloF t n todo bits acc) (cloF t n (t.get [] f++todo) (Nat.lor bits (Nat.shiftLeft 1 f)) (f::acc))
def wH (tab:List (List Nat))(fuel f:Nat):List Nat:=T.ofK [] tab 0 .e fun t=>cloF t fuel [f] 0 []
theorem um (bits f:Nat):wG bits f=bits.testBit f:=by
 unfold wG;have e:Nat.land (Nat.shiftRight bits f) 1=(bits >>> f) &&& 1:=rfl;rw[e,Nat.testBit,Nat.and_comm];have h:1 &&& (bits >>> f)=(bits >>> f) % 2:=Nat.one_and_eq_mod_two _;rw[h];rcases Nat.mod_two_eq_zero_or_one (bits >>> f) with h1|h1<;>rw[h1]<;>rfl
theorem rY {P:Program}{t:T (List Nat)}(ht:∀ f,(P.funcs[f]?).elim [] P.leadsTo=t.get [] f):∀ (n:Nat)(todo:List Nat)(bits:Nat)(acc:List Nat),(∀ x,acc.contains x=bits.testBit x)->P.closureVia n todo acc=cloF t n todo bits acc
 |0,_,_,_,_=>by unfold Program.closureVia cloF;rfl
 |_+1,[],_,_,_=>by unfold Program.closureVia cloF;rfl
 |n+1,f::todo,bits,acc,h=>by
  unfold Program.closureVia cloF;rw[um,<- h f,ht f];cases hc:acc.contains f with
  |true=>simp only[if_true,cond_true];exact rY ht n todo bits acc h
  |false=>
   simp only[Bool.false_eq_true,if_false,cond_false];refine rY ht n _ _ _ fun x=>?_
   have e:Nat.lor bits (Nat.shiftLeft 1 f)=bits ||| (1 <<< f):=rfl;rw[e,Nat.testBit_or,<- h x,Nat.one_shiftLeft,Nat.testBit_two_pow];by_cases c:f=x
   ·subst c;simp
   ·have:¬ x=f:=fun h=>c h.symm
    simp[c,this]
theorem mP {α:Type}(d:α)(tab:List α)(f:Nat):(putL d tab 0 .e).get d f=(tab[f]?).getD d:=by rw[bY];simp[gD]
theorem wI {P:Program}{f n:Nat}{L:List Nat}(hn:1+(P.funcs.toList.map fun g=>(P.leadsTo g).length+1).sum=n)(h:wH (P.funcs.toList.map P.leadsTo) n f=L):P.closure f=L:=by
 unfold Program.closure;rw[hn,<- h];unfold wH;rw[bw];refine rY (fun g=>?_) n [f] 0 [] fun x=>by simp
 rw[mP,List.getElem?_map,Array.getElem?_toList];cases P.funcs[g]?<;>rfl
def ipF (fn:Func):Option String:=if fn.ours || fn.body.isNone || fn.name == "runtime.NumGoroutine" then some fn.name else none
def joinO {α:Type}:Option (Option α)->Option α|some x=>x|none=>none
def ipAll (P:Program)(L:List Nat):List String:=T.ofK none (P.funcs.toList.map fun fn=>some (ipF fn)) 0 .e fun t=>L.filterMap fun g=>joinO (t.get none g)
theorem wJ {P:Program}{f:Nat}{L:List Nat}{S:List String}(hL:P.closure f=L)(h:ipAll P L=S):P.inPlace f=S:=by
 unfold Program.inPlace;rw[hL,<- h];unfold ipAll;rw[bw];congr 1;funext g;rw[mP,List.getElem?_map,Array.getElem?_toList];cases P.funcs[g]?<;>rfl
theorem pM {P:Program}{f g:Nat}{L:List Nat}(hL:P.closure f=L)(hg:L.elem g=true)(h:((P.funcs[g]?).any fun fn=>match fn.body with|some c=>c.unfollowed|none=>entryCalls fn)=true):P.unfollowed f=true:=by
 unfold Program.unfollowed;rw[hL,List.any_eq_true];exact⟨g,List.elem_iff.1 hg,h⟩
theorem uo {P:Program}{f:Nat}(h:P.unfollowed f=true):P.recurses f=true:=by unfold Program.recurses;rw[h];rfl
def gnF (fn:Func):List Nat:=fn.body.elim [] Code.globalsNamed
def erF (fn:Func):Option String:=if fn.body.isNone then entryReads.lookup fn.name else none
def vnAll (P:Program)(L:List Nat):List String:=
 T.ofK [] (P.funcs.toList.map gnF) 0 .e fun t=>T.ofK none (P.funcs.toList.map fun fn=>some (erF fn)) 0 .e fun u=>
  (((L.flatMap fun g=>t.get [] g).eraseDups).filterMap (fun g=>(P.globals[g]?).map (·.name))++L.filterMap fun g=>joinO (u.get none g)).eraseDups
theorem rZ {P:Program}{f:Nat}{L:List Nat}{S:List String}(hL:P.closure f=L)(h:vnAll P L=S):P.varsNamed f=S:=by
 unfold Program.varsNamed;rw[hL,<- h];unfold vnAll;rw[bw,bw]
 have e1:(fun g=>((P.funcs[g]?).bind (·.body)).elim [] Code.globalsNamed)=fun g=>(putL [] (P.funcs.toList.map gnF) 0 .e).get [] g:=by
  funext g;rw[mP,List.getElem?_map,Array.getElem?_toList];cases P.funcs[g]?<;>rfl
 have e2:(fun g=>(P.funcs[g]?).bind fun fn=>if fn.body.isNone then entryReads.lookup fn.name else none)=fun g=>joinO ((putL none (P.funcs.toList.map fun fn=>some (erF fn)) 0 .e).get none g):=by
  funext g;rw[mP,List.getElem?_map,Array.getElem?_toList];cases P.funcs[g]?<;>rfl
 rw[e1,e2]
theorem yt {P:Program}{f:Nat}(h:P.funcs.toList.any Func.goes=false):P.goes f=false:=by
 have hall:∀ g:Nat,((P.funcs[g]?).any Func.goes)=false:=fun g=>by
  cases hg:P.funcs[g]? with
  |none=>rfl
  |some fn=>
   have hm:fn∈P.funcs.toList:=by rw[<- Array.getElem?_toList] at hg;exact List.mem_of_getElem? hg
   have:=List.any_eq_false.1 h fn hm;simpa using this
 unfold Program.goes;have h2:P.funcs.any Func.goes=false:=by rw[<- Array.any_toList];exact h
 rw[h2,Bool.and_false,Bool.or_false,List.any_eq_false];intro g _;rw[hall g];simp
theorem zU {P:Program}(h:P.funcs.toList.any Func.goes=false)(st:Start)(func:String):P.goesAt st func=false:=by
 have h1:P.goesFrom func=false:=by
  unfold Program.goesFrom;cases P.funcNamed func with
  |none=>rfl
  |some f=>exact yt h
 have h2:P.inits.toList.any P.goes=false:=by
  rw[List.any_eq_false];intro g _;rw[yt h];simp
 unfold Program.goesAt;rw[h1,h2];cases st<;>rfl
end Go.Exo
end
