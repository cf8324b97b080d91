/-
  What a function leads to, reckoned with a set of bits; a proof that it is the given reckoning. Own text.
-/
import Derived.Test.YtbddnchfoojacaaGreatDoorExo1
import GoSem.ClaimGoes
import GoSem.ClaimJoined
set_option linter.all false
namespace Go.Exo
def hasBit (bits f:Nat):Bool:=Nat.beq (Nat.land (Nat.shiftRight bits f) 1) 1
noncomputable def cloF (t:T (List Nat)):Nat→List Nat→Nat→List Nat→List Nat
 |0,_,_,acc=>acc.reverse
 |_+1,[],_,acc=>acc.reverse
 |n+1,f::todo,bits,acc=>cond (hasBit bits f) (cloF t n todo bits acc) (cloF t n (t.get [] f++todo) (Nat.lor bits (Nat.shiftLeft 1 f)) (f::acc))
noncomputable def cloAll (tab:List (List Nat))(fuel f:Nat):List Nat:=T.ofK [] tab 0 .e fun t=>cloF t fuel [f] 0 []
theorem hasBit_test (bits f:Nat):hasBit bits f=bits.testBit f:=by
 unfold hasBit
 have e:Nat.land (Nat.shiftRight bits f) 1=(bits >>> f) &&& 1:=rfl
 rw[e,Nat.testBit,Nat.and_comm]
 have h:1 &&& (bits >>> f)=(bits >>> f) % 2:=Nat.one_and_eq_mod_two _
 rw[h]
 rcases Nat.mod_two_eq_zero_or_one (bits >>> f) with h1|h1<;>rw[h1]<;>rfl
theorem cloF_eq {P:Program}{t:T (List Nat)}(ht:∀ f,(P.funcs[f]?).elim [] P.leadsTo=t.get [] f):∀ (n:Nat)(todo:List Nat)(bits:Nat)(acc:List Nat),(∀ x,acc.contains x=bits.testBit x)→P.closureVia n todo acc=cloF t n todo bits acc
 |0,_,_,_,_=>by unfold Program.closureVia cloF;rfl
 |_+1,[],_,_,_=>by unfold Program.closureVia cloF;rfl
 |n+1,f::todo,bits,acc,h=>by
  unfold Program.closureVia cloF
  rw[hasBit_test,← h f,ht f]
  cases hc:acc.contains f with
  |true=>simp only[if_true,cond_true];exact cloF_eq ht n todo bits acc h
  |false=>
   simp only[Bool.false_eq_true,if_false,cond_false]
   refine cloF_eq ht n _ _ _ fun x=>?_
   have e:Nat.lor bits (Nat.shiftLeft 1 f)=bits ||| (1 <<< f):=rfl
   rw[e,Nat.testBit_or,← h x,Nat.one_shiftLeft,Nat.testBit_two_pow]
   by_cases c:f=x
   ·subst c;simp
   ·have:¬ x=f:=fun h=>c h.symm
    simp[c,this]
theorem get_tab {α:Type}(d:α)(tab:List α)(f:Nat):(putL d tab 0 .e).get d f=(tab[f]?).getD d:=by rw[get_putL];simp[get_e]
theorem closure_of {P:Program}{f n:Nat}{L:List Nat}(hn:1+(P.funcs.toList.map fun g=>(P.leadsTo g).length+1).sum=n)(h:cloAll (P.funcs.toList.map P.leadsTo) n f=L):P.closure f=L:=by
 unfold Program.closure
 rw[hn,← h]
 unfold cloAll
 rw[ofK_eq]
 refine cloF_eq (fun g=>?_) n [f] 0 [] fun x=>by simp
 rw[get_tab,List.getElem?_map,Array.getElem?_toList]
 cases P.funcs[g]?<;>rfl
def ipF (fn:Func):Option String:=if fn.ours || fn.body.isNone || fn.name == "runtime.NumGoroutine" then some fn.name else none
def joinO {α:Type}:Option (Option α)→Option α|some x=>x|none=>none
noncomputable def ipAll (P:Program)(L:List Nat):List String:=T.ofK none (P.funcs.toList.map fun fn=>some (ipF fn)) 0 .e fun t=>L.filterMap fun g=>joinO (t.get none g)
theorem inPlace_of {P:Program}{f:Nat}{L:List Nat}{S:List String}(hL:P.closure f=L)(h:ipAll P L=S):P.inPlace f=S:=by
 unfold Program.inPlace
 rw[hL,← h]
 unfold ipAll
 rw[ofK_eq]
 congr 1
 funext g
 rw[get_tab,List.getElem?_map,Array.getElem?_toList]
 cases P.funcs[g]?<;>rfl
theorem unfollowed_of {P:Program}{f g:Nat}{L:List Nat}(hL:P.closure f=L)(hg:L.elem g=true)(h:((P.funcs[g]?).any fun fn=>match fn.body with|some c=>c.unfollowed|none=>entryCalls fn)=true):P.unfollowed f=true:=by
 unfold Program.unfollowed
 rw[hL,List.any_eq_true]
 exact⟨g,List.elem_iff.1 hg,h⟩
theorem recurses_of {P:Program}{f:Nat}(h:P.unfollowed f=true):P.recurses f=true:=by unfold Program.recurses;rw[h];rfl
def gnF (fn:Func):List Nat:=fn.body.elim [] Code.globalsNamed
def erF (fn:Func):Option String:=if fn.body.isNone then entryReads.lookup fn.name else none
noncomputable def vnAll (P:Program)(L:List Nat):List String:=
 T.ofK [] (P.funcs.toList.map gnF) 0 .e fun t=>T.ofK none (P.funcs.toList.map fun fn=>some (erF fn)) 0 .e fun u=>
  (((L.flatMap fun g=>t.get [] g).eraseDups).filterMap (fun g=>(P.globals[g]?).map (·.name))++L.filterMap fun g=>joinO (u.get none g)).eraseDups
theorem varsNamed_of {P:Program}{f:Nat}{L:List Nat}{S:List String}(hL:P.closure f=L)(h:vnAll P L=S):P.varsNamed f=S:=by
 unfold Program.varsNamed
 rw[hL,← h]
 unfold vnAll
 rw[ofK_eq,ofK_eq]
 have e1:(fun g=>((P.funcs[g]?).bind (·.body)).elim [] Code.globalsNamed)=fun g=>(putL [] (P.funcs.toList.map gnF) 0 .e).get [] g:=by
  funext g
  rw[get_tab,List.getElem?_map,Array.getElem?_toList]
  cases P.funcs[g]?<;>rfl
 have e2:(fun g=>(P.funcs[g]?).bind fun fn=>if fn.body.isNone then entryReads.lookup fn.name else none)=fun g=>joinO ((putL none (P.funcs.toList.map fun fn=>some (erF fn)) 0 .e).get none g):=by
  funext g
  rw[get_tab,List.getElem?_map,Array.getElem?_toList]
  cases P.funcs[g]?<;>rfl
 rw[e1,e2]
theorem goes_of {P:Program}{f:Nat}(h:P.funcs.toList.any Func.goes=false):P.goes f=false:=by
 have hall:∀ g:Nat,((P.funcs[g]?).any Func.goes)=false:=fun g=>by
  cases hg:P.funcs[g]? with
  |none=>rfl
  |some fn=>
   have hm:fn∈P.funcs.toList:=by rw[← Array.getElem?_toList] at hg;exact List.mem_of_getElem? hg
   have:=List.any_eq_false.1 h fn hm
   simpa using this
 unfold Program.goes
 have h2:P.funcs.any Func.goes=false:=by rw[← Array.any_toList];exact h
 rw[h2,Bool.and_false,Bool.or_false,List.any_eq_false]
 intro g _
 rw[hall g];simp
theorem goesAt_of {P:Program}(h:P.funcs.toList.any Func.goes=false)(st:Start)(func:String):P.goesAt st func=false:=by
 have h1:P.goesFrom func=false:=by
  unfold Program.goesFrom
  cases P.funcNamed func with
  |none=>rfl
  |some f=>exact goes_of h
 have h2:P.inits.toList.any P.goes=false:=by
  rw[List.any_eq_false]
  intro g _
  rw[goes_of h];simp
 unfold Program.goesAt
 rw[h1,h2]
 cases st<;>rfl
end Go.Exo
