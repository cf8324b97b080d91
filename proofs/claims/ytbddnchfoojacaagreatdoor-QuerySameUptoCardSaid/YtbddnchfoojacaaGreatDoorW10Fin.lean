/-
  QuerySame answers true for every two tables that are together of bulk at most 1048576: the given card of the second form. No other condition.
-/
import Derived.Test.YtbddnchfoojacaaGreatDoorFr10b
import Derived.Test.YtbddnchfoojacaaGreatDoorK10Known
set_option linter.all false
namespace Go.Proofs.YtbddnchfoojacaaGreatDoor.querySame
open Go.RowKit
theorem known10:Known:=fun W hW=>
 (K9.known W [] hW .nil).mono fun e w' ⟨v,he,hv,hx⟩=>by
  cases hv
  exact⟨he,hx.os,hx.tape,hx.output,hx.size,hx.old⟩
theorem querySameUpto_holds:Rows.QuerySameUptoCardSaid:=card known10
#print axioms querySameUpto_holds
end Go.Proofs.YtbddnchfoojacaaGreatDoor.querySame
