/-
  ClausesWithout answers true for every value and every two lists: the given card. No condition.
-/
import Derived.Test.YtjcpnonpiiipgaaGreatDoorFr9b
import Derived.Test.YtjcpnonpiiipgaaGreatDoorK9Known
set_option linter.all false
namespace Go.Proofs.YtjcpnonpiiipgaaGreatDoor.clausesWithout
open Go.RowKit
theorem known9:Known:=fun W hW=>
 (K9.known W [] hW .nil).mono fun e w' ⟨v,he,hv,hx⟩=>by
  cases hv
  exact⟨he,hx.os,hx.tape,hx.output,hx.size,hx.old⟩
theorem clausesWithout_holds:Rows.ClausesWithoutCardSaid:=card known9
#print axioms clausesWithout_holds
end Go.Proofs.YtjcpnonpiiipgaaGreatDoor.clausesWithout
