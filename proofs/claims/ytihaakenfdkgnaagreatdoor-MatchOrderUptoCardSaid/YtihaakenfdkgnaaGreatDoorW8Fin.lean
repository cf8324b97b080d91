/-
  MatchOrder answers true for every list of rows of bulk at most 1048576: the given card of the second form. No other condition.
-/
import Derived.Test.YtihaakenfdkgnaaGreatDoorPart29
import Derived.Test.YtihaakenfdkgnaaGreatDoorPart30
set_option linter.all false
noncomputable section
namespace Go.Proofs.YtihaakenfdkgnaaGreatDoor.matchOrder
open Go.RowKit
theorem known8:rx:=fun W hW=>
 (K9.known W [] hW .nil).mono fun e w' ⟨v,he,hv,hx⟩=>by
  cases hv;exact⟨he,hx.os,hx.tape,hx.output,hx.size,hx.old⟩
theorem matchOrderUpto_holds:Rows.MatchOrderUptoCardSaid:=card known8
#print axioms matchOrderUpto_holds
end Go.Proofs.YtihaakenfdkgnaaGreatDoor.matchOrder
end
