/- RacesOrders: the plain law. -/
import Derived.Test.YtkecgjmbamaejaaPORD
import Derived.Test.YtkecgjmbamaejaaPOOpensP
namespace Go.Proofs.Ytkecgjmbamaejaa.P
open Go.RowKit
set_option linter.unusedVariables false
theorem RacesOrders_law (l : List S52) (hl : l.length ≤ 1048576) (_ : ∀ e ∈ l, gE e 0) : ∃ k, plunderlaw19_RacesOrders.f k l = some true := ⟨0, by unfold plunderlaw19_RacesOrders.f; rw [if_pos hl]⟩
end Go.Proofs.Ytkecgjmbamaejaa.P
