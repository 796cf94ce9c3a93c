/- RacesAgree: the plain law. -/
import Derived.Test.YtkecgjmbamaejaaPARK
import Derived.Test.YtkecgjmbamaejaaPAOpensP
namespace Go.Proofs.Ytkecgjmbamaejaa.P
open Go.RowKit
set_option linter.unusedVariables false
theorem RacesAgree_law (l : List S52) (hl : l.length ≤ 8796093022208) (h : ∀ e ∈ l, gE e 0) : ∃ k, plunderlaw19_RacesAgree.f k l = some true := ⟨0, by unfold plunderlaw19_RacesAgree.f; rw [if_pos ⟨by omega, List.all_eq_true.2 fun e he => (h e he).2⟩]⟩
end Go.Proofs.Ytkecgjmbamaejaa.P
