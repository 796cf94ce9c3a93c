/- RacesDetect: the plain law. -/
import Derived.Test.YtkecgjmbamaejaaPERJ
import Derived.Test.YtkecgjmbamaejaaPEOpensP
namespace Go.Proofs.Ytkecgjmbamaejaa.P
open Go.RowKit
set_option linter.unusedVariables false
theorem RacesDetect_law (l : List S52) (hl : l.length ≤ 1048576) (h : ∀ e ∈ l, gE e 0) : ∃ k, plunderlaw19_RacesDetect.f k l = some true := ⟨0, by unfold plunderlaw19_RacesDetect.f; rw [if_pos ⟨hl, List.all_eq_true.2 fun e he => (h e he).2⟩]⟩
end Go.Proofs.Ytkecgjmbamaejaa.P
