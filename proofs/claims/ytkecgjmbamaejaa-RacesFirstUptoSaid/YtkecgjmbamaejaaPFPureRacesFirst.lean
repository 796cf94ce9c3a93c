/- RacesFirst: the plain law. -/
import Derived.Test.YtkecgjmbamaejaaPFRI
import Derived.Test.YtkecgjmbamaejaaPFOpensP
namespace Go.Proofs.Ytkecgjmbamaejaa.P
open Go.RowKit
set_option linter.unusedVariables false
theorem gE_wfB {l : List S52} (h : ∀ e ∈ l, gE e 0) : wfB l = true := List.all_eq_true.2 fun e he => (h e he).2
theorem RacesFirst_law (l : List S52) (hl : l.length ≤ 1048576) (h : ∀ e ∈ l, gE e 0) : ∃ k, plunderlaw19_RacesFirst.f k l = some true := ⟨0, by unfold plunderlaw19_RacesFirst.f; rw [if_pos ⟨hl, gE_wfB h⟩]⟩
end Go.Proofs.Ytkecgjmbamaejaa.P
