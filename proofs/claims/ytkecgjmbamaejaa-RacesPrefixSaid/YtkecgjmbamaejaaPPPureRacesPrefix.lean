/- RacesPrefix: the plain law. -/
import Derived.Test.YtkecgjmbamaejaaPPRJ
import Derived.Test.YtkecgjmbamaejaaPPOpensP
namespace Go.Proofs.Ytkecgjmbamaejaa.P
open Go.RowKit
set_option linter.unusedVariables false
theorem RacesPrefix_law (l : List S52) (a1 : Int) (hl : l.length ≤ 8796093022208) (h : ∀ e ∈ l, gE e 0) (_ : (Lit.int .i64 a1).wf = true) : ∃ k, plunderlaw19_RacesPrefix.f k l a1 = some true := ⟨0, by unfold plunderlaw19_RacesPrefix.f; rw [if_pos ⟨by omega, List.all_eq_true.2 fun e he => (h e he).2⟩]⟩
end Go.Proofs.Ytkecgjmbamaejaa.P
