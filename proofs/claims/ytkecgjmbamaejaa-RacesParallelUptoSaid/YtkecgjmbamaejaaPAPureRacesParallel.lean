/- RacesParallel: the plain law. -/
import Derived.Test.YtkecgjmbamaejaaPARC
import Derived.Test.YtkecgjmbamaejaaPAOpensP
namespace Go.Proofs.Ytkecgjmbamaejaa.P
open Go.RowKit
set_option linter.unusedVariables false
theorem RacesParallel_law (l : List S52) (a1 a2 : Int) (hl : l.length ≤ 1048576) (_ : ∀ e ∈ l, gE e 0) (_ : (Lit.int .i64 a1).wf = true) (_ : (Lit.int .i64 a2).wf = true) : ∃ k, plunderlaw19_RacesParallel.f k l a1 a2 = some true := RacesParallel_pure l a1 a2 hl
end Go.Proofs.Ytkecgjmbamaejaa.P
