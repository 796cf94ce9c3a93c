/- RacesTwo: the plain law. -/
import Derived.Test.YtkecgjmbamaejaaPTRI
import Derived.Test.YtkecgjmbamaejaaPTOpensP
namespace Go.Proofs.Ytkecgjmbamaejaa.P
open Go.RowKit
set_option linter.unusedVariables false
theorem RacesTwo_law (l : List S52) (a1 a2 : Int) (hl : l.length ≤ 8796093022208) (_ : ∀ e ∈ l, gE e 0) (_ : (Lit.int .i64 a1).wf = true) (_ : (Lit.int .i64 a2).wf = true) : ∃ k, plunderlaw19_RacesTwo.f k l a1 a2 = some true := RacesTwo_pure l a1 a2 (by omega)
end Go.Proofs.Ytkecgjmbamaejaa.P
