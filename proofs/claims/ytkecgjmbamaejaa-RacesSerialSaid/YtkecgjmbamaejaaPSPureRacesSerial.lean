/- RacesSerial: the plain law. -/
import Derived.Test.YtkecgjmbamaejaaPSRJ
import Derived.Test.YtkecgjmbamaejaaPSOpensP
namespace Go.Proofs.Ytkecgjmbamaejaa.P
open Go.RowKit
set_option linter.unusedVariables false
theorem RacesSerial_law (l : List S52) (a1 a2 : Int) (hl : l.length ≤ 8796093022208) (h : ∀ e ∈ l, gE e 0) (_ : (Lit.int .i64 a1).wf = true) (_ : (Lit.int .i64 a2).wf = true) : ∃ k, plunderlaw19_RacesSerial.f k l a1 a2 = some true := RacesSerial_pure l a1 a2 (by omega) (List.all_eq_true.2 fun e he => (h e he).2)
end Go.Proofs.Ytkecgjmbamaejaa.P
