/- SerialPart: the plain law. -/
import Derived.Test.YtcioegimmjppcaaDoorZSerZ
import Derived.Test.YtcioegimmjppcaaDoorZJO
namespace Go.Proofs.YtcioegimmjppcaaDoor.P
open Go.RowKit
set_option linter.unusedVariables false
theorem SerialPart_pure {B : Nat} (l0 : List S39) (l1 : List Int) (a2 a3 : Int) (_ : ∀ e ∈ l0, gF e B) (_ : ∀ e ∈ l1, (Lit.int .i64 e).wf = true) (_ : (Lit.int .i64 a2).wf = true) (_ : (Lit.int .i64 a3).wf = true) : ∃ k, plunderlaw6_SerialPart.f k l0 l1 a2 a3 = some true := part_true l0 l1 a2 a3
end Go.Proofs.YtcioegimmjppcaaDoor.P
