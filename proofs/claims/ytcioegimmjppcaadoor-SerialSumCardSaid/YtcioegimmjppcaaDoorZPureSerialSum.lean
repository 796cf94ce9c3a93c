/- SerialSum: the plain law. -/
import Derived.Test.YtcioegimmjppcaaDoorZSerT
import Derived.Test.YtcioegimmjppcaaDoorZJO
namespace Go.Proofs.YtcioegimmjppcaaDoor.P
open Go.RowKit
set_option linter.unusedVariables false
theorem SerialSum_pure (a0 a1 : Int) (w0 : (Lit.int .i64 a0).wf = true) (w1 : (Lit.int .i64 a1).wf = true) : ∃ k, plunderlaw6_SerialSum.f k a0 a1 = some true := ⟨3, sum_true a0 a1 w0 w1⟩
end Go.Proofs.YtcioegimmjppcaaDoor.P
