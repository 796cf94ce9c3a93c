/- SerialFan: the plain law. -/
import Derived.Test.YtcioegimmjppcaaDoorZSerV
import Derived.Test.YtcioegimmjppcaaDoorZJO
namespace Go.Proofs.YtcioegimmjppcaaDoor.P
open Go.RowKit
set_option linter.unusedVariables false
theorem SerialFan_pure (a0 a1 : Int) (_ : (Lit.int .i64 a0).wf = true) (_ : (Lit.int .i64 a1).wf = true) : ∃ k, plunderlaw6_SerialFan.f k a0 a1 = some true := fan_true a0 a1
end Go.Proofs.YtcioegimmjppcaaDoor.P
