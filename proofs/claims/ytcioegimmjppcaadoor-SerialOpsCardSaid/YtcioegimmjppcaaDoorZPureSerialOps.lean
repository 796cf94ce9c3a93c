/- SerialOps: the plain law. -/
import Derived.Test.YtcioegimmjppcaaDoorZSerO
import Derived.Test.YtcioegimmjppcaaDoorZJO
namespace Go.Proofs.YtcioegimmjppcaaDoor.P
open Go.RowKit
set_option linter.unusedVariables false
theorem SerialOps_pure (a0 a1 a2 : Int) (_ : (Lit.int .i64 a0).wf = true) (_ : (Lit.int .i64 a1).wf = true) (_ : (Lit.int .i64 a2).wf = true) : ∃ k, plunderlaw6_SerialOps.f k a0 a1 a2 = some true := ⟨0, ops_true a0 a1 a2⟩
end Go.Proofs.YtcioegimmjppcaaDoor.P
