/- SerialPause: the plain law. -/
import Derived.Test.YtcioegimmjppcaaDoorZPau
import Derived.Test.YtcioegimmjppcaaDoorZJO
namespace Go.Proofs.YtcioegimmjppcaaDoor.P
open Go.RowKit
set_option linter.unusedVariables false
theorem SerialPause_pure {B : Nat} (l0 : List S39) (l1 : List Int) (a2 : Int) (_ : ∀ e ∈ l0, gF e B) (_ : ∀ e ∈ l1, (Lit.int .i64 e).wf = true) (_ : (Lit.int .i64 a2).wf = true) : ∃ k, plunderlaw6_SerialPause.f k l0 l1 a2 = some true := ⟨0, rfl⟩
end Go.Proofs.YtcioegimmjppcaaDoor.P
