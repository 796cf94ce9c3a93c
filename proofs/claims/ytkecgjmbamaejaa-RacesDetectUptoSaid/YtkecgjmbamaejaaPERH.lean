/- races.First, races.Detect: their answers as plain functions, and their calls, in the print's form. -/
import Derived.Deep.RegionHeld3
import Derived.Test.YtkecgjmbamaejaaPEPx0
import Derived.Test.YtkecgjmbamaejaaPEPx3
import Derived.Test.YtkecgjmbamaejaaPEPx4
import Derived.Test.YtkecgjmbamaejaaPEPx5
import Derived.Test.YtkecgjmbamaejaaPEPx7
import Derived.Test.YtkecgjmbamaejaaPELat
import Derived.Test.YtkecgjmbamaejaaPERD
import Derived.Test.YtkecgjmbamaejaaPERG
set_option linter.unusedVariables false
set_option linter.unusedSimpArgs false
namespace Go.Proofs.Ytkecgjmbamaejaa.P
open Go.RowKit Go.Proofs.YtkecgjmbamaejaaW.PrintWords Go.Proofs.YtkecgjmbamaejaaW.PrintLast Go.Proofs.YtkecgjmbamaejaaW.PrintMore
set_option linter.unusedVariables false
set_option linter.unusedSimpArgs false
set_option maxHeartbeats 1000000
set_option maxRecDepth 100000
end Go.Proofs.Ytkecgjmbamaejaa.P
namespace Go.Proofs.Ytkecgjmbamaejaa.P
open Go.RowKit Go.Maps Go.Proofs.YtkecgjmbamaejaaW.PrintWords Go.Proofs.YtkecgjmbamaejaaW.PrintLast Go.Proofs.YtkecgjmbamaejaaW.PrintMore
set_option linter.unusedVariables false
set_option linter.unusedSimpArgs false
set_option maxHeartbeats 1000000
set_option maxRecDepth 100000
end Go.Proofs.Ytkecgjmbamaejaa.P
namespace Go.Proofs.Ytkecgjmbamaejaa.P
open Go.RowKit Go.Proofs.YtkecgjmbamaejaaW.PrintWords Go.Proofs.YtkecgjmbamaejaaW.PrintLast Go.Proofs.YtkecgjmbamaejaaW.PrintMore
set_option linter.unusedVariables false
def races_Detect.f (k : Nat) (l0 : List S52) : Option (List Int × Int) := if wfB l0 = true ∧ l0.length < 1099511627776 then some (detV l0) else none
theorem races_Detect.calls (k : Nat) (A0 : Option Addr) (c0 : Nat) (l0 : List S52) (r1 : List Int) (r2 : Int) (w : World) (hr0 : Kd.C k52 w A0 l0.length l0) (hc0 : l0.length ≤ c0) (h : races_Detect.f k l0 = some (r1, r2)) :
    Calls Try.prog 27 #[.slice A0 l0.length c0] w fun e w' => ∃ v0_ : Value, e = .returned (.tuple #[v0_, .int .i64 r2]) ∧ Kd.R (Kd.int .i64) 2 w' w.heap.size (fun _ => True) v0_ r1 ∧ Below w.heap.size w w' := by
  unfold races_Detect.f at h
  by_cases hc : wfB l0 = true ∧ l0.length < 1099511627776
  · rw [if_pos hc] at h
    have e := Option.some.inj h
    have hh := detect_calls A0 c0 l0 w hr0 hc0 hc.1 hc.2
    unfold DetPost at hh
    rw [e] at hh
    exact hh
  · rw [if_neg hc] at h
    cases h
end Go.Proofs.Ytkecgjmbamaejaa.P
