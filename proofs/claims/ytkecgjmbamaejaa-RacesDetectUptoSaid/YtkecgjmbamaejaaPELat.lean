/- races.late: its calls, in the print's form. -/
import Derived.Test.YtkecgjmbamaejaaPERB
import Derived.Deep.RegionHeld3
import Derived.Deep.RegionLaw
namespace Go.Proofs.Ytkecgjmbamaejaa.P
open Go.RowKit Go.Proofs.YtkecgjmbamaejaaW.PrintWords Go.Proofs.YtkecgjmbamaejaaW.PrintLast Go.Proofs.YtkecgjmbamaejaaW.PrintMore
set_option linter.unusedVariables false
set_option linter.unusedSimpArgs false
set_option maxHeartbeats 1000000
set_option maxRecDepth 100000

def kdsOf (l : List S52) : List Int := l.map (·.f0)
theorem kds_len (l : List S52) : (kdsOf l).length = l.length := List.length_map _
theorem kds_at (l : List S52) (j : Nat) (h : j < l.length) : (kdsOf l).getD j 0 = (rd_T52 l (j : Int)).f0 := by
  unfold kdsOf rd_T52
  rw [List.getD_eq_getElem?_getD, List.getElem?_map, List.getElem?_eq_getElem h, Int.toNat_natCast, List.getD_eq_getElem?_getD, List.getElem?_eq_getElem h]
  rfl
theorem wrap_ix {k : Nat} (h : k ≤ 4096) : wrap64 ((k : Int) + 1) = ((k + 1 : Nat) : Int) := by unfold wrap64; omega
end Go.Proofs.Ytkecgjmbamaejaa.P
