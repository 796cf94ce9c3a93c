/- plunderlaw6.swapped: its calls, in the print's form. -/
import Derived.Test.YtcioegimmjppcaaDoorZSwp0
import Derived.Test.YtcioegimmjppcaaDoorZSwp1
namespace Go.Proofs.YtcioegimmjppcaaDoor.P
open Go.RowKit Go.Proofs.YtcioegimmjppcaaDoorW.PrintWords Go.Proofs.YtcioegimmjppcaaDoorW.PrintLast Go.Proofs.YtcioegimmjppcaaDoorW.PrintMore
theorem plunderlaw6_swapped.calls (k : Nat) (A0 : Option Addr) (c0 : Nat) (l0 : List S39) (a1 : Int) (r : List S39) (w : World) (hr0 : Kd.C k39 w A0 l0.length l0) (hc0 : l0.length ≤ c0) (h : plunderlaw6_swapped.f k l0 a1 = some r) :
    Calls Tryd.prog 28 #[.agg #[.slice A0 l0.length c0], .int .i64 a1] w fun e w' => ∃ v0_ : Value, e = .returned (.agg #[v0_]) ∧ Kd.S k39 39 w' w.heap.size (fun _ => True) v0_ r ∧ Below w.heap.size w w' := by
  unfold plunderlaw6_swapped.f at h
  by_cases hok : swOK a1 l0
  · rw [if_pos hok] at h
    obtain rfl := Option.some.inj h
    by_cases hz : a1 = 0
    · subst hz
      exact swapped_zero A0 c0 l0 w hr0 hc0 hok
    · exact swapped_pos A0 c0 l0 a1 hz w hr0 hc0 hok
  · rw [if_neg hok] at h
    cases h
end Go.Proofs.YtcioegimmjppcaaDoor.P
