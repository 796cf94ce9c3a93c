/- races.late: its answer as a plain function, and its calls, in the print's form. -/
import Derived.Test.YtkecgjmbamaejaaPALat
namespace Go.Proofs.Ytkecgjmbamaejaa.P
open Go.RowKit Go.Proofs.YtkecgjmbamaejaaW.PrintWords Go.Proofs.YtkecgjmbamaejaaW.PrintLast Go.Proofs.YtkecgjmbamaejaaW.PrintMore
set_option linter.unusedVariables false
def races_late.f (k : Nat) (l0 : List S52) (a1 : Int) (l2 : List Int) : Option (List Int × Int) :=
  if l2 = [] ∧ 0 ≤ a1 ∧ a1 ≤ (l0.length : Int) ∧ l0.length ≤ 4096 then some (ints (lateN (kdsOf l0) a1.toNat [] []).1, ((lateN (kdsOf l0) a1.toNat [] []).2 : Int)) else none
theorem races_late.calls (k : Nat) (A0 : Option Addr) (c0 : Nat) (l0 : List S52) (a1 : Int) (A2 : Option Addr) (c2 : Nat) (l2 : List Int) (r1 : List Int) (r2 : Int) (w : World) (h0 : Kd.C k52 w A0 l0.length l0) (hc0 : l0.length ≤ c0) (hA2 : A2 = none) (hc2 : c2 = 0)
    (h : races_late.f k l0 a1 l2 = some (r1, r2)) :
    Calls Try.prog 38 #[.slice A0 l0.length c0, .int .i64 a1, .slice A2 l2.length c2] w fun e w' => ∃ v0_ : Value, e = .returned (.tuple #[v0_, .int .i64 r2]) ∧ Kd.R (Kd.int .i64) 3 w' w.heap.size (fun _ => True) v0_ r1 ∧ Below w.heap.size w w' := by
  subst hA2
  subst hc2
  unfold races_late.f at h
  by_cases hc : l2 = [] ∧ 0 ≤ a1 ∧ a1 ≤ (l0.length : Int) ∧ l0.length ≤ 4096
  · rw [if_pos hc] at h
    obtain ⟨rfl, h1, h2, h3⟩ := hc
    have e := Option.some.inj h
    injection e with e1 e2
    subst e1
    subst e2
    have hn : ((a1.toNat : Nat) : Int) = a1 := by omega
    have hh := late_rec l0 h3 A0 c0 hc0 (l0.length + 1) a1.toNat (by omega) (by omega) w h0
    rw [hn] at hh
    exact hh
  · rw [if_neg hc] at h
    cases h
end Go.Proofs.Ytkecgjmbamaejaa.P
