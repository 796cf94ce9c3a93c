/- Written by a program: plain Lean functions that answer as Go functions of this seat do, and the proofs that the calls come to these answers. -/
import Derived.Test.YtbahnialbffkeaaGPx0
namespace Go.Proofs.Ytbahnialbffkeaa.P
open Go.RowKit Go.Proofs.YtbahnialbffkeaaW.PrintWords Go.Proofs.YtbahnialbffkeaaW.PrintLast Go.Proofs.YtbahnialbffkeaaW.PrintMore
attribute [local go_sem] max2_int min2_int max_two min_two max_three min_three max_four min_four   -- for this text's walks alone
set_option linter.unusedVariables false
set_option linter.unusedSimpArgs false

def plunderlaw7_bounds.f (a0 : Int) (a1 : Int) (a2 : Int) (a3 : Int) : Option (Bool) := if a3 ≥ a1 then (if (wrap64 (a2 * a3)) ≥ a0 then (some (decide ((wrap64 (a2 * a3)) ≤ (wrap64 (a0 + (wrap64 ((wrap64 (a2 - 1)) * a1))))))) else (some false)) else (some false)
set_option maxHeartbeats 8000000 in
set_option maxRecDepth 100000 in
theorem plunderlaw7_bounds.calls (a0 : Int) (a1 : Int) (a2 : Int) (a3 : Int) (r : Bool) (w : World) (h : plunderlaw7_bounds.f a0 a1 a2 a3 = some r) :
    Calls Try.prog 38 #[.int .i64 a0, .int .i64 a1, .int .i64 a2, .int .i64 a3] w fun e w' => e = .returned (.bool r) ∧ Drawn0 w w' := by
  have H : (if a3 ≥ a1 then (if (wrap64 (a2 * a3)) ≥ a0 then (some (decide ((wrap64 (a2 * a3)) ≤ (wrap64 (a0 + (wrap64 ((wrap64 (a2 - 1)) * a1))))))) else (some false)) else (some false)) = some r := h
  clear h
  by_cases c5 : a3 ≥ a1
  · rw [if_pos c5] at H
    have c5b0 : decide (a1 ≤ a3) = true := decide_eq_true c5
    clear c5
    by_cases c6 : (wrap64 (a2 * a3)) ≥ a0
    · rw [if_pos c6] at H
      have c6b0 : decide (a0 ≤ (wrap64 (a2 * a3))) = true := decide_eq_true c6
      clear c6
      obtain rfl := Option.some.inj H
      go_enter Try.func38, Try.ntmps38
      go_wp2
      go_ret
      exact ⟨by first | rfl | (simp; done) | (simp [*]; done), by repeat (first | exact Drawn0.refl _ | apply Drawn0.step)⟩
    · rw [if_neg c6] at H
      have c6b0 : decide (a0 ≤ (wrap64 (a2 * a3))) = false := decide_eq_false c6
      clear c6
      obtain rfl := Option.some.inj H
      go_enter Try.func38, Try.ntmps38
      go_wp2
      go_ret
      exact ⟨by first | rfl | (simp; done) | (simp [*]; done), by repeat (first | exact Drawn0.refl _ | apply Drawn0.step)⟩
  · rw [if_neg c5] at H
    have c5b0 : decide (a1 ≤ a3) = false := decide_eq_false c5
    clear c5
    obtain rfl := Option.some.inj H
    go_enter Try.func38, Try.ntmps38
    go_wp2
    go_ret
    exact ⟨by first | rfl | (simp; done) | (simp [*]; done), by repeat (first | exact Drawn0.refl _ | apply Drawn0.step)⟩

end Go.Proofs.Ytbahnialbffkeaa.P
