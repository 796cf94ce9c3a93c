/- plunderref19.Steps: its answer as a plain function, and its calls, in the print's form. -/
import Derived.Test.YtkecgjmbamaejaaPESte
namespace Go.Proofs.Ytkecgjmbamaejaa.P
open Go.RowKit Go.Proofs.YtkecgjmbamaejaaW.PrintWords Go.Proofs.YtkecgjmbamaejaaW.PrintLast Go.Proofs.YtkecgjmbamaejaaW.PrintMore
set_option linter.unusedVariables false
def fairB (ks : List Int) : Bool := (List.range ks.length).all fun n => decide (ks.getD n 0 = 1 → 2 ≤ (frs ks n).length)
theorem fairB_iff (ks : List Int) : fairB ks = true ↔ fair ks := by
  unfold fairB fair
  rw [List.all_eq_true]
  exact ⟨fun h n hn => of_decide_eq_true (h n (List.mem_range.2 hn)), fun h n hn => decide_eq_true (h n (List.mem_range.1 hn))⟩
def plunderref19_Steps.f (k : Nat) (l0 : List S52) : Option (List (List Int)) :=
  if l0.length ≤ 4096 ∧ fairB (kdsOf l0) = true then some ((List.range (kdsOf l0).length).map (frm (kdsOf l0))) else none
theorem plunderref19_Steps.calls (k : Nat) (A0 : Option Addr) (c0 : Nat) (l0 : List S52) (r : List (List Int)) (w : World) (h0 : Kd.C k52 w A0 l0.length l0) (hc0 : l0.length ≤ c0) (h : plunderref19_Steps.f k l0 = some r) :
    Calls Try.prog 55 #[.slice A0 l0.length c0] w fun e w' => ∃ v0_ : Value, e = .returned v0_ ∧ Kd.S (Kd.slice 3 (Kd.int .i64)) 24 w' w.heap.size (fun _ => True) v0_ r ∧ Below w.heap.size w w' := by
  unfold plunderref19_Steps.f at h
  by_cases hc : l0.length ≤ 4096 ∧ fairB (kdsOf l0) = true
  · rw [if_pos hc] at h
    obtain rfl := Option.some.inj h
    exact steps_calls l0 hc.1 ((fairB_iff _).1 hc.2) A0 c0 hc0 w h0
  · rw [if_neg hc] at h
    cases h
end Go.Proofs.Ytkecgjmbamaejaa.P
