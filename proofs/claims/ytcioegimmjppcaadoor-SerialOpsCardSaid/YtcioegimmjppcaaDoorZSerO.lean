/- Plain law, part O: SerialOps. -/
import Derived.Test.YtcioegimmjppcaaDoorZSerL
import Derived.Test.YtcioegimmjppcaaDoorZPx4
namespace Go.Proofs.YtcioegimmjppcaaDoor.P
open Go.RowKit Go.Proofs.YtcioegimmjppcaaDoorW.PrintWords Go.Proofs.YtcioegimmjppcaaDoorW.PrintLast Go.Proofs.YtcioegimmjppcaaDoorW.PrintMore
set_option linter.unusedVariables false

def opsP (a0 : Int) : List S39 := [(⟨2, 2, 0, [(⟨2, 0, 0, 1, a0⟩ : S36), (⟨9, 0, 0, 0, 0⟩ : S36)]⟩ : S39)]

theorem opsP_no (a0 a1 a2 : Int) (h : ¬ (0 ≤ a0 ∧ a0 < 16)) (k : Nat) : serial_Eval.f k (opsP a0) [a1, a2] 2 = some (0, 0, 0, 0, 0, 60) := by
  have hv : validB ((opsP a0).map fnS) = false := by
    cases hb : validB ((opsP a0).map fnS) with
    | false => rfl
    | true =>
      have h1 := ((validB_iff _).1 hb).each (fnS ⟨2, 2, 0, [⟨2, 0, 0, 1, a0⟩, ⟨9, 0, 0, 0, 0⟩]⟩) (List.mem_singleton.2 rfl)
      have h2 := h1.ins ⟨2, 0, 0, 1, a0⟩ List.mem_cons_self
      obtain ⟨k0, k9, o0, o1, o2, _⟩ := h2
      exact absurd (o2 rfl).2.2.2 h
  unfold serial_Eval.f evalOf
  rw [if_pos hv]

theorem opsP_yes (a0 a1 a2 : Int) (h : 0 ≤ a0 ∧ a0 < 16) (k : Nat) : serial_Eval.f k (opsP a0) [a1, a2] 2 = some (apS a0 a1 a2, 2, 1, 1, 2, 0) := by
  have hc : a0 = 0 ∨ a0 = 1 ∨ a0 = 2 ∨ a0 = 3 ∨ a0 = 4 ∨ a0 = 5 ∨ a0 = 6 ∨ a0 = 7 ∨ a0 = 8 ∨ a0 = 9 ∨ a0 = 10 ∨ a0 = 11 ∨ a0 = 12 ∨ a0 = 13 ∨ a0 = 14 ∨ a0 = 15 := by omega
  have hv : validB ((opsP a0).map fnS) = true := by
    rcases hc with h | h | h | h | h | h | h | h | h | h | h | h | h | h | h | h <;> subst h <;> rfl
  unfold serial_Eval.f evalOf
  rw [if_neg (by rw [hv]; decide), if_neg (by intro e; exact e rfl), if_neg (by decide)]
  rfl

theorem ops_none (a0 a1 a2 : Int) (h : ¬ (0 ≤ a0 ∧ a0 < 16)) : ops_Apply.f a0 a1 a2 = some (0, 10) := by
  have hi : ops_isOp.f a0 = some false := by
    unfold ops_isOp.f
    by_cases h1 : a0 ≥ 0
    · rw [if_pos h1, decide_eq_false (by omega)]
    · rw [if_neg h1]
  unfold ops_Apply.f
  rw [hi]
  rfl

theorem ops_true (a0 a1 a2 : Int) : plunderlaw6_SerialOps.f 0 a0 a1 a2 = some true := by
  unfold plunderlaw6_SerialOps.f
  by_cases h : 0 ≤ a0 ∧ a0 < 16
  · obtain ⟨x, hx⟩ := ops_some a0 a1 a2 h
    have e := opsP_yes a0 a1 a2 h 0
    unfold opsP at e
    rw [e, hx, Option.bind_some, Option.bind_some]
    have ex : apS a0 a1 a2 = x := by unfold apS; rw [hx]; rfl
    rw [if_neg (by omega), if_neg (by omega), ex]
    simp
  · have e := opsP_no a0 a1 a2 h 0
    unfold opsP at e
    rw [e, ops_none a0 a1 a2 h, Option.bind_some, Option.bind_some]
    by_cases h1 : a0 < 0
    · rw [if_pos h1]; rfl
    · rw [if_neg h1, if_pos (by omega)]; rfl

end Go.Proofs.YtcioegimmjppcaaDoor.P
