/- Plain law, part L: the program of one constant; the answers of a run. -/
import Derived.Test.YtcioegimmjppcaaDoorZPx5
namespace Go.Proofs.YtcioegimmjppcaaDoor.P
open Go.RowKit Go.Proofs.YtcioegimmjppcaaDoorW.PrintWords Go.Proofs.YtcioegimmjppcaaDoorW.PrintLast Go.Proofs.YtcioegimmjppcaaDoorW.PrintMore
set_option linter.unusedVariables false

theorem eval_one (c : Int) (k : Nat) : serial_Eval.f k [(⟨0, 1, 0, [(⟨0, 0, 0, 0, c⟩ : S36), (⟨9, 0, 0, 0, 0⟩ : S36)]⟩ : S39)] [] 2 = some (c, 2, 1, 1, 2, 0) := rfl
theorem tree_one (c : Int) (k : Nat) : serial_Tree.f k [(⟨0, 1, 0, [(⟨0, 0, 0, 0, c⟩ : S36), (⟨9, 0, 0, 0, 0⟩ : S36)]⟩ : S39)] [] 2 = some ([(⟨-1, 0, 0, 2, 1, 0, c⟩ : S49)], 0) := rfl

theorem lives_true (c : Int) (k : Nat) : plunderlaw6_lives.f k c = some true := by
  unfold plunderlaw6_lives.f
  rw [Option.bind_some, eval_one, Option.bind_some, tree_one, Option.bind_some]
  simp [rd_T49]

/-- the answer of a run: either an error and nothing, or a run that ended -/
theorem evalOf_cases (pd : Int → Int → Int) (ap : Int → Int → Int → Int) (P : List Fn) (args : List Int) (fuel : Int) :
    (∃ e, e ≠ 0 ∧ evalOf pd ap P args fuel = (0, 0, 0, 0, 0, e)) ∨
    (Valid P ∧ 0 ≤ fuel ∧ fuel ≤ 4194304 ∧ ∃ rs v s, whole pd ap P args fuel.toNat = .done rs v s ∧ evalOf pd ap P args fuel = (v, fuel - (rs.left : Int), rs.tasks, rs.deepest, s, 0)) := by
  unfold evalOf
  by_cases h1 : validB P = false
  · rw [if_pos h1]; exact Or.inl ⟨60, by decide, rfl⟩
  rw [if_neg h1]
  by_cases h2 : (args.length : Int) ≠ (fnOf P 0).params
  · rw [if_pos h2]; exact Or.inl ⟨61, by decide, rfl⟩
  rw [if_neg h2]
  by_cases h3 : fuel < 0 ∨ fuel > 4194304
  · rw [if_pos h3]; exact Or.inl ⟨3, by decide, rfl⟩
  rw [if_neg h3]
  cases hw : whole pd ap P args fuel.toNat with
  | stop w =>
    refine Or.inl ⟨w, ?_, rfl⟩
    unfold whole at hw
    rcases loop_stop pd ap P _ _ _ _ _ _ hw with h | h <;> rw [h] <;> decide
  | done rs v s =>
    refine Or.inr ⟨(validB_iff P).1 (by cases hb : validB P with
      | true => rfl
      | false => exact absurd hb h1), by omega, by omega, rs, v, s, rfl, rfl⟩

end Go.Proofs.YtcioegimmjppcaaDoor.P
