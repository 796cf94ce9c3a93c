/- Plain law, part P: SerialSizes. -/
import Derived.Test.YtcioegimmjppcaaDoorZPx7
import Derived.Test.YtcioegimmjppcaaDoorZSerL
namespace Go.Proofs.YtcioegimmjppcaaDoor.P
open Go.RowKit Go.Proofs.YtcioegimmjppcaaDoorW.PrintWords Go.Proofs.YtcioegimmjppcaaDoorW.PrintLast Go.Proofs.YtcioegimmjppcaaDoorW.PrintMore
set_option linter.unusedVariables false

theorem sizes_true (l0 : List S39) (l1 : List Int) (a2 : Int) : plunderlaw6_SerialSizes.f 1 l0 l1 a2 = some true := by
  unfold plunderlaw6_SerialSizes.f serial_Eval.f
  rw [Option.bind_some]
  rcases evalOf_cases pdS apS (l0.map fnS) l1 a2 with ⟨e, he, h⟩ | ⟨hv, hf0, hf1, rs, v, s, hw, h⟩
  · rw [h]
    simp only
    rw [if_neg he, if_pos (by rfl), lives_true]
    rfl
  · rw [h]
    obtain ⟨a1, a2', a3, a4, a5, a6, a7⟩ := whole_sizes pdS apS _ _ _ _ _ _ hw
    have a8 := whole_deep pdS apS hv _ _ _ _ _ hw
    have ef : ((a2.toNat : Nat) : Int) = a2 := by omega
    rw [ef] at a3 a5 a7
    simp only
    rw [if_pos trivial, if_neg (by omega), if_neg (by omega), if_neg (by omega)]
    simp only [plunderlaw6_SerialSizes.j0]
    rw [if_neg (by simp only [decide_eq_true_eq]; omega), if_neg (by omega), if_neg (by omega)]
    rw [if_neg (by
      intro hx
      by_cases hq : rs.tasks = 1
      · have hd := a6.1 hq
        rw [hq, hd] at hx
        exact absurd hx (by decide)
      · have hd : ¬ rs.deepest = 1 := fun e => hq (a6.2 e)
        have e1 : (rs.tasks == 1) = false := by simp [hq]
        have e2 : (rs.deepest == 1) = false := by simp [hd]
        rw [e1, e2] at hx
        exact absurd hx (by decide))]
    by_cases hq : rs.tasks > 1
    · rw [if_pos hq]
    · rw [if_neg hq]
      have := a7 (by omega)
      rw [this]
      simp

end Go.Proofs.YtcioegimmjppcaaDoor.P
