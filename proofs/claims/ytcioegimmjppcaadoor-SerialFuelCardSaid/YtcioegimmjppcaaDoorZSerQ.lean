/- Plain law, part Q: SerialFuel. -/
import Derived.Test.YtcioegimmjppcaaDoorZSerL
import Derived.Test.YtcioegimmjppcaaDoorZPx6
namespace Go.Proofs.YtcioegimmjppcaaDoor.P
open Go.RowKit Go.Proofs.YtcioegimmjppcaaDoorW.PrintWords Go.Proofs.YtcioegimmjppcaaDoorW.PrintLast Go.Proofs.YtcioegimmjppcaaDoorW.PrintMore
set_option linter.unusedVariables false

def ofRes (r : Res) (g : Int) : Int × Int × Int × Int × Int × Int := match r with
  | .stop w => (0, 0, 0, 0, 0, w)
  | .done rs v s => (v, g - (rs.left : Int), rs.tasks, rs.deepest, s, 0)

theorem evalOf_split (pd : Int → Int → Int) (ap : Int → Int → Int → Int) (P : List Fn) (args : List Int) (fuel : Int) :
    (∃ e, e ≠ 0 ∧ e ≠ 62 ∧ e ≠ 63 ∧ evalOf pd ap P args fuel = (0, 0, 0, 0, 0, e)) ∨
    (0 ≤ fuel ∧ fuel ≤ 4194304 ∧ ∀ g, 0 ≤ g → g ≤ 4194304 → evalOf pd ap P args g = ofRes (whole pd ap P args g.toNat) g) := by
  unfold evalOf
  by_cases h1 : validB P = false
  · rw [if_pos h1]; exact Or.inl ⟨60, by decide, by decide, by decide, rfl⟩
  rw [if_neg h1]
  by_cases h2 : (args.length : Int) ≠ (fnOf P 0).params
  · rw [if_pos h2]; exact Or.inl ⟨61, by decide, by decide, by decide, rfl⟩
  rw [if_neg h2]
  by_cases h3 : fuel < 0 ∨ fuel > 4194304
  · rw [if_pos h3]; exact Or.inl ⟨3, by decide, by decide, by decide, rfl⟩
  refine Or.inr ⟨by omega, by omega, fun g h4 h5 => ?_⟩
  rw [if_neg h1, if_neg h2, if_neg (by omega)]
  rfl

theorem zz : ((0 : Int) == 0 && ((0 : Int) == 0 && ((0 : Int) == 0 && ((0 : Int) == 0 && ((0 : Int) == 0))))) = true := rfl

theorem fuel_true (l0 : List S39) (l1 : List Int) (a2 a3 : Int) : plunderlaw6_SerialFuel.f 3 l0 l1 a2 a3 = some true := by
  unfold plunderlaw6_SerialFuel.f
  rw [lives_true, Option.bind_some, if_pos rfl]
  unfold serial_Eval.f
  rw [Option.bind_some]
  by_cases hn : a3 < 0
  · rw [if_pos hn]
    simp only [plunderlaw6_SerialFuel.j0]
    rw [if_pos trivial]
  rw [if_neg hn]
  by_cases hm : a3 > 4194304
  · simp only [plunderlaw6_SerialFuel.j0]
    rw [if_pos (decide_eq_true hm)]
  simp only [plunderlaw6_SerialFuel.j0]
  rw [if_neg (by simp only [decide_eq_true_eq]; exact hm)]
  unfold serial_Eval.f
  rw [Option.bind_some]
  rcases evalOf_split pdS apS (l0.map fnS) l1 a2 with ⟨e, e0, e1, e2, h⟩ | ⟨hf0, hf1, hg⟩
  · rw [h]
    simp only
    rw [if_neg e0, if_neg e1, if_neg e2]
    rfl
  rw [hg a2 hf0 hf1, hg a3 (by omega) (by omega)]
  have st : ∀ g w, whole pdS apS (l0.map fnS) l1 g = .stop w → w = 62 ∨ w = 63 := fun g w h => loop_stop _ _ _ _ _ _ _ _ _ h
  cases hw : whole pdS apS (l0.map fnS) l1 a2.toNat with
  | stop w =>
    rcases st _ _ hw with h | h
    · subst h
      simp only [ofRes]
      rw [if_neg (by decide), if_pos trivial]
      simp only [beq_self_eq_true, Bool.and_self, ↓reduceIte]
      by_cases hc : a3 > a2
      · rw [if_pos hc]
      rw [if_neg hc]
      have hs : whole pdS apS (l0.map fnS) l1 a3.toNat = .stop 62 := by
        by_cases hx : whole pdS apS (l0.map fnS) l1 a3.toNat = .stop 62
        · exact hx
        · have := whole_more pdS apS (l0.map fnS) l1 a3.toNat (a2.toNat - a3.toNat) hx
          rw [show a3.toNat + (a2.toNat - a3.toNat) = a2.toNat by omega, hw] at this
          cases hr : whole pdS apS (l0.map fnS) l1 a3.toNat with
          | stop w2 => rw [hr] at this; exact this.symm
          | done rs v s => rw [hr] at this; cases this
      rw [hs]
      rfl
    · subst h
      simp only [ofRes]
      rw [if_neg (by decide), if_neg (by decide), if_pos trivial]
      simp only [beq_self_eq_true, Bool.and_self, ↓reduceIte]
      by_cases hc : a3 < a2
      · rw [if_pos hc]
      rw [if_neg hc]
      have := whole_more pdS apS (l0.map fnS) l1 a2.toNat (a3.toNat - a2.toNat) (by rw [hw]; intro e; cases e)
      rw [show a2.toNat + (a3.toNat - a2.toNat) = a3.toNat by omega, hw] at this
      rw [this]
      rfl
  | done rs v s =>
    obtain ⟨a1, a2', a3', a4, a5, a6, a7⟩ := whole_sizes pdS apS _ _ _ _ _ _ hw
    have ef : ((a2.toNat : Nat) : Int) = a2 := by omega
    rw [ef] at a3' a5 a7
    simp only [ofRes]
    have n1 : ¬ a2 - (rs.left : Int) < 1 := by omega
    have n2 : ¬ a2 - (rs.left : Int) > a2 := by omega
    simp only [n1, n2, ↓reduceIte, plunderlaw6_SerialFuel.j1, decide_false, Bool.false_eq_true]
    by_cases hc : a3 ≥ a2 - (rs.left : Int)
    · rw [if_pos hc]
      have hs : ∃ q : Nat, whole pdS apS (l0.map fnS) l1 a3.toNat = .done { rs with left := q } v s ∧ (a3 - (q : Int)) = a2 - (rs.left : Int) := by
        by_cases hq : a2 ≤ a3
        · have := whole_more pdS apS (l0.map fnS) l1 a2.toNat (a3.toNat - a2.toNat) (by rw [hw]; intro e; cases e)
          rw [show a2.toNat + (a3.toNat - a2.toNat) = a3.toNat by omega, hw] at this
          exact ⟨_, this, by omega⟩
        · have := whole_less pdS apS (l0.map fnS) l1 a3.toNat (a2.toNat - a3.toNat) rs v s (by rw [show a3.toNat + (a2.toNat - a3.toNat) = a2.toNat by omega]; exact hw) (by omega)
          exact ⟨_, this, by omega⟩
      obtain ⟨q, hq1, hq2⟩ := hs
      rw [hq1]
      simp only
      rw [if_pos trivial, hq2]
      simp
    · rw [if_neg hc]
      have hs := whole_short pdS apS (l0.map fnS) l1 a3.toNat (a2.toNat - a3.toNat) rs v s (by rw [show a3.toNat + (a2.toNat - a3.toNat) = a2.toNat by omega]; exact hw) (by omega)
      have hl := whole_less pdS apS (l0.map fnS) l1 (a2 - (rs.left : Int)).toNat rs.left rs v s (by rw [show (a2 - (rs.left : Int)).toNat + rs.left = a2.toNat by omega]; exact hw) (Nat.le_refl _)
      unfold serial_Eval.f
      rw [Option.bind_some, hg (a2 - (rs.left : Int)) (by omega) (by omega), hs, hl]
      simp [ofRes]

end Go.Proofs.YtcioegimmjppcaaDoor.P
