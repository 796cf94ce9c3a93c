/- Plain law, part T: SerialSum. -/
import Derived.Test.YtcioegimmjppcaaDoorZSerS
import Derived.Test.YtcioegimmjppcaaDoorZSerL
import Derived.Test.YtcioegimmjppcaaDoorZPx9
import Derived.IntWalk
namespace Go.Proofs.YtcioegimmjppcaaDoor.P
open Go.RowKit Go.Proofs.YtcioegimmjppcaaDoorW.PrintWords Go.Proofs.YtcioegimmjppcaaDoorW.PrintLast Go.Proofs.YtcioegimmjppcaaDoorW.PrintMore
set_option linter.unusedVariables false

def resOf (r : Res) (g : Int) : Int × Int × Int × Int × Int × Int := match r with
  | .stop w => (0, 0, 0, 0, 0, w)
  | .done rs v s => (v, g - (rs.left : Int), rs.tasks, rs.deepest, s, 0)

theorem evalOf_go {pd : Int → Int → Int} {ap : Int → Int → Int → Int} {P : List Fn} {args : List Int} {fuel : Int} (h1 : validB P = true) (h2 : (args.length : Int) = (fnOf P 0).params) (h3 : 0 ≤ fuel ∧ fuel ≤ 4194304) :
    evalOf pd ap P args fuel = resOf (whole pd ap P args fuel.toNat) fuel := by
  unfold evalOf
  rw [if_neg (by rw [h1]; decide), if_neg (by intro e; exact e h2), if_neg (by omega)]
  cases whole pd ap P args fuel.toNat <;> rfl

theorem apS_sub (a b : Int) : apS 1 a b = wrap64 (a - b) := by
  have h1 : ops_isOp.f 1 = some true := rfl
  have h2 : ops_work.f 1 a b = some (wrap64 (a - b)) := by
    unfold ops_work.f
    rw [if_neg (by decide), if_pos rfl]
  unfold apS ops_Apply.f
  rw [h1, Option.bind_some, if_pos rfl, h2]
  rfl
theorem apS_add (a b : Int) : apS 0 a b = wrap64 (a + b) := by
  have h1 : ops_isOp.f 0 = some true := rfl
  have h2 : ops_work.f 0 a b = some (wrap64 (a + b)) := by
    unfold ops_work.f
    rw [if_pos rfl]
  unfold apS ops_Apply.f
  rw [h1, Option.bind_some, if_pos rfl, h2]
  rfl

def sumP : List S39 := [(⟨1, 4, 2, [(⟨4, 0, 2, 0, 0⟩ : S36), ⟨9, 0, 0, 0, 0⟩, ⟨0, 1, 0, 0, 1⟩, ⟨2, 2, 0, 1, 1⟩, ⟨5, 0, 0, 2, 0⟩, ⟨6, 0, 0, 0, 0⟩, ⟨7, 3, 0, 0, 0⟩, ⟨2, 3, 3, 0, 0⟩, ⟨9, 3, 0, 0, 0⟩]⟩ : S39)]
theorem sum_f : plunderlaw6_sum.f = some sumP := rfl
theorem sumP_map : sumP.map fnS = sumF := rfl

theorem sum_eval (k : Nat) (n fuel : Int) (h3 : 0 ≤ fuel ∧ fuel ≤ 4194304) : serial_Eval.f k sumP [n] fuel = some (resOf (loop pdS apS sumF (fuel.toNat + 1) (enter sumF ⟨fuel.toNat, 0, 0, []⟩ (sumT n 1 1) (-1) 0) (sumT n 1 1) 0 0) fuel) := by
  unfold serial_Eval.f
  rw [sumP_map, evalOf_go sum_valid rfl h3]
  rfl

theorem sum_small (n : Nat) (hn : n ≤ 4095) : wrap64 ((wrap64 (8 * (n : Int))) + 2) = 8 * n + 2 := by
  have e7 : wrap64 (8 * (n : Int)) = 8 * n := Go.IntWalk.wrap64_in _ (by omega)
  rw [e7]
  exact Go.IntWalk.wrap64_in _ (by omega)

theorem sum_j1_done (k n : Nat) (hn : n ≤ 4095) (a1 v w t d s : Int) (h5 : ¬ a1 < 8 * n + 2) (hv : 2 * v = (n : Int) * (n + 1)) (hw : w = 8 * n + 2) (ht : t = n + 1) (hd : d = n + 1) (hs : s = 8 * n + 2) :
    plunderlaw6_SerialSum.j1 (k + 1) n a1 0 false v w t d s = some true := by
  subst hw ht hd hs
  have hp : (0 : Int) ≤ (n : Int) * (n + 1) := Int.mul_nonneg (by omega) (by omega)
  have hp2 : (n : Int) * (n + 1) ≤ 4095 * 4096 := Int.mul_le_mul (by omega) (by omega) (by omega) (by omega)
  have g1 : wrap64 ((n : Int) + 1) = n + 1 := Go.IntWalk.wrap64_in _ (by omega)
  have g2 : wrap64 ((n : Int) * (n + 1)) = 2 * v := by rw [hv]; exact Go.IntWalk.wrap64_in _ (by omega)
  have g3 : wrap64 (Int.tdiv (2 * v) 2) = v := by
    rw [Int.mul_tdiv_cancel_left _ (by decide)]
    exact Go.IntWalk.wrap64_in _ (by omega)
  simp only [plunderlaw6_SerialSum.j1, Bool.false_eq_true, ↓reduceIte, sum_small n hn, g1, g2, g3]
  rw [if_neg h5]
  simp

theorem sum_j1_out (k n : Nat) (hn : n ≤ 4095) (a1 : Int) (h5 : a1 < 8 * n + 2) : plunderlaw6_SerialSum.j1 (k + 1) n a1 62 false 0 0 0 0 0 = some true := by
  simp only [plunderlaw6_SerialSum.j1, Bool.false_eq_true, ↓reduceIte, sum_small n hn]
  rw [if_pos h5]
  rfl

theorem sum_j1_deep (k : Nat) (a0 a1 : Int) : plunderlaw6_SerialSum.j1 (k + 1) a0 a1 (if a1 < 16384 then 62 else 63) true 0 0 0 0 0 = some true := by
  by_cases h5 : a1 < 16384
  · rw [if_pos h5]
    simp only [plunderlaw6_SerialSum.j1, ↓reduceIte]
    rw [if_pos h5]
    rfl
  · rw [if_neg h5]
    simp only [plunderlaw6_SerialSum.j1, ↓reduceIte]
    rw [if_neg h5]
    rfl

/-- what a run of the chain comes to, in the print's words -/
theorem sum_ends (a0 a1 : Int) (b0 : -9223372036854775808 ≤ a0 ∧ a0 ≤ 9223372036854775807) (h1 : 0 ≤ a1) :
    (a0 < 0 ∨ a0 > 4095 → loop pdS apS sumF (a1.toNat + 1) (enter sumF ⟨a1.toNat, 0, 0, []⟩ (sumT a0 1 1) (-1) 0) (sumT a0 1 1) 0 0 = .stop (if a1 < 16384 then 62 else 63)) ∧
    (∀ n : Nat, a0 = n → n ≤ 4095 → (a1 < 8 * n + 2 → loop pdS apS sumF (a1.toNat + 1) (enter sumF ⟨a1.toNat, 0, 0, []⟩ (sumT a0 1 1) (-1) 0) (sumT a0 1 1) 0 0 = .stop 62) ∧
      (¬ a1 < 8 * n + 2 → ∃ rs' v, loop pdS apS sumF (a1.toNat + 1) (enter sumF ⟨a1.toNat, 0, 0, []⟩ (sumT a0 1 1) (-1) 0) (sumT a0 1 1) 0 0 = .done rs' v (8 * n + 2) ∧ 2 * v = (n : Int) * (n + 1) ∧ a1 - (rs'.left : Int) = 8 * n + 2 ∧ rs'.tasks = n + 1 ∧ rs'.deepest = n + 1)) := by
  have hl : ((a1.toNat : Nat) : Int) = a1 := by omega
  have hel : (enter sumF ⟨a1.toNat, 0, 0, []⟩ (sumT a0 1 1) (-1) 0).left = a1.toNat := rfl
  have het : (enter sumF ⟨a1.toNat, 0, 0, []⟩ (sumT a0 1 1) (-1) 0).tasks = 1 := rfl
  have hed : (enter sumF ⟨a1.toNat, 0, 0, []⟩ (sumT a0 1 1) (-1) 0).deepest = 1 := rfl
  generalize enter sumF ⟨a1.toNat, 0, 0, []⟩ (sumT a0 1 1) (-1) 0 = R at hel het hed ⊢
  generalize a1.toNat = m at hl hel ⊢
  constructor
  · intro h3
    have hx : ∀ d : Int, 1 ≤ d → d ≤ 4096 → wrap64 (a0 - (d - 1)) ≠ 0 := fun d d1 d2 => by
      unfold wrap64
      omega
    have hs : ∀ d : Int, 1 ≤ d → d < 4096 → apS 1 (wrap64 (a0 - (d - 1))) 1 = wrap64 (a0 - (d + 1 - 1)) := fun d d1 d2 => by
      rw [apS_sub]
      unfold wrap64
      omega
    obtain ⟨r1, r2⟩ := sum_chain pdS apS (fun d => wrap64 (a0 - (d - 1))) hx hs 4095 (m + 1) R 1 1 0 (by omega) (by omega) (by omega)
    have e0 : wrap64 (a0 - (1 - 1)) = a0 := by unfold wrap64; omega
    simp only [e0] at r1 r2
    by_cases h5 : a1 < 16384
    · rw [if_pos h5]
      exact r2 (by omega)
    · rw [if_neg h5]
      exact r1 (by omega)
  · intro n hn hn2
    subst hn
    obtain ⟨r1, r2⟩ := sum_run pdS apS (fun n h4 h5 => by rw [apS_sub]; exact Go.IntWalk.wrap64_in _ (by omega)) (fun a b h4 h5 h6 h7 => by rw [apS_add]; exact Go.IntWalk.wrap64_in _ (by omega)) n (m + 1) R 1 1 0 (by omega) (by omega) (by omega) (by omega)
    refine ⟨fun h5 => r2 (by omega), fun h5 => ?_⟩
    obtain ⟨rs', v, q1, q2, q3, q4, q5⟩ := r1 (by omega)
    refine ⟨rs', v, q1, q2, by omega, by omega, ?_⟩
    rw [q5, hed]
    split <;> omega

theorem sum_true (a0 a1 : Int) (w0 : (Lit.int .i64 a0).wf = true) (w1 : (Lit.int .i64 a1).wf = true) : plunderlaw6_SerialSum.f 3 a0 a1 = some true := by
  have b0 : -9223372036854775808 ≤ a0 ∧ a0 ≤ 9223372036854775807 := by
    simpa [Lit.wf, IntKind.min, IntKind.max, IntKind.signed, IntKind.bits] using w0
  unfold plunderlaw6_SerialSum.f
  by_cases h1 : a1 < 0
  · rw [if_pos h1]
    simp only [plunderlaw6_SerialSum.j0, ↓reduceIte]
    rw [lives_true]
    rfl
  rw [if_neg h1]
  by_cases h2 : a1 > 4194304
  · rw [decide_eq_true h2]
    simp only [plunderlaw6_SerialSum.j0, ↓reduceIte]
    rw [lives_true]
    rfl
  rw [decide_eq_false h2]
  simp only [plunderlaw6_SerialSum.j0, Bool.false_eq_true, ↓reduceIte]
  rw [sum_f, Option.bind_some, sum_eval 2 a0 a1 ⟨by omega, by omega⟩, Option.bind_some]
  obtain ⟨s1, s2⟩ := sum_ends a0 a1 b0 (by omega)
  by_cases h3 : a0 < 0
  · rw [if_pos h3, s1 (Or.inl h3)]
    simp only [resOf]
    exact sum_j1_deep 1 a0 a1
  rw [if_neg h3]
  by_cases h4 : a0 > 4095
  · rw [decide_eq_true h4, s1 (Or.inr h4)]
    simp only [resOf]
    exact sum_j1_deep 1 a0 a1
  rw [decide_eq_false h4]
  obtain ⟨n, rfl⟩ : ∃ n : Nat, a0 = (n : Int) := ⟨a0.toNat, by omega⟩
  obtain ⟨t1, t2⟩ := s2 n rfl (by omega)
  by_cases h5 : a1 < 8 * n + 2
  · rw [t1 h5]
    simp only [resOf]
    exact sum_j1_out 1 n (by omega) a1 h5
  · obtain ⟨rs', v, q1, q2, q3, q4, q5⟩ := t2 h5
    rw [q1]
    simp only [resOf]
    exact sum_j1_done 1 n (by omega) a1 v _ _ _ _ h5 q2 q3 q4 q5 rfl

end Go.Proofs.YtcioegimmjppcaaDoor.P
