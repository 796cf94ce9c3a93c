/- Plain law, part V: SerialFan. -/
import Derived.Test.YtcioegimmjppcaaDoorZSerU
import Derived.Test.YtcioegimmjppcaaDoorZSerT
import Derived.Test.YtcioegimmjppcaaDoorZPx11
namespace Go.Proofs.YtcioegimmjppcaaDoor.P
open Go.RowKit Go.Proofs.YtcioegimmjppcaaDoorW.PrintWords Go.Proofs.YtcioegimmjppcaaDoorW.PrintLast Go.Proofs.YtcioegimmjppcaaDoorW.PrintMore
set_option linter.unusedVariables false

def fanLeafS (m : Nat) : List S36 := List.replicate m ⟨1, 0, 0, 0, 0⟩
def fanRootS (kids : Nat) : List S36 := (List.range kids).map (fun i : Nat => (⟨5, (i : Int), 1, 0, 0⟩ : S36))
def fanP (kids moves : Nat) : List S39 := [⟨0, 1, (kids : Int), fanRootS kids ++ [⟨6, 0, 0, 0, 0⟩] ++ [⟨9, 0, 0, 0, 0⟩]⟩, ⟨0, 1, 0, fanLeafS moves ++ [⟨8, 0, 0, 0, 0⟩] ++ [⟨9, 0, 0, 0, 0⟩]⟩]

theorem fan_l1 (kids moves : Nat) (hk : kids ≤ 8) (hm : moves ≤ 510) : ∀ (m k j : Nat), j + m = moves →
    plunderlaw6_fan.l1 (k + m + 1) (kids : Int) (moves : Int) (fanRootS kids ++ [⟨6, 0, 0, 0, 0⟩] ++ [⟨9, 0, 0, 0, 0⟩]) (fanLeafS j) (j : Int) = some (fanP kids moves) := by
  intro m
  induction m with
  | zero =>
    intro k j hj
    obtain rfl : j = moves := by omega
    simp only [plunderlaw6_fan.l1]
    rw [if_neg (by omega), if_pos (by simp only [fanLeafS, List.length_replicate]; omega), Option.bind_some, if_pos (by simp only [fanLeafS, List.length_append, List.length_replicate, List.length_singleton]; omega)]
    rfl
  | succ m ih =>
    intro k j hj
    have e : k + (m + 1) + 1 = (k + m + 1) + 1 := by omega
    rw [e]
    simp only [plunderlaw6_fan.l1]
    rw [if_pos (by omega), if_pos (by simp only [fanLeafS, List.length_replicate]; omega)]
    have e1 : fanLeafS j ++ [(⟨1, 0, 0, 0, 0⟩ : S36)] = fanLeafS (j + 1) := by
      unfold fanLeafS
      rw [List.replicate_succ']
    have e2 : wrap64 ((j : Int) + 1) = ((j + 1 : Nat) : Int) := by
      rw [Go.IntWalk.wrap64_in _ (by omega)]
      omega
    rw [e1, e2]
    exact ih k (j + 1) (by omega)

theorem fan_l0 (kids moves : Nat) (hk : kids ≤ 8) (hm : moves ≤ 510) : ∀ (m k j : Nat), j + m = kids →
    plunderlaw6_fan.l0 (k + moves + 1 + m + 1) (kids : Int) (moves : Int) (fanRootS j) (j : Int) = some (fanP kids moves) := by
  intro m
  induction m with
  | zero =>
    intro k j hj
    obtain rfl : j = kids := by omega
    simp only [plunderlaw6_fan.l0]
    rw [if_neg (by omega), if_pos (by simp only [fanRootS, List.length_map, List.length_range]; omega), Option.bind_some, if_pos (by simp only [fanRootS, List.length_append, List.length_map, List.length_range, List.length_singleton]; omega)]
    exact fan_l1 j moves hk hm moves k 0 (by omega)
  | succ m ih =>
    intro k j hj
    have e : k + moves + 1 + (m + 1) + 1 = (k + moves + 1 + m + 1) + 1 := by omega
    rw [e]
    simp only [plunderlaw6_fan.l0]
    rw [if_pos (by omega), if_pos (by simp only [fanRootS, List.length_map, List.length_range]; omega)]
    have e1 : fanRootS j ++ [(⟨5, (j : Int), 1, 0, 0⟩ : S36)] = fanRootS (j + 1) := by
      unfold fanRootS
      rw [List.range_succ, List.map_append]
      rfl
    have e2 : wrap64 ((j : Int) + 1) = ((j + 1 : Nat) : Int) := by
      rw [Go.IntWalk.wrap64_in _ (by omega)]
      omega
    rw [e1, e2]
    exact ih k (j + 1) (by omega)

theorem fan_f (kids moves : Nat) (hk : kids ≤ 8) (hm : moves ≤ 510) : plunderlaw6_fan.f (moves + 1 + kids + 1) (kids : Int) (moves : Int) = some (fanP kids moves) := by
  have h := fan_l0 kids moves hk hm kids 0 0 (by omega)
  rw [Nat.zero_add] at h
  exact h

theorem fanP_map (kids moves : Nat) : (fanP kids moves).map fnS = fanF kids moves := by
  simp only [fanP, fanF, fanRootS, fanLeafS, fanRoot, fanLeaf, List.map_cons, List.map_nil, fnS, insS, List.map_append, List.map_map, List.map_replicate, List.append_assoc]
  rfl

theorem fan_w (x : Int) (h0 : 0 ≤ x) (h1 : x ≤ 1000000) : wrap64 x = x := Go.IntWalk.wrap64_in _ (by omega)
theorem fan_mul (kids moves : Nat) (h8 : kids ≤ 8) (hm : moves ≤ 510) : 0 ≤ (kids : Int) * ((moves : Int) + 2) ∧ (kids : Int) * ((moves : Int) + 2) ≤ 4096 := by
  refine ⟨Int.mul_nonneg (by omega) (by omega), ?_⟩
  have : (kids : Int) * ((moves : Int) + 2) ≤ 8 * 512 := Int.mul_le_mul (by omega) (by omega) (by omega) (by omega)
  omega
theorem fan_num (kids moves : Nat) (h8 : kids ≤ 8) (hm : moves ≤ 510) : wrap64 ((kids : Int) + 2) = kids + 2 ∧ wrap64 ((moves : Int) + 2) = moves + 2 ∧ wrap64 ((kids : Int) * ((moves : Int) + 2)) = kids * (moves + 2) ∧ wrap64 ((kids : Int) + 2 + kids * (moves + 2)) = kids + 2 + kids * (moves + 2) ∧
    wrap64 ((kids : Int) + 1) = kids + 1 ∧ wrap64 ((kids : Int) + moves) = kids + moves ∧ wrap64 ((kids : Int) + moves + 2) = kids + moves + 2 ∧ wrap64 ((kids : Int) + moves + 2 + 2) = kids + moves + 2 + 2 := by
  obtain ⟨m0, m1⟩ := fan_mul kids moves h8 hm
  generalize (kids : Int) * ((moves : Int) + 2) = z at m0 m1 ⊢
  exact ⟨fan_w _ (by omega) (by omega), fan_w _ (by omega) (by omega), fan_w _ m0 (by omega), fan_w _ (by omega) (by omega), fan_w _ (by omega) (by omega), fan_w _ (by omega) (by omega), fan_w _ (by omega) (by omega), fan_w _ (by omega) (by omega)⟩

theorem fan_ok (kids moves : Nat) (h1 : 1 ≤ kids) (h8 : kids ≤ 8) (hm : moves ≤ 510) : plunderlaw6_SerialFan.j0 (moves + 1 + kids + 1 + 1) (kids : Int) (moves : Int) false = some true := by
  obtain ⟨rs, e1, e2, e3, e4⟩ := fan_whole pdS apS kids moves h1 h8 hm
  have hev : evalOf pdS apS (fanF kids moves) [] 4194304 = (0, (kids : Int) + 2 + kids * (moves + 2), (kids : Int) + 1, 2, (kids : Int) + moves + 2 + 2, 0) := by
    rw [evalOf_go (fan_valid kids moves h1 h8 hm) rfl ⟨by decide, by decide⟩]
    have ef : (4194304 : Int).toNat = 4194304 := rfl
    rw [ef, e1]
    simp only [resOf]
    rw [e2, e3, e4]
  obtain ⟨g1, g2, g3, g4, g5, g6, g7, g8⟩ := fan_num kids moves h8 hm
  simp only [plunderlaw6_SerialFan.j0, Bool.false_eq_true, ↓reduceIte]
  rw [fan_f kids moves h8 hm, Option.bind_some]
  unfold serial_Eval.f
  rw [fanP_map, hev, Option.bind_some]
  simp only [↓reduceIte]
  rw [g1, g2, g3, g4, g5, g6, g7, g8]
  simp

theorem fan_true (a0 a1 : Int) : ∃ k, plunderlaw6_SerialFan.f k a0 a1 = some true := by
  have hl : ∀ k, plunderlaw6_SerialFan.j0 (k + 1) a0 a1 true = some true := fun k => by
    simp only [plunderlaw6_SerialFan.j0, ↓reduceIte]
    rw [lives_true]
    rfl
  unfold plunderlaw6_SerialFan.f
  by_cases h1 : a0 < 1
  · exact ⟨1, by rw [if_pos h1]; exact hl 0⟩
  by_cases h2 : a0 > 8
  · exact ⟨1, by rw [if_neg h1, if_pos h2]; exact hl 0⟩
  by_cases h3 : a1 < 0
  · exact ⟨1, by rw [if_neg h1, if_neg h2, if_pos h3]; exact hl 0⟩
  by_cases h4 : a1 > 510
  · exact ⟨1, by rw [if_neg h1, if_neg h2, if_neg h3, decide_eq_true h4]; exact hl 0⟩
  clear hl
  obtain ⟨kids, rfl⟩ : ∃ n : Nat, a0 = (n : Int) := ⟨a0.toNat, by omega⟩
  obtain ⟨moves, rfl⟩ : ∃ n : Nat, a1 = (n : Int) := ⟨a1.toNat, by omega⟩
  refine ⟨moves + 1 + kids + 1 + 1, ?_⟩
  rw [if_neg h1, if_neg h2, if_neg h3, decide_eq_false h4]
  exact fan_ok kids moves (by omega) (by omega) (by omega)

end Go.Proofs.YtcioegimmjppcaaDoor.P
