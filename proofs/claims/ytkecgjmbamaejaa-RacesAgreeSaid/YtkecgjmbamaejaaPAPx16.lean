/- Written by a program: plain Lean functions that answer as Go functions of this seat do, and the proofs that the calls come to these answers. -/
import Derived.Test.YtkecgjmbamaejaaPAPx0
namespace Go.Proofs.Ytkecgjmbamaejaa.P
open Go.RowKit Go.Proofs.YtkecgjmbamaejaaW.PrintWords Go.Proofs.YtkecgjmbamaejaaW.PrintLast Go.Proofs.YtkecgjmbamaejaaW.PrintMore
attribute [local go_sem] max2_int min2_int max_two min_two max_three min_three max_four min_four   -- for this text's walks alone
set_option linter.unusedVariables false
set_option linter.unusedSimpArgs false

def plunderlaw19_sound.l0 : Nat → List (S52) → Int → Int → Option (Bool)
  | 0, _, _, _ => none
  | k + 1, x0, x3, x4 => if x4 < (x0.length : Int) then (if 0 ≤ x4 then (if ((rd_T52 x0 x4).f0) = 0 then (plunderlaw19_sound.l0 k x0 (wrap64 (x3 + 1)) (wrap64 (x4 + 1))) else (if ((rd_T52 x0 x4).f0) = 1 then (if (wrap64 (x3 - 1)) < 0 then (some false) else (plunderlaw19_sound.l0 k x0 (wrap64 (x3 - 1)) (wrap64 (x4 + 1)))) else (if ((rd_T52 x0 x4).f0) = 2 then (plunderlaw19_sound.l0 k x0 x3 (wrap64 (x4 + 1))) else (if ((rd_T52 x0 x4).f0) = 3 then (plunderlaw19_sound.l0 k x0 x3 (wrap64 (x4 + 1))) else (if ((rd_T52 x0 x4).f0) = 4 then (plunderlaw19_sound.l0 k x0 x3 (wrap64 (x4 + 1))) else (some false)))))) else (none)) else (some (decide ((x0.length : Int) ≤ 4096)))
def plunderlaw19_sound.f (k : Nat) (l0 : List (S52)) : Option (Bool) := plunderlaw19_sound.l0 k l0 0 0
set_option maxHeartbeats 8000000 in
set_option maxRecDepth 100000 in
theorem plunderlaw19_sound.calls (k : Nat) (A0 : Option Addr) (c0 : Nat) (l0 : List (S52)) (r : Bool) (w : World) (hr0 : Kd.C k52 w A0 l0.length l0) (hc0 : l0.length ≤ c0) (h : plunderlaw19_sound.f k l0 = some r) :
    Calls Try.prog 29 #[.slice A0 l0.length c0] w fun e w' => e = .returned (.bool r) ∧ Drawn0 w w' := by
  have HR0 := Aside0.mk hr0
  have HC0 := Aside0.mk hc0
  clear hr0 hc0
  have H : (plunderlaw19_sound.l0 k l0 0 0) = some r := h
  clear h
  have H' := Aside0.mk H
  clear H
  go_enter Try.func29, Try.ntmps29
  go_wp2
  go_loopg [3, 4] k (fun kq v3 v4 w' => ∃ (x3_1 : Int) (x4_1 : Int), v3 = .int .i64 x3_1 ∧ v4 = .int .i64 x4_1 ∧ Aside0 (plunderlaw19_sound.l0 kq l0 x3_1 x4_1 = some r) ∧ Aside0 (kq ≤ k) ∧ Drawn0 w w')
  case atStart => exact ⟨(0), (0), (by first | rfl | (simp; done) | (simp [*]; done)), (by first | rfl | (simp; done) | (simp [*]; done)), H', ⟨Nat.le_refl _⟩, by repeat (first | exact Drawn0.refl _ | apply Drawn0.step)⟩
  case round =>
    clear H'
    obtain ⟨x3_1, x4_1, rfl, rfl, HA, HK1, ⟨m1, rfl⟩⟩ := hrel
    cases gk with
    | zero => exact absurd HA.out (by simp [plunderlaw19_sound.l0])
    | succ k1 =>
      have H := HA.out
      clear HA
      simp only [plunderlaw19_sound.l0] at H
      by_cases c2 : x4_1 < (l0.length : Int)
      · rw [if_pos c2] at H
        have c2b0 : decide (x4_1 < (l0.length : Int)) = true := decide_eq_true c2
        clear c2
        by_cases c3 : 0 ≤ x4_1
        · rw [if_pos c3] at H
          have c3b0 : decide (0 ≤ x4_1) = true := decide_eq_true c3
          clear c3
          by_cases c4 : ((rd_T52 l0 x4_1).f0) = 0
          · rw [if_pos c4] at H
            have c4b0 : (((rd_T52 l0 x4_1).f0) == 0) = true := beq_iff_eq.mpr c4
            have c4b1 : (((rd_T52 l0 x4_1).f0) != 0) = false := bne_eq_false_iff_eq.mpr c4
            clear c4
            have H' := Aside0.mk H
            clear H
            have p494 : 0 ≤ (x4_1 : Int) := of_decide_eq_true (by first | (with_reducible assumption) | assumption)
            have q494 : x4_1 < (l0.length : Int) := of_decide_eq_true (by first | (with_reducible assumption) | assumption)
            obtain ⟨ad494, e494, hx494_0, hx494_1⟩ := at_T52 HR0.out x4_1 p494 q494
            cases e494
            replace p494 := eq_true p494
            replace q494 := eq_true q494
            go_wp2
            go_roundg k1
            case measure => have := HK1.out; omega
            case rel => exact ⟨(wrap64 (x3_1 + 1)), (wrap64 (x4_1 + 1)), (by first | rfl | (simp; done) | (simp [*]; done)), (by first | rfl | (simp; done) | (simp [*]; done)), H', ⟨by have := HK1.out; omega⟩, by repeat (first | exact Drawn0.refl _ | apply Drawn0.step)⟩
          · rw [if_neg c4] at H
            have c4b0 : (((rd_T52 l0 x4_1).f0) == 0) = false := beq_eq_false_iff_ne.mpr c4
            have c4b1 : (((rd_T52 l0 x4_1).f0) != 0) = true := bne_iff_ne.mpr c4
            by_cases c5 : ((rd_T52 l0 x4_1).f0) = 1
            · rw [if_pos c5] at H
              have c5b0 : (((rd_T52 l0 x4_1).f0) == 1) = true := beq_iff_eq.mpr c5
              have c5b1 : (((rd_T52 l0 x4_1).f0) != 1) = false := bne_eq_false_iff_eq.mpr c5
              clear c5
              by_cases c6 : (wrap64 (x3_1 - 1)) < 0
              · rw [if_pos c6] at H
                have c6b0 : decide ((wrap64 (x3_1 - 1)) < 0) = true := decide_eq_true c6
                clear c6
                obtain rfl := Option.some.inj H
                have p494 : 0 ≤ (x4_1 : Int) := of_decide_eq_true (by first | (with_reducible assumption) | assumption)
                have q494 : x4_1 < (l0.length : Int) := of_decide_eq_true (by first | (with_reducible assumption) | assumption)
                obtain ⟨ad494, e494, hx494_0, hx494_1⟩ := at_T52 HR0.out x4_1 p494 q494
                cases e494
                replace p494 := eq_true p494
                replace q494 := eq_true q494
                go_wp2
                go_ret
                exact ⟨by first | rfl | (simp; done) | (simp [*]; done), by repeat (first | exact Drawn0.refl _ | apply Drawn0.step)⟩
              · rw [if_neg c6] at H
                have c6b0 : decide ((wrap64 (x3_1 - 1)) < 0) = false := decide_eq_false c6
                clear c6
                have H' := Aside0.mk H
                clear H
                have p494 : 0 ≤ (x4_1 : Int) := of_decide_eq_true (by first | (with_reducible assumption) | assumption)
                have q494 : x4_1 < (l0.length : Int) := of_decide_eq_true (by first | (with_reducible assumption) | assumption)
                obtain ⟨ad494, e494, hx494_0, hx494_1⟩ := at_T52 HR0.out x4_1 p494 q494
                cases e494
                replace p494 := eq_true p494
                replace q494 := eq_true q494
                go_wp2
                go_roundg k1
                case measure => have := HK1.out; omega
                case rel => exact ⟨(wrap64 (x3_1 - 1)), (wrap64 (x4_1 + 1)), (by first | rfl | (simp; done) | (simp [*]; done)), (by first | rfl | (simp; done) | (simp [*]; done)), H', ⟨by have := HK1.out; omega⟩, by repeat (first | exact Drawn0.refl _ | apply Drawn0.step)⟩
            · rw [if_neg c5] at H
              have c5b0 : (((rd_T52 l0 x4_1).f0) == 1) = false := beq_eq_false_iff_ne.mpr c5
              have c5b1 : (((rd_T52 l0 x4_1).f0) != 1) = true := bne_iff_ne.mpr c5
              by_cases c7 : ((rd_T52 l0 x4_1).f0) = 2
              · rw [if_pos c7] at H
                have c7b0 : (((rd_T52 l0 x4_1).f0) == 2) = true := beq_iff_eq.mpr c7
                have c7b1 : (((rd_T52 l0 x4_1).f0) != 2) = false := bne_eq_false_iff_eq.mpr c7
                clear c7
                have H' := Aside0.mk H
                clear H
                have p494 : 0 ≤ (x4_1 : Int) := of_decide_eq_true (by first | (with_reducible assumption) | assumption)
                have q494 : x4_1 < (l0.length : Int) := of_decide_eq_true (by first | (with_reducible assumption) | assumption)
                obtain ⟨ad494, e494, hx494_0, hx494_1⟩ := at_T52 HR0.out x4_1 p494 q494
                cases e494
                replace p494 := eq_true p494
                replace q494 := eq_true q494
                go_wp2
                go_roundg k1
                case measure => have := HK1.out; omega
                case rel => exact ⟨(x3_1), (wrap64 (x4_1 + 1)), (by first | rfl | (simp; done) | (simp [*]; done)), (by first | rfl | (simp; done) | (simp [*]; done)), H', ⟨by have := HK1.out; omega⟩, by repeat (first | exact Drawn0.refl _ | apply Drawn0.step)⟩
              · rw [if_neg c7] at H
                have c7b0 : (((rd_T52 l0 x4_1).f0) == 2) = false := beq_eq_false_iff_ne.mpr c7
                have c7b1 : (((rd_T52 l0 x4_1).f0) != 2) = true := bne_iff_ne.mpr c7
                by_cases c8 : ((rd_T52 l0 x4_1).f0) = 3
                · rw [if_pos c8] at H
                  have c8b0 : (((rd_T52 l0 x4_1).f0) == 3) = true := beq_iff_eq.mpr c8
                  have c8b1 : (((rd_T52 l0 x4_1).f0) != 3) = false := bne_eq_false_iff_eq.mpr c8
                  clear c8
                  have H' := Aside0.mk H
                  clear H
                  have p494 : 0 ≤ (x4_1 : Int) := of_decide_eq_true (by first | (with_reducible assumption) | assumption)
                  have q494 : x4_1 < (l0.length : Int) := of_decide_eq_true (by first | (with_reducible assumption) | assumption)
                  obtain ⟨ad494, e494, hx494_0, hx494_1⟩ := at_T52 HR0.out x4_1 p494 q494
                  cases e494
                  replace p494 := eq_true p494
                  replace q494 := eq_true q494
                  go_wp2
                  go_roundg k1
                  case measure => have := HK1.out; omega
                  case rel => exact ⟨(x3_1), (wrap64 (x4_1 + 1)), (by first | rfl | (simp; done) | (simp [*]; done)), (by first | rfl | (simp; done) | (simp [*]; done)), H', ⟨by have := HK1.out; omega⟩, by repeat (first | exact Drawn0.refl _ | apply Drawn0.step)⟩
                · rw [if_neg c8] at H
                  have c8b0 : (((rd_T52 l0 x4_1).f0) == 3) = false := beq_eq_false_iff_ne.mpr c8
                  have c8b1 : (((rd_T52 l0 x4_1).f0) != 3) = true := bne_iff_ne.mpr c8
                  by_cases c9 : ((rd_T52 l0 x4_1).f0) = 4
                  · rw [if_pos c9] at H
                    have c9b0 : (((rd_T52 l0 x4_1).f0) == 4) = true := beq_iff_eq.mpr c9
                    have c9b1 : (((rd_T52 l0 x4_1).f0) != 4) = false := bne_eq_false_iff_eq.mpr c9
                    clear c9
                    have H' := Aside0.mk H
                    clear H
                    have p494 : 0 ≤ (x4_1 : Int) := of_decide_eq_true (by first | (with_reducible assumption) | assumption)
                    have q494 : x4_1 < (l0.length : Int) := of_decide_eq_true (by first | (with_reducible assumption) | assumption)
                    obtain ⟨ad494, e494, hx494_0, hx494_1⟩ := at_T52 HR0.out x4_1 p494 q494
                    cases e494
                    replace p494 := eq_true p494
                    replace q494 := eq_true q494
                    go_wp2
                    go_roundg k1
                    case measure => have := HK1.out; omega
                    case rel => exact ⟨(x3_1), (wrap64 (x4_1 + 1)), (by first | rfl | (simp; done) | (simp [*]; done)), (by first | rfl | (simp; done) | (simp [*]; done)), H', ⟨by have := HK1.out; omega⟩, by repeat (first | exact Drawn0.refl _ | apply Drawn0.step)⟩
                  · rw [if_neg c9] at H
                    have c9b0 : (((rd_T52 l0 x4_1).f0) == 4) = false := beq_eq_false_iff_ne.mpr c9
                    have c9b1 : (((rd_T52 l0 x4_1).f0) != 4) = true := bne_iff_ne.mpr c9
                    obtain rfl := Option.some.inj H
                    have p494 : 0 ≤ (x4_1 : Int) := of_decide_eq_true (by first | (with_reducible assumption) | assumption)
                    have q494 : x4_1 < (l0.length : Int) := of_decide_eq_true (by first | (with_reducible assumption) | assumption)
                    obtain ⟨ad494, e494, hx494_0, hx494_1⟩ := at_T52 HR0.out x4_1 p494 q494
                    cases e494
                    replace p494 := eq_true p494
                    replace q494 := eq_true q494
                    go_wp2
                    go_ret
                    exact ⟨by first | rfl | (simp; done) | (simp [*]; done), by repeat (first | exact Drawn0.refl _ | apply Drawn0.step)⟩
        · rw [if_neg c3] at H
          exact absurd H (by simp)
      · rw [if_neg c2] at H
        have c2b0 : decide (x4_1 < (l0.length : Int)) = false := decide_eq_false c2
        clear c2
        obtain rfl := Option.some.inj H
        go_wp2
        go_ret
        exact ⟨by first | rfl | (simp; done) | (simp [*]; done), by repeat (first | exact Drawn0.refl _ | apply Drawn0.step)⟩

end Go.Proofs.Ytkecgjmbamaejaa.P
