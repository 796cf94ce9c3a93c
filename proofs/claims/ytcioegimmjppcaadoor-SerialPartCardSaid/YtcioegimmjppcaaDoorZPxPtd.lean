/- Written by a program: plain Lean functions that answer as Go functions of this seat do, and the proofs that the calls come to these answers. -/
import Derived.Test.YtcioegimmjppcaaDoorZJP
import Derived.Test.YtcioegimmjppcaaDoorZPx5
import Derived.Test.YtcioegimmjppcaaDoorZPxA
import Derived.Test.YtcioegimmjppcaaDoorZJD
import Derived.Test.YtcioegimmjppcaaDoorZJK
namespace Go.Proofs.YtcioegimmjppcaaDoor.P
open Go.RowKit Go.Proofs.YtcioegimmjppcaaDoorW.PrintWords Go.Proofs.YtcioegimmjppcaaDoorW.PrintLast Go.Proofs.YtcioegimmjppcaaDoorW.PrintMore
attribute [local go_sem] max2_int min2_int max_two min_two max_three min_three max_four min_four   -- for this text's walks alone
set_option linter.unusedVariables false
set_option linter.unusedSimpArgs false

/-! ### plunderlaw6_SerialPart: function 9 -/
mutual
def plunderlaw6_SerialPart.j0 : Nat → Int → Int → List (S49) → Bool → List (S39) → Option (Bool)
  | 0, _, _, _, _, _ => none
  | k + 1, x2, x3, x9, x34, x125000 => if x34 = true then (some true) else (if (x9.length : Int) = 0 then (some false) else (if (Int.tmod x3 (x9.length : Int)) < 0 then (plunderlaw6_SerialPart.j1 k x2 x9 (wrap64 ((Int.tmod x3 (x9.length : Int)) + (x9.length : Int))) x125000) else (plunderlaw6_SerialPart.j1 k x2 x9 (Int.tmod x3 (x9.length : Int)) x125000)))
def plunderlaw6_SerialPart.j1 : Nat → Int → List (S49) → Int → List (S39) → Option (Bool)
  | 0, _, _, _, _ => none
  | k + 1, x2, x9, x11, x125000 => if 0 ≤ x11 then (if x11 < (x9.length : Int) then (if ((rd_T49 x9 x11).f2) < 0 then (plunderlaw6_SerialPart.j2 k x2 x9 x11 true x125000 ((rd_T49 x9 x11).f0) ((rd_T49 x9 x11).f1) ((rd_T49 x9 x11).f2) ((rd_T49 x9 x11).f3) ((rd_T49 x9 x11).f4) ((rd_T49 x9 x11).f5) ((rd_T49 x9 x11).f6)) else (plunderlaw6_SerialPart.j2 k x2 x9 x11 (decide (((rd_T49 x9 x11).f2) ≥ (x125000.length : Int))) x125000 ((rd_T49 x9 x11).f0) ((rd_T49 x9 x11).f1) ((rd_T49 x9 x11).f2) ((rd_T49 x9 x11).f3) ((rd_T49 x9 x11).f4) ((rd_T49 x9 x11).f5) ((rd_T49 x9 x11).f6))) else (none)) else (none)
def plunderlaw6_SerialPart.j2 : Nat → Int → List (S49) → Int → Bool → List (S39) → Int → Int → Int → Int → Int → Int → Int → Option (Bool)
  | 0, _, _, _, _, _, _, _, _, _, _, _, _ => none
  | k + 1, x2, x9, x11, x62, x125000, x133000, x133001, x133002, x133003, x133004, x133005, x133006 => if x62 = true then (some false) else (if 0 ≤ x133002 then (if x133002 < (x125000.length : Int) then (if ((rd_T39 x125000 x133002).f0) = 1 then (if ([] : List Int).length < 17592186044416 then (plunderlaw6_SerialPart.j3 k x2 x9 x11 (([] : List Int) ++ [x133005]) x125000 x133000 x133001 x133002 x133003 x133004 x133005 x133006) else (none)) else (if ((rd_T39 x125000 x133002).f0) > 1 then (some true) else (plunderlaw6_SerialPart.j3 k x2 x9 x11 ([] : List Int) x125000 x133000 x133001 x133002 x133003 x133004 x133005 x133006))) else (none)) else (none))
def plunderlaw6_SerialPart.j3 : Nat → Int → List (S49) → Int → List Int → List (S39) → Int → Int → Int → Int → Int → Int → Int → Option (Bool)
  | 0, _, _, _, _, _, _, _, _, _, _, _, _ => none
  | k + 1, x2, x9, x11, x13, x125000, x133000, x133001, x133002, x133003, x133004, x133005, x133006 => plunderlaw6_SerialPart.l0 k x2 x9 x11 x13 1 x133003 (wrap64 (x11 + 1)) x125000 x133000 x133001 x133002 x133003 x133004 x133005 x133006
def plunderlaw6_SerialPart.l0 : Nat → Int → List (S49) → Int → List Int → Int → Int → Int → List (S39) → Int → Int → Int → Int → Int → Int → Int → Option (Bool)
  | 0, _, _, _, _, _, _, _, _, _, _, _, _, _, _, _ => none
  | k + 1, x2, x9, x11, x13, x14, x15, x16, x125000, x133000, x133001, x133002, x133003, x133004, x133005, x133006 => if x16 < (x9.length : Int) then (if 0 ≤ x16 then (if ((rd_T49 x9 x16).f0) ≥ x11 then (plunderlaw6_SerialPart.l0 k x2 x9 x11 x13 (wrap64 (x14 + 1)) (wrap64 (x15 + ((rd_T49 x9 x16).f3))) (wrap64 (x16 + 1)) x125000 x133000 x133001 x133002 x133003 x133004 x133005 x133006) else ((plunderlaw6_swapped.f k x125000 x133002).bind fun t140 => ((serial_Eval.f k t140 x13 x2).bind fun bt143 => (if bt143.2.2.2.2.2 = 0 then (if bt143.1 = x133006 then (if bt143.2.2.1 = x14 then (some (bt143.2.1 == x15)) else (some false)) else (some false)) else (some false))))) else (none)) else ((plunderlaw6_swapped.f k x125000 x133002).bind fun t150 => ((serial_Eval.f k t150 x13 x2).bind fun bt153 => (if bt153.2.2.2.2.2 = 0 then (if bt153.1 = x133006 then (if bt153.2.2.1 = x14 then (some (bt153.2.1 == x15)) else (some false)) else (some false)) else (some false))))
end
def plunderlaw6_SerialPart.f (k : Nat) (l0_0 : List (S39)) (l1 : List Int) (a2 : Int) (a3 : Int) : Option (Bool) := (plunderlaw6_lives.f k a3).bind fun t125 => (if t125 = true then ((serial_Tree.f k l0_0 l1 a2).bind fun bt126 => (if bt126.2 = 0 then ((plunderlaw6_asksPed.f k l0_0).bind fun t130 => (plunderlaw6_SerialPart.j0 k a2 a3 bt126.1 t130 l0_0)) else (plunderlaw6_SerialPart.j0 k a2 a3 bt126.1 true l0_0))) else (some false))
theorem plunderlaw6_SerialPart.mono_l : ∀ k, (∀ y0 y1 y2 y3 y4, LeO (plunderlaw6_SerialPart.j0 k y0 y1 y2 y3 y4) (plunderlaw6_SerialPart.j0 (k + 1) y0 y1 y2 y3 y4)) ∧ (∀ y0 y1 y2 y3, LeO (plunderlaw6_SerialPart.j1 k y0 y1 y2 y3) (plunderlaw6_SerialPart.j1 (k + 1) y0 y1 y2 y3)) ∧ (∀ y0 y1 y2 y3 y4 y5 y6 y7 y8 y9 y10 y11, LeO (plunderlaw6_SerialPart.j2 k y0 y1 y2 y3 y4 y5 y6 y7 y8 y9 y10 y11) (plunderlaw6_SerialPart.j2 (k + 1) y0 y1 y2 y3 y4 y5 y6 y7 y8 y9 y10 y11)) ∧ (∀ y0 y1 y2 y3 y4 y5 y6 y7 y8 y9 y10 y11, LeO (plunderlaw6_SerialPart.j3 k y0 y1 y2 y3 y4 y5 y6 y7 y8 y9 y10 y11) (plunderlaw6_SerialPart.j3 (k + 1) y0 y1 y2 y3 y4 y5 y6 y7 y8 y9 y10 y11)) ∧ (∀ y0 y1 y2 y3 y4 y5 y6 y7 y8 y9 y10 y11 y12 y13 y14, LeO (plunderlaw6_SerialPart.l0 k y0 y1 y2 y3 y4 y5 y6 y7 y8 y9 y10 y11 y12 y13 y14) (plunderlaw6_SerialPart.l0 (k + 1) y0 y1 y2 y3 y4 y5 y6 y7 y8 y9 y10 y11 y12 y13 y14))
  | 0 => ⟨fun _ _ _ _ _ r h => by simp [plunderlaw6_SerialPart.j0] at h, fun _ _ _ _ r h => by simp [plunderlaw6_SerialPart.j1] at h, fun _ _ _ _ _ _ _ _ _ _ _ _ r h => by simp [plunderlaw6_SerialPart.j2] at h, fun _ _ _ _ _ _ _ _ _ _ _ _ r h => by simp [plunderlaw6_SerialPart.j3] at h, fun _ _ _ _ _ _ _ _ _ _ _ _ _ _ _ r h => by simp [plunderlaw6_SerialPart.l0] at h⟩
  | k + 1 => by
    obtain ⟨ih0, ih1, ih2, ih3, ih4⟩ := plunderlaw6_SerialPart.mono_l k
    refine ⟨?_, ?_, ?_, ?_, ?_⟩
    · intro y0 y1 y2 y3 y4
      unfold plunderlaw6_SerialPart.j0
      repeat' first
      | (with_reducible exact ih0 _ _ _ _ _)
      | (with_reducible exact ih1 _ _ _ _)
      | (with_reducible exact ih2 _ _ _ _ _ _ _ _ _ _ _ _)
      | (with_reducible exact ih3 _ _ _ _ _ _ _ _ _ _ _ _)
      | (with_reducible exact ih4 _ _ _ _ _ _ _ _ _ _ _ _ _ _ _)
      | (with_reducible exact plunderlaw6_asksPed.mono _ _)
      | (with_reducible exact plunderlaw6_lives.mono _ _)
      | (with_reducible exact plunderlaw6_swapped.mono _ _ _)
      | (with_reducible exact serial_Eval.mono _ _ _ _)
      | (with_reducible exact serial_Tree.mono _ _ _ _)
      | (with_reducible exact LeO.refl _)
      | (with_reducible exact LeO.none _)
      | (with_reducible refine LeO.ite ?_ ?_)
      | (with_reducible refine LeO.bind ?_ (fun _ => ?_))
      | exact ih0 _ _ _ _ _
      | exact ih1 _ _ _ _
      | exact ih2 _ _ _ _ _ _ _ _ _ _ _ _
      | exact ih3 _ _ _ _ _ _ _ _ _ _ _ _
      | exact ih4 _ _ _ _ _ _ _ _ _ _ _ _ _ _ _
      | exact plunderlaw6_asksPed.mono _ _
      | exact plunderlaw6_lives.mono _ _
      | exact plunderlaw6_swapped.mono _ _ _
      | exact serial_Eval.mono _ _ _ _
      | exact serial_Tree.mono _ _ _ _
      | exact LeO.none _
      | refine LeO.ite ?_ ?_
      | refine LeO.bind ?_ (fun _ => ?_)
    · intro y0 y1 y2 y3
      unfold plunderlaw6_SerialPart.j1
      repeat' first
      | (with_reducible exact ih0 _ _ _ _ _)
      | (with_reducible exact ih1 _ _ _ _)
      | (with_reducible exact ih2 _ _ _ _ _ _ _ _ _ _ _ _)
      | (with_reducible exact ih3 _ _ _ _ _ _ _ _ _ _ _ _)
      | (with_reducible exact ih4 _ _ _ _ _ _ _ _ _ _ _ _ _ _ _)
      | (with_reducible exact plunderlaw6_asksPed.mono _ _)
      | (with_reducible exact plunderlaw6_lives.mono _ _)
      | (with_reducible exact plunderlaw6_swapped.mono _ _ _)
      | (with_reducible exact serial_Eval.mono _ _ _ _)
      | (with_reducible exact serial_Tree.mono _ _ _ _)
      | (with_reducible exact LeO.refl _)
      | (with_reducible exact LeO.none _)
      | (with_reducible refine LeO.ite ?_ ?_)
      | (with_reducible refine LeO.bind ?_ (fun _ => ?_))
      | exact ih0 _ _ _ _ _
      | exact ih1 _ _ _ _
      | exact ih2 _ _ _ _ _ _ _ _ _ _ _ _
      | exact ih3 _ _ _ _ _ _ _ _ _ _ _ _
      | exact ih4 _ _ _ _ _ _ _ _ _ _ _ _ _ _ _
      | exact plunderlaw6_asksPed.mono _ _
      | exact plunderlaw6_lives.mono _ _
      | exact plunderlaw6_swapped.mono _ _ _
      | exact serial_Eval.mono _ _ _ _
      | exact serial_Tree.mono _ _ _ _
      | exact LeO.none _
      | refine LeO.ite ?_ ?_
      | refine LeO.bind ?_ (fun _ => ?_)
    · intro y0 y1 y2 y3 y4 y5 y6 y7 y8 y9 y10 y11
      unfold plunderlaw6_SerialPart.j2
      repeat' first
      | (with_reducible exact ih0 _ _ _ _ _)
      | (with_reducible exact ih1 _ _ _ _)
      | (with_reducible exact ih2 _ _ _ _ _ _ _ _ _ _ _ _)
      | (with_reducible exact ih3 _ _ _ _ _ _ _ _ _ _ _ _)
      | (with_reducible exact ih4 _ _ _ _ _ _ _ _ _ _ _ _ _ _ _)
      | (with_reducible exact plunderlaw6_asksPed.mono _ _)
      | (with_reducible exact plunderlaw6_lives.mono _ _)
      | (with_reducible exact plunderlaw6_swapped.mono _ _ _)
      | (with_reducible exact serial_Eval.mono _ _ _ _)
      | (with_reducible exact serial_Tree.mono _ _ _ _)
      | (with_reducible exact LeO.refl _)
      | (with_reducible exact LeO.none _)
      | (with_reducible refine LeO.ite ?_ ?_)
      | (with_reducible refine LeO.bind ?_ (fun _ => ?_))
      | exact ih0 _ _ _ _ _
      | exact ih1 _ _ _ _
      | exact ih2 _ _ _ _ _ _ _ _ _ _ _ _
      | exact ih3 _ _ _ _ _ _ _ _ _ _ _ _
      | exact ih4 _ _ _ _ _ _ _ _ _ _ _ _ _ _ _
      | exact plunderlaw6_asksPed.mono _ _
      | exact plunderlaw6_lives.mono _ _
      | exact plunderlaw6_swapped.mono _ _ _
      | exact serial_Eval.mono _ _ _ _
      | exact serial_Tree.mono _ _ _ _
      | exact LeO.none _
      | refine LeO.ite ?_ ?_
      | refine LeO.bind ?_ (fun _ => ?_)
    · intro y0 y1 y2 y3 y4 y5 y6 y7 y8 y9 y10 y11
      unfold plunderlaw6_SerialPart.j3
      repeat' first
      | (with_reducible exact ih0 _ _ _ _ _)
      | (with_reducible exact ih1 _ _ _ _)
      | (with_reducible exact ih2 _ _ _ _ _ _ _ _ _ _ _ _)
      | (with_reducible exact ih3 _ _ _ _ _ _ _ _ _ _ _ _)
      | (with_reducible exact ih4 _ _ _ _ _ _ _ _ _ _ _ _ _ _ _)
      | (with_reducible exact plunderlaw6_asksPed.mono _ _)
      | (with_reducible exact plunderlaw6_lives.mono _ _)
      | (with_reducible exact plunderlaw6_swapped.mono _ _ _)
      | (with_reducible exact serial_Eval.mono _ _ _ _)
      | (with_reducible exact serial_Tree.mono _ _ _ _)
      | (with_reducible exact LeO.refl _)
      | (with_reducible exact LeO.none _)
      | (with_reducible refine LeO.ite ?_ ?_)
      | (with_reducible refine LeO.bind ?_ (fun _ => ?_))
      | exact ih0 _ _ _ _ _
      | exact ih1 _ _ _ _
      | exact ih2 _ _ _ _ _ _ _ _ _ _ _ _
      | exact ih3 _ _ _ _ _ _ _ _ _ _ _ _
      | exact ih4 _ _ _ _ _ _ _ _ _ _ _ _ _ _ _
      | exact plunderlaw6_asksPed.mono _ _
      | exact plunderlaw6_lives.mono _ _
      | exact plunderlaw6_swapped.mono _ _ _
      | exact serial_Eval.mono _ _ _ _
      | exact serial_Tree.mono _ _ _ _
      | exact LeO.none _
      | refine LeO.ite ?_ ?_
      | refine LeO.bind ?_ (fun _ => ?_)
    · intro y0 y1 y2 y3 y4 y5 y6 y7 y8 y9 y10 y11 y12 y13 y14
      unfold plunderlaw6_SerialPart.l0
      repeat' first
      | (with_reducible exact ih0 _ _ _ _ _)
      | (with_reducible exact ih1 _ _ _ _)
      | (with_reducible exact ih2 _ _ _ _ _ _ _ _ _ _ _ _)
      | (with_reducible exact ih3 _ _ _ _ _ _ _ _ _ _ _ _)
      | (with_reducible exact ih4 _ _ _ _ _ _ _ _ _ _ _ _ _ _ _)
      | (with_reducible exact plunderlaw6_asksPed.mono _ _)
      | (with_reducible exact plunderlaw6_lives.mono _ _)
      | (with_reducible exact plunderlaw6_swapped.mono _ _ _)
      | (with_reducible exact serial_Eval.mono _ _ _ _)
      | (with_reducible exact serial_Tree.mono _ _ _ _)
      | (with_reducible exact LeO.refl _)
      | (with_reducible exact LeO.none _)
      | (with_reducible refine LeO.ite ?_ ?_)
      | (with_reducible refine LeO.bind ?_ (fun _ => ?_))
      | exact ih0 _ _ _ _ _
      | exact ih1 _ _ _ _
      | exact ih2 _ _ _ _ _ _ _ _ _ _ _ _
      | exact ih3 _ _ _ _ _ _ _ _ _ _ _ _
      | exact ih4 _ _ _ _ _ _ _ _ _ _ _ _ _ _ _
      | exact plunderlaw6_asksPed.mono _ _
      | exact plunderlaw6_lives.mono _ _
      | exact plunderlaw6_swapped.mono _ _ _
      | exact serial_Eval.mono _ _ _ _
      | exact serial_Tree.mono _ _ _ _
      | exact LeO.none _
      | refine LeO.ite ?_ ?_
      | refine LeO.bind ?_ (fun _ => ?_)
theorem plunderlaw6_SerialPart.mono : ∀ a0 a1 a2 a3 k, LeO (plunderlaw6_SerialPart.f k a0 a1 a2 a3) (plunderlaw6_SerialPart.f (k + 1) a0 a1 a2 a3) := by
  intro a0 a1 a2 a3 k
  obtain ⟨ih0, ih1, ih2, ih3, ih4⟩ := plunderlaw6_SerialPart.mono_l k
  unfold plunderlaw6_SerialPart.f
  repeat' first
      | (with_reducible exact ih0 _ _ _ _ _)
      | (with_reducible exact ih1 _ _ _ _)
      | (with_reducible exact ih2 _ _ _ _ _ _ _ _ _ _ _ _)
      | (with_reducible exact ih3 _ _ _ _ _ _ _ _ _ _ _ _)
      | (with_reducible exact ih4 _ _ _ _ _ _ _ _ _ _ _ _ _ _ _)
      | (with_reducible exact plunderlaw6_asksPed.mono _ _)
      | (with_reducible exact plunderlaw6_lives.mono _ _)
      | (with_reducible exact plunderlaw6_swapped.mono _ _ _)
      | (with_reducible exact serial_Eval.mono _ _ _ _)
      | (with_reducible exact serial_Tree.mono _ _ _ _)
      | (with_reducible exact LeO.refl _)
      | (with_reducible exact LeO.none _)
      | (with_reducible refine LeO.ite ?_ ?_)
      | (with_reducible refine LeO.bind ?_ (fun _ => ?_))
      | exact ih0 _ _ _ _ _
      | exact ih1 _ _ _ _
      | exact ih2 _ _ _ _ _ _ _ _ _ _ _ _
      | exact ih3 _ _ _ _ _ _ _ _ _ _ _ _
      | exact ih4 _ _ _ _ _ _ _ _ _ _ _ _ _ _ _
      | exact plunderlaw6_asksPed.mono _ _
      | exact plunderlaw6_lives.mono _ _
      | exact plunderlaw6_swapped.mono _ _ _
      | exact serial_Eval.mono _ _ _ _
      | exact serial_Tree.mono _ _ _ _
      | exact LeO.none _
      | refine LeO.ite ?_ ?_
      | refine LeO.bind ?_ (fun _ => ?_)
end Go.Proofs.YtcioegimmjppcaaDoor.P
