/- Written by a program: plain Lean functions that answer as Go functions of this seat do, and the proofs that the calls come to these answers. -/
import Derived.Test.YtcioegimmjppcaaDoorZJP
import Derived.Test.YtcioegimmjppcaaDoorZPx5
import Derived.Test.YtcioegimmjppcaaDoorZPxS
import Derived.Test.YtcioegimmjppcaaDoorZPx8
import Derived.Test.YtcioegimmjppcaaDoorZJD
namespace Go.Proofs.YtcioegimmjppcaaDoor.P
open Go.RowKit Go.Proofs.YtcioegimmjppcaaDoorW.PrintWords Go.Proofs.YtcioegimmjppcaaDoorW.PrintLast Go.Proofs.YtcioegimmjppcaaDoorW.PrintMore
attribute [local go_sem] max2_int min2_int max_two min_two max_three min_three max_four min_four   -- for this text's walks alone
set_option linter.unusedVariables false
set_option linter.unusedSimpArgs false

attribute [local go_sem high] eqA28

abbrev mB0 : Array Bool := #[F_, F_, F_, F_, F_, F_, F_, F_, F_, F_, F_, F_, F_, F_, F_, F_, F_, F_, F_]
abbrev mB1 : Array Bool := #[T_, F_, F_, F_, F_, F_, F_, F_, F_, F_, F_, F_, F_, F_, F_, F_, F_, F_, F_]
abbrev mB2 : Array Bool := #[T_, T_, F_, F_, F_, F_, F_, F_, F_, F_, F_, F_, F_, F_, F_, F_, F_, F_, F_]
abbrev mB3 : Array Bool := #[T_, T_, T_, F_, F_, F_, F_, F_, F_, F_, F_, F_, F_, F_, F_, F_, F_, F_, F_]
abbrev mB4 : Array Bool := #[T_, T_, T_, T_, F_, F_, F_, F_, F_, F_, F_, F_, F_, F_, F_, F_, F_, F_, F_]
abbrev mB5 : Array Bool := #[T_, T_, T_, T_, T_, F_, F_, F_, F_, F_, F_, F_, F_, F_, F_, F_, F_, F_, F_]
abbrev mB6 : Array Bool := #[T_, T_, T_, T_, T_, T_, F_, F_, F_, F_, F_, F_, F_, F_, F_, F_, F_, F_, F_]
abbrev mB7 : Array Bool := #[T_, T_, T_, T_, T_, T_, T_, F_, F_, F_, F_, F_, F_, F_, F_, F_, F_, F_, F_]
abbrev mB8 : Array Bool := #[T_, T_, T_, T_, T_, T_, T_, T_, F_, F_, F_, F_, F_, F_, F_, F_, F_, F_, F_]
abbrev mB9 : Array Bool := #[T_, T_, T_, T_, T_, T_, T_, T_, T_, F_, F_, F_, F_, F_, F_, F_, F_, F_, F_]
abbrev mB10 : Array Bool := #[T_, T_, T_, T_, T_, T_, T_, T_, T_, T_, F_, F_, F_, F_, F_, F_, F_, F_, F_]
abbrev mB11 : Array Bool := #[T_, T_, T_, T_, T_, T_, T_, T_, T_, T_, T_, F_, F_, F_, F_, F_, F_, F_, F_]
abbrev mB12 : Array Bool := #[T_, T_, T_, T_, T_, T_, T_, T_, T_, T_, T_, T_, F_, F_, F_, F_, F_, F_, F_]
abbrev mB13 : Array Bool := #[T_, T_, T_, T_, T_, T_, T_, T_, T_, T_, T_, T_, T_, F_, F_, F_, F_, F_, F_]
abbrev mB14 : Array Bool := #[T_, T_, T_, T_, T_, T_, T_, T_, T_, T_, T_, T_, T_, T_, F_, F_, F_, F_, F_]
abbrev mB15 : Array Bool := #[T_, T_, T_, T_, T_, T_, T_, T_, T_, T_, T_, T_, T_, T_, T_, F_, F_, F_, F_]
abbrev mB16 : Array Bool := #[T_, T_, T_, T_, T_, T_, T_, T_, T_, T_, T_, T_, T_, T_, T_, T_, F_, F_, F_]
abbrev mB17 : Array Bool := #[T_, T_, T_, T_, T_, T_, T_, T_, T_, T_, T_, T_, T_, T_, T_, T_, T_, F_, F_]
abbrev mB18 : Array Bool := #[T_, T_, T_, T_, T_, T_, T_, T_, T_, T_, T_, T_, T_, T_, T_, T_, T_, T_, F_]
abbrev mB19 : Array Bool := #[T_, T_, T_, T_, T_, T_, T_, T_, T_, T_, T_, T_, T_, T_, T_, T_, T_, T_, T_]
abbrev mB20 : Array Bool := #[F_, F_, F_, F_, F_, F_, F_, F_, F_, F_, F_, F_, F_, F_, F_, F_, F_, F_, F_, F_, F_, F_, F_, F_, F_, F_, F_, F_, F_]
abbrev mB21 : Array Bool := #[T_, F_, F_, F_, F_, F_, F_, F_, F_, F_, F_, F_, F_, F_, F_, F_, F_, F_, F_, F_, F_, F_, F_, F_, F_, F_, F_, F_, F_]
abbrev mB22 : Array Bool := #[T_, T_, F_, F_, F_, F_, F_, F_, F_, F_, F_, F_, F_, F_, F_, F_, F_, F_, F_, F_, F_, F_, F_, F_, F_, F_, F_, F_, F_]
abbrev mB23 : Array Bool := #[T_, T_, T_, F_, F_, F_, F_, F_, F_, F_, F_, F_, F_, F_, F_, F_, F_, F_, F_, F_, F_, F_, F_, F_, F_, F_, F_, F_, F_]
abbrev mB24 : Array Bool := #[T_, T_, T_, T_, F_, F_, F_, F_, F_, F_, F_, F_, F_, F_, F_, F_, F_, F_, F_, F_, F_, F_, F_, F_, F_, F_, F_, F_, F_]
abbrev mB25 : Array Bool := #[T_, T_, T_, T_, T_, F_, F_, F_, F_, F_, F_, F_, F_, F_, F_, F_, F_, F_, F_, F_, F_, F_, F_, F_, F_, F_, F_, F_, F_]
abbrev mB26 : Array Bool := #[T_, T_, T_, T_, T_, T_, F_, F_, F_, F_, F_, F_, F_, F_, F_, F_, F_, F_, F_, F_, F_, F_, F_, F_, F_, F_, F_, F_, F_]
abbrev mB27 : Array Bool := #[T_, T_, T_, T_, T_, T_, T_, F_, F_, F_, F_, F_, F_, F_, F_, F_, F_, F_, F_, F_, F_, F_, F_, F_, F_, F_, F_, F_, F_]
abbrev mB28 : Array Bool := #[T_, T_, T_, T_, T_, T_, T_, T_, F_, F_, F_, F_, F_, F_, F_, F_, F_, F_, F_, F_, F_, F_, F_, F_, F_, F_, F_, F_, F_]
abbrev mB29 : Array Bool := #[T_, T_, T_, T_, T_, T_, T_, T_, T_, F_, F_, F_, F_, F_, F_, F_, F_, F_, F_, F_, F_, F_, F_, F_, F_, F_, F_, F_, F_]
abbrev mB30 : Array Bool := #[T_, T_, T_, T_, T_, T_, T_, T_, T_, T_, F_, F_, F_, F_, F_, F_, F_, F_, F_, F_, F_, F_, F_, F_, F_, F_, F_, F_, F_]
abbrev mB31 : Array Bool := #[T_, T_, T_, T_, T_, T_, T_, T_, T_, T_, T_, F_, F_, F_, F_, F_, F_, F_, F_, F_, F_, F_, F_, F_, F_, F_, F_, F_, F_]
abbrev mB32 : Array Bool := #[T_, T_, T_, T_, T_, T_, T_, T_, T_, T_, T_, T_, F_, F_, F_, F_, F_, F_, F_, F_, F_, F_, F_, F_, F_, F_, F_, F_, F_]
abbrev mB33 : Array Bool := #[T_, T_, T_, T_, T_, T_, T_, T_, T_, T_, T_, T_, T_, F_, F_, F_, F_, F_, F_, F_, F_, F_, F_, F_, F_, F_, F_, F_, F_]
abbrev mB34 : Array Bool := #[T_, T_, T_, T_, T_, T_, T_, T_, T_, T_, T_, T_, T_, T_, F_, F_, F_, F_, F_, F_, F_, F_, F_, F_, F_, F_, F_, F_, F_]
abbrev mB35 : Array Bool := #[T_, T_, T_, T_, T_, T_, T_, T_, T_, T_, T_, T_, T_, T_, T_, F_, F_, F_, F_, F_, F_, F_, F_, F_, F_, F_, F_, F_, F_]
abbrev mB36 : Array Bool := #[T_, T_, T_, T_, T_, T_, T_, T_, T_, T_, T_, T_, T_, T_, T_, T_, F_, F_, F_, F_, F_, F_, F_, F_, F_, F_, F_, F_, F_]
abbrev mB37 : Array Bool := #[T_, T_, T_, T_, T_, T_, T_, T_, T_, T_, T_, T_, T_, T_, T_, T_, T_, F_, F_, F_, F_, F_, F_, F_, F_, F_, F_, F_, F_]
abbrev mB38 : Array Bool := #[T_, T_, T_, T_, T_, T_, T_, T_, T_, T_, T_, T_, T_, T_, T_, T_, T_, T_, F_, F_, F_, F_, F_, F_, F_, F_, F_, F_, F_]
abbrev mB39 : Array Bool := #[T_, T_, T_, T_, T_, T_, T_, T_, T_, T_, T_, T_, T_, T_, T_, T_, T_, T_, T_, F_, F_, F_, F_, F_, F_, F_, F_, F_, F_]
abbrev mB40 : Array Bool := #[T_, T_, T_, T_, T_, T_, T_, T_, T_, T_, T_, T_, T_, T_, T_, T_, T_, T_, T_, T_, F_, F_, F_, F_, F_, F_, F_, F_, F_]
abbrev mB41 : Array Bool := #[T_, T_, T_, T_, T_, T_, T_, T_, T_, T_, T_, T_, T_, T_, T_, T_, T_, T_, T_, T_, T_, F_, F_, F_, F_, F_, F_, F_, F_]
abbrev mB42 : Array Bool := #[T_, T_, T_, T_, T_, T_, T_, T_, T_, T_, T_, T_, T_, T_, T_, T_, T_, T_, T_, T_, T_, T_, F_, F_, F_, F_, F_, F_, F_]
abbrev mB43 : Array Bool := #[T_, T_, T_, T_, T_, T_, T_, T_, T_, T_, T_, T_, T_, T_, T_, T_, T_, T_, T_, T_, T_, T_, T_, F_, F_, F_, F_, F_, F_]
abbrev mB44 : Array Bool := #[T_, T_, T_, T_, T_, T_, T_, T_, T_, T_, T_, T_, T_, T_, T_, T_, T_, T_, T_, T_, T_, T_, T_, T_, F_, F_, F_, F_, F_]
abbrev mB45 : Array Bool := #[T_, T_, T_, T_, T_, T_, T_, T_, T_, T_, T_, T_, T_, T_, T_, T_, T_, T_, T_, T_, T_, T_, T_, T_, T_, F_, F_, F_, F_]
abbrev mB46 : Array Bool := #[T_, T_, T_, T_, T_, T_, T_, T_, T_, T_, T_, T_, T_, T_, T_, T_, T_, T_, T_, T_, T_, T_, T_, T_, T_, T_, F_, F_, F_]
abbrev mB47 : Array Bool := #[T_, T_, T_, T_, T_, T_, T_, T_, T_, T_, T_, T_, T_, T_, T_, T_, T_, T_, T_, T_, T_, T_, T_, T_, T_, T_, T_, F_, F_]
abbrev mB48 : Array Bool := #[T_, T_, T_, T_, T_, T_, T_, T_, T_, T_, T_, T_, T_, T_, T_, T_, T_, T_, T_, T_, T_, T_, T_, T_, T_, T_, T_, T_, F_]
abbrev mB49 : Array Bool := #[T_, T_, T_, T_, T_, T_, T_, T_, T_, T_, T_, T_, T_, T_, T_, T_, T_, T_, T_, T_, T_, T_, T_, T_, T_, T_, T_, T_, T_]
abbrev mB50 : Array Bool := #[T_, T_, T_, T_, T_, T_, T_, T_, T_, T_, F_, T_, F_, F_, F_, F_, F_, F_, F_, F_, F_, F_, F_, F_, F_, F_, F_, F_, F_]
abbrev mB51 : Array Bool := #[T_, T_, T_, T_, T_, T_, T_, T_, T_, T_, F_, T_, T_, F_, F_, F_, F_, F_, F_, F_, F_, F_, F_, F_, F_, F_, F_, F_, F_]
abbrev mB52 : Array Bool := #[T_, T_, T_, T_, T_, T_, T_, T_, T_, T_, F_, T_, T_, T_, F_, F_, F_, F_, F_, F_, F_, F_, F_, F_, F_, F_, F_, F_, F_]
abbrev mB53 : Array Bool := #[T_, T_, T_, T_, T_, T_, T_, T_, T_, T_, F_, T_, T_, T_, T_, F_, F_, F_, F_, F_, F_, F_, F_, F_, F_, F_, F_, F_, F_]
abbrev mB54 : Array Bool := #[T_, T_, T_, T_, T_, T_, T_, T_, T_, T_, F_, T_, T_, T_, T_, T_, F_, F_, F_, F_, F_, F_, F_, F_, F_, F_, F_, F_, F_]
abbrev mB55 : Array Bool := #[T_, T_, T_, T_, T_, T_, T_, T_, T_, T_, F_, T_, T_, T_, T_, T_, F_, F_, F_, F_, T_, F_, F_, F_, F_, F_, F_, F_, F_]
abbrev mB56 : Array Bool := #[T_, T_, T_, T_, T_, T_, T_, T_, T_, T_, F_, T_, T_, T_, T_, T_, F_, F_, F_, F_, T_, T_, F_, F_, F_, F_, F_, F_, F_]
abbrev mB57 : Array Bool := #[T_, T_, T_, T_, T_, T_, T_, T_, T_, T_, F_, T_, T_, T_, T_, T_, F_, F_, F_, F_, T_, T_, T_, F_, F_, F_, F_, F_, F_]
abbrev mB58 : Array Bool := #[T_, T_, T_, T_, T_, T_, T_, T_, T_, T_, F_, T_, T_, T_, T_, T_, F_, F_, F_, F_, T_, T_, T_, T_, F_, F_, F_, F_, F_]
abbrev mB59 : Array Bool := #[T_, T_, T_, T_, T_, T_, T_, T_, T_, T_, T_, T_, T_, T_, T_, T_, F_, F_, F_, F_, T_, T_, T_, T_, F_, F_, F_, F_, F_]
abbrev mB60 : Array Bool := #[T_, T_, T_, T_, T_, T_, T_, T_, T_, T_, T_, T_, T_, T_, T_, T_, T_, F_, F_, F_, T_, T_, T_, T_, F_, F_, F_, F_, F_]
abbrev mB61 : Array Bool := #[T_, T_, T_, T_, T_, T_, T_, T_, T_, T_, T_, T_, T_, T_, T_, T_, T_, T_, F_, F_, T_, T_, T_, T_, F_, F_, F_, F_, F_]
abbrev mB62 : Array Bool := #[T_, T_, T_, T_, T_, T_, T_, T_, T_, T_, T_, T_, T_, T_, T_, T_, T_, T_, T_, F_, T_, T_, T_, T_, F_, F_, F_, F_, F_]
/-! ### plunderlaw6_SerialShape: function 8 -/
mutual
def plunderlaw6_SerialShape.j0 : Nat → Int → List (S49) → Bool → List (S39) → Int → Int → Int → Int → Int → Option (Bool)
 | 0, _, _, _, _, _, _, _, _, _ => none
 | k + 1, x8, x9, x36, x150000, x157000, x157001, x157002, x157003, x157004 => if x36 = true then (some false) else (if x8 = 0 then (if (x9.length : Int) = 0 then (plunderlaw6_SerialShape.j1 k x9 true x150000 x157000 x157001 x157002 x157003 x157004) else (if (x9.length : Int) = x157002 then (if 0 < (x9.length : Int) then (plunderlaw6_SerialShape.j1 k x9 (((rd_T49 x9 0).f6) != x157000) x150000 x157000 x157001 x157002 x157003 x157004) else (none)) else (plunderlaw6_SerialShape.j1 k x9 true x150000 x157000 x157001 x157002 x157003 x157004))) else (if (x9.length : Int) = 0 then (some (x157000 == 0 && (x157001 == 0 && (x157002 == 0 && (x157003 == 0 && (x157004 == 0)))))) else (some false)))
def plunderlaw6_SerialShape.j1 : Nat → List (S49) → Bool → List (S39) → Int → Int → Int → Int → Int → Option (Bool)
 | 0, _, _, _, _, _, _, _, _ => none
 | k + 1, x9, x65, x150000, x157000, x157001, x157002, x157003, x157004 => if x65 = true then (some false) else ((plunderlaw6_shaped.f k x9).bind fun t163 => (if t163.length = 0 then (none) else (plunderlaw6_SerialShape.l0 k x9 t163 0 0 0 x150000 x157000 x157001 x157002 x157003 x157004)))
def plunderlaw6_SerialShape.l0 : Nat → List (S49) → List Int → Int → Int → Int → List (S39) → Int → Int → Int → Int → Int → Option (Bool)
 | 0, _, _, _, _, _, _, _, _, _, _, _ => none
 | k + 1, x9, x11, x12, x13, x14, x150000, x157000, x157001, x157002, x157003, x157004 => if x14 < (x9.length : Int) then (if 0 ≤ x14 then (if x14 < (x11.length : Int) then (if ((rd_T49 x9 x14).f3) < 1 then (some false) else (if x14 > 0 then (if 0 ≤ ((rd_T49 x9 x14).f0) then (if ((rd_T49 x9 x14).f0) < (x9.length : Int) then ((plunderlaw6_spawns.f k x150000 ((rd_T49 x9 ((rd_T49 x9 x14).f0)).f2) ((rd_T49 x9 x14).f2)).bind fun t172 => (if t172 = true then (plunderlaw6_SerialShape.l0 k x9 x11 (wrap64 (x12 + ((rd_T49 x9 x14).f3))) (mx x13 (rd x11 x14)) (wrap64 (x14 + 1)) x150000 x157000 x157001 x157002 x157003 x157004) else (some false))) else (none)) else (none)) else (plunderlaw6_SerialShape.l0 k x9 x11 (wrap64 (x12 + ((rd_T49 x9 x14).f3))) (mx x13 (rd x11 x14)) (wrap64 (x14 + 1)) x150000 x157000 x157001 x157002 x157003 x157004))) else (none)) else (none)) else (if x12 = x157001 then (some (x13 == x157003)) else (some false))
end
def plunderlaw6_SerialShape.f (k : Nat) (l0_0 : List (S39)) (l1 : List Int) (a2 : Int) : Option (Bool) := (serial_Eval.f k l0_0 l1 a2).bind fun bt150 => ((serial_Tree.f k l0_0 l1 a2).bind fun bt157 => (if bt150.2.2.2.2.2 = bt157.2 then ((plunderlaw6_lives.f k a2).bind fun t161 => (plunderlaw6_SerialShape.j0 k bt150.2.2.2.2.2 bt157.1 (!t161) l0_0 bt150.1 bt150.2.1 bt150.2.2.1 bt150.2.2.2.1 bt150.2.2.2.2.1)) else (plunderlaw6_SerialShape.j0 k bt150.2.2.2.2.2 bt157.1 true l0_0 bt150.1 bt150.2.1 bt150.2.2.1 bt150.2.2.2.1 bt150.2.2.2.2.1)))
theorem plunderlaw6_SerialShape.mono_l : ∀ k, (∀ y0 y1 y2 y3 y4 y5 y6 y7 y8, LeO (plunderlaw6_SerialShape.j0 k y0 y1 y2 y3 y4 y5 y6 y7 y8) (plunderlaw6_SerialShape.j0 (k + 1) y0 y1 y2 y3 y4 y5 y6 y7 y8)) ∧ (∀ y0 y1 y2 y3 y4 y5 y6 y7, LeO (plunderlaw6_SerialShape.j1 k y0 y1 y2 y3 y4 y5 y6 y7) (plunderlaw6_SerialShape.j1 (k + 1) y0 y1 y2 y3 y4 y5 y6 y7)) ∧ (∀ y0 y1 y2 y3 y4 y5 y6 y7 y8 y9 y10, LeO (plunderlaw6_SerialShape.l0 k y0 y1 y2 y3 y4 y5 y6 y7 y8 y9 y10) (plunderlaw6_SerialShape.l0 (k + 1) y0 y1 y2 y3 y4 y5 y6 y7 y8 y9 y10))
 | 0 => ⟨fun _ _ _ _ _ _ _ _ _ r h => by simp [plunderlaw6_SerialShape.j0] at h, fun _ _ _ _ _ _ _ _ r h => by simp [plunderlaw6_SerialShape.j1] at h, fun _ _ _ _ _ _ _ _ _ _ _ r h => by simp [plunderlaw6_SerialShape.l0] at h⟩
 | k + 1 => by
  obtain ⟨ih0, ih1, ih2⟩ := plunderlaw6_SerialShape.mono_l k
  refine ⟨?_, ?_, ?_⟩
  ·intro y0 y1 y2 y3 y4 y5 y6 y7 y8
   unfold plunderlaw6_SerialShape.j0
   repeat' first
   | (with_reducible exact ih0 _ _ _ _ _ _ _ _ _)
   | (with_reducible exact ih1 _ _ _ _ _ _ _ _)
   | (with_reducible exact ih2 _ _ _ _ _ _ _ _ _ _ _)
   | (with_reducible exact plunderlaw6_lives.mono _ _)
   | (with_reducible exact plunderlaw6_shaped.mono _ _)
   | (with_reducible exact plunderlaw6_spawns.mono _ _ _ _)
   | (with_reducible exact serial_Eval.mono _ _ _ _)
   | (with_reducible exact serial_Tree.mono _ _ _ _)
   | (with_reducible exact LeO.refl _)
   | (with_reducible exact LeO.none _)
   | (with_reducible refine LeO.ite ?_ ?_)
   | (with_reducible refine LeO.bind ?_ (fun _ => ?_))
   | exact ih0 _ _ _ _ _ _ _ _ _
   | exact ih1 _ _ _ _ _ _ _ _
   | exact ih2 _ _ _ _ _ _ _ _ _ _ _
   | exact plunderlaw6_lives.mono _ _
   | exact plunderlaw6_shaped.mono _ _
   | exact plunderlaw6_spawns.mono _ _ _ _
   | exact serial_Eval.mono _ _ _ _
   | exact serial_Tree.mono _ _ _ _
   | exact LeO.none _
   | refine LeO.ite ?_ ?_
   | refine LeO.bind ?_ (fun _ => ?_)
  ·intro y0 y1 y2 y3 y4 y5 y6 y7
   unfold plunderlaw6_SerialShape.j1
   repeat' first
   | (with_reducible exact ih0 _ _ _ _ _ _ _ _ _)
   | (with_reducible exact ih1 _ _ _ _ _ _ _ _)
   | (with_reducible exact ih2 _ _ _ _ _ _ _ _ _ _ _)
   | (with_reducible exact plunderlaw6_lives.mono _ _)
   | (with_reducible exact plunderlaw6_shaped.mono _ _)
   | (with_reducible exact plunderlaw6_spawns.mono _ _ _ _)
   | (with_reducible exact serial_Eval.mono _ _ _ _)
   | (with_reducible exact serial_Tree.mono _ _ _ _)
   | (with_reducible exact LeO.refl _)
   | (with_reducible exact LeO.none _)
   | (with_reducible refine LeO.ite ?_ ?_)
   | (with_reducible refine LeO.bind ?_ (fun _ => ?_))
   | exact ih0 _ _ _ _ _ _ _ _ _
   | exact ih1 _ _ _ _ _ _ _ _
   | exact ih2 _ _ _ _ _ _ _ _ _ _ _
   | exact plunderlaw6_lives.mono _ _
   | exact plunderlaw6_shaped.mono _ _
   | exact plunderlaw6_spawns.mono _ _ _ _
   | exact serial_Eval.mono _ _ _ _
   | exact serial_Tree.mono _ _ _ _
   | exact LeO.none _
   | refine LeO.ite ?_ ?_
   | refine LeO.bind ?_ (fun _ => ?_)
  ·intro y0 y1 y2 y3 y4 y5 y6 y7 y8 y9 y10
   unfold plunderlaw6_SerialShape.l0
   repeat' first
   | (with_reducible exact ih0 _ _ _ _ _ _ _ _ _)
   | (with_reducible exact ih1 _ _ _ _ _ _ _ _)
   | (with_reducible exact ih2 _ _ _ _ _ _ _ _ _ _ _)
   | (with_reducible exact plunderlaw6_lives.mono _ _)
   | (with_reducible exact plunderlaw6_shaped.mono _ _)
   | (with_reducible exact plunderlaw6_spawns.mono _ _ _ _)
   | (with_reducible exact serial_Eval.mono _ _ _ _)
   | (with_reducible exact serial_Tree.mono _ _ _ _)
   | (with_reducible exact LeO.refl _)
   | (with_reducible exact LeO.none _)
   | (with_reducible refine LeO.ite ?_ ?_)
   | (with_reducible refine LeO.bind ?_ (fun _ => ?_))
   | exact ih0 _ _ _ _ _ _ _ _ _
   | exact ih1 _ _ _ _ _ _ _ _
   | exact ih2 _ _ _ _ _ _ _ _ _ _ _
   | exact plunderlaw6_lives.mono _ _
   | exact plunderlaw6_shaped.mono _ _
   | exact plunderlaw6_spawns.mono _ _ _ _
   | exact serial_Eval.mono _ _ _ _
   | exact serial_Tree.mono _ _ _ _
   | exact LeO.none _
   | refine LeO.ite ?_ ?_
   | refine LeO.bind ?_ (fun _ => ?_)
theorem plunderlaw6_SerialShape.mono : ∀ a0 a1 a2 k, LeO (plunderlaw6_SerialShape.f k a0 a1 a2) (plunderlaw6_SerialShape.f (k + 1) a0 a1 a2) := by
 intro a0 a1 a2 k
 obtain ⟨ih0, ih1, ih2⟩ := plunderlaw6_SerialShape.mono_l k
 unfold plunderlaw6_SerialShape.f
 repeat' first
   | (with_reducible exact ih0 _ _ _ _ _ _ _ _ _)
   | (with_reducible exact ih1 _ _ _ _ _ _ _ _)
   | (with_reducible exact ih2 _ _ _ _ _ _ _ _ _ _ _)
   | (with_reducible exact plunderlaw6_lives.mono _ _)
   | (with_reducible exact plunderlaw6_shaped.mono _ _)
   | (with_reducible exact plunderlaw6_spawns.mono _ _ _ _)
   | (with_reducible exact serial_Eval.mono _ _ _ _)
   | (with_reducible exact serial_Tree.mono _ _ _ _)
   | (with_reducible exact LeO.refl _)
   | (with_reducible exact LeO.none _)
   | (with_reducible refine LeO.ite ?_ ?_)
   | (with_reducible refine LeO.bind ?_ (fun _ => ?_))
   | exact ih0 _ _ _ _ _ _ _ _ _
   | exact ih1 _ _ _ _ _ _ _ _
   | exact ih2 _ _ _ _ _ _ _ _ _ _ _
   | exact plunderlaw6_lives.mono _ _
   | exact plunderlaw6_shaped.mono _ _
   | exact plunderlaw6_spawns.mono _ _ _ _
   | exact serial_Eval.mono _ _ _ _
   | exact serial_Tree.mono _ _ _ _
   | exact LeO.none _
   | refine LeO.ite ?_ ?_
   | refine LeO.bind ?_ (fun _ => ?_)
def plunderlaw6_SerialShape.T7 : Bool × List (List Nat × List Nat) := (true, [([], []), ([0], [0]), ([1], [1]), ([2], [2]), ([3], [3]), ([4, 3], [3, 4]), ([3], [3]), ([6, 3], [3, 6]), ([5, 7, 3], [3, 5, 7]), ([3, 8], [3, 8]), ([9, 3], [9]), ([10], [10]), ([11, 10], [10, 11]), ([12, 10], [10, 12]), ([13, 10], [10, 13]), ([10], [10]), ([15, 10], [10, 15]), ([14, 16, 10], [10, 14, 16]), ([10, 17], [10, 17])])
def plunderlaw6_SerialShape.B7 : List Nat := [0, 1, 3, 7, 15, 31, 15, 79, 255, 511, 1023, 2047, 4095, 8191, 16383, 2047, 34815, 131071, 262143]
theorem plunderlaw6_SerialShape.tab7 : rtab .any (opsOf Tryd.f8 7) = plunderlaw6_SerialShape.T7 := by kernel_rfl
theorem plunderlaw6_SerialShape.bits7 : waitsOk plunderlaw6_SerialShape.T7.2 plunderlaw6_SerialShape.B7 = true := by kernel_rfl
def plunderlaw6_SerialShape.T19 : Bool × List (List Nat × List Nat) := (true, [([], []), ([], []), ([0, 1], [0, 1]), ([2], [2]), ([3], [3]), ([4], [4]), ([5], [5]), ([6], [6]), ([7, 6], [6, 7]), ([8, 6, 6], [6, 8]), ([9], [9]), ([9], [9]), ([9], [9]), ([9], [9]), ([12, 13, 9], [9, 12, 13]), ([14, 9], [9, 14]), ([15, 9], [9, 15]), ([11, 16, 9], [9, 11, 16]), ([17, 9], [9, 17]), ([18, 9], [9, 18]), ([9], [9]), ([9], [9]), ([20, 21, 9], [9, 20, 21]), ([22, 9], [9, 22]), ([23, 9], [9, 23]), ([10, 19, 24, 9, 9], [9, 10, 19, 24]), ([25, 9], [9, 25]), ([9, 26, 6], [6, 9, 26]), ([6, 27], [6, 27])])
def plunderlaw6_SerialShape.B19 : List Nat := [0, 0, 3, 7, 15, 31, 63, 127, 255, 511, 1023, 1023, 1023, 1023, 13311, 29695, 62463, 130047, 261119, 523263, 1023, 1023, 3146751, 7341055, 15729663, 33554431, 67108863, 134217727, 268435455]
theorem plunderlaw6_SerialShape.tab19 : rtab .any (opsOf Tryd.f8 19) = plunderlaw6_SerialShape.T19 := by kernel_rfl
theorem plunderlaw6_SerialShape.bits19 : waitsOk plunderlaw6_SerialShape.T19.2 plunderlaw6_SerialShape.B19 = true := by kernel_rfl
set_option maxHeartbeats 8000000 in
set_option maxRecDepth 100000 in
theorem plunderlaw6_SerialShape.calls (k : Nat) (A0_0 : Option Addr) (c0_0 : Nat) (l0_0 : List (S39)) (A1 : Option Addr) (c1 : Nat) (l1 : List Int) (a2 : Int) (r : Bool) (w : World) (hTab : Tab w) (hr0_0 : Kd.C k39 w A0_0 l0_0.length l0_0) (hc0_0 : l0_0.length ≤ c0_0) (hr1 : Kd.C (Kd.int .i64) w A1 l1.length l1) (hc1 : l1.length ≤ c1) (h : plunderlaw6_SerialShape.f k l0_0 l1 a2 = some r) :
  Calls Tryd.prog 8 #[.agg #[.slice A0_0 l0_0.length c0_0], .slice A1 l1.length c1, .int .i64 a2] w fun e w' => e = .returned (.bool r) ∧ Below w.heap.size w w' := by
 have HTab := Aside0.mk hTab; clear hTab
 have hu24 := Tryd.underlying24
 have hu28 := Tryd.underlying28
 have HR0_0 := Aside0.mk hr0_0; have HC0_0 := Aside0.mk hc0_0; clear hr0_0 hc0_0; have HR1 := Aside0.mk hr1; have HC1 := Aside0.mk hc1; clear hr1 hc1
 have HB := Aside0.mk (Below.refl w.heap.size w)
 have H : ((serial_Eval.f k l0_0 l1 a2).bind fun bt150 => ((serial_Tree.f k l0_0 l1 a2).bind fun bt157 => (if bt150.2.2.2.2.2 = bt157.2 then ((plunderlaw6_lives.f k a2).bind fun t161 => (plunderlaw6_SerialShape.j0 k bt150.2.2.2.2.2 bt157.1 (!t161) l0_0 bt150.1 bt150.2.1 bt150.2.2.1 bt150.2.2.2.1 bt150.2.2.2.2.1)) else (plunderlaw6_SerialShape.j0 k bt150.2.2.2.2.2 bt157.1 true l0_0 bt150.1 bt150.2.1 bt150.2.2.1 bt150.2.2.2.1 bt150.2.2.2.2.1)))) = some r := h
 clear h
 replace H := Option.bind_eq_some_iff.mp H
 obtain ⟨⟨t150, t151, t152, t153, t154, t155⟩, A40, H⟩ := H
 replace H : ((serial_Tree.f k l0_0 l1 a2).bind fun bt157 => (if t155 = bt157.2 then ((plunderlaw6_lives.f k a2).bind fun t161 => (plunderlaw6_SerialShape.j0 k t155 bt157.1 (!t161) l0_0 t150 t151 t152 t153 t154)) else (plunderlaw6_SerialShape.j0 k t155 bt157.1 true l0_0 t150 t151 t152 t153 t154))) = some r := H
 have A4 := Aside0.mk A40; clear A40
 replace H := Option.bind_eq_some_iff.mp H
 obtain ⟨⟨t157, t160⟩, A50, H⟩ := H
 replace H : (if t155 = t160 then ((plunderlaw6_lives.f k a2).bind fun t161 => (plunderlaw6_SerialShape.j0 k t155 t157 (!t161) l0_0 t150 t151 t152 t153 t154)) else (plunderlaw6_SerialShape.j0 k t155 t157 true l0_0 t150 t151 t152 t153 t154)) = some r := H
 have A5 := Aside0.mk A50; clear A50; have HC6 := Aside0.mk H; clear H
 go_enter Tryd.func8, Tryd.ntmps8
 go_upto_region 3 with (first | ((with_reducible refine gate_dst (N := 3) rfl ?_); (try (refine gate_guard (by rfl) ?_; dsimp only)); refine box_event ?hg (N := 3) ?hd (cs := #[.slice A0_0 l0_0.length c0_0]) (t := 24) ?hr ?_; (case hd => rfl); (case hg => rfl); (case hr => first | (go_simp; done) | (go_simp; rfl)); intro gb149 hg w7 hbox hb; have n0_ := Aside0.mk (below_step (by repeat (first | (with_reducible first | exact HB.out | apply below_alloc | apply pw_below_drewN | apply below_drew1) | exact HB.out)) hb); have n1_ := Aside0.mk (hbox); have n2_ := Aside0.mk ((by rw [hg]; exact (below_size (by repeat (first | (with_reducible first | exact HB.out | apply below_alloc | apply pw_below_drewN | apply below_drew1) | exact HB.out))) : w.heap.size ≤ gb149)); have n3_ := Aside0.mk ((by rw [hg]; exact (below_size (by repeat (first | (with_reducible first | exact HB.out | apply below_alloc | apply pw_below_drewN | apply below_drew1) | exact HB.out))) : w.heap.size ≤ gb149)); clear HB; have HB := n0_; have BK149 := n1_; have GW149 := n2_; have GE149 := n3_; clear n0_ n1_ n2_ n3_; clear hb hbox hg; have hcz8_0 : w7.cell? ⟨gb149, 0, none⟩ = some (.slice A0_0 l0_0.length c0_0) := (blk_cell BK149.out 0).trans rfl; have hfz8_0 := blk_frozen BK149.out 0) | ((with_reducible refine gate_callee (f := 14) rfl ?_); refine goesL_ (some 19) rfl rfl Tryd.func14 (by kernel_rfl) rfl #[.agg #[.slice A0_0 l0_0.length c0_0], .slice A1 l1.length c1, .int .i64 a2] rfl (by (try simp only [List.map_toArray, List.map_cons, List.map_nil]); first | done | rfl | (simp only [List.length_drop, List.length_take]; rfl)) ?_; (with_reducible refine (serial_Eval.calls k _ _ l0_0 _ _ l1 a2 t150 t151 t152 t153 t154 t155 _ (HTab.out.below (by repeat (first | (with_reducible first | exact HB.out | apply below_alloc | apply pw_below_drewN | apply below_drew1 | refine below_set ?_ GE149.out) | exact HB.out))) ?side1 ?side2 ?side3 ?side4 A4.out).mono ?_); (case side1 => repeat (first | exact (Kd.C_below HR0_0.out HB.out) | (with_reducible refine Kd.C_alloc ?_ _) | (with_reducible refine Kd.C_drewN ?_ _) | (with_reducible refine Kd.C_drew ?_))); (case side2 => exact HC0_0.out); (case side3 => repeat (first | exact (Kd.C_below HR1.out HB.out) | (with_reducible refine Kd.C_alloc ?_ _) | (with_reducible refine Kd.C_drewN ?_ _) | (with_reducible refine Kd.C_drew ?_))); (case side4 => exact HC1.out); rintro e w9 ⟨rfl, hb⟩; refine ⟨_, rfl, ?_⟩; have n0_ := Aside0.mk (blk_below (g := gb149) (o := .cells #[.slice A0_0 l0_0.length c0_0] 24 (0, 0)) (by (with_reducible repeat (first | refine blk_drewN ?_ _ | refine blk_drew ?_ | refine blk_alloc ?_ _)); exact BK149.out) hb); have n1_ := Aside0.mk (below_step (by repeat (first | (with_reducible first | exact HB.out | apply below_alloc | apply pw_below_drewN | apply below_drew1 | refine below_set ?_ GE149.out) | exact HB.out)) hb); clear BK149; clear HB; have BK149 := n0_; have HB := n1_; clear n0_ n1_; (try clear hb); (try clear hb2); (try clear hk); (try clear hi)) | ((with_reducible refine gate_dst (N := 7) rfl ?_); (try (refine gate_guard (by rfl) ?_; dsimp only)); refine box_event ?hg (N := 7) ?hd (cs := #[.int .i64 0, .int .i64 0, .int .i64 0, .int .i64 0, .int .i64 0]) (t := 28) ?hr ?_; (case hd => rfl); (case hg => rfl); (case hr => first | (go_simp; done) | (go_simp; rfl)); intro gb156 hg w10 hbox hb; have n0_ := Aside0.mk (blk_below (g := gb149) (o := .cells #[.slice A0_0 l0_0.length c0_0] 24 (0, 0)) (by (with_reducible repeat (first | refine blk_drewN ?_ _ | refine blk_drew ?_ | refine blk_alloc ?_ _)); exact BK149.out) hb); have n1_ := Aside0.mk (below_step (by repeat (first | (with_reducible first | exact HB.out | apply below_alloc | apply pw_below_drewN | apply below_drew1 | refine below_set ?_ GE149.out) | exact HB.out)) hb); have n2_ := Aside0.mk (hbox); have n3_ := Aside0.mk ((by rw [hg]; exact (below_size (by repeat (first | (with_reducible first | exact HB.out | apply below_alloc | apply pw_below_drewN | apply below_drew1 | refine below_set ?_ GE149.out) | exact HB.out))) : w.heap.size ≤ gb156)); have n4_ := Aside0.mk ((by rw [hg]; exact (below_size (by repeat (first | (with_reducible first | exact HB.out | apply below_alloc | apply pw_below_drewN | apply below_drew1 | refine below_set ?_ GE149.out) | exact HB.out))) : w.heap.size ≤ gb156)); have n5_ := Aside0.mk ((by rw [hg]; exact Nat.ne_of_lt (blk_lt (g := gb149) (o := .cells #[.slice A0_0 l0_0.length c0_0] 24 (0, 0)) (by (with_reducible repeat (first | refine blk_drewN ?_ _ | refine blk_drew ?_ | refine blk_alloc ?_ _)); exact BK149.out)) : gb149 ≠ gb156)); have n6_ := Aside0.mk ((by rw [hg]; exact Nat.ne_of_gt (blk_lt (g := gb149) (o := .cells #[.slice A0_0 l0_0.length c0_0] 24 (0, 0)) (by (with_reducible repeat (first | refine blk_drewN ?_ _ | refine blk_drew ?_ | refine blk_alloc ?_ _)); exact BK149.out)) : gb156 ≠ gb149)); clear BK149; clear HB; have BK149 := n0_; have HB := n1_; have BK156 := n2_; have GW156 := n3_; have GE156 := n4_; have NB149_156 := n5_; have NB156_149 := n6_; clear n0_ n1_ n2_ n3_ n4_ n5_ n6_; clear hb hbox hg; have hnb11 := NB156_149.out; have hnc11 := NB149_156.out; have hcz12_0 : w10.cell? ⟨gb156, 0, none⟩ = some (.int .i64 0) := (blk_cell BK156.out 0).trans rfl; have hcz12_1 : w10.cell? ⟨gb156, 1, none⟩ = some (.int .i64 0) := (blk_cell BK156.out 1).trans rfl; have hcz12_2 : w10.cell? ⟨gb156, 2, none⟩ = some (.int .i64 0) := (blk_cell BK156.out 2).trans rfl; have hcz12_3 : w10.cell? ⟨gb156, 3, none⟩ = some (.int .i64 0) := (blk_cell BK156.out 3).trans rfl; have hcz12_4 : w10.cell? ⟨gb156, 4, none⟩ = some (.int .i64 0) := (blk_cell BK156.out 4).trans rfl; have hfz12_0 := blk_frozen BK156.out 0; have hfz12_1 := blk_frozen BK156.out 1; have hfz12_2 := blk_frozen BK156.out 2; have hfz12_3 := blk_frozen BK156.out 3; have hfz12_4 := blk_frozen BK156.out 4; have hcz13_0 : w10.cell? ⟨gb149, 0, none⟩ = some (.slice A0_0 l0_0.length c0_0) := (blk_cell BK149.out 0).trans rfl; have hfz13_0 := blk_frozen BK149.out 0) | ((with_reducible refine gate_callee (f := 19) rfl ?_); refine goesL_ (some 26) rfl rfl Tryd.func19 (by kernel_rfl) rfl #[.agg #[.slice A0_0 l0_0.length c0_0], .slice A1 l1.length c1, .int .i64 a2] rfl (by (try simp only [List.map_toArray, List.map_cons, List.map_nil]); first | done | rfl | (simp only [List.length_drop, List.length_take]; rfl)) ?_; (with_reducible refine (serial_Tree.calls k _ _ l0_0 _ _ l1 a2 t157 t160 _ (HTab.out.below (by repeat (first | (with_reducible first | exact HB.out | apply below_alloc | apply pw_below_drewN | apply below_drew1 | refine below_set ?_ GE149.out | refine below_set ?_ GE156.out) | exact HB.out))) ?side1 ?side2 ?side3 ?side4 A5.out).mono ?_); (case side1 => exact Kd.C_below HR0_0.out (by repeat (first | (with_reducible first | exact HB.out | apply below_alloc | apply pw_below_drewN | apply below_drew1 | refine below_set ?_ GE149.out | refine below_set ?_ GE156.out) | exact HB.out))); (case side2 => exact HC0_0.out); (case side3 => exact Kd.C_below HR1.out (by repeat (first | (with_reducible first | exact HB.out | apply below_alloc | apply pw_below_drewN | apply below_drew1 | refine below_set ?_ GE149.out | refine below_set ?_ GE156.out) | exact HB.out))); (case side4 => exact HC1.out); rintro e w14 ⟨v158, rfl, ho0, hb⟩; refine ⟨_, rfl, ?_⟩; have n0_ := Aside0.mk (Kd.R_lower ho0 (below_size (by repeat (first | (with_reducible first | exact HB.out | apply below_alloc | apply pw_below_drewN | apply below_drew1 | refine below_set ?_ GE149.out | refine below_set ?_ GE156.out) | exact HB.out)))); have n1_ := Aside0.mk (blk_below (g := gb149) (o := .cells #[.slice A0_0 l0_0.length c0_0] 24 (0, 0)) (by (with_reducible repeat (first | refine blk_drewN ?_ _ | refine blk_drew ?_ | refine blk_alloc ?_ _)); refine blk_far ?_ NB149_156.out _; (with_reducible repeat (first | refine blk_drewN ?_ _ | refine blk_drew ?_ | refine blk_alloc ?_ _)); refine blk_far ?_ NB149_156.out _; (with_reducible repeat (first | refine blk_drewN ?_ _ | refine blk_drew ?_ | refine blk_alloc ?_ _)); refine blk_far ?_ NB149_156.out _; (with_reducible repeat (first | refine blk_drewN ?_ _ | refine blk_drew ?_ | refine blk_alloc ?_ _)); refine blk_far ?_ NB149_156.out _; (with_reducible repeat (first | refine blk_drewN ?_ _ | refine blk_drew ?_ | refine blk_alloc ?_ _)); refine blk_far ?_ NB149_156.out _; (with_reducible repeat (first | refine blk_drewN ?_ _ | refine blk_drew ?_ | refine blk_alloc ?_ _)); exact BK149.out) hb); have n2_ := Aside0.mk (blk_below (g := gb156) (o := .cells #[.int .i64 t150, .int .i64 t151, .int .i64 t152, .int .i64 t153, .int .i64 t154] 28 (0, 0)) (by (with_reducible repeat (first | refine blk_drewN ?_ _ | refine blk_drew ?_ | refine blk_alloc ?_ _)); refine blk_put (cs := #[.int .i64 t150, .int .i64 t151, .int .i64 t152, .int .i64 t153, .int .i64 0]) ?_ 4 _ rfl; (with_reducible repeat (first | refine blk_drewN ?_ _ | refine blk_drew ?_ | refine blk_alloc ?_ _)); refine blk_put (cs := #[.int .i64 t150, .int .i64 t151, .int .i64 t152, .int .i64 0, .int .i64 0]) ?_ 3 _ rfl; (with_reducible repeat (first | refine blk_drewN ?_ _ | refine blk_drew ?_ | refine blk_alloc ?_ _)); refine blk_put (cs := #[.int .i64 t150, .int .i64 t151, .int .i64 0, .int .i64 0, .int .i64 0]) ?_ 2 _ rfl; (with_reducible repeat (first | refine blk_drewN ?_ _ | refine blk_drew ?_ | refine blk_alloc ?_ _)); refine blk_put (cs := #[.int .i64 t150, .int .i64 0, .int .i64 0, .int .i64 0, .int .i64 0]) ?_ 1 _ rfl; (with_reducible repeat (first | refine blk_drewN ?_ _ | refine blk_drew ?_ | refine blk_alloc ?_ _)); refine blk_put (cs := #[.int .i64 0, .int .i64 0, .int .i64 0, .int .i64 0, .int .i64 0]) ?_ 0 _ rfl; (with_reducible repeat (first | refine blk_drewN ?_ _ | refine blk_drew ?_ | refine blk_alloc ?_ _)); exact BK156.out) hb); have n3_ := Aside0.mk (below_step (by repeat (first | (with_reducible first | exact HB.out | apply below_alloc | apply pw_below_drewN | apply below_drew1 | refine below_set ?_ GE149.out | refine below_set ?_ GE156.out) | exact HB.out)) hb); clear BK149; clear BK156; clear HB; have HO159 := n0_; have BK149 := n1_; have BK156 := n2_; have HB := n3_; clear n0_ n1_ n2_ n3_; (try clear hb); (try clear hb2); (try clear hk); (try clear hi); (try clear ho0)))
 (try simp only [Act.put, sA_, sB_, sC_])
 go_cut [36] (fun v36 wc => ∃ (kq : Nat) (x36_5 : Bool), v36 = .bool x36_5 ∧ Aside0 (plunderlaw6_SerialShape.j0 kq t155 t157 x36_5 l0_0 t150 t151 t152 t153 t154 = some r) ∧ Aside0 (kq ≤ k) ∧ Aside0 (Kd.R k49 49 wc w.heap.size (fun _ => True) v158 t157) ∧ Aside0 (wc.heap[gb149]? = some (.cells #[(.slice A0_0 l0_0.length c0_0)] 24 (0, 0))) ∧ Aside0 (wc.heap[gb156]? = some (.cells #[.int .i64 t150, .int .i64 t151, .int .i64 t152, .int .i64 t153, .int .i64 t154] 28 (0, 0))) ∧ Aside0 (Below w.heap.size w wc))
 case first =>
  have H := HC6.out
  clear HC6
  by_cases c15 : t155 = t160
  ·rw [if_pos c15] at H
   have c15b0 : (t155 == t160) = true := beq_iff_eq.mpr c15
   have c15b1 : (t155 != t160) = false := bne_eq_false_iff_eq.mpr c15
   clear c15
   (first | rw [c15b0] | (simp only [i64_w, i32_w]; rw [c15b0]) | skip)
   replace H := Option.bind_eq_some_iff.mp H
   obtain ⟨t161, A160, H⟩ := H
   replace H : (plunderlaw6_SerialShape.j0 k t155 t157 (!t161) l0_0 t150 t151 t152 t153 t154) = some r := H
   have A16 := Aside0.mk A160; clear A160
   have H' := Aside0.mk H
   clear H
   go_wp2_with (first | (go_at_call 24; (with_reducible refine (plunderlaw6_lives.calls k a2 t161 _ (HTab.out.below (by repeat (first | (with_reducible first | exact HB.out | apply below_alloc | apply pw_below_drewN | apply below_drew1 | refine below_set ?_ GE149.out | refine below_set ?_ GE156.out) | exact HB.out))) A16.out).mono ?_); rintro e w17 ⟨rfl, hb⟩; have n0_ := Aside0.mk (Kd.R_below (by (with_reducible repeat (first | apply Kd.R_alloc | apply Kd.R_drewN | apply Kd.R_drew)); exact HO159.out) hb); have n1_ := Aside0.mk (blk_below (g := gb149) (o := .cells #[.slice A0_0 l0_0.length c0_0] 24 (0, 0)) (by (with_reducible repeat (first | refine blk_drewN ?_ _ | refine blk_drew ?_ | refine blk_alloc ?_ _)); exact BK149.out) hb); have n2_ := Aside0.mk (blk_below (g := gb156) (o := .cells #[.int .i64 t150, .int .i64 t151, .int .i64 t152, .int .i64 t153, .int .i64 t154] 28 (0, 0)) (by (with_reducible repeat (first | refine blk_drewN ?_ _ | refine blk_drew ?_ | refine blk_alloc ?_ _)); exact BK156.out) hb); have n3_ := Aside0.mk (below_step (by repeat (first | (with_reducible first | exact HB.out | apply below_alloc | apply pw_below_drewN | apply below_drew1 | refine below_set ?_ GE149.out | refine below_set ?_ GE156.out) | exact HB.out)) hb); clear HO159; clear BK149; clear BK156; clear HB; have HO159 := n0_; have BK149 := n1_; have BK156 := n2_; have HB := n3_; clear n0_ n1_ n2_ n3_; (try clear hb); (try clear hb2); (try clear hk); (try clear hi)))
   go_meet
   case rel => exact ⟨_, (!t161), (by first | rfl | (simp; done) | (simp [*]; done)), H', ⟨by first | omega | exact Nat.le_refl _⟩, ⟨by (with_reducible repeat (first | apply Kd.R_alloc | apply Kd.R_drewN | apply Kd.R_drew)); exact HO159.out⟩, ⟨by (with_reducible repeat (first | refine blk_drewN ?_ _ | refine blk_drew ?_ | refine blk_alloc ?_ _)); exact BK149.out⟩, ⟨by (with_reducible repeat (first | refine blk_drewN ?_ _ | refine blk_drew ?_ | refine blk_alloc ?_ _)); exact BK156.out⟩, ⟨by repeat (first | (with_reducible first | exact HB.out | apply below_alloc | apply pw_below_drewN | apply below_drew1 | refine below_set ?_ GE149.out | refine below_set ?_ GE156.out) | exact HB.out)⟩⟩
  ·rw [if_neg c15] at H
   have c15b0 : (t155 == t160) = false := beq_eq_false_iff_ne.mpr c15
   have c15b1 : (t155 != t160) = true := bne_iff_ne.mpr c15
   (first | rw [c15b0] | (simp only [i64_w, i32_w]; rw [c15b0]) | skip)
   have H' := Aside0.mk H
   clear H
   go_wp2
   go_meet
   case rel => exact ⟨_, (true), (by first | rfl | (simp; done) | (simp [*]; done)), H', ⟨by first | omega | exact Nat.le_refl _⟩, ⟨by (with_reducible repeat (first | apply Kd.R_alloc | apply Kd.R_drewN | apply Kd.R_drew)); exact HO159.out⟩, ⟨by (with_reducible repeat (first | refine blk_drewN ?_ _ | refine blk_drew ?_ | refine blk_alloc ?_ _)); exact BK149.out⟩, ⟨by (with_reducible repeat (first | refine blk_drewN ?_ _ | refine blk_drew ?_ | refine blk_alloc ?_ _)); exact BK156.out⟩, ⟨by repeat (first | (with_reducible first | exact HB.out | apply below_alloc | apply pw_below_drewN | apply below_drew1 | refine below_set ?_ GE149.out | refine below_set ?_ GE156.out) | exact HB.out)⟩⟩
 case rest =>
  clear HC6; try clear c1; try clear p2; try clear c8; try clear c11; try clear c14; try clear c15; try clear c15b0; try clear c15b1; try clear hcz12_0; try clear hcz12_1; try clear hcz12_2; try clear hcz12_3; try clear hcz12_4; try clear hcz13_0; try clear hcz8_0; try clear hfz12_0; try clear hfz12_1; try clear hfz12_2; try clear hfz12_3; try clear hfz12_4; try clear hfz13_0; try clear hfz8_0
  obtain ⟨kq, x36_5, rfl, HA, HJ5, HO_9, BK149, BK156, HB⟩ := hcut
  cases kq with
  | zero => exact absurd HA.out (by simp [plunderlaw6_SerialShape.j0])
  | succ kj5 =>
   have H := HA.out
   clear HA
   simp only [plunderlaw6_SerialShape.j0] at H
   by_cases c18 : x36_5 = true
   ·subst c18
    have H1 : (some false) = some r := by rw [if_pos rfl] at H; exact H
    clear H
    have H := H1
    clear H1
    obtain rfl := Option.some.inj H
    go_wp2
    go_ret
    exact ⟨by first | rfl | (simp [errW_none, errW_some] <;> rfl) | (simp [*, errW_none, errW_some] <;> rfl), by repeat (first | (with_reducible first | exact HB.out | apply below_alloc | apply pw_below_drewN | apply below_drew1 | refine below_set ?_ GE149.out | refine below_set ?_ GE156.out) | exact HB.out)⟩
   ·replace c18 := Bool.eq_false_iff.mpr c18
    subst c18
    have H1 : (if t155 = 0 then (if (t157.length : Int) = 0 then (plunderlaw6_SerialShape.j1 kj5 t157 true l0_0 t150 t151 t152 t153 t154) else (if (t157.length : Int) = t152 then (if 0 < (t157.length : Int) then (plunderlaw6_SerialShape.j1 kj5 t157 (((rd_T49 t157 0).f6) != t150) l0_0 t150 t151 t152 t153 t154) else (none)) else (plunderlaw6_SerialShape.j1 kj5 t157 true l0_0 t150 t151 t152 t153 t154))) else (if (t157.length : Int) = 0 then (some (t150 == 0 && (t151 == 0 && (t152 == 0 && (t153 == 0 && (t154 == 0)))))) else (some false))) = some r := by rw [if_neg (show ¬ (false = true) by decide)] at H; exact H
    clear H
    have H := H1
    clear H1
    by_cases c19 : t155 = 0
    ·rw [if_pos c19] at H
     have c19b0 : (t155 == 0) = true := beq_iff_eq.mpr c19
     have c19b1 : (t155 != 0) = false := bne_eq_false_iff_eq.mpr c19
     clear c19; have HC20 := Aside0.mk H; clear H
     go_upto_region 7 with (fail)
     go_cut [65] (fun v65 wc => ∃ (kq : Nat) (x65_19 : Bool), v65 = .bool x65_19 ∧ Aside0 (plunderlaw6_SerialShape.j1 kq t157 x65_19 l0_0 t150 t151 t152 t153 t154 = some r) ∧ Aside0 (kq ≤ kj5) ∧ Aside0 (Kd.R k49 49 wc w.heap.size (fun _ => True) v158 t157) ∧ Aside0 (wc.heap[gb149]? = some (.cells #[(.slice A0_0 l0_0.length c0_0)] 24 (0, 0))) ∧ Aside0 (wc.heap[gb156]? = some (.cells #[.int .i64 t150, .int .i64 t151, .int .i64 t152, .int .i64 t153, .int .i64 t154] 28 (0, 0))) ∧ Aside0 (Below w.heap.size w wc))
     case first =>
      have H := HC20.out
      clear HC20
      by_cases c21 : (t157.length : Int) = 0
      ·rw [if_pos c21] at H
       have c21b0 : ((t157.length : Int) == 0) = true := beq_iff_eq.mpr c21
       have c21b1 : ((t157.length : Int) != 0) = false := bne_eq_false_iff_eq.mpr c21
       clear c21
       (first | rw [c21b0] | (simp only [i64_w, i32_w]; rw [c21b0]) | skip)
       have H' := Aside0.mk H
       clear H
       try go_wp2
       have n0_ := Aside0.mk (Kd.R_drew HO_9.out)
       have n1_ := Aside0.mk (blk_drew BK149.out)
       have n2_ := Aside0.mk (blk_drew BK156.out)
       have n3_ := Aside0.mk (below_drew1 HB.out)
       clear HO_9; clear BK149; clear BK156; clear HB
       have HO_9 := n0_
       have BK149 := n1_
       have BK156 := n2_
       have HB := n3_
       clear n0_ n1_ n2_ n3_
       obtain ⟨Ao23, co23, eo23⟩ := Kd.R_slice HO_9.out
       (first | subst eo23 | (injection eo23 with f1_ f2_ f3_; have f4_ := f1_.symm; have f5_ := f3_.symm; clear f1_ f2_ f3_; subst f4_; subst f5_))
       refine start_ (n := 19) (S := fun w' => True) (ds := []) mB0 (by kernel_rfl) rfl rfl trivial (fun hHeld => ?_); refine with_tabW plunderlaw6_SerialShape.tab7 plunderlaw6_SerialShape.bits7 (fun HT_ HW_ => ?_)
       generalize wc.drew = w22 at HO_9 BK149 BK156 HB hHeld ⊢
       refine pure_ (i := 0) (N := some 47) (v := ?_) (a' := ?_) mB1 rfl rfl (any_of HT_.out (by kernel_rfl)) (fun _ _ _ h => h) (Or.inl ⟨by rfl, ?_⟩) ?_ ?_; rotate_left
       ·intro w'; go_simp; with_reducible rfl
       rotate_left
       ·simp only [Act.put, sA_, sB_, sC_, i64_w, i32_w]; rfl
       refine pure_ (i := 1) (N := some 48) (v := ?_) (a' := ?_) mB2 rfl rfl (any_of HT_.out (by kernel_rfl)) (fun _ _ _ h => h) (Or.inl ⟨by rfl, ?_⟩) ?_ ?_; rotate_left
       ·intro w'; go_simp; with_reducible rfl
       rotate_left
       ·simp only [Act.put, sA_, sB_, sC_, i64_w, i32_w]; rfl
       refine pure_ (i := 2) (N := some 49) (v := ?_) (a' := ?_) mB3 rfl rfl (any_of HT_.out (by kernel_rfl)) (fun _ _ _ h => h) (Or.inl ⟨by rfl, ?_⟩) ?_ ?_; rotate_left
       ·intro w'; go_simp; with_reducible rfl
       rotate_left
       ·simp only [Act.put, sA_, sB_, sC_, i64_w, i32_w]; rfl
       refine pure_ (i := 3) (N := some 50) (v := ?_) (a' := ?_) mB4 rfl rfl (any_of HT_.out (by kernel_rfl)) (fun _ _ _ h => h) (Or.inl ⟨by rfl, ?_⟩) ?_ ?_; rotate_left
       ·intro w'; go_simp; with_reducible rfl
       rotate_left
       ·simp only [Act.put, sA_, sB_, sC_, i64_w, i32_w]; rfl
       refine pure_ (i := 4) (N := some 51) (v := undef) (a' := ?_) mB5 rfl rfl (any_of HT_.out (by kernel_rfl)) (fun _ _ _ h => h) (Or.inr ⟨by rfl, rfl⟩) ?_ ?_; rotate_left
       ·simp only [Act.put, sA_, sB_, sC_, i64_w, i32_w]; rfl
       refine pure_ (i := 5) (N := some 52) (v := undef) (a' := ?_) mB6 rfl rfl (any_of HT_.out (by kernel_rfl)) (fun _ _ _ h => h) (Or.inr ⟨by rfl, rfl⟩) ?_ ?_; rotate_left
       ·simp only [Act.put, sA_, sB_, sC_, i64_w, i32_w]; rfl
       refine pure_ (i := 6) (N := some 53) (v := undef) (a' := ?_) mB7 rfl rfl (any_of HT_.out (by kernel_rfl)) (fun _ _ _ h => h) (Or.inr ⟨by rfl, rfl⟩) ?_ ?_; rotate_left
       ·simp only [Act.put, sA_, sB_, sC_, i64_w, i32_w]; rfl
       refine pure_ (i := 7) (N := some 54) (v := undef) (a' := ?_) mB8 rfl rfl (any_of HT_.out (by kernel_rfl)) (fun _ _ _ h => h) (Or.inr ⟨by rfl, rfl⟩) ?_ ?_; rotate_left
       ·simp only [Act.put, sA_, sB_, sC_, i64_w, i32_w]; rfl
       refine pure_ (i := 8) (N := some 55) (v := undef) (a' := ?_) mB9 rfl rfl (any_of HT_.out (by kernel_rfl)) (fun _ _ _ h => h) (Or.inr ⟨by rfl, rfl⟩) ?_ ?_; rotate_left
       ·simp only [Act.put, sA_, sB_, sC_, i64_w, i32_w]; rfl
       refine pure_ (i := 9) (N := some 56) (v := ?_) (a' := ?_) mB10 rfl rfl (any_of HT_.out (by kernel_rfl)) (fun _ _ _ h => h) (Or.inl ⟨by rfl, ?_⟩) ?_ ?_; rotate_left
       ·intro w'; go_simp; with_reducible rfl
       rotate_left
       ·simp only [Act.put, sA_, sB_, sC_, i64_w, i32_w]; rfl
       refine pure_ (i := 10) (N := some 57) (v := ?_) (a' := ?_) mB11 rfl rfl (any_of HT_.out (by kernel_rfl)) (fun _ _ _ h => h) (Or.inl ⟨by rfl, ?_⟩) ?_ ?_; rotate_left
       ·intro w'; go_simp; with_reducible rfl
       rotate_left
       ·simp only [Act.put, sA_, sB_, sC_, i64_w, i32_w]; rfl
       refine pure_ (i := 11) (N := some 58) (v := undef) (a' := ?_) mB12 rfl rfl (any_of HT_.out (by kernel_rfl)) (fun _ _ _ h => h) (Or.inr ⟨by rfl, rfl⟩) ?_ ?_; rotate_left
       ·simp only [Act.put, sA_, sB_, sC_, i64_w, i32_w]; rfl
       refine pure_ (i := 12) (N := some 59) (v := undef) (a' := ?_) mB13 rfl rfl (any_of HT_.out (by kernel_rfl)) (fun _ _ _ h => h) (Or.inr ⟨by rfl, rfl⟩) ?_ ?_; rotate_left
       ·simp only [Act.put, sA_, sB_, sC_, i64_w, i32_w]; rfl
       refine pure_ (i := 13) (N := some 60) (v := undef) (a' := ?_) mB14 rfl rfl (any_of HT_.out (by kernel_rfl)) (fun _ _ _ h => h) (Or.inr ⟨by rfl, rfl⟩) ?_ ?_; rotate_left
       ·simp only [Act.put, sA_, sB_, sC_, i64_w, i32_w]; rfl
       refine pure_ (i := 14) (N := some 61) (v := undef) (a' := ?_) mB15 rfl rfl (any_of HT_.out (by kernel_rfl)) (fun _ _ _ h => h) (Or.inr ⟨by rfl, rfl⟩) ?_ ?_; rotate_left
       ·simp only [Act.put, sA_, sB_, sC_, i64_w, i32_w]; rfl
       refine pure_ (i := 15) (N := some 62) (v := undef) (a' := ?_) mB16 rfl rfl (any_of HT_.out (by kernel_rfl)) (fun _ _ _ h => h) (Or.inr ⟨by rfl, rfl⟩) ?_ ?_; rotate_left
       ·simp only [Act.put, sA_, sB_, sC_, i64_w, i32_w]; rfl
       refine pure_ (i := 16) (N := some 63) (v := undef) (a' := ?_) mB17 rfl rfl (any_of HT_.out (by kernel_rfl)) (fun _ _ _ h => h) (Or.inr ⟨by rfl, rfl⟩) ?_ ?_; rotate_left
       ·simp only [Act.put, sA_, sB_, sC_, i64_w, i32_w]; rfl
       refine pure_ (i := 17) (N := some 64) (v := undef) (a' := ?_) mB18 rfl rfl (any_of HT_.out (by kernel_rfl)) (fun _ _ _ h => h) (Or.inr ⟨by rfl, rfl⟩) ?_ ?_; rotate_left
       ·simp only [Act.put, sA_, sB_, sC_, i64_w, i32_w]; rfl
       refine pure_ (i := 18) (N := some 65) (v := ?_) (a' := ?_) mB19 rfl rfl (any_of HT_.out (by kernel_rfl)) (fun _ _ _ h => h) (Or.inl ⟨by rfl, ?_⟩) ?_ ?_; rotate_left
       ·intro w'; go_simp; with_reducible rfl
       rotate_left
       ·simp only [Act.put, sA_, sB_, sC_, i64_w, i32_w]; rfl
       refine done_ (done_of HT_.out (by kernel_rfl)) ?_
       try go_wp2
       go_meet
       case rel => exact ⟨_, (true), (by first | rfl | (simp; done) | (simp [*]; done)), H', ⟨by have := HJ5.out; first | omega | exact Nat.le_refl _⟩, ⟨by (with_reducible repeat (first | apply Kd.R_alloc | apply Kd.R_drewN | apply Kd.R_drew)); exact HO_9.out⟩, ⟨by (with_reducible repeat (first | refine blk_drewN ?_ _ | refine blk_drew ?_ | refine blk_alloc ?_ _)); exact BK149.out⟩, ⟨by (with_reducible repeat (first | refine blk_drewN ?_ _ | refine blk_drew ?_ | refine blk_alloc ?_ _)); exact BK156.out⟩, ⟨by repeat (first | (with_reducible first | exact HB.out | apply below_alloc | apply pw_below_drewN | apply below_drew1 | refine below_set ?_ GE149.out | refine below_set ?_ GE156.out) | exact HB.out)⟩⟩
      ·rw [if_neg c21] at H
       have c21b0 : ((t157.length : Int) == 0) = false := beq_eq_false_iff_ne.mpr c21
       have c21b1 : ((t157.length : Int) != 0) = true := bne_iff_ne.mpr c21
       have c21b2 : ¬ (t157 = []) := fun h_ => c21 (by rw [h_]; rfl)
       (first | rw [c21b0] | (simp only [i64_w, i32_w]; rw [c21b0]) | skip)
       by_cases c24 : (t157.length : Int) = t152
       ·rw [if_pos c24] at H
        have c24b0 : ((t157.length : Int) == t152) = true := beq_iff_eq.mpr c24
        have c24b1 : ((t157.length : Int) != t152) = false := bne_eq_false_iff_eq.mpr c24
        clear c24
        by_cases c25 : 0 < (t157.length : Int)
        ·rw [if_pos c25] at H
         have c25b0 : decide (0 < (t157.length : Int)) = true := decide_eq_true c25
         have c25b1 : decide (0 < t157.length) = true := decide_eq_true (by omega)
         clear c25
         have H' := Aside0.mk H
         clear H
         try go_wp2
         have n0_ := Aside0.mk (Kd.R_drew HO_9.out)
         have n1_ := Aside0.mk (blk_drew BK149.out)
         have n2_ := Aside0.mk (blk_drew BK156.out)
         have n3_ := Aside0.mk (below_drew1 HB.out)
         clear HO_9; clear BK149; clear BK156; clear HB
         have HO_9 := n0_
         have BK149 := n1_
         have BK156 := n2_
         have HB := n3_
         clear n0_ n1_ n2_ n3_
         obtain ⟨Ao27, co27, eo27⟩ := Kd.R_slice HO_9.out
         (first | subst eo27 | (injection eo27 with f1_ f2_ f3_; have f4_ := f1_.symm; have f5_ := f3_.symm; clear f1_ f2_ f3_; subst f4_; subst f5_))
         have p162 : 0 ≤ (0 : Int) := (by omega)
         have q162 : 0 < (t157.length : Int) := of_decide_eq_true (by first | (with_reducible assumption) | assumption)
         obtain ⟨ad162, e162, hx162_0, hx162_1, hx162_2, hx162_3, hx162_4, hx162_5, hx162_6⟩ := at_T49 (Kd.R_reads' HO_9.out).2.2 0 p162 q162
         cases e162
         have qi162 : (0 < t157.length) = True := eq_true (by omega)
         (try rw [show ((0 : Int)).toNat = 0 from rfl] at hx162_0)
         (try rw [show 0 * 7 = 0 from rfl] at hx162_0)
         (try rw [Addr.add_zero'] at hx162_0)
         (try rw [show ((0 : Int)).toNat = 0 from rfl] at hx162_1)
         (try rw [show 0 * 7 = 0 from rfl] at hx162_1)
         (try rw [Addr.add_zero'] at hx162_1)
         (try rw [show ((0 : Int)).toNat = 0 from rfl] at hx162_2)
         (try rw [show 0 * 7 = 0 from rfl] at hx162_2)
         (try rw [Addr.add_zero'] at hx162_2)
         (try rw [show ((0 : Int)).toNat = 0 from rfl] at hx162_3)
         (try rw [show 0 * 7 = 0 from rfl] at hx162_3)
         (try rw [Addr.add_zero'] at hx162_3)
         (try rw [show ((0 : Int)).toNat = 0 from rfl] at hx162_4)
         (try rw [show 0 * 7 = 0 from rfl] at hx162_4)
         (try rw [Addr.add_zero'] at hx162_4)
         (try rw [show ((0 : Int)).toNat = 0 from rfl] at hx162_5)
         (try rw [show 0 * 7 = 0 from rfl] at hx162_5)
         (try rw [Addr.add_zero'] at hx162_5)
         (try rw [show ((0 : Int)).toNat = 0 from rfl] at hx162_6)
         (try rw [show 0 * 7 = 0 from rfl] at hx162_6)
         (try rw [Addr.add_zero'] at hx162_6)
         replace p162 := eq_true p162
         replace q162 := eq_true q162
         refine start_ (n := 19) (S := fun w' => w'.cell? ⟨gb156, 0, none⟩ = some (.int .i64 t150) ∧ w'.cell? ⟨gb156, 1, none⟩ = some (.int .i64 t151) ∧ w'.cell? ⟨gb156, 2, none⟩ = some (.int .i64 t152) ∧ w'.cell? ⟨gb156, 3, none⟩ = some (.int .i64 t153) ∧ w'.cell? ⟨gb156, 4, none⟩ = some (.int .i64 t154) ∧ w'.cell? ad162 = some (.int .i64 ((rd_T49 t157 0).f0)) ∧ w'.cell? ⟨ad162.block, ad162.off + 1, none⟩ = some (.int .i64 ((rd_T49 t157 0).f1)) ∧ w'.cell? ⟨ad162.block, ad162.off + 2, none⟩ = some (.int .i64 ((rd_T49 t157 0).f2)) ∧ w'.cell? ⟨ad162.block, ad162.off + 3, none⟩ = some (.int .i64 ((rd_T49 t157 0).f3)) ∧ w'.cell? ⟨ad162.block, ad162.off + 4, none⟩ = some (.int .i64 ((rd_T49 t157 0).f4)) ∧ w'.cell? ⟨ad162.block, ad162.off + 5, none⟩ = some (.int .i64 ((rd_T49 t157 0).f5)) ∧ w'.cell? ⟨ad162.block, ad162.off + 6, none⟩ = some (.int .i64 ((rd_T49 t157 0).f6))) (ds := []) mB0 (by kernel_rfl) rfl rfl ⟨(blk_cell BK156.out 0).trans rfl, (blk_cell BK156.out 1).trans rfl, (blk_cell BK156.out 2).trans rfl, (blk_cell BK156.out 3).trans rfl, (blk_cell BK156.out 4).trans rfl, hx162_0, hx162_1, hx162_2, hx162_3, hx162_4, hx162_5, hx162_6⟩ (fun hHeld => ?_); refine with_tabW plunderlaw6_SerialShape.tab7 plunderlaw6_SerialShape.bits7 (fun HT_ HW_ => ?_)
         generalize wc.drew = w26 at HO_9 BK149 BK156 HB hx162_0 hx162_1 hx162_2 hx162_3 hx162_4 hx162_5 hx162_6 hHeld ⊢
         refine pure_ (i := 0) (N := some 47) (v := ?_) (a' := ?_) mB1 rfl rfl (any_of HT_.out (by kernel_rfl)) (fun _ _ _ h => h) (Or.inl ⟨by rfl, ?_⟩) ?_ ?_; rotate_left
         ·intro w'; go_simp; with_reducible rfl
         rotate_left
         ·simp only [Act.put, sA_, sB_, sC_, i64_w, i32_w]; rfl
         refine pure_ (i := 1) (N := some 48) (v := ?_) (a' := ?_) mB2 rfl rfl (any_of HT_.out (by kernel_rfl)) (fun _ _ _ h => h) (Or.inl ⟨by rfl, ?_⟩) ?_ ?_; rotate_left
         ·intro w'; go_simp; with_reducible rfl
         rotate_left
         ·simp only [Act.put, sA_, sB_, sC_, i64_w, i32_w]; rfl
         refine pure_ (i := 2) (N := some 49) (v := ?_) (a' := ?_) mB3 rfl rfl (any_of HT_.out (by kernel_rfl)) (fun _ _ _ h => h) (Or.inl ⟨by rfl, ?_⟩) ?_ ?_; rotate_left
         ·intro w'; go_simp; with_reducible rfl
         rotate_left
         ·simp only [Act.put, sA_, sB_, sC_, i64_w, i32_w]; rfl
         refine pure_ (i := 3) (N := some 50) (v := ?_) (a' := ?_) mB4 rfl rfl (any_of HT_.out (by kernel_rfl)) (fun _ _ _ h => h) (Or.inl ⟨by rfl, ?_⟩) ?_ ?_; rotate_left
         ·intro w'; go_simp; with_reducible rfl
         rotate_left
         ·simp only [Act.put, sA_, sB_, sC_, i64_w, i32_w]; rfl
         refine pure_ (i := 4) (N := some 51) (v := ?_) (a' := ?_) mB5 rfl rfl (any_of HT_.out (by kernel_rfl)) (fun _ _ _ h => h) (Or.inl ⟨by rfl, ?_⟩) ?_ ?_; rotate_left
         ·intro w'; go_simp; with_reducible rfl
         rotate_left
         ·simp only [Act.put, sA_, sB_, sC_, i64_w, i32_w]; rfl
         refine pure_ (i := 5) (N := some 52) (v := ?_) (a' := ?_) mB6 rfl rfl (any_of HT_.out (by kernel_rfl)) (fun _ _ _ h => h) (Or.inl ⟨by rfl, ?_⟩) ?_ ?_; rotate_left
         ·intro w'; go_simp; with_reducible rfl
         rotate_left
         ·simp only [Act.put, sA_, sB_, sC_, i64_w, i32_w]; rfl
         refine pure_ (i := 6) (N := some 53) (v := ?_) (a' := ?_) mB7 rfl rfl (any_of HT_.out (by kernel_rfl)) (fun _ _ _ h => h) (Or.inl ⟨by rfl, ?_⟩) ?_ ?_; rotate_left
         ·intro w'; go_simp; with_reducible rfl
         rotate_left
         ·simp only [Act.put, sA_, sB_, sC_, i64_w, i32_w]; rfl
         refine take_ (i := 7) (N := some 54) (v := ?_) (a' := ?_) mB8 rfl rfl (take_ofW HT_.out HW_.out (by kernel_rfl)) (fun _ _ _ h => h) (Or.inl ⟨by rfl, ?_⟩) hHeld ?_ ?_; rotate_left
         ·rintro w' ⟨s0, s1, s2, s3, s4, s5, s6, s7, s8, s9, s10, s11⟩
          go_simp; with_reducible rfl
         rotate_left
         ·simp only [Act.put, sA_, sB_, sC_, i64_w, i32_w]; rfl
         refine pure_ (i := 8) (N := some 55) (v := ?_) (a' := ?_) mB9 rfl rfl (any_of HT_.out (by kernel_rfl)) (fun _ _ _ h => h) (Or.inl ⟨by rfl, ?_⟩) ?_ ?_; rotate_left
         ·intro w'; go_simp; with_reducible rfl
         rotate_left
         ·simp only [Act.put, sA_, sB_, sC_, i64_w, i32_w]; rfl
         refine pure_ (i := 9) (N := some 56) (v := ?_) (a' := ?_) mB10 rfl rfl (any_of HT_.out (by kernel_rfl)) (fun _ _ _ h => h) (Or.inl ⟨by rfl, ?_⟩) ?_ ?_; rotate_left
         ·intro w'; go_simp; with_reducible rfl
         rotate_left
         ·simp only [Act.put, sA_, sB_, sC_, i64_w, i32_w]; rfl
         refine pure_ (i := 10) (N := some 57) (v := ?_) (a' := ?_) mB11 rfl rfl (any_of HT_.out (by kernel_rfl)) (fun _ _ _ h => h) (Or.inl ⟨by rfl, ?_⟩) ?_ ?_; rotate_left
         ·intro w'; go_simp; with_reducible rfl
         rotate_left
         ·simp only [Act.put, sA_, sB_, sC_, i64_w, i32_w]; rfl
         refine pure_ (i := 11) (N := some 58) (v := ?_) (a' := ?_) mB12 rfl rfl (any_of HT_.out (by kernel_rfl)) (fun _ _ _ h => h) (Or.inl ⟨by rfl, ?_⟩) ?_ ?_; rotate_left
         ·intro w'; go_simp; with_reducible rfl
         rotate_left
         ·simp only [Act.put, sA_, sB_, sC_, i64_w, i32_w]; rfl
         refine pure_ (i := 12) (N := some 59) (v := ?_) (a' := ?_) mB13 rfl rfl (any_of HT_.out (by kernel_rfl)) (fun _ _ _ h => h) (Or.inl ⟨by rfl, ?_⟩) ?_ ?_; rotate_left
         ·intro w'; go_simp; with_reducible rfl
         rotate_left
         ·simp only [Act.put, sA_, sB_, sC_, i64_w, i32_w]; rfl
         refine pure_ (i := 13) (N := some 60) (v := ?_) (a' := ?_) mB14 rfl rfl (any_of HT_.out (by kernel_rfl)) (fun _ _ _ h => h) (Or.inl ⟨by rfl, ?_⟩) ?_ ?_; rotate_left
         ·intro w'; go_simp; with_reducible rfl
         rotate_left
         ·simp only [Act.put, sA_, sB_, sC_, i64_w, i32_w]; rfl
         refine pure_ (i := 15) (N := some 62) (v := ?_) (a' := ?_) #[T_, T_, T_, T_, T_, T_, T_, T_, T_, T_, T_, T_, T_, T_, F_, T_, F_, F_, F_] rfl rfl (any_of HT_.out (by kernel_rfl)) (fun _ _ _ h => h) (Or.inl ⟨by rfl, ?_⟩) ?_ ?_; rotate_left
         ·intro w'; go_simp; with_reducible rfl
         rotate_left
         ·simp only [Act.put, sA_, sB_, sC_, i64_w, i32_w]; rfl
         refine take_ (i := 14) (N := some 61) (v := ?_) (a' := ?_) mB16 rfl rfl (take_ofW HT_.out HW_.out (by kernel_rfl)) (fun _ _ _ h => h) (Or.inl ⟨by rfl, ?_⟩) hHeld ?_ ?_; rotate_left
         ·rintro w' ⟨s0, s1, s2, s3, s4, s5, s6, s7, s8, s9, s10, s11⟩
          go_simp; with_reducible rfl
         rotate_left
         ·simp only [Act.put, sA_, sB_, sC_, i64_w, i32_w]; rfl
         refine take_ (i := 16) (N := some 63) (v := ?_) (a' := ?_) mB17 rfl rfl (take_ofW HT_.out HW_.out (by kernel_rfl)) (fun _ _ _ h => h) (Or.inl ⟨by rfl, ?_⟩) hHeld ?_ ?_; rotate_left
         ·rintro w' ⟨s0, s1, s2, s3, s4, s5, s6, s7, s8, s9, s10, s11⟩
          go_simp; with_reducible rfl
         rotate_left
         ·simp only [Act.put, sA_, sB_, sC_, i64_w, i32_w]; rfl
         refine pure_ (i := 17) (N := some 64) (v := ?_) (a' := ?_) mB18 rfl rfl (any_of HT_.out (by kernel_rfl)) (fun _ _ _ h => h) (Or.inl ⟨by rfl, ?_⟩) ?_ ?_; rotate_left
         ·intro w'; go_simp; with_reducible rfl
         rotate_left
         ·simp only [Act.put, sA_, sB_, sC_, i64_w, i32_w]; rfl
         refine pure_ (i := 18) (N := some 65) (v := ?_) (a' := ?_) mB19 rfl rfl (any_of HT_.out (by kernel_rfl)) (fun _ _ _ h => h) (Or.inl ⟨by rfl, ?_⟩) ?_ ?_; rotate_left
         ·intro w'; go_simp; with_reducible rfl
         rotate_left
         ·simp only [Act.put, sA_, sB_, sC_, i64_w, i32_w]; rfl
         refine done_ (done_of HT_.out (by kernel_rfl)) ?_
         try go_wp2
         go_meet
         case rel => exact ⟨_, ((((rd_T49 t157 0).f6) != t150)), (by first | rfl | (simp; done) | (simp [*]; done)), H', ⟨by have := HJ5.out; first | omega | exact Nat.le_refl _⟩, ⟨by (with_reducible repeat (first | apply Kd.R_alloc | apply Kd.R_drewN | apply Kd.R_drew)); exact HO_9.out⟩, ⟨by (with_reducible repeat (first | refine blk_drewN ?_ _ | refine blk_drew ?_ | refine blk_alloc ?_ _)); exact BK149.out⟩, ⟨by (with_reducible repeat (first | refine blk_drewN ?_ _ | refine blk_drew ?_ | refine blk_alloc ?_ _)); exact BK156.out⟩, ⟨by repeat (first | (with_reducible first | exact HB.out | apply below_alloc | apply pw_below_drewN | apply below_drew1 | refine below_set ?_ GE149.out | refine below_set ?_ GE156.out) | exact HB.out)⟩⟩
        ·rw [if_neg c25] at H; exact absurd H (by simp)
       ·rw [if_neg c24] at H
        have c24b0 : ((t157.length : Int) == t152) = false := beq_eq_false_iff_ne.mpr c24
        have c24b1 : ((t157.length : Int) != t152) = true := bne_iff_ne.mpr c24
        have H' := Aside0.mk H
        clear H
        try go_wp2
        have n0_ := Aside0.mk (Kd.R_drew HO_9.out)
        have n1_ := Aside0.mk (blk_drew BK149.out)
        have n2_ := Aside0.mk (blk_drew BK156.out)
        have n3_ := Aside0.mk (below_drew1 HB.out)
        clear HO_9; clear BK149; clear BK156; clear HB
        have HO_9 := n0_
        have BK149 := n1_
        have BK156 := n2_
        have HB := n3_
        clear n0_ n1_ n2_ n3_
        obtain ⟨Ao29, co29, eo29⟩ := Kd.R_slice HO_9.out
        (first | subst eo29 | (injection eo29 with f1_ f2_ f3_; have f4_ := f1_.symm; have f5_ := f3_.symm; clear f1_ f2_ f3_; subst f4_; subst f5_))
        refine start_ (n := 19) (S := fun w' => w'.cell? ⟨gb156, 0, none⟩ = some (.int .i64 t150) ∧ w'.cell? ⟨gb156, 1, none⟩ = some (.int .i64 t151) ∧ w'.cell? ⟨gb156, 2, none⟩ = some (.int .i64 t152) ∧ w'.cell? ⟨gb156, 3, none⟩ = some (.int .i64 t153) ∧ w'.cell? ⟨gb156, 4, none⟩ = some (.int .i64 t154)) (ds := []) mB0 (by kernel_rfl) rfl rfl ⟨(blk_cell BK156.out 0).trans rfl, (blk_cell BK156.out 1).trans rfl, (blk_cell BK156.out 2).trans rfl, (blk_cell BK156.out 3).trans rfl, (blk_cell BK156.out 4).trans rfl⟩ (fun hHeld => ?_); refine with_tabW plunderlaw6_SerialShape.tab7 plunderlaw6_SerialShape.bits7 (fun HT_ HW_ => ?_)
        generalize wc.drew = w28 at HO_9 BK149 BK156 HB hHeld ⊢
        refine pure_ (i := 0) (N := some 47) (v := ?_) (a' := ?_) mB1 rfl rfl (any_of HT_.out (by kernel_rfl)) (fun _ _ _ h => h) (Or.inl ⟨by rfl, ?_⟩) ?_ ?_; rotate_left
        ·intro w'; go_simp; with_reducible rfl
        rotate_left
        ·simp only [Act.put, sA_, sB_, sC_, i64_w, i32_w]; rfl
        refine pure_ (i := 1) (N := some 48) (v := ?_) (a' := ?_) mB2 rfl rfl (any_of HT_.out (by kernel_rfl)) (fun _ _ _ h => h) (Or.inl ⟨by rfl, ?_⟩) ?_ ?_; rotate_left
        ·intro w'; go_simp; with_reducible rfl
        rotate_left
        ·simp only [Act.put, sA_, sB_, sC_, i64_w, i32_w]; rfl
        refine pure_ (i := 2) (N := some 49) (v := ?_) (a' := ?_) mB3 rfl rfl (any_of HT_.out (by kernel_rfl)) (fun _ _ _ h => h) (Or.inl ⟨by rfl, ?_⟩) ?_ ?_; rotate_left
        ·intro w'; go_simp; with_reducible rfl
        rotate_left
        ·simp only [Act.put, sA_, sB_, sC_, i64_w, i32_w]; rfl
        refine pure_ (i := 3) (N := some 50) (v := ?_) (a' := ?_) mB4 rfl rfl (any_of HT_.out (by kernel_rfl)) (fun _ _ _ h => h) (Or.inl ⟨by rfl, ?_⟩) ?_ ?_; rotate_left
        ·intro w'; go_simp; with_reducible rfl
        rotate_left
        ·simp only [Act.put, sA_, sB_, sC_, i64_w, i32_w]; rfl
        refine pure_ (i := 4) (N := some 51) (v := ?_) (a' := ?_) mB5 rfl rfl (any_of HT_.out (by kernel_rfl)) (fun _ _ _ h => h) (Or.inl ⟨by rfl, ?_⟩) ?_ ?_; rotate_left
        ·intro w'; go_simp; with_reducible rfl
        rotate_left
        ·simp only [Act.put, sA_, sB_, sC_, i64_w, i32_w]; rfl
        refine pure_ (i := 5) (N := some 52) (v := ?_) (a' := ?_) mB6 rfl rfl (any_of HT_.out (by kernel_rfl)) (fun _ _ _ h => h) (Or.inl ⟨by rfl, ?_⟩) ?_ ?_; rotate_left
        ·intro w'; go_simp; with_reducible rfl
        rotate_left
        ·simp only [Act.put, sA_, sB_, sC_, i64_w, i32_w]; rfl
        refine pure_ (i := 6) (N := some 53) (v := ?_) (a' := ?_) mB7 rfl rfl (any_of HT_.out (by kernel_rfl)) (fun _ _ _ h => h) (Or.inl ⟨by rfl, ?_⟩) ?_ ?_; rotate_left
        ·intro w'; go_simp; with_reducible rfl
        rotate_left
        ·simp only [Act.put, sA_, sB_, sC_, i64_w, i32_w]; rfl
        refine take_ (i := 7) (N := some 54) (v := ?_) (a' := ?_) mB8 rfl rfl (take_ofW HT_.out HW_.out (by kernel_rfl)) (fun _ _ _ h => h) (Or.inl ⟨by rfl, ?_⟩) hHeld ?_ ?_; rotate_left
        ·rintro w' ⟨s0, s1, s2, s3, s4⟩
         go_simp; with_reducible rfl
        rotate_left
        ·simp only [Act.put, sA_, sB_, sC_, i64_w, i32_w]; rfl
        refine pure_ (i := 8) (N := some 55) (v := ?_) (a' := ?_) mB9 rfl rfl (any_of HT_.out (by kernel_rfl)) (fun _ _ _ h => h) (Or.inl ⟨by rfl, ?_⟩) ?_ ?_; rotate_left
        ·intro w'; go_simp; with_reducible rfl
        rotate_left
        ·simp only [Act.put, sA_, sB_, sC_, i64_w, i32_w]; rfl
        refine pure_ (i := 9) (N := some 56) (v := ?_) (a' := ?_) mB10 rfl rfl (any_of HT_.out (by kernel_rfl)) (fun _ _ _ h => h) (Or.inl ⟨by rfl, ?_⟩) ?_ ?_; rotate_left
        ·intro w'; go_simp; with_reducible rfl
        rotate_left
        ·simp only [Act.put, sA_, sB_, sC_, i64_w, i32_w]; rfl
        refine pure_ (i := 10) (N := some 57) (v := ?_) (a' := ?_) mB11 rfl rfl (any_of HT_.out (by kernel_rfl)) (fun _ _ _ h => h) (Or.inl ⟨by rfl, ?_⟩) ?_ ?_; rotate_left
        ·intro w'; go_simp; with_reducible rfl
        rotate_left
        ·simp only [Act.put, sA_, sB_, sC_, i64_w, i32_w]; rfl
        refine pure_ (i := 11) (N := some 58) (v := undef) (a' := ?_) mB12 rfl rfl (any_of HT_.out (by kernel_rfl)) (fun _ _ _ h => h) (Or.inr ⟨by rfl, rfl⟩) ?_ ?_; rotate_left
        ·simp only [Act.put, sA_, sB_, sC_, i64_w, i32_w]; rfl
        refine pure_ (i := 12) (N := some 59) (v := undef) (a' := ?_) mB13 rfl rfl (any_of HT_.out (by kernel_rfl)) (fun _ _ _ h => h) (Or.inr ⟨by rfl, rfl⟩) ?_ ?_; rotate_left
        ·simp only [Act.put, sA_, sB_, sC_, i64_w, i32_w]; rfl
        refine pure_ (i := 13) (N := some 60) (v := undef) (a' := ?_) mB14 rfl rfl (any_of HT_.out (by kernel_rfl)) (fun _ _ _ h => h) (Or.inr ⟨by rfl, rfl⟩) ?_ ?_; rotate_left
        ·simp only [Act.put, sA_, sB_, sC_, i64_w, i32_w]; rfl
        refine pure_ (i := 14) (N := some 61) (v := undef) (a' := ?_) mB15 rfl rfl (any_of HT_.out (by kernel_rfl)) (fun _ _ _ h => h) (Or.inr ⟨by rfl, rfl⟩) ?_ ?_; rotate_left
        ·simp only [Act.put, sA_, sB_, sC_, i64_w, i32_w]; rfl
        refine pure_ (i := 15) (N := some 62) (v := undef) (a' := ?_) mB16 rfl rfl (any_of HT_.out (by kernel_rfl)) (fun _ _ _ h => h) (Or.inr ⟨by rfl, rfl⟩) ?_ ?_; rotate_left
        ·simp only [Act.put, sA_, sB_, sC_, i64_w, i32_w]; rfl
        refine pure_ (i := 16) (N := some 63) (v := undef) (a' := ?_) mB17 rfl rfl (any_of HT_.out (by kernel_rfl)) (fun _ _ _ h => h) (Or.inr ⟨by rfl, rfl⟩) ?_ ?_; rotate_left
        ·simp only [Act.put, sA_, sB_, sC_, i64_w, i32_w]; rfl
        refine pure_ (i := 17) (N := some 64) (v := undef) (a' := ?_) mB18 rfl rfl (any_of HT_.out (by kernel_rfl)) (fun _ _ _ h => h) (Or.inr ⟨by rfl, rfl⟩) ?_ ?_; rotate_left
        ·simp only [Act.put, sA_, sB_, sC_, i64_w, i32_w]; rfl
        refine pure_ (i := 18) (N := some 65) (v := ?_) (a' := ?_) mB19 rfl rfl (any_of HT_.out (by kernel_rfl)) (fun _ _ _ h => h) (Or.inl ⟨by rfl, ?_⟩) ?_ ?_; rotate_left
        ·intro w'; go_simp; with_reducible rfl
        rotate_left
        ·simp only [Act.put, sA_, sB_, sC_, i64_w, i32_w]; rfl
        refine done_ (done_of HT_.out (by kernel_rfl)) ?_
        try go_wp2
        go_meet
        case rel => exact ⟨_, (true), (by first | rfl | (simp; done) | (simp [*]; done)), H', ⟨by have := HJ5.out; first | omega | exact Nat.le_refl _⟩, ⟨by (with_reducible repeat (first | apply Kd.R_alloc | apply Kd.R_drewN | apply Kd.R_drew)); exact HO_9.out⟩, ⟨by (with_reducible repeat (first | refine blk_drewN ?_ _ | refine blk_drew ?_ | refine blk_alloc ?_ _)); exact BK149.out⟩, ⟨by (with_reducible repeat (first | refine blk_drewN ?_ _ | refine blk_drew ?_ | refine blk_alloc ?_ _)); exact BK156.out⟩, ⟨by repeat (first | (with_reducible first | exact HB.out | apply below_alloc | apply pw_below_drewN | apply below_drew1 | refine below_set ?_ GE149.out | refine below_set ?_ GE156.out) | exact HB.out)⟩⟩
     case rest =>
      clear HC20; try clear c1; try clear p1; try clear q1; try clear hx1; try clear qi1; try clear c2; try clear p2; try clear c8; try clear c11; try clear c14; try clear c15; try clear c15b0; try clear c15b1; try clear p16; try clear q16; try clear hx16; try clear qi16; try clear c18; try clear c19; try clear c19b0; try clear c19b1; try clear c21; try clear c21b0; try clear c21b1; try clear c21b2; try clear c24; try clear c24b0; try clear c24b1; try clear c25; try clear c25b0; try clear c25b1; try clear hcz12_0; try clear hcz12_1; try clear hcz12_2; try clear hcz12_3; try clear hcz12_4; try clear hcz13_0; try clear hcz8_0; try clear hfz12_0; try clear hfz12_1; try clear hfz12_2; try clear hfz12_3; try clear hfz12_4; try clear hfz13_0; try clear hfz8_0; try clear hx162_0; try clear hx162_1; try clear hx162_2; try clear hx162_3; try clear hx162_4; try clear hx162_5; try clear hx162_6; try clear p162; try clear p2; try clear q162
      obtain ⟨kq, x65_19, rfl, HA, HJ19, HO_9, BK149, BK156, HB⟩ := hcut
      cases kq with
      | zero => exact absurd HA.out (by simp [plunderlaw6_SerialShape.j1])
      | succ kj19 =>
       have H := HA.out
       clear HA
       simp only [plunderlaw6_SerialShape.j1] at H
       by_cases c30 : x65_19 = true
       ·subst c30
        have H1 : (some false) = some r := by rw [if_pos rfl] at H; exact H
        clear H
        have H := H1
        clear H1
        obtain rfl := Option.some.inj H
        go_wp2
        go_ret
        exact ⟨by first | rfl | (simp [errW_none, errW_some] <;> rfl) | (simp [*, errW_none, errW_some] <;> rfl), by repeat (first | (with_reducible first | exact HB.out | apply below_alloc | apply pw_below_drewN | apply below_drew1 | refine below_set ?_ GE149.out | refine below_set ?_ GE156.out) | exact HB.out)⟩
       ·replace c30 := Bool.eq_false_iff.mpr c30
        subst c30
        have H1 : ((plunderlaw6_shaped.f kj19 t157).bind fun t163 => (if t163.length = 0 then (none) else (plunderlaw6_SerialShape.l0 kj19 t157 t163 0 0 0 l0_0 t150 t151 t152 t153 t154))) = some r := by rw [if_neg (show ¬ (false = true) by decide)] at H; exact H
        clear H
        have H := H1
        clear H1
        replace H := Option.bind_eq_some_iff.mp H
        obtain ⟨t163, A310, H⟩ := H
        replace H : (if t163.length = 0 then (none) else (plunderlaw6_SerialShape.l0 kj19 t157 t163 0 0 0 l0_0 t150 t151 t152 t153 t154)) = some r := H
        have A31 := Aside0.mk A310; clear A310
        by_cases c32 : t163.length = 0
        ·rw [if_pos c32] at H; exact absurd H (by simp)
        ·rw [if_neg c32] at H
         skip
         have C32 := Aside0.mk c32; clear c32
         have H' := Aside0.mk H
         clear H
         obtain ⟨Ao33, co33, eo33⟩ := Kd.R_slice HO_9.out
         subst eo33
         go_wp2_with (first | ((with_reducible refine gate_callee (f := 25) rfl ?_); refine goesL_ (some 67) rfl rfl Tryd.func25 (by kernel_rfl) rfl #[.slice Ao33 t157.length co33] rfl (by (try simp only [List.map_toArray, List.map_cons, List.map_nil]); first | done | rfl | (simp only [List.length_drop, List.length_take]; rfl)) ?_; (with_reducible refine (plunderlaw6_shaped.calls kj19 _ _ t157 t163 _ ?side1 ?side2 A31.out).mono ?_); (case side1 => repeat (first | exact (Kd.R_reads' HO_9.out).2.2 | (with_reducible refine Kd.C_alloc ?_ _) | (with_reducible refine Kd.C_drewN ?_ _) | (with_reducible refine Kd.C_drew ?_))); (case side2 => exact (Kd.R_reads' HO_9.out).2.1); rintro e w34 ⟨v164, rfl, ho0, hb⟩; refine ⟨_, rfl, ?_⟩; have n0_ := Aside0.mk (Kd.R_below (by (with_reducible repeat (first | apply Kd.R_alloc | apply Kd.R_drewN | apply Kd.R_drew)); exact HO_9.out) hb); have n1_ := Aside0.mk (Kd.R_lower ho0 (below_size (by repeat (first | (with_reducible first | exact HB.out | apply below_alloc | apply pw_below_drewN | apply below_drew1 | refine below_set ?_ GE149.out | refine below_set ?_ GE156.out) | exact HB.out)))); have n2_ := Aside0.mk (blk_below (g := gb149) (o := .cells #[.slice A0_0 l0_0.length c0_0] 24 (0, 0)) (by (with_reducible repeat (first | refine blk_drewN ?_ _ | refine blk_drew ?_ | refine blk_alloc ?_ _)); exact BK149.out) hb); have n3_ := Aside0.mk (blk_below (g := gb156) (o := .cells #[.int .i64 t150, .int .i64 t151, .int .i64 t152, .int .i64 t153, .int .i64 t154] 28 (0, 0)) (by (with_reducible repeat (first | refine blk_drewN ?_ _ | refine blk_drew ?_ | refine blk_alloc ?_ _)); exact BK156.out) hb); have n4_ := Aside0.mk (below_step (by repeat (first | (with_reducible first | exact HB.out | apply below_alloc | apply pw_below_drewN | apply below_drew1 | refine below_set ?_ GE149.out | refine below_set ?_ GE156.out) | exact HB.out)) hb); clear HO_9; clear BK149; clear BK156; clear HB; have HO_9 := n0_; have HO165 := n1_; have BK149 := n2_; have BK156 := n3_; have HB := n4_; clear n0_ n1_ n2_ n3_ n4_; (try clear hb); (try clear hb2); (try clear hk); (try clear hi); (try clear ho0); obtain ⟨go164, co164, eo164, gb164, gl164, cl164, HG164⟩ := Kd.R_form HO165.out (by have := C32.out; omega); subst eo164; clear gb164 gl164 cl164 HG164; have hEq164 : ∀ W, (binOp .eql 52 (.slice (some ⟨go164, 0, none⟩) t163.length co164) (.slice none 0 0)).run Tryd.prog W = .ok (.bool false) W := fun W => Lib.run_eql_slice_nil W 52 3 (some ⟨go164, 0, none⟩) t163.length co164 0 0 Tryd.underlying52))
         go_loopg [12, 13, 14] kj19 (fun kq v12 v13 v14 w' => ∃ (x12_3 : Int) (x13_3 : Int) (x14_3 : Int), v12 = .int .i64 x12_3 ∧ v13 = .int .i64 x13_3 ∧ v14 = .int .i64 x14_3 ∧ Aside0 (plunderlaw6_SerialShape.l0 kq t157 t163 x12_3 x13_3 x14_3 l0_0 t150 t151 t152 t153 t154 = some r) ∧ Aside0 (kq ≤ kj19) ∧ Aside0 (Kd.R k49 49 w' w.heap.size (fun _ => True) (.slice Ao33 t157.length co33) t157) ∧ Aside0 (Kd.R (Kd.int .i64) 3 w' w.heap.size (fun _ => True) (.slice (some ⟨go164, 0, none⟩) t163.length co164) t163) ∧ Aside0 (w'.heap[gb149]? = some (.cells #[(.slice A0_0 l0_0.length c0_0)] 24 (0, 0))) ∧ Aside0 (w'.heap[gb156]? = some (.cells #[.int .i64 t150, .int .i64 t151, .int .i64 t152, .int .i64 t153, .int .i64 t154] 28 (0, 0))) ∧ Aside0 (Below w.heap.size w w'))
         case atStart => exact ⟨(0), (0), (0), (by first | rfl | (simp; done) | (simp [*]; done)), (by first | rfl | (simp; done) | (simp [*]; done)), (by first | rfl | (simp; done) | (simp [*]; done)), H', ⟨Nat.le_refl _⟩, ⟨by (with_reducible repeat (first | apply Kd.R_alloc | apply Kd.R_drewN | apply Kd.R_drew)); exact HO_9.out⟩, ⟨by (with_reducible repeat (first | apply Kd.R_alloc | apply Kd.R_drewN | apply Kd.R_drew)); exact HO165.out⟩, ⟨by (with_reducible repeat (first | refine blk_drewN ?_ _ | refine blk_drew ?_ | refine blk_alloc ?_ _)); exact BK149.out⟩, ⟨by (with_reducible repeat (first | refine blk_drewN ?_ _ | refine blk_drew ?_ | refine blk_alloc ?_ _)); exact BK156.out⟩, ⟨by repeat (first | (with_reducible first | exact HB.out | apply below_alloc | apply pw_below_drewN | apply below_drew1 | refine below_set ?_ GE149.out | refine below_set ?_ GE156.out) | exact HB.out)⟩⟩
         case round =>
          clear H'; try clear c1; try clear p1; try clear q1; try clear hx1; try clear qi1; try clear c2; try clear p2; try clear c3; try clear c8; try clear c11; try clear c14; try clear c15; try clear c15b0; try clear c15b1; try clear p16; try clear q16; try clear hx16; try clear qi16; try clear c18; try clear c19; try clear c19b0; try clear c19b1; try clear c21; try clear c21b0; try clear c21b1; try clear c21b2; try clear c24; try clear c24b0; try clear c24b1; try clear c25; try clear c25b0; try clear c25b1; try clear c30; try clear c32; try clear c32b0; try clear c32b1; try clear hcz12_0; try clear hcz12_1; try clear hcz12_2; try clear hcz12_3; try clear hcz12_4; try clear hcz13_0; try clear hcz8_0; try clear hfz12_0; try clear hfz12_1; try clear hfz12_2; try clear hfz12_3; try clear hfz12_4; try clear hfz13_0; try clear hfz8_0; try clear hx162_0; try clear hx162_1; try clear hx162_2; try clear hx162_3; try clear hx162_4; try clear hx162_5; try clear hx162_6; try clear p1; try clear p16; try clear p162; try clear p2; try clear q1; try clear q16; try clear q162
          obtain ⟨x12_3, x13_3, x14_3, rfl, rfl, rfl, HA, HK3, HO_9, HO_11, BK149, BK156, HB⟩ := hrel
          cases gk with
          | zero => exact absurd HA.out (by simp [plunderlaw6_SerialShape.l0])
          | succ k3 =>
           have H := HA.out
           clear HA
           simp only [plunderlaw6_SerialShape.l0] at H
           by_cases c35 : x14_3 < (t157.length : Int)
           ·rw [if_pos c35] at H
            have c35b0 : decide (x14_3 < (t157.length : Int)) = true := decide_eq_true c35
            clear c35
            by_cases c36 : 0 ≤ x14_3
            ·rw [if_pos c36] at H
             have c36b0 : decide (0 ≤ x14_3) = true := decide_eq_true c36
             clear c36
             by_cases c37 : x14_3 < (t163.length : Int)
             ·rw [if_pos c37] at H
              have c37b0 : decide (x14_3 < (t163.length : Int)) = true := decide_eq_true c37
              clear c37
              obtain ⟨ji38, hji38⟩ : ∃ j_ : Int, (mx x13_3 (rd t163 x14_3)) = j_ := ⟨_, rfl⟩
              replace H : (if ((rd_T49 t157 x14_3).f3) < 1 then (some false) else (if x14_3 > 0 then (if 0 ≤ ((rd_T49 t157 x14_3).f0) then (if ((rd_T49 t157 x14_3).f0) < (t157.length : Int) then ((plunderlaw6_spawns.f k3 l0_0 ((rd_T49 t157 ((rd_T49 t157 x14_3).f0)).f2) ((rd_T49 t157 x14_3).f2)).bind fun t172 => (if t172 = true then (plunderlaw6_SerialShape.l0 k3 t157 t163 (wrap64 (x12_3 + ((rd_T49 t157 x14_3).f3))) ji38 (wrap64 (x14_3 + 1)) l0_0 t150 t151 t152 t153 t154) else (some false))) else (none)) else (none)) else (plunderlaw6_SerialShape.l0 k3 t157 t163 (wrap64 (x12_3 + ((rd_T49 t157 x14_3).f3))) ji38 (wrap64 (x14_3 + 1)) l0_0 t150 t151 t152 t153 t154))) = some r := by first | (rw [hji38] at H; exact H) | (simp only [hji38] at H ⊢; exact H)
              have hji38_ : (if x13_3 < (rd t163 x14_3) then (rd t163 x14_3) else x13_3) = ji38 := hji38
              by_cases c39 : ((rd_T49 t157 x14_3).f3) < 1
              ·rw [if_pos c39] at H
               have c39b0 : decide (((rd_T49 t157 x14_3).f3) < 1) = true := decide_eq_true c39
               clear c39
               obtain rfl := Option.some.inj H
               have p166 : 0 ≤ (x14_3 : Int) := of_decide_eq_true (by first | (with_reducible assumption) | assumption)
               have q166 : x14_3 < (t157.length : Int) := of_decide_eq_true (by first | (with_reducible assumption) | assumption)
               obtain ⟨ad166, e166, hx166_0, hx166_1, hx166_2, hx166_3, hx166_4, hx166_5, hx166_6⟩ := at_T49 (Kd.R_reads' HO_9.out).2.2 x14_3 p166 q166
               cases e166
               replace p166 := eq_true p166
               replace q166 := eq_true q166
               obtain ⟨Ao40, co40, eo40⟩ := Kd.R_slice HO_11.out
               first | subst eo40 | cases eo40
               have p167 : 0 ≤ (x14_3 : Int) := of_decide_eq_true (by first | (with_reducible assumption) | assumption)
               have q167 : x14_3 < (t163.length : Int) := of_decide_eq_true (by first | (with_reducible assumption) | assumption)
               obtain ⟨ad167, e167, hx167_0⟩ := Kd.at_int (Kd.R_reads' HO_11.out).2.2 x14_3 p167 q167
               cases e167
               (first | simp only [add_plain] at hx167_0 | skip)
               replace p167 := eq_true p167
               replace q167 := eq_true q167
               try go_wp2
               have n0_ := Aside0.mk (Kd.R_drew HO_9.out)
               have n1_ := Aside0.mk (Kd.R_drew HO_11.out)
               have n2_ := Aside0.mk (blk_drew BK149.out)
               have n3_ := Aside0.mk (blk_drew BK156.out)
               have n4_ := Aside0.mk (below_drew1 HB.out)
               clear HO_9; clear HO_11; clear BK149; clear BK156; clear HB
               have HO_9 := n0_
               have HO_11 := n1_
               have BK149 := n2_
               have BK156 := n3_
               have HB := n4_
               clear n0_ n1_ n2_ n3_ n4_
               have p168 : 0 ≤ (x14_3 : Int) := of_decide_eq_true (by first | (with_reducible assumption) | assumption)
               have q168 : x14_3 < (t157.length : Int) := of_decide_eq_true (by first | (with_reducible assumption) | assumption)
               obtain ⟨ad168, e168, hx168_0, hx168_1, hx168_2, hx168_3, hx168_4, hx168_5, hx168_6⟩ := at_T49 (Kd.R_reads' HO_9.out).2.2 x14_3 p168 q168
               obtain rfl : ad166 = ad168 := (by injection e168)
               replace p168 := eq_true p168
               replace q168 := eq_true q168
               refine start_ (n := 29) (S := fun w' => w'.cell? (ad166.add ((x14_3).toNat * 7)) = some (.int .i64 ((rd_T49 t157 x14_3).f0)) ∧ w'.cell? ⟨(ad166.add ((x14_3).toNat * 7)).block, (ad166.add ((x14_3).toNat * 7)).off + 1, none⟩ = some (.int .i64 ((rd_T49 t157 x14_3).f1)) ∧ w'.cell? ⟨(ad166.add ((x14_3).toNat * 7)).block, (ad166.add ((x14_3).toNat * 7)).off + 2, none⟩ = some (.int .i64 ((rd_T49 t157 x14_3).f2)) ∧ w'.cell? ⟨(ad166.add ((x14_3).toNat * 7)).block, (ad166.add ((x14_3).toNat * 7)).off + 3, none⟩ = some (.int .i64 ((rd_T49 t157 x14_3).f3)) ∧ w'.cell? ⟨(ad166.add ((x14_3).toNat * 7)).block, (ad166.add ((x14_3).toNat * 7)).off + 4, none⟩ = some (.int .i64 ((rd_T49 t157 x14_3).f4)) ∧ w'.cell? ⟨(ad166.add ((x14_3).toNat * 7)).block, (ad166.add ((x14_3).toNat * 7)).off + 5, none⟩ = some (.int .i64 ((rd_T49 t157 x14_3).f5)) ∧ w'.cell? ⟨(ad166.add ((x14_3).toNat * 7)).block, (ad166.add ((x14_3).toNat * 7)).off + 6, none⟩ = some (.int .i64 ((rd_T49 t157 x14_3).f6))) (ds := []) mB20 (by kernel_rfl) rfl rfl ⟨hx168_0, hx168_1, hx168_2, hx168_3, hx168_4, hx168_5, hx168_6⟩ (fun hHeld => ?_); refine with_tabW plunderlaw6_SerialShape.tab19 plunderlaw6_SerialShape.bits19 (fun HT_ HW_ => ?_)
               generalize wr.drew = w41 at HO_9 HO_11 BK149 BK156 HB hx168_0 hx168_1 hx168_2 hx168_3 hx168_4 hx168_5 hx168_6 hHeld ⊢
               refine pure_ (i := 0) (N := some 89) (v := ?_) (a' := ?_) mB21 rfl rfl (any_of HT_.out (by kernel_rfl)) (fun _ _ _ h => h) (Or.inl ⟨by rfl, ?_⟩) ?_ ?_; rotate_left
               ·intro w'; go_simp; with_reducible rfl
               rotate_left
               ·simp only [Act.put, sA_, sB_, sC_, i64_w, i32_w]; rfl
               refine pure_ (i := 1) (N := some 90) (v := ?_) (a' := ?_) mB22 rfl rfl (any_of HT_.out (by kernel_rfl)) (fun _ _ _ h => h) (Or.inl ⟨by rfl, ?_⟩) ?_ ?_; rotate_left
               ·intro w'; go_simp; with_reducible rfl
               rotate_left
               ·simp only [Act.put, sA_, sB_, sC_, i64_w, i32_w]; rfl
               refine pure_ (i := 2) (N := some 91) (v := ?_) (a' := ?_) mB23 rfl rfl (any_of HT_.out (by kernel_rfl)) (fun _ _ _ h => h) (Or.inl ⟨by rfl, ?_⟩) ?_ ?_; rotate_left
               ·intro w'; go_simp; with_reducible rfl
               rotate_left
               ·simp only [Act.put, sA_, sB_, sC_, i64_w, i32_w]; rfl
               refine pure_ (i := 3) (N := some 92) (v := ?_) (a' := ?_) mB24 rfl rfl (any_of HT_.out (by kernel_rfl)) (fun _ _ _ h => h) (Or.inl ⟨by rfl, ?_⟩) ?_ ?_; rotate_left
               ·intro w'; go_simp; with_reducible rfl
               rotate_left
               ·simp only [Act.put, sA_, sB_, sC_, i64_w, i32_w]; rfl
               refine take_ (i := 4) (N := some 93) (v := ?_) (a' := ?_) mB25 rfl rfl (take_ofW HT_.out HW_.out (by kernel_rfl)) (fun _ _ _ h => h) (Or.inl ⟨by rfl, ?_⟩) hHeld ?_ ?_; rotate_left
               ·rintro w' ⟨s0, s1, s2, s3, s4, s5, s6⟩
                go_simp; with_reducible rfl
               rotate_left
               ·simp only [Act.put, sA_, sB_, sC_, i64_w, i32_w]; rfl
               refine pure_ (i := 5) (N := some 94) (v := ?_) (a' := ?_) mB26 rfl rfl (any_of HT_.out (by kernel_rfl)) (fun _ _ _ h => h) (Or.inl ⟨by rfl, ?_⟩) ?_ ?_; rotate_left
               ·intro w'; go_simp; with_reducible rfl
               rotate_left
               ·simp only [Act.put, sA_, sB_, sC_, i64_w, i32_w]; rfl
               refine pure_ (i := 6) (N := some 95) (v := ?_) (a' := ?_) mB27 rfl rfl (any_of HT_.out (by kernel_rfl)) (fun _ _ _ h => h) (Or.inl ⟨by rfl, ?_⟩) ?_ ?_; rotate_left
               ·intro w'; go_simp; with_reducible rfl
               rotate_left
               ·simp only [Act.put, sA_, sB_, sC_, i64_w, i32_w]; rfl
               refine pure_ (i := 7) (N := some 96) (v := undef) (a' := ?_) mB28 rfl rfl (any_of HT_.out (by kernel_rfl)) (fun _ _ _ h => h) (Or.inr ⟨by rfl, rfl⟩) ?_ ?_; rotate_left
               ·simp only [Act.put, sA_, sB_, sC_, i64_w, i32_w]; rfl
               refine pure_ (i := 8) (N := some 97) (v := undef) (a' := ?_) mB29 rfl rfl (any_of HT_.out (by kernel_rfl)) (fun _ _ _ h => h) (Or.inr ⟨by rfl, rfl⟩) ?_ ?_; rotate_left
               ·simp only [Act.put, sA_, sB_, sC_, i64_w, i32_w]; rfl
               refine pure_ (i := 9) (N := some 98) (v := undef) (a' := ?_) mB30 rfl rfl (any_of HT_.out (by kernel_rfl)) (fun _ _ _ h => h) (Or.inr ⟨by rfl, rfl⟩) ?_ ?_; rotate_left
               ·simp only [Act.put, sA_, sB_, sC_, i64_w, i32_w]; rfl
               refine pure_ (i := 10) (N := some 99) (v := undef) (a' := ?_) mB31 rfl rfl (any_of HT_.out (by kernel_rfl)) (fun _ _ _ h => h) (Or.inr ⟨by rfl, rfl⟩) ?_ ?_; rotate_left
               ·simp only [Act.put, sA_, sB_, sC_, i64_w, i32_w]; rfl
               refine pure_ (i := 11) (N := some 100) (v := undef) (a' := ?_) mB32 rfl rfl (any_of HT_.out (by kernel_rfl)) (fun _ _ _ h => h) (Or.inr ⟨by rfl, rfl⟩) ?_ ?_; rotate_left
               ·simp only [Act.put, sA_, sB_, sC_, i64_w, i32_w]; rfl
               refine pure_ (i := 12) (N := some 101) (v := undef) (a' := ?_) mB33 rfl rfl (any_of HT_.out (by kernel_rfl)) (fun _ _ _ h => h) (Or.inr ⟨by rfl, rfl⟩) ?_ ?_; rotate_left
               ·simp only [Act.put, sA_, sB_, sC_, i64_w, i32_w]; rfl
               refine pure_ (i := 13) (N := some 102) (v := undef) (a' := ?_) mB34 rfl rfl (any_of HT_.out (by kernel_rfl)) (fun _ _ _ h => h) (Or.inr ⟨by rfl, rfl⟩) ?_ ?_; rotate_left
               ·simp only [Act.put, sA_, sB_, sC_, i64_w, i32_w]; rfl
               refine pure_ (i := 14) (N := some 103) (v := undef) (a' := ?_) mB35 rfl rfl (any_of HT_.out (by kernel_rfl)) (fun _ _ _ h => h) (Or.inr ⟨by rfl, rfl⟩) ?_ ?_; rotate_left
               ·simp only [Act.put, sA_, sB_, sC_, i64_w, i32_w]; rfl
               refine pure_ (i := 15) (N := some 104) (v := undef) (a' := ?_) mB36 rfl rfl (any_of HT_.out (by kernel_rfl)) (fun _ _ _ h => h) (Or.inr ⟨by rfl, rfl⟩) ?_ ?_; rotate_left
               ·simp only [Act.put, sA_, sB_, sC_, i64_w, i32_w]; rfl
               refine pure_ (i := 16) (N := some 105) (v := undef) (a' := ?_) mB37 rfl rfl (any_of HT_.out (by kernel_rfl)) (fun _ _ _ h => h) (Or.inr ⟨by rfl, rfl⟩) ?_ ?_; rotate_left
               ·simp only [Act.put, sA_, sB_, sC_, i64_w, i32_w]; rfl
               refine pure_ (i := 17) (N := some 106) (v := undef) (a' := ?_) mB38 rfl rfl (any_of HT_.out (by kernel_rfl)) (fun _ _ _ h => h) (Or.inr ⟨by rfl, rfl⟩) ?_ ?_; rotate_left
               ·simp only [Act.put, sA_, sB_, sC_, i64_w, i32_w]; rfl
               refine pure_ (i := 18) (N := some 107) (v := undef) (a' := ?_) mB39 rfl rfl (any_of HT_.out (by kernel_rfl)) (fun _ _ _ h => h) (Or.inr ⟨by rfl, rfl⟩) ?_ ?_; rotate_left
               ·simp only [Act.put, sA_, sB_, sC_, i64_w, i32_w]; rfl
               refine pure_ (i := 19) (N := some 108) (v := undef) (a' := ?_) mB40 rfl rfl (any_of HT_.out (by kernel_rfl)) (fun _ _ _ h => h) (Or.inr ⟨by rfl, rfl⟩) ?_ ?_; rotate_left
               ·simp only [Act.put, sA_, sB_, sC_, i64_w, i32_w]; rfl
               refine pure_ (i := 20) (N := some 109) (v := undef) (a' := ?_) mB41 rfl rfl (any_of HT_.out (by kernel_rfl)) (fun _ _ _ h => h) (Or.inr ⟨by rfl, rfl⟩) ?_ ?_; rotate_left
               ·simp only [Act.put, sA_, sB_, sC_, i64_w, i32_w]; rfl
               refine pure_ (i := 21) (N := some 110) (v := undef) (a' := ?_) mB42 rfl rfl (any_of HT_.out (by kernel_rfl)) (fun _ _ _ h => h) (Or.inr ⟨by rfl, rfl⟩) ?_ ?_; rotate_left
               ·simp only [Act.put, sA_, sB_, sC_, i64_w, i32_w]; rfl
               refine pure_ (i := 22) (N := some 111) (v := undef) (a' := ?_) mB43 rfl rfl (any_of HT_.out (by kernel_rfl)) (fun _ _ _ h => h) (Or.inr ⟨by rfl, rfl⟩) ?_ ?_; rotate_left
               ·simp only [Act.put, sA_, sB_, sC_, i64_w, i32_w]; rfl
               refine pure_ (i := 23) (N := some 112) (v := undef) (a' := ?_) mB44 rfl rfl (any_of HT_.out (by kernel_rfl)) (fun _ _ _ h => h) (Or.inr ⟨by rfl, rfl⟩) ?_ ?_; rotate_left
               ·simp only [Act.put, sA_, sB_, sC_, i64_w, i32_w]; rfl
               refine pure_ (i := 24) (N := some 113) (v := undef) (a' := ?_) mB45 rfl rfl (any_of HT_.out (by kernel_rfl)) (fun _ _ _ h => h) (Or.inr ⟨by rfl, rfl⟩) ?_ ?_; rotate_left
               ·simp only [Act.put, sA_, sB_, sC_, i64_w, i32_w]; rfl
               refine pure_ (i := 25) (N := some 114) (v := undef) (a' := ?_) mB46 rfl rfl (any_of HT_.out (by kernel_rfl)) (fun _ _ _ h => h) (Or.inr ⟨by rfl, rfl⟩) ?_ ?_; rotate_left
               ·simp only [Act.put, sA_, sB_, sC_, i64_w, i32_w]; rfl
               refine pure_ (i := 26) (N := some 115) (v := undef) (a' := ?_) mB47 rfl rfl (any_of HT_.out (by kernel_rfl)) (fun _ _ _ h => h) (Or.inr ⟨by rfl, rfl⟩) ?_ ?_; rotate_left
               ·simp only [Act.put, sA_, sB_, sC_, i64_w, i32_w]; rfl
               refine pure_ (i := 27) (N := some 116) (v := undef) (a' := ?_) mB48 rfl rfl (any_of HT_.out (by kernel_rfl)) (fun _ _ _ h => h) (Or.inr ⟨by rfl, rfl⟩) ?_ ?_; rotate_left
               ·simp only [Act.put, sA_, sB_, sC_, i64_w, i32_w]; rfl
               refine pure_ (i := 28) (N := some 117) (v := ?_) (a' := ?_) mB49 rfl rfl (any_of HT_.out (by kernel_rfl)) (fun _ _ _ h => h) (Or.inl ⟨by rfl, ?_⟩) ?_ ?_; rotate_left
               ·intro w'; go_simp; with_reducible rfl
               rotate_left
               ·simp only [Act.put, sA_, sB_, sC_, i64_w, i32_w]; rfl
               refine done_ (done_of HT_.out (by kernel_rfl)) ?_
               try go_wp2
               go_ret
               exact ⟨by first | rfl | (simp [errW_none, errW_some] <;> rfl) | (simp only [← hji38]; first | rfl | (simp [errW_none, errW_some] <;> rfl)) | (simp [*, errW_none, errW_some] <;> rfl), by repeat (first | (with_reducible first | exact HB.out | apply below_alloc | apply pw_below_drewN | apply below_drew1 | refine below_set ?_ GE149.out | refine below_set ?_ GE156.out) | exact HB.out)⟩
              ·rw [if_neg c39] at H
               have c39b0 : decide (((rd_T49 t157 x14_3).f3) < 1) = false := decide_eq_false c39
               clear c39
               by_cases c42 : x14_3 > 0
               ·rw [if_pos c42] at H
                have c42b0 : decide (0 < x14_3) = true := decide_eq_true c42
                clear c42
                by_cases c43 : 0 ≤ ((rd_T49 t157 x14_3).f0)
                ·rw [if_pos c43] at H
                 have c43b0 : decide (0 ≤ ((rd_T49 t157 x14_3).f0)) = true := decide_eq_true c43
                 clear c43
                 by_cases c44 : ((rd_T49 t157 x14_3).f0) < (t157.length : Int)
                 ·rw [if_pos c44] at H
                  have c44b0 : decide (((rd_T49 t157 x14_3).f0) < (t157.length : Int)) = true := decide_eq_true c44
                  clear c44
                  replace H := Option.bind_eq_some_iff.mp H
                  obtain ⟨t172, A450, H⟩ := H
                  replace H : (if t172 = true then (plunderlaw6_SerialShape.l0 k3 t157 t163 (wrap64 (x12_3 + ((rd_T49 t157 x14_3).f3))) ji38 (wrap64 (x14_3 + 1)) l0_0 t150 t151 t152 t153 t154) else (some false)) = some r := H
                  have A45 := Aside0.mk A450; clear A450
                  by_cases c46 : t172 = true
                  ·subst c46
                   have H1 : (plunderlaw6_SerialShape.l0 k3 t157 t163 (wrap64 (x12_3 + ((rd_T49 t157 x14_3).f3))) ji38 (wrap64 (x14_3 + 1)) l0_0 t150 t151 t152 t153 t154) = some r := by rw [if_pos rfl] at H; exact H
                   clear H
                   have H := H1
                   clear H1
                   have H' := Aside0.mk H
                   clear H
                   have p166 : 0 ≤ (x14_3 : Int) := of_decide_eq_true (by first | (with_reducible assumption) | assumption)
                   have q166 : x14_3 < (t157.length : Int) := of_decide_eq_true (by first | (with_reducible assumption) | assumption)
                   obtain ⟨ad166, e166, hx166_0, hx166_1, hx166_2, hx166_3, hx166_4, hx166_5, hx166_6⟩ := at_T49 (Kd.R_reads' HO_9.out).2.2 x14_3 p166 q166
                   cases e166
                   replace p166 := eq_true p166
                   replace q166 := eq_true q166
                   obtain ⟨Ao47, co47, eo47⟩ := Kd.R_slice HO_11.out
                   first | subst eo47 | cases eo47
                   have p167 : 0 ≤ (x14_3 : Int) := of_decide_eq_true (by first | (with_reducible assumption) | assumption)
                   have q167 : x14_3 < (t163.length : Int) := of_decide_eq_true (by first | (with_reducible assumption) | assumption)
                   obtain ⟨ad167, e167, hx167_0⟩ := Kd.at_int (Kd.R_reads' HO_11.out).2.2 x14_3 p167 q167
                   cases e167
                   (first | simp only [add_plain] at hx167_0 | skip)
                   replace p167 := eq_true p167
                   replace q167 := eq_true q167
                   try go_wp2
                   have n0_ := Aside0.mk (Kd.R_drew HO_9.out)
                   have n1_ := Aside0.mk (Kd.R_drew HO_11.out)
                   have n2_ := Aside0.mk (blk_drew BK149.out)
                   have n3_ := Aside0.mk (blk_drew BK156.out)
                   have n4_ := Aside0.mk (below_drew1 HB.out)
                   clear HO_9; clear HO_11; clear BK149; clear BK156; clear HB
                   have HO_9 := n0_
                   have HO_11 := n1_
                   have BK149 := n2_
                   have BK156 := n3_
                   have HB := n4_
                   clear n0_ n1_ n2_ n3_ n4_
                   have p168 : 0 ≤ (x14_3 : Int) := of_decide_eq_true (by first | (with_reducible assumption) | assumption)
                   have q168 : x14_3 < (t157.length : Int) := of_decide_eq_true (by first | (with_reducible assumption) | assumption)
                   obtain ⟨ad168, e168, hx168_0, hx168_1, hx168_2, hx168_3, hx168_4, hx168_5, hx168_6⟩ := at_T49 (Kd.R_reads' HO_9.out).2.2 x14_3 p168 q168
                   obtain rfl : ad166 = ad168 := (by injection e168)
                   replace p168 := eq_true p168
                   replace q168 := eq_true q168
                   have p169 : 0 ≤ (x14_3 : Int) := of_decide_eq_true (by first | (with_reducible assumption) | assumption)
                   have q169 : x14_3 < (t157.length : Int) := of_decide_eq_true (by first | (with_reducible assumption) | assumption)
                   obtain ⟨ad169, e169, hx169_0, hx169_1, hx169_2, hx169_3, hx169_4, hx169_5, hx169_6⟩ := at_T49 (Kd.R_reads' HO_9.out).2.2 x14_3 p169 q169
                   obtain rfl : ad166 = ad169 := (by injection e169)
                   replace p169 := eq_true p169
                   replace q169 := eq_true q169
                   have p170 : 0 ≤ (((rd_T49 t157 x14_3).f0) : Int) := of_decide_eq_true (by first | (with_reducible assumption) | assumption)
                   have q170 : ((rd_T49 t157 x14_3).f0) < (t157.length : Int) := of_decide_eq_true (by first | (with_reducible assumption) | assumption)
                   obtain ⟨ad170, e170, hx170_0, hx170_1, hx170_2, hx170_3, hx170_4, hx170_5, hx170_6⟩ := at_T49 (Kd.R_reads' HO_9.out).2.2 ((rd_T49 t157 x14_3).f0) p170 q170
                   obtain rfl : ad166 = ad170 := (by injection e170)
                   replace p170 := eq_true p170
                   replace q170 := eq_true q170
                   have p171 : 0 ≤ (x14_3 : Int) := of_decide_eq_true (by first | (with_reducible assumption) | assumption)
                   have q171 : x14_3 < (t157.length : Int) := of_decide_eq_true (by first | (with_reducible assumption) | assumption)
                   obtain ⟨ad171, e171, hx171_0, hx171_1, hx171_2, hx171_3, hx171_4, hx171_5, hx171_6⟩ := at_T49 (Kd.R_reads' HO_9.out).2.2 x14_3 p171 q171
                   obtain rfl : ad166 = ad171 := (by injection e171)
                   replace p171 := eq_true p171
                   replace q171 := eq_true q171
                   refine start_ (n := 29) (S := fun w' => w'.cell? ⟨gb149, 0, none⟩ = some (.slice A0_0 l0_0.length c0_0) ∧ w'.cell? (ad166.add ((x14_3).toNat * 7)) = some (.int .i64 ((rd_T49 t157 x14_3).f0)) ∧ w'.cell? ⟨(ad166.add ((x14_3).toNat * 7)).block, (ad166.add ((x14_3).toNat * 7)).off + 1, none⟩ = some (.int .i64 ((rd_T49 t157 x14_3).f1)) ∧ w'.cell? ⟨(ad166.add ((x14_3).toNat * 7)).block, (ad166.add ((x14_3).toNat * 7)).off + 2, none⟩ = some (.int .i64 ((rd_T49 t157 x14_3).f2)) ∧ w'.cell? ⟨(ad166.add ((x14_3).toNat * 7)).block, (ad166.add ((x14_3).toNat * 7)).off + 3, none⟩ = some (.int .i64 ((rd_T49 t157 x14_3).f3)) ∧ w'.cell? ⟨(ad166.add ((x14_3).toNat * 7)).block, (ad166.add ((x14_3).toNat * 7)).off + 4, none⟩ = some (.int .i64 ((rd_T49 t157 x14_3).f4)) ∧ w'.cell? ⟨(ad166.add ((x14_3).toNat * 7)).block, (ad166.add ((x14_3).toNat * 7)).off + 5, none⟩ = some (.int .i64 ((rd_T49 t157 x14_3).f5)) ∧ w'.cell? ⟨(ad166.add ((x14_3).toNat * 7)).block, (ad166.add ((x14_3).toNat * 7)).off + 6, none⟩ = some (.int .i64 ((rd_T49 t157 x14_3).f6)) ∧ w'.cell? (ad166.add ((x14_3).toNat * 7)) = some (.int .i64 ((rd_T49 t157 x14_3).f0)) ∧ w'.cell? ⟨(ad166.add ((x14_3).toNat * 7)).block, (ad166.add ((x14_3).toNat * 7)).off + 1, none⟩ = some (.int .i64 ((rd_T49 t157 x14_3).f1)) ∧ w'.cell? ⟨(ad166.add ((x14_3).toNat * 7)).block, (ad166.add ((x14_3).toNat * 7)).off + 2, none⟩ = some (.int .i64 ((rd_T49 t157 x14_3).f2)) ∧ w'.cell? ⟨(ad166.add ((x14_3).toNat * 7)).block, (ad166.add ((x14_3).toNat * 7)).off + 3, none⟩ = some (.int .i64 ((rd_T49 t157 x14_3).f3)) ∧ w'.cell? ⟨(ad166.add ((x14_3).toNat * 7)).block, (ad166.add ((x14_3).toNat * 7)).off + 4, none⟩ = some (.int .i64 ((rd_T49 t157 x14_3).f4)) ∧ w'.cell? ⟨(ad166.add ((x14_3).toNat * 7)).block, (ad166.add ((x14_3).toNat * 7)).off + 5, none⟩ = some (.int .i64 ((rd_T49 t157 x14_3).f5)) ∧ w'.cell? ⟨(ad166.add ((x14_3).toNat * 7)).block, (ad166.add ((x14_3).toNat * 7)).off + 6, none⟩ = some (.int .i64 ((rd_T49 t157 x14_3).f6)) ∧ w'.cell? (ad166.add ((((rd_T49 t157 x14_3).f0)).toNat * 7)) = some (.int .i64 ((rd_T49 t157 ((rd_T49 t157 x14_3).f0)).f0)) ∧ w'.cell? ⟨(ad166.add ((((rd_T49 t157 x14_3).f0)).toNat * 7)).block, (ad166.add ((((rd_T49 t157 x14_3).f0)).toNat * 7)).off + 1, none⟩ = some (.int .i64 ((rd_T49 t157 ((rd_T49 t157 x14_3).f0)).f1)) ∧ w'.cell? ⟨(ad166.add ((((rd_T49 t157 x14_3).f0)).toNat * 7)).block, (ad166.add ((((rd_T49 t157 x14_3).f0)).toNat * 7)).off + 2, none⟩ = some (.int .i64 ((rd_T49 t157 ((rd_T49 t157 x14_3).f0)).f2)) ∧ w'.cell? ⟨(ad166.add ((((rd_T49 t157 x14_3).f0)).toNat * 7)).block, (ad166.add ((((rd_T49 t157 x14_3).f0)).toNat * 7)).off + 3, none⟩ = some (.int .i64 ((rd_T49 t157 ((rd_T49 t157 x14_3).f0)).f3)) ∧ w'.cell? ⟨(ad166.add ((((rd_T49 t157 x14_3).f0)).toNat * 7)).block, (ad166.add ((((rd_T49 t157 x14_3).f0)).toNat * 7)).off + 4, none⟩ = some (.int .i64 ((rd_T49 t157 ((rd_T49 t157 x14_3).f0)).f4)) ∧ w'.cell? ⟨(ad166.add ((((rd_T49 t157 x14_3).f0)).toNat * 7)).block, (ad166.add ((((rd_T49 t157 x14_3).f0)).toNat * 7)).off + 5, none⟩ = some (.int .i64 ((rd_T49 t157 ((rd_T49 t157 x14_3).f0)).f5)) ∧ w'.cell? ⟨(ad166.add ((((rd_T49 t157 x14_3).f0)).toNat * 7)).block, (ad166.add ((((rd_T49 t157 x14_3).f0)).toNat * 7)).off + 6, none⟩ = some (.int .i64 ((rd_T49 t157 ((rd_T49 t157 x14_3).f0)).f6)) ∧ w'.cell? (ad166.add ((x14_3).toNat * 7)) = some (.int .i64 ((rd_T49 t157 x14_3).f0)) ∧ w'.cell? ⟨(ad166.add ((x14_3).toNat * 7)).block, (ad166.add ((x14_3).toNat * 7)).off + 1, none⟩ = some (.int .i64 ((rd_T49 t157 x14_3).f1)) ∧ w'.cell? ⟨(ad166.add ((x14_3).toNat * 7)).block, (ad166.add ((x14_3).toNat * 7)).off + 2, none⟩ = some (.int .i64 ((rd_T49 t157 x14_3).f2)) ∧ w'.cell? ⟨(ad166.add ((x14_3).toNat * 7)).block, (ad166.add ((x14_3).toNat * 7)).off + 3, none⟩ = some (.int .i64 ((rd_T49 t157 x14_3).f3)) ∧ w'.cell? ⟨(ad166.add ((x14_3).toNat * 7)).block, (ad166.add ((x14_3).toNat * 7)).off + 4, none⟩ = some (.int .i64 ((rd_T49 t157 x14_3).f4)) ∧ w'.cell? ⟨(ad166.add ((x14_3).toNat * 7)).block, (ad166.add ((x14_3).toNat * 7)).off + 5, none⟩ = some (.int .i64 ((rd_T49 t157 x14_3).f5)) ∧ w'.cell? ⟨(ad166.add ((x14_3).toNat * 7)).block, (ad166.add ((x14_3).toNat * 7)).off + 6, none⟩ = some (.int .i64 ((rd_T49 t157 x14_3).f6))) (ds := []) mB20 (by kernel_rfl) rfl rfl ⟨(blk_cell BK149.out 0).trans rfl, hx168_0, hx168_1, hx168_2, hx168_3, hx168_4, hx168_5, hx168_6, hx169_0, hx169_1, hx169_2, hx169_3, hx169_4, hx169_5, hx169_6, hx170_0, hx170_1, hx170_2, hx170_3, hx170_4, hx170_5, hx170_6, hx171_0, hx171_1, hx171_2, hx171_3, hx171_4, hx171_5, hx171_6⟩ (fun hHeld => ?_); refine with_tabW plunderlaw6_SerialShape.tab19 plunderlaw6_SerialShape.bits19 (fun HT_ HW_ => ?_)
                   generalize wr.drew = w48 at HO_9 HO_11 BK149 BK156 HB hx168_0 hx168_1 hx168_2 hx168_3 hx168_4 hx168_5 hx168_6 hx169_0 hx169_1 hx169_2 hx169_3 hx169_4 hx169_5 hx169_6 hx170_0 hx170_1 hx170_2 hx170_3 hx170_4 hx170_5 hx170_6 hx171_0 hx171_1 hx171_2 hx171_3 hx171_4 hx171_5 hx171_6 hHeld ⊢
                   refine pure_ (i := 0) (N := some 89) (v := ?_) (a' := ?_) mB21 rfl rfl (any_of HT_.out (by kernel_rfl)) (fun _ _ _ h => h) (Or.inl ⟨by rfl, ?_⟩) ?_ ?_; rotate_left
                   ·intro w'; go_simp; with_reducible rfl
                   rotate_left
                   ·simp only [Act.put, sA_, sB_, sC_, i64_w, i32_w]; rfl
                   refine pure_ (i := 1) (N := some 90) (v := ?_) (a' := ?_) mB22 rfl rfl (any_of HT_.out (by kernel_rfl)) (fun _ _ _ h => h) (Or.inl ⟨by rfl, ?_⟩) ?_ ?_; rotate_left
                   ·intro w'; go_simp; with_reducible rfl
                   rotate_left
                   ·simp only [Act.put, sA_, sB_, sC_, i64_w, i32_w]; rfl
                   refine pure_ (i := 2) (N := some 91) (v := ?_) (a' := ?_) mB23 rfl rfl (any_of HT_.out (by kernel_rfl)) (fun _ _ _ h => h) (Or.inl ⟨by rfl, ?_⟩) ?_ ?_; rotate_left
                   ·intro w'; go_simp; with_reducible rfl
                   rotate_left
                   ·simp only [Act.put, sA_, sB_, sC_, i64_w, i32_w]; rfl
                   refine pure_ (i := 3) (N := some 92) (v := ?_) (a' := ?_) mB24 rfl rfl (any_of HT_.out (by kernel_rfl)) (fun _ _ _ h => h) (Or.inl ⟨by rfl, ?_⟩) ?_ ?_; rotate_left
                   ·intro w'; go_simp; with_reducible rfl
                   rotate_left
                   ·simp only [Act.put, sA_, sB_, sC_, i64_w, i32_w]; rfl
                   refine take_ (i := 4) (N := some 93) (v := ?_) (a' := ?_) mB25 rfl rfl (take_ofW HT_.out HW_.out (by kernel_rfl)) (fun _ _ _ h => h) (Or.inl ⟨by rfl, ?_⟩) hHeld ?_ ?_; rotate_left
                   ·rintro w' ⟨s0, s1, s2, s3, s4, s5, s6, s7, s8, s9, s10, s11, s12, s13, s14, s15, s16, s17, s18, s19, s20, s21, s22, s23, s24, s25, s26, s27, s28⟩
                    go_simp; with_reducible rfl
                   rotate_left
                   ·simp only [Act.put, sA_, sB_, sC_, i64_w, i32_w]; rfl
                   refine pure_ (i := 5) (N := some 94) (v := ?_) (a' := ?_) mB26 rfl rfl (any_of HT_.out (by kernel_rfl)) (fun _ _ _ h => h) (Or.inl ⟨by rfl, ?_⟩) ?_ ?_; rotate_left
                   ·intro w'; go_simp; with_reducible rfl
                   rotate_left
                   ·simp only [Act.put, sA_, sB_, sC_, i64_w, i32_w]; rfl
                   refine pure_ (i := 6) (N := some 95) (v := ?_) (a' := ?_) mB27 rfl rfl (any_of HT_.out (by kernel_rfl)) (fun _ _ _ h => h) (Or.inl ⟨by rfl, ?_⟩) ?_ ?_; rotate_left
                   ·intro w'; go_simp; with_reducible rfl
                   rotate_left
                   ·simp only [Act.put, sA_, sB_, sC_, i64_w, i32_w]; rfl
                   refine pure_ (i := 7) (N := some 96) (v := ?_) (a' := ?_) mB28 rfl rfl (any_of HT_.out (by kernel_rfl)) (fun _ _ _ h => h) (Or.inl ⟨by rfl, ?_⟩) ?_ ?_; rotate_left
                   ·intro w'; go_simp; with_reducible rfl
                   rotate_left
                   ·simp only [Act.put, sA_, sB_, sC_, i64_w, i32_w]; rfl
                   refine pure_ (i := 8) (N := some 97) (v := ?_) (a' := ?_) mB29 rfl rfl (any_of HT_.out (by kernel_rfl)) (fun _ _ _ h => h) (Or.inl ⟨by rfl, ?_⟩) ?_ ?_; rotate_left
                   ·intro w'; go_simp; with_reducible rfl
                   rotate_left
                   ·simp only [Act.put, sA_, sB_, sC_, i64_w, i32_w]; rfl
                   refine pure_ (i := 9) (N := some 98) (v := ?_) (a' := ?_) mB30 rfl rfl (any_of HT_.out (by kernel_rfl)) (fun _ _ _ h => h) (Or.inl ⟨by rfl, ?_⟩) ?_ ?_; rotate_left
                   ·intro w'; go_simp; with_reducible rfl
                   rotate_left
                   ·simp only [Act.put, sA_, sB_, sC_, i64_w, i32_w]; rfl
                   refine pure_ (i := 11) (N := some 100) (v := ?_) (a' := ?_) mB50 rfl rfl (any_of HT_.out (by kernel_rfl)) (fun _ _ _ h => h) (Or.inl ⟨by rfl, ?_⟩) ?_ ?_; rotate_left
                   ·intro w'; go_simp; with_reducible rfl
                   rotate_left
                   ·simp only [Act.put, sA_, sB_, sC_, i64_w, i32_w]; rfl
                   refine pure_ (i := 12) (N := some 101) (v := ?_) (a' := ?_) mB51 rfl rfl (any_of HT_.out (by kernel_rfl)) (fun _ _ _ h => h) (Or.inl ⟨by rfl, ?_⟩) ?_ ?_; rotate_left
                   ·intro w'; go_simp; with_reducible rfl
                   rotate_left
                   ·simp only [Act.put, sA_, sB_, sC_, i64_w, i32_w]; rfl
                   refine pure_ (i := 13) (N := some 102) (v := ?_) (a' := ?_) mB52 rfl rfl (any_of HT_.out (by kernel_rfl)) (fun _ _ _ h => h) (Or.inl ⟨by rfl, ?_⟩) ?_ ?_; rotate_left
                   ·intro w'; go_simp; with_reducible rfl
                   rotate_left
                   ·simp only [Act.put, sA_, sB_, sC_, i64_w, i32_w]; rfl
                   refine pure_ (i := 14) (N := some 103) (v := ?_) (a' := ?_) mB53 rfl rfl (any_of HT_.out (by kernel_rfl)) (fun _ _ _ h => h) (Or.inl ⟨by rfl, ?_⟩) ?_ ?_; rotate_left
                   ·intro w'; go_simp; with_reducible rfl
                   rotate_left
                   ·simp only [Act.put, sA_, sB_, sC_, i64_w, i32_w]; rfl
                   refine pure_ (i := 15) (N := some 104) (v := ?_) (a' := ?_) mB54 rfl rfl (any_of HT_.out (by kernel_rfl)) (fun _ _ _ h => h) (Or.inl ⟨by rfl, ?_⟩) ?_ ?_; rotate_left
                   ·intro w'; go_simp; with_reducible rfl
                   rotate_left
                   ·simp only [Act.put, sA_, sB_, sC_, i64_w, i32_w]; rfl
                   refine pure_ (i := 20) (N := some 109) (v := ?_) (a' := ?_) mB55 rfl rfl (any_of HT_.out (by kernel_rfl)) (fun _ _ _ h => h) (Or.inl ⟨by rfl, ?_⟩) ?_ ?_; rotate_left
                   ·intro w'; go_simp; with_reducible rfl
                   rotate_left
                   ·simp only [Act.put, sA_, sB_, sC_, i64_w, i32_w]; rfl
                   refine pure_ (i := 21) (N := some 110) (v := ?_) (a' := ?_) mB56 rfl rfl (any_of HT_.out (by kernel_rfl)) (fun _ _ _ h => h) (Or.inl ⟨by rfl, ?_⟩) ?_ ?_; rotate_left
                   ·intro w'; go_simp; with_reducible rfl
                   rotate_left
                   ·simp only [Act.put, sA_, sB_, sC_, i64_w, i32_w]; rfl
                   refine pure_ (i := 22) (N := some 111) (v := ?_) (a' := ?_) mB57 rfl rfl (any_of HT_.out (by kernel_rfl)) (fun _ _ _ h => h) (Or.inl ⟨by rfl, ?_⟩) ?_ ?_; rotate_left
                   ·intro w'; go_simp; with_reducible rfl
                   rotate_left
                   ·simp only [Act.put, sA_, sB_, sC_, i64_w, i32_w]; rfl
                   refine pure_ (i := 23) (N := some 112) (v := ?_) (a' := ?_) mB58 rfl rfl (any_of HT_.out (by kernel_rfl)) (fun _ _ _ h => h) (Or.inl ⟨by rfl, ?_⟩) ?_ ?_; rotate_left
                   ·intro w'; go_simp; with_reducible rfl
                   rotate_left
                   ·simp only [Act.put, sA_, sB_, sC_, i64_w, i32_w]; rfl
                   refine take_ (i := 10) (N := some 99) (v := ?_) (a' := ?_) mB59 rfl rfl (take_ofW HT_.out HW_.out (by kernel_rfl)) (fun _ _ _ h => h) (Or.inl ⟨by rfl, ?_⟩) hHeld ?_ ?_; rotate_left
                   ·rintro w' ⟨s0, s1, s2, s3, s4, s5, s6, s7, s8, s9, s10, s11, s12, s13, s14, s15, s16, s17, s18, s19, s20, s21, s22, s23, s24, s25, s26, s27, s28⟩
                    go_simp; with_reducible rfl
                   rotate_left
                   ·simp only [Act.put, sA_, sB_, sC_, i64_w, i32_w]; rfl
                   refine take_ (i := 16) (N := some 105) (v := ?_) (a' := ?_) mB60 rfl rfl (take_ofW HT_.out HW_.out (by kernel_rfl)) (fun _ _ _ h => h) (Or.inl ⟨by rfl, ?_⟩) hHeld ?_ ?_; rotate_left
                   ·rintro w' ⟨s0, s1, s2, s3, s4, s5, s6, s7, s8, s9, s10, s11, s12, s13, s14, s15, s16, s17, s18, s19, s20, s21, s22, s23, s24, s25, s26, s27, s28⟩
                    go_simp; with_reducible rfl
                   rotate_left
                   ·simp only [Act.put, sA_, sB_, sC_, i64_w, i32_w]; rfl
                   refine pure_ (i := 17) (N := some 106) (v := ?_) (a' := ?_) mB61 rfl rfl (any_of HT_.out (by kernel_rfl)) (fun _ _ _ h => h) (Or.inl ⟨by rfl, ?_⟩) ?_ ?_; rotate_left
                   ·intro w'; go_simp; with_reducible rfl
                   rotate_left
                   ·simp only [Act.put, sA_, sB_, sC_, i64_w, i32_w]; rfl
                   refine pure_ (i := 18) (N := some 107) (v := ?_) (a' := ?_) mB62 rfl rfl (any_of HT_.out (by kernel_rfl)) (fun _ _ _ h => h) (Or.inl ⟨by rfl, ?_⟩) ?_ ?_; rotate_left
                   ·intro w'; go_simp; with_reducible rfl
                   rotate_left
                   ·simp only [Act.put, sA_, sB_, sC_, i64_w, i32_w]; rfl
                   refine take_ (i := 19) (N := some 108) (v := ?_) (a' := ?_) mB44 rfl rfl (take_ofW HT_.out HW_.out (by kernel_rfl)) (fun _ _ _ h => h) (Or.inl ⟨by rfl, ?_⟩) hHeld ?_ ?_; rotate_left
                   ·rintro w' ⟨s0, s1, s2, s3, s4, s5, s6, s7, s8, s9, s10, s11, s12, s13, s14, s15, s16, s17, s18, s19, s20, s21, s22, s23, s24, s25, s26, s27, s28⟩
                    go_simp; with_reducible rfl
                   rotate_left
                   ·simp only [Act.put, sA_, sB_, sC_, i64_w, i32_w]; rfl
                   refine take_ (i := 24) (N := some 113) (v := ?_) (a' := ?_) mB45 rfl rfl (take_ofW HT_.out HW_.out (by kernel_rfl)) (fun _ _ _ h => h) (Or.inl ⟨by rfl, ?_⟩) hHeld ?_ ?_; rotate_left
                   ·rintro w' ⟨s0, s1, s2, s3, s4, s5, s6, s7, s8, s9, s10, s11, s12, s13, s14, s15, s16, s17, s18, s19, s20, s21, s22, s23, s24, s25, s26, s27, s28⟩
                    go_simp; with_reducible rfl
                   rotate_left
                   ·simp only [Act.put, sA_, sB_, sC_, i64_w, i32_w]; rfl
                   refine one_ (i := 25) (N := some 114) mB46 rfl rfl (one_of HT_.out (by kernel_rfl)) (by decide) (fun K hK => ?_); refine goes_ Tryd.func26 (by kernel_rfl) rfl #[.agg #[.slice A0_0 l0_0.length c0_0], .int .i64 ((rd_T49 t157 ((rd_T49 t157 x14_3).f0)).f2), .int .i64 ((rd_T49 t157 x14_3).f2)] (by rfl) rfl rfl (by (try simp only [List.map_toArray, List.map_cons, List.map_nil]); first | done | rfl | (simp only [List.length_drop, List.length_take]; rfl)) ?_
                   with_reducible refine (plunderlaw6_spawns.calls k3 _ _ l0_0 ((rd_T49 t157 ((rd_T49 t157 x14_3).f0)).f2) ((rd_T49 t157 x14_3).f2) true _ ?side1 ?side2 A45.out).mono ?_
                   (case side1 => repeat (first | exact (Kd.C_below HR0_0.out HB.out) | (with_reducible refine Kd.C_alloc ?_ _) | (with_reducible refine Kd.C_drewN ?_ _) | (with_reducible refine Kd.C_drew ?_)))
                   (case side2 => exact HC0_0.out)
                   rintro e w49 ⟨rfl, hb⟩
                   have HS1_ := (hb.cell (World.block_lt_of_cell? _ _ (hHeld.2.1))).trans (hHeld.2.1)
                   have HS2_ := (hb.cell (World.block_lt_of_cell? _ _ (hHeld.2.2.1))).trans (hHeld.2.2.1)
                   have HS3_ := (hb.cell (World.block_lt_of_cell? _ _ (hHeld.2.2.2.1))).trans (hHeld.2.2.2.1)
                   have HS4_ := (hb.cell (World.block_lt_of_cell? _ _ (hHeld.2.2.2.2.1))).trans (hHeld.2.2.2.2.1)
                   have HS5_ := (hb.cell (World.block_lt_of_cell? _ _ (hHeld.2.2.2.2.2.1))).trans (hHeld.2.2.2.2.2.1)
                   have HS6_ := (hb.cell (World.block_lt_of_cell? _ _ (hHeld.2.2.2.2.2.2.1))).trans (hHeld.2.2.2.2.2.2.1)
                   have HS7_ := (hb.cell (World.block_lt_of_cell? _ _ (hHeld.2.2.2.2.2.2.2.1))).trans (hHeld.2.2.2.2.2.2.2.1)
                   have HS8_ := (hb.cell (World.block_lt_of_cell? _ _ (hHeld.2.2.2.2.2.2.2.2.1))).trans (hHeld.2.2.2.2.2.2.2.2.1)
                   have HS9_ := (hb.cell (World.block_lt_of_cell? _ _ (hHeld.2.2.2.2.2.2.2.2.2.1))).trans (hHeld.2.2.2.2.2.2.2.2.2.1)
                   have HS10_ := (hb.cell (World.block_lt_of_cell? _ _ (hHeld.2.2.2.2.2.2.2.2.2.2.1))).trans (hHeld.2.2.2.2.2.2.2.2.2.2.1)
                   have HS11_ := (hb.cell (World.block_lt_of_cell? _ _ (hHeld.2.2.2.2.2.2.2.2.2.2.2.1))).trans (hHeld.2.2.2.2.2.2.2.2.2.2.2.1)
                   have HS12_ := (hb.cell (World.block_lt_of_cell? _ _ (hHeld.2.2.2.2.2.2.2.2.2.2.2.2.1))).trans (hHeld.2.2.2.2.2.2.2.2.2.2.2.2.1)
                   have HS13_ := (hb.cell (World.block_lt_of_cell? _ _ (hHeld.2.2.2.2.2.2.2.2.2.2.2.2.2.1))).trans (hHeld.2.2.2.2.2.2.2.2.2.2.2.2.2.1)
                   have HS14_ := (hb.cell (World.block_lt_of_cell? _ _ (hHeld.2.2.2.2.2.2.2.2.2.2.2.2.2.2.1))).trans (hHeld.2.2.2.2.2.2.2.2.2.2.2.2.2.2.1)
                   have HS15_ := (hb.cell (World.block_lt_of_cell? _ _ (hHeld.2.2.2.2.2.2.2.2.2.2.2.2.2.2.2.1))).trans (hHeld.2.2.2.2.2.2.2.2.2.2.2.2.2.2.2.1)
                   have HS16_ := (hb.cell (World.block_lt_of_cell? _ _ (hHeld.2.2.2.2.2.2.2.2.2.2.2.2.2.2.2.2.1))).trans (hHeld.2.2.2.2.2.2.2.2.2.2.2.2.2.2.2.2.1)
                   have HS17_ := (hb.cell (World.block_lt_of_cell? _ _ (hHeld.2.2.2.2.2.2.2.2.2.2.2.2.2.2.2.2.2.1))).trans (hHeld.2.2.2.2.2.2.2.2.2.2.2.2.2.2.2.2.2.1)
                   have HS18_ := (hb.cell (World.block_lt_of_cell? _ _ (hHeld.2.2.2.2.2.2.2.2.2.2.2.2.2.2.2.2.2.2.1))).trans (hHeld.2.2.2.2.2.2.2.2.2.2.2.2.2.2.2.2.2.2.1)
                   have HS19_ := (hb.cell (World.block_lt_of_cell? _ _ (hHeld.2.2.2.2.2.2.2.2.2.2.2.2.2.2.2.2.2.2.2.1))).trans (hHeld.2.2.2.2.2.2.2.2.2.2.2.2.2.2.2.2.2.2.2.1)
                   have HS20_ := (hb.cell (World.block_lt_of_cell? _ _ (hHeld.2.2.2.2.2.2.2.2.2.2.2.2.2.2.2.2.2.2.2.2.1))).trans (hHeld.2.2.2.2.2.2.2.2.2.2.2.2.2.2.2.2.2.2.2.2.1)
                   have HS21_ := (hb.cell (World.block_lt_of_cell? _ _ (hHeld.2.2.2.2.2.2.2.2.2.2.2.2.2.2.2.2.2.2.2.2.2.1))).trans (hHeld.2.2.2.2.2.2.2.2.2.2.2.2.2.2.2.2.2.2.2.2.2.1)
                   have HS22_ := (hb.cell (World.block_lt_of_cell? _ _ (hHeld.2.2.2.2.2.2.2.2.2.2.2.2.2.2.2.2.2.2.2.2.2.2.1))).trans (hHeld.2.2.2.2.2.2.2.2.2.2.2.2.2.2.2.2.2.2.2.2.2.2.1)
                   have HS23_ := (hb.cell (World.block_lt_of_cell? _ _ (hHeld.2.2.2.2.2.2.2.2.2.2.2.2.2.2.2.2.2.2.2.2.2.2.2.1))).trans (hHeld.2.2.2.2.2.2.2.2.2.2.2.2.2.2.2.2.2.2.2.2.2.2.2.1)
                   have HS24_ := (hb.cell (World.block_lt_of_cell? _ _ (hHeld.2.2.2.2.2.2.2.2.2.2.2.2.2.2.2.2.2.2.2.2.2.2.2.2.1))).trans (hHeld.2.2.2.2.2.2.2.2.2.2.2.2.2.2.2.2.2.2.2.2.2.2.2.2.1)
                   have HS25_ := (hb.cell (World.block_lt_of_cell? _ _ (hHeld.2.2.2.2.2.2.2.2.2.2.2.2.2.2.2.2.2.2.2.2.2.2.2.2.2.1))).trans (hHeld.2.2.2.2.2.2.2.2.2.2.2.2.2.2.2.2.2.2.2.2.2.2.2.2.2.1)
                   have HS26_ := (hb.cell (World.block_lt_of_cell? _ _ (hHeld.2.2.2.2.2.2.2.2.2.2.2.2.2.2.2.2.2.2.2.2.2.2.2.2.2.2.1))).trans (hHeld.2.2.2.2.2.2.2.2.2.2.2.2.2.2.2.2.2.2.2.2.2.2.2.2.2.2.1)
                   have HS27_ := (hb.cell (World.block_lt_of_cell? _ _ (hHeld.2.2.2.2.2.2.2.2.2.2.2.2.2.2.2.2.2.2.2.2.2.2.2.2.2.2.2.1))).trans (hHeld.2.2.2.2.2.2.2.2.2.2.2.2.2.2.2.2.2.2.2.2.2.2.2.2.2.2.2.1)
                   have HS28_ := (hb.cell (World.block_lt_of_cell? _ _ (hHeld.2.2.2.2.2.2.2.2.2.2.2.2.2.2.2.2.2.2.2.2.2.2.2.2.2.2.2.2))).trans (hHeld.2.2.2.2.2.2.2.2.2.2.2.2.2.2.2.2.2.2.2.2.2.2.2.2.2.2.2.2)
                   refine ⟨_, rfl, ?_⟩
                   have n0_ := Aside0.mk (Kd.R_below (by (with_reducible repeat (first | apply Kd.R_alloc | apply Kd.R_drewN | apply Kd.R_drew)); exact HO_9.out) hb)
                   have n1_ := Aside0.mk (Kd.R_below (by (with_reducible repeat (first | apply Kd.R_alloc | apply Kd.R_drewN | apply Kd.R_drew)); exact HO_11.out) hb)
                   have n2_ := Aside0.mk (blk_below (g := gb149) (o := .cells #[.slice A0_0 l0_0.length c0_0] 24 (0, 0)) (by (with_reducible repeat (first | refine blk_drewN ?_ _ | refine blk_drew ?_ | refine blk_alloc ?_ _)); exact BK149.out) hb)
                   have n3_ := Aside0.mk (blk_below (g := gb156) (o := .cells #[.int .i64 t150, .int .i64 t151, .int .i64 t152, .int .i64 t153, .int .i64 t154] 28 (0, 0)) (by (with_reducible repeat (first | refine blk_drewN ?_ _ | refine blk_drew ?_ | refine blk_alloc ?_ _)); exact BK156.out) hb)
                   have n4_ := Aside0.mk (below_step (by repeat (first | (with_reducible first | exact HB.out | apply below_alloc | apply pw_below_drewN | apply below_drew1 | refine below_set ?_ GE149.out | refine below_set ?_ GE156.out) | exact HB.out)) hb)
                   clear HO_9; clear HO_11; clear BK149; clear BK156; clear HB
                   have HO_9 := n0_
                   have HO_11 := n1_
                   have BK149 := n2_
                   have BK156 := n3_
                   have HB := n4_
                   clear n0_ n1_ n2_ n3_ n4_
                   (try clear hb)
                   (try clear hb2)
                   (try clear hk)
                   (try clear hi)
                   refine hK.out _ _ ⟨(blk_cell BK149.out 0).trans rfl, HS1_, HS2_, HS3_, HS4_, HS5_, HS6_, HS7_, HS8_, HS9_, HS10_, HS11_, HS12_, HS13_, HS14_, HS15_, HS16_, HS17_, HS18_, HS19_, HS20_, HS21_, HS22_, HS23_, HS24_, HS25_, HS26_, HS27_, HS28_⟩ (fun hHeld => ?_); clear hK K; refine norm_ (a' := ?_) ?_ ?_; rotate_left
                   ·show Act.put _ (some 114) _ = _
                    simp only [Act.put, sA_, sB_, sC_, i64_w, i32_w]; rfl
                   refine pure_ (i := 26) (N := some 115) (v := ?_) (a' := ?_) mB47 rfl rfl (any_of HT_.out (by kernel_rfl)) (fun _ _ _ h => h) (Or.inl ⟨by rfl, ?_⟩) ?_ ?_; rotate_left
                   ·intro w'; go_simp; with_reducible rfl
                   rotate_left
                   ·simp only [Act.put, sA_, sB_, sC_, i64_w, i32_w]; rfl
                   refine pure_ (i := 27) (N := some 116) (v := ?_) (a' := ?_) mB48 rfl rfl (any_of HT_.out (by kernel_rfl)) (fun _ _ _ h => h) (Or.inl ⟨by rfl, ?_⟩) ?_ ?_; rotate_left
                   ·intro w'; go_simp; with_reducible rfl
                   rotate_left
                   ·simp only [Act.put, sA_, sB_, sC_, i64_w, i32_w]; rfl
                   refine pure_ (i := 28) (N := some 117) (v := ?_) (a' := ?_) mB49 rfl rfl (any_of HT_.out (by kernel_rfl)) (fun _ _ _ h => h) (Or.inl ⟨by rfl, ?_⟩) ?_ ?_; rotate_left
                   ·intro w'; go_simp; with_reducible rfl
                   rotate_left
                   ·simp only [Act.put, sA_, sB_, sC_, i64_w, i32_w]; rfl
                   refine done_ (done_of HT_.out (by kernel_rfl)) ?_
                   try go_wp2
                   go_roundg k3
                   case measure => have := HJ5.out; have := HJ19.out; have := HK3.out; omega
                   case rel => exact ⟨(wrap64 (x12_3 + ((rd_T49 t157 x14_3).f3))), (ji38), (wrap64 (x14_3 + 1)), (by first | rfl | (simp; done) | (simp [*]; done)), (by first | rfl | (simp; done) | (simp only [← hji38] <;> (first | rfl | simp)) | (simp [*]; done)), (by first | rfl | (simp; done) | (simp [*]; done)), H', ⟨by have := HJ5.out; have := HJ19.out; have := HK3.out; omega⟩, ⟨by (with_reducible repeat (first | apply Kd.R_alloc | apply Kd.R_drewN | apply Kd.R_drew)); exact HO_9.out⟩, ⟨by (with_reducible repeat (first | apply Kd.R_alloc | apply Kd.R_drewN | apply Kd.R_drew)); exact HO_11.out⟩, ⟨by (with_reducible repeat (first | refine blk_drewN ?_ _ | refine blk_drew ?_ | refine blk_alloc ?_ _)); exact BK149.out⟩, ⟨by (with_reducible repeat (first | refine blk_drewN ?_ _ | refine blk_drew ?_ | refine blk_alloc ?_ _)); exact BK156.out⟩, ⟨by repeat (first | (with_reducible first | exact HB.out | apply below_alloc | apply pw_below_drewN | apply below_drew1 | refine below_set ?_ GE149.out | refine below_set ?_ GE156.out) | exact HB.out)⟩⟩
                  ·replace c46 := Bool.eq_false_iff.mpr c46
                   subst c46
                   have H1 : (some false) = some r := by rw [if_neg (show ¬ (false = true) by decide)] at H; exact H
                   clear H
                   have H := H1
                   clear H1
                   obtain rfl := Option.some.inj H
                   have p166 : 0 ≤ (x14_3 : Int) := of_decide_eq_true (by first | (with_reducible assumption) | assumption)
                   have q166 : x14_3 < (t157.length : Int) := of_decide_eq_true (by first | (with_reducible assumption) | assumption)
                   obtain ⟨ad166, e166, hx166_0, hx166_1, hx166_2, hx166_3, hx166_4, hx166_5, hx166_6⟩ := at_T49 (Kd.R_reads' HO_9.out).2.2 x14_3 p166 q166
                   cases e166
                   replace p166 := eq_true p166
                   replace q166 := eq_true q166
                   obtain ⟨Ao50, co50, eo50⟩ := Kd.R_slice HO_11.out
                   first | subst eo50 | cases eo50
                   have p167 : 0 ≤ (x14_3 : Int) := of_decide_eq_true (by first | (with_reducible assumption) | assumption)
                   have q167 : x14_3 < (t163.length : Int) := of_decide_eq_true (by first | (with_reducible assumption) | assumption)
                   obtain ⟨ad167, e167, hx167_0⟩ := Kd.at_int (Kd.R_reads' HO_11.out).2.2 x14_3 p167 q167
                   cases e167
                   (first | simp only [add_plain] at hx167_0 | skip)
                   replace p167 := eq_true p167
                   replace q167 := eq_true q167
                   try go_wp2
                   have n0_ := Aside0.mk (Kd.R_drew HO_9.out)
                   have n1_ := Aside0.mk (Kd.R_drew HO_11.out)
                   have n2_ := Aside0.mk (blk_drew BK149.out)
                   have n3_ := Aside0.mk (blk_drew BK156.out)
                   have n4_ := Aside0.mk (below_drew1 HB.out)
                   clear HO_9; clear HO_11; clear BK149; clear BK156; clear HB
                   have HO_9 := n0_
                   have HO_11 := n1_
                   have BK149 := n2_
                   have BK156 := n3_
                   have HB := n4_
                   clear n0_ n1_ n2_ n3_ n4_
                   have p168 : 0 ≤ (x14_3 : Int) := of_decide_eq_true (by first | (with_reducible assumption) | assumption)
                   have q168 : x14_3 < (t157.length : Int) := of_decide_eq_true (by first | (with_reducible assumption) | assumption)
                   obtain ⟨ad168, e168, hx168_0, hx168_1, hx168_2, hx168_3, hx168_4, hx168_5, hx168_6⟩ := at_T49 (Kd.R_reads' HO_9.out).2.2 x14_3 p168 q168
                   obtain rfl : ad166 = ad168 := (by injection e168)
                   replace p168 := eq_true p168
                   replace q168 := eq_true q168
                   have p169 : 0 ≤ (x14_3 : Int) := of_decide_eq_true (by first | (with_reducible assumption) | assumption)
                   have q169 : x14_3 < (t157.length : Int) := of_decide_eq_true (by first | (with_reducible assumption) | assumption)
                   obtain ⟨ad169, e169, hx169_0, hx169_1, hx169_2, hx169_3, hx169_4, hx169_5, hx169_6⟩ := at_T49 (Kd.R_reads' HO_9.out).2.2 x14_3 p169 q169
                   obtain rfl : ad166 = ad169 := (by injection e169)
                   replace p169 := eq_true p169
                   replace q169 := eq_true q169
                   have p170 : 0 ≤ (((rd_T49 t157 x14_3).f0) : Int) := of_decide_eq_true (by first | (with_reducible assumption) | assumption)
                   have q170 : ((rd_T49 t157 x14_3).f0) < (t157.length : Int) := of_decide_eq_true (by first | (with_reducible assumption) | assumption)
                   obtain ⟨ad170, e170, hx170_0, hx170_1, hx170_2, hx170_3, hx170_4, hx170_5, hx170_6⟩ := at_T49 (Kd.R_reads' HO_9.out).2.2 ((rd_T49 t157 x14_3).f0) p170 q170
                   obtain rfl : ad166 = ad170 := (by injection e170)
                   replace p170 := eq_true p170
                   replace q170 := eq_true q170
                   have p171 : 0 ≤ (x14_3 : Int) := of_decide_eq_true (by first | (with_reducible assumption) | assumption)
                   have q171 : x14_3 < (t157.length : Int) := of_decide_eq_true (by first | (with_reducible assumption) | assumption)
                   obtain ⟨ad171, e171, hx171_0, hx171_1, hx171_2, hx171_3, hx171_4, hx171_5, hx171_6⟩ := at_T49 (Kd.R_reads' HO_9.out).2.2 x14_3 p171 q171
                   obtain rfl : ad166 = ad171 := (by injection e171)
                   replace p171 := eq_true p171
                   replace q171 := eq_true q171
                   refine start_ (n := 29) (S := fun w' => w'.cell? ⟨gb149, 0, none⟩ = some (.slice A0_0 l0_0.length c0_0) ∧ w'.cell? (ad166.add ((x14_3).toNat * 7)) = some (.int .i64 ((rd_T49 t157 x14_3).f0)) ∧ w'.cell? ⟨(ad166.add ((x14_3).toNat * 7)).block, (ad166.add ((x14_3).toNat * 7)).off + 1, none⟩ = some (.int .i64 ((rd_T49 t157 x14_3).f1)) ∧ w'.cell? ⟨(ad166.add ((x14_3).toNat * 7)).block, (ad166.add ((x14_3).toNat * 7)).off + 2, none⟩ = some (.int .i64 ((rd_T49 t157 x14_3).f2)) ∧ w'.cell? ⟨(ad166.add ((x14_3).toNat * 7)).block, (ad166.add ((x14_3).toNat * 7)).off + 3, none⟩ = some (.int .i64 ((rd_T49 t157 x14_3).f3)) ∧ w'.cell? ⟨(ad166.add ((x14_3).toNat * 7)).block, (ad166.add ((x14_3).toNat * 7)).off + 4, none⟩ = some (.int .i64 ((rd_T49 t157 x14_3).f4)) ∧ w'.cell? ⟨(ad166.add ((x14_3).toNat * 7)).block, (ad166.add ((x14_3).toNat * 7)).off + 5, none⟩ = some (.int .i64 ((rd_T49 t157 x14_3).f5)) ∧ w'.cell? ⟨(ad166.add ((x14_3).toNat * 7)).block, (ad166.add ((x14_3).toNat * 7)).off + 6, none⟩ = some (.int .i64 ((rd_T49 t157 x14_3).f6)) ∧ w'.cell? (ad166.add ((x14_3).toNat * 7)) = some (.int .i64 ((rd_T49 t157 x14_3).f0)) ∧ w'.cell? ⟨(ad166.add ((x14_3).toNat * 7)).block, (ad166.add ((x14_3).toNat * 7)).off + 1, none⟩ = some (.int .i64 ((rd_T49 t157 x14_3).f1)) ∧ w'.cell? ⟨(ad166.add ((x14_3).toNat * 7)).block, (ad166.add ((x14_3).toNat * 7)).off + 2, none⟩ = some (.int .i64 ((rd_T49 t157 x14_3).f2)) ∧ w'.cell? ⟨(ad166.add ((x14_3).toNat * 7)).block, (ad166.add ((x14_3).toNat * 7)).off + 3, none⟩ = some (.int .i64 ((rd_T49 t157 x14_3).f3)) ∧ w'.cell? ⟨(ad166.add ((x14_3).toNat * 7)).block, (ad166.add ((x14_3).toNat * 7)).off + 4, none⟩ = some (.int .i64 ((rd_T49 t157 x14_3).f4)) ∧ w'.cell? ⟨(ad166.add ((x14_3).toNat * 7)).block, (ad166.add ((x14_3).toNat * 7)).off + 5, none⟩ = some (.int .i64 ((rd_T49 t157 x14_3).f5)) ∧ w'.cell? ⟨(ad166.add ((x14_3).toNat * 7)).block, (ad166.add ((x14_3).toNat * 7)).off + 6, none⟩ = some (.int .i64 ((rd_T49 t157 x14_3).f6)) ∧ w'.cell? (ad166.add ((((rd_T49 t157 x14_3).f0)).toNat * 7)) = some (.int .i64 ((rd_T49 t157 ((rd_T49 t157 x14_3).f0)).f0)) ∧ w'.cell? ⟨(ad166.add ((((rd_T49 t157 x14_3).f0)).toNat * 7)).block, (ad166.add ((((rd_T49 t157 x14_3).f0)).toNat * 7)).off + 1, none⟩ = some (.int .i64 ((rd_T49 t157 ((rd_T49 t157 x14_3).f0)).f1)) ∧ w'.cell? ⟨(ad166.add ((((rd_T49 t157 x14_3).f0)).toNat * 7)).block, (ad166.add ((((rd_T49 t157 x14_3).f0)).toNat * 7)).off + 2, none⟩ = some (.int .i64 ((rd_T49 t157 ((rd_T49 t157 x14_3).f0)).f2)) ∧ w'.cell? ⟨(ad166.add ((((rd_T49 t157 x14_3).f0)).toNat * 7)).block, (ad166.add ((((rd_T49 t157 x14_3).f0)).toNat * 7)).off + 3, none⟩ = some (.int .i64 ((rd_T49 t157 ((rd_T49 t157 x14_3).f0)).f3)) ∧ w'.cell? ⟨(ad166.add ((((rd_T49 t157 x14_3).f0)).toNat * 7)).block, (ad166.add ((((rd_T49 t157 x14_3).f0)).toNat * 7)).off + 4, none⟩ = some (.int .i64 ((rd_T49 t157 ((rd_T49 t157 x14_3).f0)).f4)) ∧ w'.cell? ⟨(ad166.add ((((rd_T49 t157 x14_3).f0)).toNat * 7)).block, (ad166.add ((((rd_T49 t157 x14_3).f0)).toNat * 7)).off + 5, none⟩ = some (.int .i64 ((rd_T49 t157 ((rd_T49 t157 x14_3).f0)).f5)) ∧ w'.cell? ⟨(ad166.add ((((rd_T49 t157 x14_3).f0)).toNat * 7)).block, (ad166.add ((((rd_T49 t157 x14_3).f0)).toNat * 7)).off + 6, none⟩ = some (.int .i64 ((rd_T49 t157 ((rd_T49 t157 x14_3).f0)).f6)) ∧ w'.cell? (ad166.add ((x14_3).toNat * 7)) = some (.int .i64 ((rd_T49 t157 x14_3).f0)) ∧ w'.cell? ⟨(ad166.add ((x14_3).toNat * 7)).block, (ad166.add ((x14_3).toNat * 7)).off + 1, none⟩ = some (.int .i64 ((rd_T49 t157 x14_3).f1)) ∧ w'.cell? ⟨(ad166.add ((x14_3).toNat * 7)).block, (ad166.add ((x14_3).toNat * 7)).off + 2, none⟩ = some (.int .i64 ((rd_T49 t157 x14_3).f2)) ∧ w'.cell? ⟨(ad166.add ((x14_3).toNat * 7)).block, (ad166.add ((x14_3).toNat * 7)).off + 3, none⟩ = some (.int .i64 ((rd_T49 t157 x14_3).f3)) ∧ w'.cell? ⟨(ad166.add ((x14_3).toNat * 7)).block, (ad166.add ((x14_3).toNat * 7)).off + 4, none⟩ = some (.int .i64 ((rd_T49 t157 x14_3).f4)) ∧ w'.cell? ⟨(ad166.add ((x14_3).toNat * 7)).block, (ad166.add ((x14_3).toNat * 7)).off + 5, none⟩ = some (.int .i64 ((rd_T49 t157 x14_3).f5)) ∧ w'.cell? ⟨(ad166.add ((x14_3).toNat * 7)).block, (ad166.add ((x14_3).toNat * 7)).off + 6, none⟩ = some (.int .i64 ((rd_T49 t157 x14_3).f6))) (ds := []) mB20 (by kernel_rfl) rfl rfl ⟨(blk_cell BK149.out 0).trans rfl, hx168_0, hx168_1, hx168_2, hx168_3, hx168_4, hx168_5, hx168_6, hx169_0, hx169_1, hx169_2, hx169_3, hx169_4, hx169_5, hx169_6, hx170_0, hx170_1, hx170_2, hx170_3, hx170_4, hx170_5, hx170_6, hx171_0, hx171_1, hx171_2, hx171_3, hx171_4, hx171_5, hx171_6⟩ (fun hHeld => ?_); refine with_tabW plunderlaw6_SerialShape.tab19 plunderlaw6_SerialShape.bits19 (fun HT_ HW_ => ?_)
                   generalize wr.drew = w51 at HO_9 HO_11 BK149 BK156 HB hx168_0 hx168_1 hx168_2 hx168_3 hx168_4 hx168_5 hx168_6 hx169_0 hx169_1 hx169_2 hx169_3 hx169_4 hx169_5 hx169_6 hx170_0 hx170_1 hx170_2 hx170_3 hx170_4 hx170_5 hx170_6 hx171_0 hx171_1 hx171_2 hx171_3 hx171_4 hx171_5 hx171_6 hHeld ⊢
                   refine pure_ (i := 0) (N := some 89) (v := ?_) (a' := ?_) mB21 rfl rfl (any_of HT_.out (by kernel_rfl)) (fun _ _ _ h => h) (Or.inl ⟨by rfl, ?_⟩) ?_ ?_; rotate_left
                   ·intro w'; go_simp; with_reducible rfl
                   rotate_left
                   ·simp only [Act.put, sA_, sB_, sC_, i64_w, i32_w]; rfl
                   refine pure_ (i := 1) (N := some 90) (v := ?_) (a' := ?_) mB22 rfl rfl (any_of HT_.out (by kernel_rfl)) (fun _ _ _ h => h) (Or.inl ⟨by rfl, ?_⟩) ?_ ?_; rotate_left
                   ·intro w'; go_simp; with_reducible rfl
                   rotate_left
                   ·simp only [Act.put, sA_, sB_, sC_, i64_w, i32_w]; rfl
                   refine pure_ (i := 2) (N := some 91) (v := ?_) (a' := ?_) mB23 rfl rfl (any_of HT_.out (by kernel_rfl)) (fun _ _ _ h => h) (Or.inl ⟨by rfl, ?_⟩) ?_ ?_; rotate_left
                   ·intro w'; go_simp; with_reducible rfl
                   rotate_left
                   ·simp only [Act.put, sA_, sB_, sC_, i64_w, i32_w]; rfl
                   refine pure_ (i := 3) (N := some 92) (v := ?_) (a' := ?_) mB24 rfl rfl (any_of HT_.out (by kernel_rfl)) (fun _ _ _ h => h) (Or.inl ⟨by rfl, ?_⟩) ?_ ?_; rotate_left
                   ·intro w'; go_simp; with_reducible rfl
                   rotate_left
                   ·simp only [Act.put, sA_, sB_, sC_, i64_w, i32_w]; rfl
                   refine take_ (i := 4) (N := some 93) (v := ?_) (a' := ?_) mB25 rfl rfl (take_ofW HT_.out HW_.out (by kernel_rfl)) (fun _ _ _ h => h) (Or.inl ⟨by rfl, ?_⟩) hHeld ?_ ?_; rotate_left
                   ·rintro w' ⟨s0, s1, s2, s3, s4, s5, s6, s7, s8, s9, s10, s11, s12, s13, s14, s15, s16, s17, s18, s19, s20, s21, s22, s23, s24, s25, s26, s27, s28⟩
                    go_simp; with_reducible rfl
                   rotate_left
                   ·simp only [Act.put, sA_, sB_, sC_, i64_w, i32_w]; rfl
                   refine pure_ (i := 5) (N := some 94) (v := ?_) (a' := ?_) mB26 rfl rfl (any_of HT_.out (by kernel_rfl)) (fun _ _ _ h => h) (Or.inl ⟨by rfl, ?_⟩) ?_ ?_; rotate_left
                   ·intro w'; go_simp; with_reducible rfl
                   rotate_left
                   ·simp only [Act.put, sA_, sB_, sC_, i64_w, i32_w]; rfl
                   refine pure_ (i := 6) (N := some 95) (v := ?_) (a' := ?_) mB27 rfl rfl (any_of HT_.out (by kernel_rfl)) (fun _ _ _ h => h) (Or.inl ⟨by rfl, ?_⟩) ?_ ?_; rotate_left
                   ·intro w'; go_simp; with_reducible rfl
                   rotate_left
                   ·simp only [Act.put, sA_, sB_, sC_, i64_w, i32_w]; rfl
                   refine pure_ (i := 7) (N := some 96) (v := ?_) (a' := ?_) mB28 rfl rfl (any_of HT_.out (by kernel_rfl)) (fun _ _ _ h => h) (Or.inl ⟨by rfl, ?_⟩) ?_ ?_; rotate_left
                   ·intro w'; go_simp; with_reducible rfl
                   rotate_left
                   ·simp only [Act.put, sA_, sB_, sC_, i64_w, i32_w]; rfl
                   refine pure_ (i := 8) (N := some 97) (v := ?_) (a' := ?_) mB29 rfl rfl (any_of HT_.out (by kernel_rfl)) (fun _ _ _ h => h) (Or.inl ⟨by rfl, ?_⟩) ?_ ?_; rotate_left
                   ·intro w'; go_simp; with_reducible rfl
                   rotate_left
                   ·simp only [Act.put, sA_, sB_, sC_, i64_w, i32_w]; rfl
                   refine pure_ (i := 9) (N := some 98) (v := ?_) (a' := ?_) mB30 rfl rfl (any_of HT_.out (by kernel_rfl)) (fun _ _ _ h => h) (Or.inl ⟨by rfl, ?_⟩) ?_ ?_; rotate_left
                   ·intro w'; go_simp; with_reducible rfl
                   rotate_left
                   ·simp only [Act.put, sA_, sB_, sC_, i64_w, i32_w]; rfl
                   refine pure_ (i := 11) (N := some 100) (v := ?_) (a' := ?_) mB50 rfl rfl (any_of HT_.out (by kernel_rfl)) (fun _ _ _ h => h) (Or.inl ⟨by rfl, ?_⟩) ?_ ?_; rotate_left
                   ·intro w'; go_simp; with_reducible rfl
                   rotate_left
                   ·simp only [Act.put, sA_, sB_, sC_, i64_w, i32_w]; rfl
                   refine pure_ (i := 12) (N := some 101) (v := ?_) (a' := ?_) mB51 rfl rfl (any_of HT_.out (by kernel_rfl)) (fun _ _ _ h => h) (Or.inl ⟨by rfl, ?_⟩) ?_ ?_; rotate_left
                   ·intro w'; go_simp; with_reducible rfl
                   rotate_left
                   ·simp only [Act.put, sA_, sB_, sC_, i64_w, i32_w]; rfl
                   refine pure_ (i := 13) (N := some 102) (v := ?_) (a' := ?_) mB52 rfl rfl (any_of HT_.out (by kernel_rfl)) (fun _ _ _ h => h) (Or.inl ⟨by rfl, ?_⟩) ?_ ?_; rotate_left
                   ·intro w'; go_simp; with_reducible rfl
                   rotate_left
                   ·simp only [Act.put, sA_, sB_, sC_, i64_w, i32_w]; rfl
                   refine pure_ (i := 14) (N := some 103) (v := ?_) (a' := ?_) mB53 rfl rfl (any_of HT_.out (by kernel_rfl)) (fun _ _ _ h => h) (Or.inl ⟨by rfl, ?_⟩) ?_ ?_; rotate_left
                   ·intro w'; go_simp; with_reducible rfl
                   rotate_left
                   ·simp only [Act.put, sA_, sB_, sC_, i64_w, i32_w]; rfl
                   refine pure_ (i := 15) (N := some 104) (v := ?_) (a' := ?_) mB54 rfl rfl (any_of HT_.out (by kernel_rfl)) (fun _ _ _ h => h) (Or.inl ⟨by rfl, ?_⟩) ?_ ?_; rotate_left
                   ·intro w'; go_simp; with_reducible rfl
                   rotate_left
                   ·simp only [Act.put, sA_, sB_, sC_, i64_w, i32_w]; rfl
                   refine pure_ (i := 20) (N := some 109) (v := ?_) (a' := ?_) mB55 rfl rfl (any_of HT_.out (by kernel_rfl)) (fun _ _ _ h => h) (Or.inl ⟨by rfl, ?_⟩) ?_ ?_; rotate_left
                   ·intro w'; go_simp; with_reducible rfl
                   rotate_left
                   ·simp only [Act.put, sA_, sB_, sC_, i64_w, i32_w]; rfl
                   refine pure_ (i := 21) (N := some 110) (v := ?_) (a' := ?_) mB56 rfl rfl (any_of HT_.out (by kernel_rfl)) (fun _ _ _ h => h) (Or.inl ⟨by rfl, ?_⟩) ?_ ?_; rotate_left
                   ·intro w'; go_simp; with_reducible rfl
                   rotate_left
                   ·simp only [Act.put, sA_, sB_, sC_, i64_w, i32_w]; rfl
                   refine pure_ (i := 22) (N := some 111) (v := ?_) (a' := ?_) mB57 rfl rfl (any_of HT_.out (by kernel_rfl)) (fun _ _ _ h => h) (Or.inl ⟨by rfl, ?_⟩) ?_ ?_; rotate_left
                   ·intro w'; go_simp; with_reducible rfl
                   rotate_left
                   ·simp only [Act.put, sA_, sB_, sC_, i64_w, i32_w]; rfl
                   refine pure_ (i := 23) (N := some 112) (v := ?_) (a' := ?_) mB58 rfl rfl (any_of HT_.out (by kernel_rfl)) (fun _ _ _ h => h) (Or.inl ⟨by rfl, ?_⟩) ?_ ?_; rotate_left
                   ·intro w'; go_simp; with_reducible rfl
                   rotate_left
                   ·simp only [Act.put, sA_, sB_, sC_, i64_w, i32_w]; rfl
                   refine take_ (i := 10) (N := some 99) (v := ?_) (a' := ?_) mB59 rfl rfl (take_ofW HT_.out HW_.out (by kernel_rfl)) (fun _ _ _ h => h) (Or.inl ⟨by rfl, ?_⟩) hHeld ?_ ?_; rotate_left
                   ·rintro w' ⟨s0, s1, s2, s3, s4, s5, s6, s7, s8, s9, s10, s11, s12, s13, s14, s15, s16, s17, s18, s19, s20, s21, s22, s23, s24, s25, s26, s27, s28⟩
                    go_simp; with_reducible rfl
                   rotate_left
                   ·simp only [Act.put, sA_, sB_, sC_, i64_w, i32_w]; rfl
                   refine take_ (i := 16) (N := some 105) (v := ?_) (a' := ?_) mB60 rfl rfl (take_ofW HT_.out HW_.out (by kernel_rfl)) (fun _ _ _ h => h) (Or.inl ⟨by rfl, ?_⟩) hHeld ?_ ?_; rotate_left
                   ·rintro w' ⟨s0, s1, s2, s3, s4, s5, s6, s7, s8, s9, s10, s11, s12, s13, s14, s15, s16, s17, s18, s19, s20, s21, s22, s23, s24, s25, s26, s27, s28⟩
                    go_simp; with_reducible rfl
                   rotate_left
                   ·simp only [Act.put, sA_, sB_, sC_, i64_w, i32_w]; rfl
                   refine pure_ (i := 17) (N := some 106) (v := ?_) (a' := ?_) mB61 rfl rfl (any_of HT_.out (by kernel_rfl)) (fun _ _ _ h => h) (Or.inl ⟨by rfl, ?_⟩) ?_ ?_; rotate_left
                   ·intro w'; go_simp; with_reducible rfl
                   rotate_left
                   ·simp only [Act.put, sA_, sB_, sC_, i64_w, i32_w]; rfl
                   refine pure_ (i := 18) (N := some 107) (v := ?_) (a' := ?_) mB62 rfl rfl (any_of HT_.out (by kernel_rfl)) (fun _ _ _ h => h) (Or.inl ⟨by rfl, ?_⟩) ?_ ?_; rotate_left
                   ·intro w'; go_simp; with_reducible rfl
                   rotate_left
                   ·simp only [Act.put, sA_, sB_, sC_, i64_w, i32_w]; rfl
                   refine take_ (i := 19) (N := some 108) (v := ?_) (a' := ?_) mB44 rfl rfl (take_ofW HT_.out HW_.out (by kernel_rfl)) (fun _ _ _ h => h) (Or.inl ⟨by rfl, ?_⟩) hHeld ?_ ?_; rotate_left
                   ·rintro w' ⟨s0, s1, s2, s3, s4, s5, s6, s7, s8, s9, s10, s11, s12, s13, s14, s15, s16, s17, s18, s19, s20, s21, s22, s23, s24, s25, s26, s27, s28⟩
                    go_simp; with_reducible rfl
                   rotate_left
                   ·simp only [Act.put, sA_, sB_, sC_, i64_w, i32_w]; rfl
                   refine take_ (i := 24) (N := some 113) (v := ?_) (a' := ?_) mB45 rfl rfl (take_ofW HT_.out HW_.out (by kernel_rfl)) (fun _ _ _ h => h) (Or.inl ⟨by rfl, ?_⟩) hHeld ?_ ?_; rotate_left
                   ·rintro w' ⟨s0, s1, s2, s3, s4, s5, s6, s7, s8, s9, s10, s11, s12, s13, s14, s15, s16, s17, s18, s19, s20, s21, s22, s23, s24, s25, s26, s27, s28⟩
                    go_simp; with_reducible rfl
                   rotate_left
                   ·simp only [Act.put, sA_, sB_, sC_, i64_w, i32_w]; rfl
                   refine one_ (i := 25) (N := some 114) mB46 rfl rfl (one_of HT_.out (by kernel_rfl)) (by decide) (fun K hK => ?_); refine goes_ Tryd.func26 (by kernel_rfl) rfl #[.agg #[.slice A0_0 l0_0.length c0_0], .int .i64 ((rd_T49 t157 ((rd_T49 t157 x14_3).f0)).f2), .int .i64 ((rd_T49 t157 x14_3).f2)] (by rfl) rfl rfl (by (try simp only [List.map_toArray, List.map_cons, List.map_nil]); first | done | rfl | (simp only [List.length_drop, List.length_take]; rfl)) ?_
                   with_reducible refine (plunderlaw6_spawns.calls k3 _ _ l0_0 ((rd_T49 t157 ((rd_T49 t157 x14_3).f0)).f2) ((rd_T49 t157 x14_3).f2) false _ ?side1 ?side2 A45.out).mono ?_
                   (case side1 => repeat (first | exact (Kd.C_below HR0_0.out HB.out) | (with_reducible refine Kd.C_alloc ?_ _) | (with_reducible refine Kd.C_drewN ?_ _) | (with_reducible refine Kd.C_drew ?_)))
                   (case side2 => exact HC0_0.out)
                   rintro e w52 ⟨rfl, hb⟩
                   have HS1_ := (hb.cell (World.block_lt_of_cell? _ _ (hHeld.2.1))).trans (hHeld.2.1)
                   have HS2_ := (hb.cell (World.block_lt_of_cell? _ _ (hHeld.2.2.1))).trans (hHeld.2.2.1)
                   have HS3_ := (hb.cell (World.block_lt_of_cell? _ _ (hHeld.2.2.2.1))).trans (hHeld.2.2.2.1)
                   have HS4_ := (hb.cell (World.block_lt_of_cell? _ _ (hHeld.2.2.2.2.1))).trans (hHeld.2.2.2.2.1)
                   have HS5_ := (hb.cell (World.block_lt_of_cell? _ _ (hHeld.2.2.2.2.2.1))).trans (hHeld.2.2.2.2.2.1)
                   have HS6_ := (hb.cell (World.block_lt_of_cell? _ _ (hHeld.2.2.2.2.2.2.1))).trans (hHeld.2.2.2.2.2.2.1)
                   have HS7_ := (hb.cell (World.block_lt_of_cell? _ _ (hHeld.2.2.2.2.2.2.2.1))).trans (hHeld.2.2.2.2.2.2.2.1)
                   have HS8_ := (hb.cell (World.block_lt_of_cell? _ _ (hHeld.2.2.2.2.2.2.2.2.1))).trans (hHeld.2.2.2.2.2.2.2.2.1)
                   have HS9_ := (hb.cell (World.block_lt_of_cell? _ _ (hHeld.2.2.2.2.2.2.2.2.2.1))).trans (hHeld.2.2.2.2.2.2.2.2.2.1)
                   have HS10_ := (hb.cell (World.block_lt_of_cell? _ _ (hHeld.2.2.2.2.2.2.2.2.2.2.1))).trans (hHeld.2.2.2.2.2.2.2.2.2.2.1)
                   have HS11_ := (hb.cell (World.block_lt_of_cell? _ _ (hHeld.2.2.2.2.2.2.2.2.2.2.2.1))).trans (hHeld.2.2.2.2.2.2.2.2.2.2.2.1)
                   have HS12_ := (hb.cell (World.block_lt_of_cell? _ _ (hHeld.2.2.2.2.2.2.2.2.2.2.2.2.1))).trans (hHeld.2.2.2.2.2.2.2.2.2.2.2.2.1)
                   have HS13_ := (hb.cell (World.block_lt_of_cell? _ _ (hHeld.2.2.2.2.2.2.2.2.2.2.2.2.2.1))).trans (hHeld.2.2.2.2.2.2.2.2.2.2.2.2.2.1)
                   have HS14_ := (hb.cell (World.block_lt_of_cell? _ _ (hHeld.2.2.2.2.2.2.2.2.2.2.2.2.2.2.1))).trans (hHeld.2.2.2.2.2.2.2.2.2.2.2.2.2.2.1)
                   have HS15_ := (hb.cell (World.block_lt_of_cell? _ _ (hHeld.2.2.2.2.2.2.2.2.2.2.2.2.2.2.2.1))).trans (hHeld.2.2.2.2.2.2.2.2.2.2.2.2.2.2.2.1)
                   have HS16_ := (hb.cell (World.block_lt_of_cell? _ _ (hHeld.2.2.2.2.2.2.2.2.2.2.2.2.2.2.2.2.1))).trans (hHeld.2.2.2.2.2.2.2.2.2.2.2.2.2.2.2.2.1)
                   have HS17_ := (hb.cell (World.block_lt_of_cell? _ _ (hHeld.2.2.2.2.2.2.2.2.2.2.2.2.2.2.2.2.2.1))).trans (hHeld.2.2.2.2.2.2.2.2.2.2.2.2.2.2.2.2.2.1)
                   have HS18_ := (hb.cell (World.block_lt_of_cell? _ _ (hHeld.2.2.2.2.2.2.2.2.2.2.2.2.2.2.2.2.2.2.1))).trans (hHeld.2.2.2.2.2.2.2.2.2.2.2.2.2.2.2.2.2.2.1)
                   have HS19_ := (hb.cell (World.block_lt_of_cell? _ _ (hHeld.2.2.2.2.2.2.2.2.2.2.2.2.2.2.2.2.2.2.2.1))).trans (hHeld.2.2.2.2.2.2.2.2.2.2.2.2.2.2.2.2.2.2.2.1)
                   have HS20_ := (hb.cell (World.block_lt_of_cell? _ _ (hHeld.2.2.2.2.2.2.2.2.2.2.2.2.2.2.2.2.2.2.2.2.1))).trans (hHeld.2.2.2.2.2.2.2.2.2.2.2.2.2.2.2.2.2.2.2.2.1)
                   have HS21_ := (hb.cell (World.block_lt_of_cell? _ _ (hHeld.2.2.2.2.2.2.2.2.2.2.2.2.2.2.2.2.2.2.2.2.2.1))).trans (hHeld.2.2.2.2.2.2.2.2.2.2.2.2.2.2.2.2.2.2.2.2.2.1)
                   have HS22_ := (hb.cell (World.block_lt_of_cell? _ _ (hHeld.2.2.2.2.2.2.2.2.2.2.2.2.2.2.2.2.2.2.2.2.2.2.1))).trans (hHeld.2.2.2.2.2.2.2.2.2.2.2.2.2.2.2.2.2.2.2.2.2.2.1)
                   have HS23_ := (hb.cell (World.block_lt_of_cell? _ _ (hHeld.2.2.2.2.2.2.2.2.2.2.2.2.2.2.2.2.2.2.2.2.2.2.2.1))).trans (hHeld.2.2.2.2.2.2.2.2.2.2.2.2.2.2.2.2.2.2.2.2.2.2.2.1)
                   have HS24_ := (hb.cell (World.block_lt_of_cell? _ _ (hHeld.2.2.2.2.2.2.2.2.2.2.2.2.2.2.2.2.2.2.2.2.2.2.2.2.1))).trans (hHeld.2.2.2.2.2.2.2.2.2.2.2.2.2.2.2.2.2.2.2.2.2.2.2.2.1)
                   have HS25_ := (hb.cell (World.block_lt_of_cell? _ _ (hHeld.2.2.2.2.2.2.2.2.2.2.2.2.2.2.2.2.2.2.2.2.2.2.2.2.2.1))).trans (hHeld.2.2.2.2.2.2.2.2.2.2.2.2.2.2.2.2.2.2.2.2.2.2.2.2.2.1)
                   have HS26_ := (hb.cell (World.block_lt_of_cell? _ _ (hHeld.2.2.2.2.2.2.2.2.2.2.2.2.2.2.2.2.2.2.2.2.2.2.2.2.2.2.1))).trans (hHeld.2.2.2.2.2.2.2.2.2.2.2.2.2.2.2.2.2.2.2.2.2.2.2.2.2.2.1)
                   have HS27_ := (hb.cell (World.block_lt_of_cell? _ _ (hHeld.2.2.2.2.2.2.2.2.2.2.2.2.2.2.2.2.2.2.2.2.2.2.2.2.2.2.2.1))).trans (hHeld.2.2.2.2.2.2.2.2.2.2.2.2.2.2.2.2.2.2.2.2.2.2.2.2.2.2.2.1)
                   have HS28_ := (hb.cell (World.block_lt_of_cell? _ _ (hHeld.2.2.2.2.2.2.2.2.2.2.2.2.2.2.2.2.2.2.2.2.2.2.2.2.2.2.2.2))).trans (hHeld.2.2.2.2.2.2.2.2.2.2.2.2.2.2.2.2.2.2.2.2.2.2.2.2.2.2.2.2)
                   refine ⟨_, rfl, ?_⟩
                   have n0_ := Aside0.mk (Kd.R_below (by (with_reducible repeat (first | apply Kd.R_alloc | apply Kd.R_drewN | apply Kd.R_drew)); exact HO_9.out) hb)
                   have n1_ := Aside0.mk (Kd.R_below (by (with_reducible repeat (first | apply Kd.R_alloc | apply Kd.R_drewN | apply Kd.R_drew)); exact HO_11.out) hb)
                   have n2_ := Aside0.mk (blk_below (g := gb149) (o := .cells #[.slice A0_0 l0_0.length c0_0] 24 (0, 0)) (by (with_reducible repeat (first | refine blk_drewN ?_ _ | refine blk_drew ?_ | refine blk_alloc ?_ _)); exact BK149.out) hb)
                   have n3_ := Aside0.mk (blk_below (g := gb156) (o := .cells #[.int .i64 t150, .int .i64 t151, .int .i64 t152, .int .i64 t153, .int .i64 t154] 28 (0, 0)) (by (with_reducible repeat (first | refine blk_drewN ?_ _ | refine blk_drew ?_ | refine blk_alloc ?_ _)); exact BK156.out) hb)
                   have n4_ := Aside0.mk (below_step (by repeat (first | (with_reducible first | exact HB.out | apply below_alloc | apply pw_below_drewN | apply below_drew1 | refine below_set ?_ GE149.out | refine below_set ?_ GE156.out) | exact HB.out)) hb)
                   clear HO_9; clear HO_11; clear BK149; clear BK156; clear HB
                   have HO_9 := n0_
                   have HO_11 := n1_
                   have BK149 := n2_
                   have BK156 := n3_
                   have HB := n4_
                   clear n0_ n1_ n2_ n3_ n4_
                   (try clear hb)
                   (try clear hb2)
                   (try clear hk)
                   (try clear hi)
                   refine hK.out _ _ ⟨(blk_cell BK149.out 0).trans rfl, HS1_, HS2_, HS3_, HS4_, HS5_, HS6_, HS7_, HS8_, HS9_, HS10_, HS11_, HS12_, HS13_, HS14_, HS15_, HS16_, HS17_, HS18_, HS19_, HS20_, HS21_, HS22_, HS23_, HS24_, HS25_, HS26_, HS27_, HS28_⟩ (fun hHeld => ?_); clear hK K; refine norm_ (a' := ?_) ?_ ?_; rotate_left
                   ·show Act.put _ (some 114) _ = _
                    simp only [Act.put, sA_, sB_, sC_, i64_w, i32_w]; rfl
                   refine pure_ (i := 26) (N := some 115) (v := ?_) (a' := ?_) mB47 rfl rfl (any_of HT_.out (by kernel_rfl)) (fun _ _ _ h => h) (Or.inl ⟨by rfl, ?_⟩) ?_ ?_; rotate_left
                   ·intro w'; go_simp; with_reducible rfl
                   rotate_left
                   ·simp only [Act.put, sA_, sB_, sC_, i64_w, i32_w]; rfl
                   refine pure_ (i := 27) (N := some 116) (v := ?_) (a' := ?_) mB48 rfl rfl (any_of HT_.out (by kernel_rfl)) (fun _ _ _ h => h) (Or.inl ⟨by rfl, ?_⟩) ?_ ?_; rotate_left
                   ·intro w'; go_simp; with_reducible rfl
                   rotate_left
                   ·simp only [Act.put, sA_, sB_, sC_, i64_w, i32_w]; rfl
                   refine pure_ (i := 28) (N := some 117) (v := ?_) (a' := ?_) mB49 rfl rfl (any_of HT_.out (by kernel_rfl)) (fun _ _ _ h => h) (Or.inl ⟨by rfl, ?_⟩) ?_ ?_; rotate_left
                   ·intro w'; go_simp; with_reducible rfl
                   rotate_left
                   ·simp only [Act.put, sA_, sB_, sC_, i64_w, i32_w]; rfl
                   refine done_ (done_of HT_.out (by kernel_rfl)) ?_
                   try go_wp2
                   go_ret
                   exact ⟨by first | rfl | (simp [errW_none, errW_some] <;> rfl) | (simp only [← hji38]; first | rfl | (simp [errW_none, errW_some] <;> rfl)) | (simp [*, errW_none, errW_some] <;> rfl), by repeat (first | (with_reducible first | exact HB.out | apply below_alloc | apply pw_below_drewN | apply below_drew1 | refine below_set ?_ GE149.out | refine below_set ?_ GE156.out) | exact HB.out)⟩
                 ·rw [if_neg c44] at H; exact absurd H (by simp)
                ·rw [if_neg c43] at H; exact absurd H (by simp)
               ·rw [if_neg c42] at H
                have c42b0 : decide (0 < x14_3) = false := decide_eq_false c42
                clear c42
                have H' := Aside0.mk H
                clear H
                have p166 : 0 ≤ (x14_3 : Int) := of_decide_eq_true (by first | (with_reducible assumption) | assumption)
                have q166 : x14_3 < (t157.length : Int) := of_decide_eq_true (by first | (with_reducible assumption) | assumption)
                obtain ⟨ad166, e166, hx166_0, hx166_1, hx166_2, hx166_3, hx166_4, hx166_5, hx166_6⟩ := at_T49 (Kd.R_reads' HO_9.out).2.2 x14_3 p166 q166
                cases e166
                replace p166 := eq_true p166
                replace q166 := eq_true q166
                obtain ⟨Ao53, co53, eo53⟩ := Kd.R_slice HO_11.out
                first | subst eo53 | cases eo53
                have p167 : 0 ≤ (x14_3 : Int) := of_decide_eq_true (by first | (with_reducible assumption) | assumption)
                have q167 : x14_3 < (t163.length : Int) := of_decide_eq_true (by first | (with_reducible assumption) | assumption)
                obtain ⟨ad167, e167, hx167_0⟩ := Kd.at_int (Kd.R_reads' HO_11.out).2.2 x14_3 p167 q167
                cases e167
                (first | simp only [add_plain] at hx167_0 | skip)
                replace p167 := eq_true p167
                replace q167 := eq_true q167
                try go_wp2
                have n0_ := Aside0.mk (Kd.R_drew HO_9.out)
                have n1_ := Aside0.mk (Kd.R_drew HO_11.out)
                have n2_ := Aside0.mk (blk_drew BK149.out)
                have n3_ := Aside0.mk (blk_drew BK156.out)
                have n4_ := Aside0.mk (below_drew1 HB.out)
                clear HO_9; clear HO_11; clear BK149; clear BK156; clear HB
                have HO_9 := n0_
                have HO_11 := n1_
                have BK149 := n2_
                have BK156 := n3_
                have HB := n4_
                clear n0_ n1_ n2_ n3_ n4_
                have p168 : 0 ≤ (x14_3 : Int) := of_decide_eq_true (by first | (with_reducible assumption) | assumption)
                have q168 : x14_3 < (t157.length : Int) := of_decide_eq_true (by first | (with_reducible assumption) | assumption)
                obtain ⟨ad168, e168, hx168_0, hx168_1, hx168_2, hx168_3, hx168_4, hx168_5, hx168_6⟩ := at_T49 (Kd.R_reads' HO_9.out).2.2 x14_3 p168 q168
                obtain rfl : ad166 = ad168 := (by injection e168)
                replace p168 := eq_true p168
                replace q168 := eq_true q168
                refine start_ (n := 29) (S := fun w' => w'.cell? (ad166.add ((x14_3).toNat * 7)) = some (.int .i64 ((rd_T49 t157 x14_3).f0)) ∧ w'.cell? ⟨(ad166.add ((x14_3).toNat * 7)).block, (ad166.add ((x14_3).toNat * 7)).off + 1, none⟩ = some (.int .i64 ((rd_T49 t157 x14_3).f1)) ∧ w'.cell? ⟨(ad166.add ((x14_3).toNat * 7)).block, (ad166.add ((x14_3).toNat * 7)).off + 2, none⟩ = some (.int .i64 ((rd_T49 t157 x14_3).f2)) ∧ w'.cell? ⟨(ad166.add ((x14_3).toNat * 7)).block, (ad166.add ((x14_3).toNat * 7)).off + 3, none⟩ = some (.int .i64 ((rd_T49 t157 x14_3).f3)) ∧ w'.cell? ⟨(ad166.add ((x14_3).toNat * 7)).block, (ad166.add ((x14_3).toNat * 7)).off + 4, none⟩ = some (.int .i64 ((rd_T49 t157 x14_3).f4)) ∧ w'.cell? ⟨(ad166.add ((x14_3).toNat * 7)).block, (ad166.add ((x14_3).toNat * 7)).off + 5, none⟩ = some (.int .i64 ((rd_T49 t157 x14_3).f5)) ∧ w'.cell? ⟨(ad166.add ((x14_3).toNat * 7)).block, (ad166.add ((x14_3).toNat * 7)).off + 6, none⟩ = some (.int .i64 ((rd_T49 t157 x14_3).f6))) (ds := []) mB20 (by kernel_rfl) rfl rfl ⟨hx168_0, hx168_1, hx168_2, hx168_3, hx168_4, hx168_5, hx168_6⟩ (fun hHeld => ?_); refine with_tabW plunderlaw6_SerialShape.tab19 plunderlaw6_SerialShape.bits19 (fun HT_ HW_ => ?_)
                generalize wr.drew = w54 at HO_9 HO_11 BK149 BK156 HB hx168_0 hx168_1 hx168_2 hx168_3 hx168_4 hx168_5 hx168_6 hHeld ⊢
                refine pure_ (i := 0) (N := some 89) (v := ?_) (a' := ?_) mB21 rfl rfl (any_of HT_.out (by kernel_rfl)) (fun _ _ _ h => h) (Or.inl ⟨by rfl, ?_⟩) ?_ ?_; rotate_left
                ·intro w'; go_simp; with_reducible rfl
                rotate_left
                ·simp only [Act.put, sA_, sB_, sC_, i64_w, i32_w]; rfl
                refine pure_ (i := 1) (N := some 90) (v := ?_) (a' := ?_) mB22 rfl rfl (any_of HT_.out (by kernel_rfl)) (fun _ _ _ h => h) (Or.inl ⟨by rfl, ?_⟩) ?_ ?_; rotate_left
                ·intro w'; go_simp; with_reducible rfl
                rotate_left
                ·simp only [Act.put, sA_, sB_, sC_, i64_w, i32_w]; rfl
                refine pure_ (i := 2) (N := some 91) (v := ?_) (a' := ?_) mB23 rfl rfl (any_of HT_.out (by kernel_rfl)) (fun _ _ _ h => h) (Or.inl ⟨by rfl, ?_⟩) ?_ ?_; rotate_left
                ·intro w'; go_simp; with_reducible rfl
                rotate_left
                ·simp only [Act.put, sA_, sB_, sC_, i64_w, i32_w]; rfl
                refine pure_ (i := 3) (N := some 92) (v := ?_) (a' := ?_) mB24 rfl rfl (any_of HT_.out (by kernel_rfl)) (fun _ _ _ h => h) (Or.inl ⟨by rfl, ?_⟩) ?_ ?_; rotate_left
                ·intro w'; go_simp; with_reducible rfl
                rotate_left
                ·simp only [Act.put, sA_, sB_, sC_, i64_w, i32_w]; rfl
                refine take_ (i := 4) (N := some 93) (v := ?_) (a' := ?_) mB25 rfl rfl (take_ofW HT_.out HW_.out (by kernel_rfl)) (fun _ _ _ h => h) (Or.inl ⟨by rfl, ?_⟩) hHeld ?_ ?_; rotate_left
                ·rintro w' ⟨s0, s1, s2, s3, s4, s5, s6⟩
                 go_simp; with_reducible rfl
                rotate_left
                ·simp only [Act.put, sA_, sB_, sC_, i64_w, i32_w]; rfl
                refine pure_ (i := 5) (N := some 94) (v := ?_) (a' := ?_) mB26 rfl rfl (any_of HT_.out (by kernel_rfl)) (fun _ _ _ h => h) (Or.inl ⟨by rfl, ?_⟩) ?_ ?_; rotate_left
                ·intro w'; go_simp; with_reducible rfl
                rotate_left
                ·simp only [Act.put, sA_, sB_, sC_, i64_w, i32_w]; rfl
                refine pure_ (i := 6) (N := some 95) (v := ?_) (a' := ?_) mB27 rfl rfl (any_of HT_.out (by kernel_rfl)) (fun _ _ _ h => h) (Or.inl ⟨by rfl, ?_⟩) ?_ ?_; rotate_left
                ·intro w'; go_simp; with_reducible rfl
                rotate_left
                ·simp only [Act.put, sA_, sB_, sC_, i64_w, i32_w]; rfl
                refine pure_ (i := 7) (N := some 96) (v := ?_) (a' := ?_) mB28 rfl rfl (any_of HT_.out (by kernel_rfl)) (fun _ _ _ h => h) (Or.inl ⟨by rfl, ?_⟩) ?_ ?_; rotate_left
                ·intro w'; go_simp; with_reducible rfl
                rotate_left
                ·simp only [Act.put, sA_, sB_, sC_, i64_w, i32_w]; rfl
                refine pure_ (i := 8) (N := some 97) (v := ?_) (a' := ?_) mB29 rfl rfl (any_of HT_.out (by kernel_rfl)) (fun _ _ _ h => h) (Or.inl ⟨by rfl, ?_⟩) ?_ ?_; rotate_left
                ·intro w'; go_simp; with_reducible rfl
                rotate_left
                ·simp only [Act.put, sA_, sB_, sC_, i64_w, i32_w]; rfl
                refine pure_ (i := 9) (N := some 98) (v := ?_) (a' := ?_) mB30 rfl rfl (any_of HT_.out (by kernel_rfl)) (fun _ _ _ h => h) (Or.inl ⟨by rfl, ?_⟩) ?_ ?_; rotate_left
                ·intro w'; go_simp; with_reducible rfl
                rotate_left
                ·simp only [Act.put, sA_, sB_, sC_, i64_w, i32_w]; rfl
                refine pure_ (i := 10) (N := some 99) (v := undef) (a' := ?_) mB31 rfl rfl (any_of HT_.out (by kernel_rfl)) (fun _ _ _ h => h) (Or.inr ⟨by rfl, rfl⟩) ?_ ?_; rotate_left
                ·simp only [Act.put, sA_, sB_, sC_, i64_w, i32_w]; rfl
                refine pure_ (i := 11) (N := some 100) (v := undef) (a' := ?_) mB32 rfl rfl (any_of HT_.out (by kernel_rfl)) (fun _ _ _ h => h) (Or.inr ⟨by rfl, rfl⟩) ?_ ?_; rotate_left
                ·simp only [Act.put, sA_, sB_, sC_, i64_w, i32_w]; rfl
                refine pure_ (i := 12) (N := some 101) (v := undef) (a' := ?_) mB33 rfl rfl (any_of HT_.out (by kernel_rfl)) (fun _ _ _ h => h) (Or.inr ⟨by rfl, rfl⟩) ?_ ?_; rotate_left
                ·simp only [Act.put, sA_, sB_, sC_, i64_w, i32_w]; rfl
                refine pure_ (i := 13) (N := some 102) (v := undef) (a' := ?_) mB34 rfl rfl (any_of HT_.out (by kernel_rfl)) (fun _ _ _ h => h) (Or.inr ⟨by rfl, rfl⟩) ?_ ?_; rotate_left
                ·simp only [Act.put, sA_, sB_, sC_, i64_w, i32_w]; rfl
                refine pure_ (i := 14) (N := some 103) (v := undef) (a' := ?_) mB35 rfl rfl (any_of HT_.out (by kernel_rfl)) (fun _ _ _ h => h) (Or.inr ⟨by rfl, rfl⟩) ?_ ?_; rotate_left
                ·simp only [Act.put, sA_, sB_, sC_, i64_w, i32_w]; rfl
                refine pure_ (i := 15) (N := some 104) (v := undef) (a' := ?_) mB36 rfl rfl (any_of HT_.out (by kernel_rfl)) (fun _ _ _ h => h) (Or.inr ⟨by rfl, rfl⟩) ?_ ?_; rotate_left
                ·simp only [Act.put, sA_, sB_, sC_, i64_w, i32_w]; rfl
                refine pure_ (i := 16) (N := some 105) (v := undef) (a' := ?_) mB37 rfl rfl (any_of HT_.out (by kernel_rfl)) (fun _ _ _ h => h) (Or.inr ⟨by rfl, rfl⟩) ?_ ?_; rotate_left
                ·simp only [Act.put, sA_, sB_, sC_, i64_w, i32_w]; rfl
                refine pure_ (i := 17) (N := some 106) (v := undef) (a' := ?_) mB38 rfl rfl (any_of HT_.out (by kernel_rfl)) (fun _ _ _ h => h) (Or.inr ⟨by rfl, rfl⟩) ?_ ?_; rotate_left
                ·simp only [Act.put, sA_, sB_, sC_, i64_w, i32_w]; rfl
                refine pure_ (i := 18) (N := some 107) (v := undef) (a' := ?_) mB39 rfl rfl (any_of HT_.out (by kernel_rfl)) (fun _ _ _ h => h) (Or.inr ⟨by rfl, rfl⟩) ?_ ?_; rotate_left
                ·simp only [Act.put, sA_, sB_, sC_, i64_w, i32_w]; rfl
                refine pure_ (i := 19) (N := some 108) (v := undef) (a' := ?_) mB40 rfl rfl (any_of HT_.out (by kernel_rfl)) (fun _ _ _ h => h) (Or.inr ⟨by rfl, rfl⟩) ?_ ?_; rotate_left
                ·simp only [Act.put, sA_, sB_, sC_, i64_w, i32_w]; rfl
                refine pure_ (i := 20) (N := some 109) (v := undef) (a' := ?_) mB41 rfl rfl (any_of HT_.out (by kernel_rfl)) (fun _ _ _ h => h) (Or.inr ⟨by rfl, rfl⟩) ?_ ?_; rotate_left
                ·simp only [Act.put, sA_, sB_, sC_, i64_w, i32_w]; rfl
                refine pure_ (i := 21) (N := some 110) (v := undef) (a' := ?_) mB42 rfl rfl (any_of HT_.out (by kernel_rfl)) (fun _ _ _ h => h) (Or.inr ⟨by rfl, rfl⟩) ?_ ?_; rotate_left
                ·simp only [Act.put, sA_, sB_, sC_, i64_w, i32_w]; rfl
                refine pure_ (i := 22) (N := some 111) (v := undef) (a' := ?_) mB43 rfl rfl (any_of HT_.out (by kernel_rfl)) (fun _ _ _ h => h) (Or.inr ⟨by rfl, rfl⟩) ?_ ?_; rotate_left
                ·simp only [Act.put, sA_, sB_, sC_, i64_w, i32_w]; rfl
                refine pure_ (i := 23) (N := some 112) (v := undef) (a' := ?_) mB44 rfl rfl (any_of HT_.out (by kernel_rfl)) (fun _ _ _ h => h) (Or.inr ⟨by rfl, rfl⟩) ?_ ?_; rotate_left
                ·simp only [Act.put, sA_, sB_, sC_, i64_w, i32_w]; rfl
                refine pure_ (i := 24) (N := some 113) (v := undef) (a' := ?_) mB45 rfl rfl (any_of HT_.out (by kernel_rfl)) (fun _ _ _ h => h) (Or.inr ⟨by rfl, rfl⟩) ?_ ?_; rotate_left
                ·simp only [Act.put, sA_, sB_, sC_, i64_w, i32_w]; rfl
                refine pure_ (i := 25) (N := some 114) (v := undef) (a' := ?_) mB46 rfl rfl (any_of HT_.out (by kernel_rfl)) (fun _ _ _ h => h) (Or.inr ⟨by rfl, rfl⟩) ?_ ?_; rotate_left
                ·simp only [Act.put, sA_, sB_, sC_, i64_w, i32_w]; rfl
                refine pure_ (i := 26) (N := some 115) (v := undef) (a' := ?_) mB47 rfl rfl (any_of HT_.out (by kernel_rfl)) (fun _ _ _ h => h) (Or.inr ⟨by rfl, rfl⟩) ?_ ?_; rotate_left
                ·simp only [Act.put, sA_, sB_, sC_, i64_w, i32_w]; rfl
                refine pure_ (i := 27) (N := some 116) (v := ?_) (a' := ?_) mB48 rfl rfl (any_of HT_.out (by kernel_rfl)) (fun _ _ _ h => h) (Or.inl ⟨by rfl, ?_⟩) ?_ ?_; rotate_left
                ·intro w'; go_simp; with_reducible rfl
                rotate_left
                ·simp only [Act.put, sA_, sB_, sC_, i64_w, i32_w]; rfl
                refine pure_ (i := 28) (N := some 117) (v := ?_) (a' := ?_) mB49 rfl rfl (any_of HT_.out (by kernel_rfl)) (fun _ _ _ h => h) (Or.inl ⟨by rfl, ?_⟩) ?_ ?_; rotate_left
                ·intro w'; go_simp; with_reducible rfl
                rotate_left
                ·simp only [Act.put, sA_, sB_, sC_, i64_w, i32_w]; rfl
                refine done_ (done_of HT_.out (by kernel_rfl)) ?_
                try go_wp2
                go_roundg k3
                case measure => have := HJ5.out; have := HJ19.out; have := HK3.out; omega
                case rel => exact ⟨(wrap64 (x12_3 + ((rd_T49 t157 x14_3).f3))), (ji38), (wrap64 (x14_3 + 1)), (by first | rfl | (simp; done) | (simp [*]; done)), (by first | rfl | (simp; done) | (simp only [← hji38] <;> (first | rfl | simp)) | (simp [*]; done)), (by first | rfl | (simp; done) | (simp [*]; done)), H', ⟨by have := HJ5.out; have := HJ19.out; have := HK3.out; omega⟩, ⟨by (with_reducible repeat (first | apply Kd.R_alloc | apply Kd.R_drewN | apply Kd.R_drew)); exact HO_9.out⟩, ⟨by (with_reducible repeat (first | apply Kd.R_alloc | apply Kd.R_drewN | apply Kd.R_drew)); exact HO_11.out⟩, ⟨by (with_reducible repeat (first | refine blk_drewN ?_ _ | refine blk_drew ?_ | refine blk_alloc ?_ _)); exact BK149.out⟩, ⟨by (with_reducible repeat (first | refine blk_drewN ?_ _ | refine blk_drew ?_ | refine blk_alloc ?_ _)); exact BK156.out⟩, ⟨by repeat (first | (with_reducible first | exact HB.out | apply below_alloc | apply pw_below_drewN | apply below_drew1 | refine below_set ?_ GE149.out | refine below_set ?_ GE156.out) | exact HB.out)⟩⟩
             ·rw [if_neg c37] at H; exact absurd H (by simp)
            ·rw [if_neg c36] at H; exact absurd H (by simp)
           ·rw [if_neg c35] at H
            have c35b0 : decide (x14_3 < (t157.length : Int)) = false := decide_eq_false c35
            clear c35
            by_cases c55 : x12_3 = t151
            ·rw [if_pos c55] at H
             have c55b0 : (x12_3 == t151) = true := beq_iff_eq.mpr c55
             have c55b1 : (x12_3 != t151) = false := bne_eq_false_iff_eq.mpr c55
             clear c55
             obtain rfl := Option.some.inj H
             have hnb56 := NB156_149.out
             have hnc56 := NB149_156.out
             have hcz57_0 : wr.cell? ⟨gb156, 0, none⟩ = some (.int .i64 t150) := (blk_cell BK156.out 0).trans rfl
             have hcz57_1 : wr.cell? ⟨gb156, 1, none⟩ = some (.int .i64 t151) := (blk_cell BK156.out 1).trans rfl
             have hcz57_2 : wr.cell? ⟨gb156, 2, none⟩ = some (.int .i64 t152) := (blk_cell BK156.out 2).trans rfl
             have hcz57_3 : wr.cell? ⟨gb156, 3, none⟩ = some (.int .i64 t153) := (blk_cell BK156.out 3).trans rfl
             have hcz57_4 : wr.cell? ⟨gb156, 4, none⟩ = some (.int .i64 t154) := (blk_cell BK156.out 4).trans rfl
             have hfz57_0 := blk_frozen BK156.out 0
             have hfz57_1 := blk_frozen BK156.out 1
             have hfz57_2 := blk_frozen BK156.out 2
             have hfz57_3 := blk_frozen BK156.out 3
             have hfz57_4 := blk_frozen BK156.out 4
             go_wp2
             go_ret
             exact ⟨by first | rfl | (simp [errW_none, errW_some] <;> rfl) | (simp [*, errW_none, errW_some] <;> rfl), by repeat (first | (with_reducible first | exact HB.out | apply below_alloc | apply pw_below_drewN | apply below_drew1 | refine below_set ?_ GE149.out | refine below_set ?_ GE156.out) | exact HB.out)⟩
            ·rw [if_neg c55] at H
             have c55b0 : (x12_3 == t151) = false := beq_eq_false_iff_ne.mpr c55
             have c55b1 : (x12_3 != t151) = true := bne_iff_ne.mpr c55
             obtain rfl := Option.some.inj H
             have hnb58 := NB156_149.out
             have hnc58 := NB149_156.out
             have hcz59_0 : wr.cell? ⟨gb156, 0, none⟩ = some (.int .i64 t150) := (blk_cell BK156.out 0).trans rfl
             have hcz59_1 : wr.cell? ⟨gb156, 1, none⟩ = some (.int .i64 t151) := (blk_cell BK156.out 1).trans rfl
             have hcz59_2 : wr.cell? ⟨gb156, 2, none⟩ = some (.int .i64 t152) := (blk_cell BK156.out 2).trans rfl
             have hcz59_3 : wr.cell? ⟨gb156, 3, none⟩ = some (.int .i64 t153) := (blk_cell BK156.out 3).trans rfl
             have hcz59_4 : wr.cell? ⟨gb156, 4, none⟩ = some (.int .i64 t154) := (blk_cell BK156.out 4).trans rfl
             have hfz59_0 := blk_frozen BK156.out 0
             have hfz59_1 := blk_frozen BK156.out 1
             have hfz59_2 := blk_frozen BK156.out 2
             have hfz59_3 := blk_frozen BK156.out 3
             have hfz59_4 := blk_frozen BK156.out 4
             go_wp2
             go_ret
             exact ⟨by first | rfl | (simp [errW_none, errW_some] <;> rfl) | (simp [*, errW_none, errW_some] <;> rfl), by repeat (first | (with_reducible first | exact HB.out | apply below_alloc | apply pw_below_drewN | apply below_drew1 | refine below_set ?_ GE149.out | refine below_set ?_ GE156.out) | exact HB.out)⟩
    ·rw [if_neg c19] at H
     have c19b0 : (t155 == 0) = false := beq_eq_false_iff_ne.mpr c19
     have c19b1 : (t155 != 0) = true := bne_iff_ne.mpr c19
     by_cases c60 : (t157.length : Int) = 0
     ·rw [if_pos c60] at H
      have c60b0 : ((t157.length : Int) == 0) = true := beq_iff_eq.mpr c60
      have c60b1 : ((t157.length : Int) != 0) = false := bne_eq_false_iff_eq.mpr c60
      clear c60
      obtain rfl := Option.some.inj H
      obtain ⟨Ao61, co61, eo61⟩ := Kd.R_slice HO_9.out
      subst eo61
      have hnb62 := NB156_149.out
      have hnc62 := NB149_156.out
      have hcz63_0 : wc.cell? ⟨gb156, 0, none⟩ = some (.int .i64 t150) := (blk_cell BK156.out 0).trans rfl
      have hcz63_1 : wc.cell? ⟨gb156, 1, none⟩ = some (.int .i64 t151) := (blk_cell BK156.out 1).trans rfl
      have hcz63_2 : wc.cell? ⟨gb156, 2, none⟩ = some (.int .i64 t152) := (blk_cell BK156.out 2).trans rfl
      have hcz63_3 : wc.cell? ⟨gb156, 3, none⟩ = some (.int .i64 t153) := (blk_cell BK156.out 3).trans rfl
      have hcz63_4 : wc.cell? ⟨gb156, 4, none⟩ = some (.int .i64 t154) := (blk_cell BK156.out 4).trans rfl
      have hfz63_0 := blk_frozen BK156.out 0
      have hfz63_1 := blk_frozen BK156.out 1
      have hfz63_2 := blk_frozen BK156.out 2
      have hfz63_3 := blk_frozen BK156.out 3
      have hfz63_4 := blk_frozen BK156.out 4
      go_wp2
      go_ret
      exact ⟨by first | rfl | (simp [errW_none, errW_some] <;> rfl) | (simp [*, errW_none, errW_some] <;> rfl), by repeat (first | (with_reducible first | exact HB.out | apply below_alloc | apply pw_below_drewN | apply below_drew1 | refine below_set ?_ GE149.out | refine below_set ?_ GE156.out) | exact HB.out)⟩
     ·rw [if_neg c60] at H
      have c60b0 : ((t157.length : Int) == 0) = false := beq_eq_false_iff_ne.mpr c60
      have c60b1 : ((t157.length : Int) != 0) = true := bne_iff_ne.mpr c60
      have c60b2 : ¬ (t157 = []) := fun h_ => c60 (by rw [h_]; rfl)
      obtain rfl := Option.some.inj H
      obtain ⟨Ao64, co64, eo64⟩ := Kd.R_slice HO_9.out
      subst eo64
      go_wp2
      go_ret
      exact ⟨by first | rfl | (simp [errW_none, errW_some] <;> rfl) | (simp [*, errW_none, errW_some] <;> rfl), by repeat (first | (with_reducible first | exact HB.out | apply below_alloc | apply pw_below_drewN | apply below_drew1 | refine below_set ?_ GE149.out | refine below_set ?_ GE156.out) | exact HB.out)⟩

end Go.Proofs.YtcioegimmjppcaaDoor.P
