/- Written by a program: plain Lean functions that answer as Go functions of this seat do, and the proofs that the calls come to these answers. -/
import Derived.Test.YtcioegimmjppcaaDoorZJP
import Derived.Test.YtcioegimmjppcaaDoorZPx8
namespace Go.Proofs.YtcioegimmjppcaaDoor.P
open Go.RowKit Go.Proofs.YtcioegimmjppcaaDoorW.PrintWords Go.Proofs.YtcioegimmjppcaaDoorW.PrintLast Go.Proofs.YtcioegimmjppcaaDoorW.PrintMore
attribute [local go_sem] max2_int min2_int max_two min_two max_three min_three max_four min_four   -- for this text's walks alone
set_option linter.unusedVariables false
set_option linter.unusedSimpArgs false

abbrev T_ : Bool := true
abbrev F_ : Bool := false
theorem cl_ {w w' : World} {a : Addr} {v : Value} (h : Below w.heap.size w w') (hx : w.cell? a = some v) : w'.cell? a = some v := (h.cell (World.block_lt_of_cell? w _ hx)).trans hx
theorem sA_ {α} (l : List α) (i : Nat) (a : α) : l.toArray.setIfInBounds i a = (l.set i a).toArray := List.setIfInBounds_toArray ..
theorem sB_ {α} (x : α) (l : List α) (a : α) : (x :: l).set 0 a = a :: l := List.set_cons_zero ..
theorem sC_ {α} (x : α) (l : List α) (n : Nat) (a : α) : (x :: l).set (n + 1) a = x :: l.set n a := List.set_cons_succ ..

/-! ### plunderlaw6_shaped: function 25 -/
mutual
def plunderlaw6_shaped.l0 : Nat → List (S49) → List Int → List Int → Int → Option (List Int)
 | 0, _, _, _, _ => none
 | k + 1, x0, x3, x4, x5 => if x5 < (x0.length : Int) then (if 0 ≤ x5 then (if x5 = 0 then (if ((rd_T49 x0 x5).f0) = (-1) then (if ((rd_T49 x0 x5).f1) = 0 then (if ((rd_T49 x0 x5).f2) = 0 then (if ((rd_T49 x0 x5).f4) = 1 then (if 0 < (x4.length : Int) then (plunderlaw6_shaped.l0 k x0 x3 (x4.set (0 : Int).toNat 1) (wrap64 (x5 + 1))) else (none)) else (some ([] : List Int))) else (some ([] : List Int))) else (some ([] : List Int))) else (some ([] : List Int))) else (plunderlaw6_shaped.l1 k x0 x3 x4 x5 (wrap64 (x5 - 1)) ((rd_T49 x0 x5).f0) ((rd_T49 x0 x5).f1) ((rd_T49 x0 x5).f2) ((rd_T49 x0 x5).f3) ((rd_T49 x0 x5).f4) ((rd_T49 x0 x5).f5) ((rd_T49 x0 x5).f6))) else (none)) else (some x4)
def plunderlaw6_shaped.l1 : Nat → List (S49) → List Int → List Int → Int → Int → Int → Int → Int → Int → Int → Int → Int → Option (List Int)
 | 0, _, _, _, _, _, _, _, _, _, _, _, _ => none
 | k + 1, x0, x3, x4, x5, x7, x128000, x128001, x128002, x128003, x128004, x128005, x128006 => if x7 > x128000 then (if x7 ≥ 0 then (if 0 ≤ x7 then (if x7 < (x0.length : Int) then (plunderlaw6_shaped.l1 k x0 x3 x4 x5 ((rd_T49 x0 x7).f0) x128000 x128001 x128002 x128003 x128004 x128005 x128006) else (none)) else (none)) else (if x7 < 0 then (some ([] : List Int)) else (if x7 = x128000 then (if 0 ≤ x7 then (if x7 < (x3.length : Int) then (if x128001 = (rd x3 x7) then (if x7 < (x0.length : Int) then ((serial_Ped.f ((rd_T49 x0 x7).f4) x128001).bind fun t132 => (if x128004 = t132 then (if x7 < (x4.length : Int) then (if 0 ≤ x5 then (if x5 < (x4.length : Int) then (plunderlaw6_shaped.l0 k x0 (x3.set (x7 : Int).toNat (wrap64 ((rd x3 x7) + 1))) (x4.set (x5 : Int).toNat (wrap64 ((rd x4 x7) + 1))) (wrap64 (x5 + 1))) else (none)) else (none)) else (none)) else (some ([] : List Int)))) else (none)) else (some ([] : List Int))) else (none)) else (none)) else (some ([] : List Int))))) else (if x7 < 0 then (some ([] : List Int)) else (if x7 = x128000 then (if 0 ≤ x7 then (if x7 < (x3.length : Int) then (if x128001 = (rd x3 x7) then (if x7 < (x0.length : Int) then ((serial_Ped.f ((rd_T49 x0 x7).f4) x128001).bind fun t139 => (if x128004 = t139 then (if x7 < (x4.length : Int) then (if 0 ≤ x5 then (if x5 < (x4.length : Int) then (plunderlaw6_shaped.l0 k x0 (x3.set (x7 : Int).toNat (wrap64 ((rd x3 x7) + 1))) (x4.set (x5 : Int).toNat (wrap64 ((rd x4 x7) + 1))) (wrap64 (x5 + 1))) else (none)) else (none)) else (none)) else (some ([] : List Int)))) else (none)) else (some ([] : List Int))) else (none)) else (none)) else (some ([] : List Int))))
end
def plunderlaw6_shaped.f (k : Nat) (l0 : List (S49)) : Option (List Int) := if 0 ≤ (l0.length : Int) then (if ((l0.length : Int) : Int).toNat ≤ 35184372088832 then (plunderlaw6_shaped.l0 k l0 (List.replicate ((l0.length : Int) : Int).toNat 0) (List.replicate ((l0.length : Int) : Int).toNat 0) 0) else (none)) else (none)
theorem plunderlaw6_shaped.mono_l : ∀ k, (∀ y0 y1 y2 y3, LeO (plunderlaw6_shaped.l0 k y0 y1 y2 y3) (plunderlaw6_shaped.l0 (k + 1) y0 y1 y2 y3)) ∧ (∀ y0 y1 y2 y3 y4 y5 y6 y7 y8 y9 y10 y11, LeO (plunderlaw6_shaped.l1 k y0 y1 y2 y3 y4 y5 y6 y7 y8 y9 y10 y11) (plunderlaw6_shaped.l1 (k + 1) y0 y1 y2 y3 y4 y5 y6 y7 y8 y9 y10 y11))
 | 0 => ⟨fun _ _ _ _ r h => by simp [plunderlaw6_shaped.l0] at h, fun _ _ _ _ _ _ _ _ _ _ _ _ r h => by simp [plunderlaw6_shaped.l1] at h⟩
 | k + 1 => by
  obtain ⟨ih0, ih1⟩ := plunderlaw6_shaped.mono_l k
  refine ⟨?_, ?_⟩
  ·intro y0 y1 y2 y3
   unfold plunderlaw6_shaped.l0
   repeat' first
   | (with_reducible exact ih0 _ _ _ _)
   | (with_reducible exact ih1 _ _ _ _ _ _ _ _ _ _ _ _)
   | (with_reducible exact LeO.refl _)
   | (with_reducible exact LeO.none _)
   | (with_reducible refine LeO.ite ?_ ?_)
   | (with_reducible refine LeO.bind ?_ (fun _ => ?_))
   | exact ih0 _ _ _ _
   | exact ih1 _ _ _ _ _ _ _ _ _ _ _ _
   | exact LeO.none _
   | refine LeO.ite ?_ ?_
   | refine LeO.bind ?_ (fun _ => ?_)
  ·intro y0 y1 y2 y3 y4 y5 y6 y7 y8 y9 y10 y11
   unfold plunderlaw6_shaped.l1
   repeat' first
   | (with_reducible exact ih0 _ _ _ _)
   | (with_reducible exact ih1 _ _ _ _ _ _ _ _ _ _ _ _)
   | (with_reducible exact LeO.refl _)
   | (with_reducible exact LeO.none _)
   | (with_reducible refine LeO.ite ?_ ?_)
   | (with_reducible refine LeO.bind ?_ (fun _ => ?_))
   | exact ih0 _ _ _ _
   | exact ih1 _ _ _ _ _ _ _ _ _ _ _ _
   | exact LeO.none _
   | refine LeO.ite ?_ ?_
   | refine LeO.bind ?_ (fun _ => ?_)
theorem plunderlaw6_shaped.mono : ∀ a0 k, LeO (plunderlaw6_shaped.f k a0) (plunderlaw6_shaped.f (k + 1) a0) := by
 intro a0 k
 obtain ⟨ih0, ih1⟩ := plunderlaw6_shaped.mono_l k
 unfold plunderlaw6_shaped.f
 repeat' first
   | (with_reducible exact ih0 _ _ _ _)
   | (with_reducible exact ih1 _ _ _ _ _ _ _ _ _ _ _ _)
   | (with_reducible exact LeO.refl _)
   | (with_reducible exact LeO.none _)
   | (with_reducible refine LeO.ite ?_ ?_)
   | (with_reducible refine LeO.bind ?_ (fun _ => ?_))
   | exact ih0 _ _ _ _
   | exact ih1 _ _ _ _ _ _ _ _ _ _ _ _
   | exact LeO.none _
   | refine LeO.ite ?_ ?_
   | refine LeO.bind ?_ (fun _ => ?_)
end Go.Proofs.YtcioegimmjppcaaDoor.P
