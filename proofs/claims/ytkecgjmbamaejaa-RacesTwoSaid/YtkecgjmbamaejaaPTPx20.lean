/- Written by a program: plain Lean functions that answer as Go functions of this seat do, and the proofs that the calls come to these answers. -/
import Derived.Test.YtkecgjmbamaejaaPTPx0
import Derived.Test.YtkecgjmbamaejaaPTPx4
import Derived.Test.YtkecgjmbamaejaaPTPx8
import Derived.Test.YtkecgjmbamaejaaPTPx16
import Derived.Test.YtkecgjmbamaejaaPTPx17
import Derived.Test.YtkecgjmbamaejaaPTPx19
import Derived.Test.YtkecgjmbamaejaaPTHead
namespace Go.Proofs.Ytkecgjmbamaejaa.P
open Go.RowKit Go.Proofs.YtkecgjmbamaejaaW.PrintWords Go.Proofs.YtkecgjmbamaejaaW.PrintLast Go.Proofs.YtkecgjmbamaejaaW.PrintMore
attribute [local go_sem] max2_int min2_int max_two min_two max_three min_three max_four min_four   -- for this text's walks alone
set_option linter.unusedVariables false
set_option linter.unusedSimpArgs false

mutual
def plunderlaw19_RacesTwo.j0 : Nat → List (S52) → Int → Int → Bool → Option (Bool)
  | 0, _, _, _, _ => none
  | k + 1, x0, x1, x2, x23 => if x23 = true then ((plunderlaw19_head.f k).bind fun t622 => (some t622)) else ((plunderlaw19_mod.f x1 (x0.length : Int)).bind fun t623 => ((plunderlaw19_mod.f x2 (x0.length : Int)).bind fun t624 => ((races_Parallel.f k x0 t623 t624).bind fun bt625 => ((races_Parallel.f k x0 t624 t623).bind fun bt627 => ((races_Orders.f k x0).bind fun bt629 => (if bt625.2 = 0 then (if bt627.2 = 0 then (if bt629.2.2 = 0 then (if (bt625.1 != bt627.1) = true then (plunderlaw19_RacesTwo.j1 k t623 t624 bt625.1 bt629.1 bt629.2.1 true) else (if (bt629.1.length : Int) = (x0.length : Int) then (plunderlaw19_RacesTwo.j1 k t623 t624 bt625.1 bt629.1 bt629.2.1 ((bt629.2.1.length : Int) != (x0.length : Int))) else (plunderlaw19_RacesTwo.j1 k t623 t624 bt625.1 bt629.1 bt629.2.1 true))) else (plunderlaw19_RacesTwo.j1 k t623 t624 bt625.1 bt629.1 bt629.2.1 true)) else (plunderlaw19_RacesTwo.j1 k t623 t624 bt625.1 bt629.1 bt629.2.1 true)) else (plunderlaw19_RacesTwo.j1 k t623 t624 bt625.1 bt629.1 bt629.2.1 true)))))))
def plunderlaw19_RacesTwo.j1 : Nat → Int → Int → Bool → List Int → List Int → Bool → Option (Bool)
  | 0, _, _, _, _, _, _ => none
  | k + 1, x1, x2, x7, x11, x12, x81 => if x81 = true then (some false) else (if x1 = x2 then (if x7 = true then (some false) else ((plunderlaw19_ahead.f k x11 x1 x2).bind fun t636 => (some (t636 == (-1))))) else ((plunderlaw19_ahead.f k x11 x1 x2).bind fun t637 => ((plunderlaw19_ahead.f k x12 x1 x2).bind fun t638 => (if t637 = 0 then (plunderlaw19_RacesTwo.j2 k x1 x2 x7 t637 t638 true) else (plunderlaw19_RacesTwo.j2 k x1 x2 x7 t637 t638 (t638 == 0))))))
def plunderlaw19_RacesTwo.j2 : Nat → Int → Int → Bool → Int → Int → Bool → Option (Bool)
  | 0, _, _, _, _, _, _ => none
  | k + 1, x1, x2, x7, x14, x15, x107 => if x107 = true then (some false) else (if x7 = true then (some (x14 != x15)) else (if x14 = x15 then (some ((x14 == 1) == (decide (x1 < x2)))) else (some false)))
end
def plunderlaw19_RacesTwo.f (k : Nat) (l0 : List (S52)) (a1 : Int) (a2 : Int) : Option (Bool) := (plunderlaw19_sound.f k l0).bind fun t621 => (if t621 = true then (plunderlaw19_RacesTwo.j0 k l0 a1 a2 (decide ((l0.length : Int) < 2))) else (plunderlaw19_RacesTwo.j0 k l0 a1 a2 true))
set_option maxHeartbeats 8000000 in
set_option maxRecDepth 100000 in
theorem plunderlaw19_RacesTwo.calls (k : Nat) (A0 : Option Addr) (c0 : Nat) (l0 : List (S52)) (a1 : Int) (a2 : Int) (r : Bool) (w : World) (hr0 : Kd.C k52 w A0 l0.length l0) (hc0 : l0.length ≤ c0) (h : plunderlaw19_RacesTwo.f k l0 a1 a2 = some r) :
    Calls Try.prog 10 #[.slice A0 l0.length c0, .int .i64 a1, .int .i64 a2] w fun e w' => e = .returned (.bool r) ∧ Below w.heap.size w w' := by
  have HR0 := Aside0.mk hr0
  have HC0 := Aside0.mk hc0
  clear hr0 hc0
  have HB := Aside0.mk (Below.refl w.heap.size w)
  have H : ((plunderlaw19_sound.f k l0).bind fun t621 => (if t621 = true then (plunderlaw19_RacesTwo.j0 k l0 a1 a2 (decide ((l0.length : Int) < 2))) else (plunderlaw19_RacesTwo.j0 k l0 a1 a2 true))) = some r := h
  clear h
  have HC4 := Aside0.mk H
  clear H
  go_enter Try.func10, Try.ntmps10
  go_upto_region 1 with (fail)
  go_cut [23] (fun v23 wc => ∃ (kq : Nat) (x23_3 : Bool), v23 = .bool x23_3 ∧ Aside0 (plunderlaw19_RacesTwo.j0 kq l0 a1 a2 x23_3 = some r) ∧ Aside0 (kq ≤ k) ∧ Aside0 (Below w.heap.size w wc))
  case first =>
    have H := HC4.out
    clear HC4
    replace H := Option.bind_eq_some_iff.mp H
    obtain ⟨t621, A50, H⟩ := H
    replace H : (if t621 = true then (plunderlaw19_RacesTwo.j0 k l0 a1 a2 (decide ((l0.length : Int) < 2))) else (plunderlaw19_RacesTwo.j0 k l0 a1 a2 true)) = some r := H
    have A5 := Aside0.mk A50
    clear A50
    by_cases c6 : t621 = true
    · subst c6
      have H1 : (plunderlaw19_RacesTwo.j0 k l0 a1 a2 (decide ((l0.length : Int) < 2))) = some r := by rw [if_pos rfl] at H; exact H
      clear H
      have H := H1
      clear H1
      have H' := Aside0.mk H
      clear H
      go_wp2_with (first | ((with_reducible refine gate_callee (f := 29) rfl ?_); refine goesL_ (some 17) rfl rfl Try.func29 (by kernel_rfl) rfl #[.slice A0 l0.length c0] rfl (by (try simp only [List.map_toArray, List.map_cons, List.map_nil]); first | done | rfl | (simp only [List.length_drop, List.length_take]; rfl)) ?_; (with_reducible refine (plunderlaw19_sound.calls k _ _ l0 true _ ?side1 ?side2 A5.out).mono ?_); (case side1 => repeat (first | exact (Kd.C_below HR0.out HB.out) | (with_reducible refine Kd.C_alloc ?_ _) | (with_reducible refine Kd.C_drewN ?_ _) | (with_reducible refine Kd.C_drew ?_))); (case side2 => exact HC0.out); rintro e w' ⟨rfl, ⟨nd, rfl⟩⟩; refine ⟨_, rfl, ?_⟩))
      go_meet
      case rel => exact ⟨_, (decide ((l0.length : Int) < 2)), (by first | rfl | (simp; done) | (simp [*]; done)), H', ⟨by first | omega | exact Nat.le_refl _⟩, ⟨by repeat (first | (with_reducible first | exact HB.out | apply below_alloc | apply pw_below_drewN | apply below_drew1) | exact HB.out)⟩⟩
    · replace c6 := Bool.eq_false_iff.mpr c6
      subst c6
      have H1 : (plunderlaw19_RacesTwo.j0 k l0 a1 a2 true) = some r := by rw [if_neg (show ¬ (false = true) by decide)] at H; exact H
      clear H
      have H := H1
      clear H1
      have H' := Aside0.mk H
      clear H
      go_wp2_with (first | ((with_reducible refine gate_callee (f := 29) rfl ?_); refine goesL_ (some 17) rfl rfl Try.func29 (by kernel_rfl) rfl #[.slice A0 l0.length c0] rfl (by (try simp only [List.map_toArray, List.map_cons, List.map_nil]); first | done | rfl | (simp only [List.length_drop, List.length_take]; rfl)) ?_; (with_reducible refine (plunderlaw19_sound.calls k _ _ l0 false _ ?side1 ?side2 A5.out).mono ?_); (case side1 => repeat (first | exact (Kd.C_below HR0.out HB.out) | (with_reducible refine Kd.C_alloc ?_ _) | (with_reducible refine Kd.C_drewN ?_ _) | (with_reducible refine Kd.C_drew ?_))); (case side2 => exact HC0.out); rintro e w' ⟨rfl, ⟨nd, rfl⟩⟩; refine ⟨_, rfl, ?_⟩))
      go_meet
      case rel => exact ⟨_, (true), (by first | rfl | (simp; done) | (simp [*]; done)), H', ⟨by first | omega | exact Nat.le_refl _⟩, ⟨by repeat (first | (with_reducible first | exact HB.out | apply below_alloc | apply pw_below_drewN | apply below_drew1) | exact HB.out)⟩⟩
  case rest =>
    clear HC4
    try clear c1
    try clear c2
    try clear p2
    try clear c6
    obtain ⟨kq, x23_3, rfl, HA, HJ3, HB⟩ := hcut
    cases kq with
    | zero => exact absurd HA.out (by simp [plunderlaw19_RacesTwo.j0])
    | succ kj3 =>
      have H := HA.out
      clear HA
      simp only [plunderlaw19_RacesTwo.j0] at H
      by_cases c7 : x23_3 = true
      · subst c7
        have H1 : ((plunderlaw19_head.f kj3).bind fun t622 => (some t622)) = some r := by rw [if_pos rfl] at H; exact H
        clear H
        have H := H1
        clear H1
        replace H := Option.bind_eq_some_iff.mp H
        obtain ⟨t622, A80, H⟩ := H
        replace H : (some t622) = some r := H
        have A8 := Aside0.mk A80
        clear A80
        obtain rfl := Option.some.inj H
        go_wp2_with (first | ((with_reducible refine gate_callee (f := 30) rfl ?_); refine goesL_ (some 24) rfl rfl Try.func30 (by kernel_rfl) rfl #[] rfl (by (try simp only [List.map_toArray, List.map_cons, List.map_nil]); first | done | rfl | (simp only [List.length_drop, List.length_take]; rfl)) ?_; (with_reducible refine (plunderlaw19_head.calls kj3  t622 _ A8.out).mono ?_); rintro e w9 ⟨rfl, hb⟩; refine ⟨_, rfl, ?_⟩; have n0_ := Aside0.mk (below_step (by repeat (first | (with_reducible first | exact HB.out | apply below_alloc | apply pw_below_drewN | apply below_drew1) | exact HB.out)) hb); clear HB; have HB := n0_; clear n0_; (try clear hb); (try clear hb2); (try clear hk); (try clear hi)))
        go_ret
        exact ⟨by first | rfl | (simp [errW_none, errW_some] <;> rfl) | (simp [*, errW_none, errW_some] <;> rfl), by repeat (first | (with_reducible first | exact HB.out | apply below_alloc | apply pw_below_drewN | apply below_drew1) | exact HB.out)⟩
      · replace c7 := Bool.eq_false_iff.mpr c7
        subst c7
        have H1 : ((plunderlaw19_mod.f a1 (l0.length : Int)).bind fun t623 => ((plunderlaw19_mod.f a2 (l0.length : Int)).bind fun t624 => ((races_Parallel.f kj3 l0 t623 t624).bind fun bt625 => ((races_Parallel.f kj3 l0 t624 t623).bind fun bt627 => ((races_Orders.f kj3 l0).bind fun bt629 => (if bt625.2 = 0 then (if bt627.2 = 0 then (if bt629.2.2 = 0 then (if (bt625.1 != bt627.1) = true then (plunderlaw19_RacesTwo.j1 kj3 t623 t624 bt625.1 bt629.1 bt629.2.1 true) else (if (bt629.1.length : Int) = (l0.length : Int) then (plunderlaw19_RacesTwo.j1 kj3 t623 t624 bt625.1 bt629.1 bt629.2.1 ((bt629.2.1.length : Int) != (l0.length : Int))) else (plunderlaw19_RacesTwo.j1 kj3 t623 t624 bt625.1 bt629.1 bt629.2.1 true))) else (plunderlaw19_RacesTwo.j1 kj3 t623 t624 bt625.1 bt629.1 bt629.2.1 true)) else (plunderlaw19_RacesTwo.j1 kj3 t623 t624 bt625.1 bt629.1 bt629.2.1 true)) else (plunderlaw19_RacesTwo.j1 kj3 t623 t624 bt625.1 bt629.1 bt629.2.1 true))))))) = some r := by rw [if_neg (show ¬ (false = true) by decide)] at H; exact H
        clear H
        have H := H1
        clear H1
        replace H := Option.bind_eq_some_iff.mp H
        obtain ⟨t623, A100, H⟩ := H
        replace H : ((plunderlaw19_mod.f a2 (l0.length : Int)).bind fun t624 => ((races_Parallel.f kj3 l0 t623 t624).bind fun bt625 => ((races_Parallel.f kj3 l0 t624 t623).bind fun bt627 => ((races_Orders.f kj3 l0).bind fun bt629 => (if bt625.2 = 0 then (if bt627.2 = 0 then (if bt629.2.2 = 0 then (if (bt625.1 != bt627.1) = true then (plunderlaw19_RacesTwo.j1 kj3 t623 t624 bt625.1 bt629.1 bt629.2.1 true) else (if (bt629.1.length : Int) = (l0.length : Int) then (plunderlaw19_RacesTwo.j1 kj3 t623 t624 bt625.1 bt629.1 bt629.2.1 ((bt629.2.1.length : Int) != (l0.length : Int))) else (plunderlaw19_RacesTwo.j1 kj3 t623 t624 bt625.1 bt629.1 bt629.2.1 true))) else (plunderlaw19_RacesTwo.j1 kj3 t623 t624 bt625.1 bt629.1 bt629.2.1 true)) else (plunderlaw19_RacesTwo.j1 kj3 t623 t624 bt625.1 bt629.1 bt629.2.1 true)) else (plunderlaw19_RacesTwo.j1 kj3 t623 t624 bt625.1 bt629.1 bt629.2.1 true)))))) = some r := H
        have A10 := Aside0.mk A100
        clear A100
        replace H := Option.bind_eq_some_iff.mp H
        obtain ⟨t624, A110, H⟩ := H
        replace H : ((races_Parallel.f kj3 l0 t623 t624).bind fun bt625 => ((races_Parallel.f kj3 l0 t624 t623).bind fun bt627 => ((races_Orders.f kj3 l0).bind fun bt629 => (if bt625.2 = 0 then (if bt627.2 = 0 then (if bt629.2.2 = 0 then (if (bt625.1 != bt627.1) = true then (plunderlaw19_RacesTwo.j1 kj3 t623 t624 bt625.1 bt629.1 bt629.2.1 true) else (if (bt629.1.length : Int) = (l0.length : Int) then (plunderlaw19_RacesTwo.j1 kj3 t623 t624 bt625.1 bt629.1 bt629.2.1 ((bt629.2.1.length : Int) != (l0.length : Int))) else (plunderlaw19_RacesTwo.j1 kj3 t623 t624 bt625.1 bt629.1 bt629.2.1 true))) else (plunderlaw19_RacesTwo.j1 kj3 t623 t624 bt625.1 bt629.1 bt629.2.1 true)) else (plunderlaw19_RacesTwo.j1 kj3 t623 t624 bt625.1 bt629.1 bt629.2.1 true)) else (plunderlaw19_RacesTwo.j1 kj3 t623 t624 bt625.1 bt629.1 bt629.2.1 true))))) = some r := H
        have A11 := Aside0.mk A110
        clear A110
        replace H := Option.bind_eq_some_iff.mp H
        obtain ⟨⟨t625, t626⟩, A120, H⟩ := H
        replace H : ((races_Parallel.f kj3 l0 t624 t623).bind fun bt627 => ((races_Orders.f kj3 l0).bind fun bt629 => (if t626 = 0 then (if bt627.2 = 0 then (if bt629.2.2 = 0 then (if (t625 != bt627.1) = true then (plunderlaw19_RacesTwo.j1 kj3 t623 t624 t625 bt629.1 bt629.2.1 true) else (if (bt629.1.length : Int) = (l0.length : Int) then (plunderlaw19_RacesTwo.j1 kj3 t623 t624 t625 bt629.1 bt629.2.1 ((bt629.2.1.length : Int) != (l0.length : Int))) else (plunderlaw19_RacesTwo.j1 kj3 t623 t624 t625 bt629.1 bt629.2.1 true))) else (plunderlaw19_RacesTwo.j1 kj3 t623 t624 t625 bt629.1 bt629.2.1 true)) else (plunderlaw19_RacesTwo.j1 kj3 t623 t624 t625 bt629.1 bt629.2.1 true)) else (plunderlaw19_RacesTwo.j1 kj3 t623 t624 t625 bt629.1 bt629.2.1 true)))) = some r := H
        have A12 := Aside0.mk A120
        clear A120
        replace H := Option.bind_eq_some_iff.mp H
        obtain ⟨⟨t627, t628⟩, A130, H⟩ := H
        replace H : ((races_Orders.f kj3 l0).bind fun bt629 => (if t626 = 0 then (if t628 = 0 then (if bt629.2.2 = 0 then (if (t625 != t627) = true then (plunderlaw19_RacesTwo.j1 kj3 t623 t624 t625 bt629.1 bt629.2.1 true) else (if (bt629.1.length : Int) = (l0.length : Int) then (plunderlaw19_RacesTwo.j1 kj3 t623 t624 t625 bt629.1 bt629.2.1 ((bt629.2.1.length : Int) != (l0.length : Int))) else (plunderlaw19_RacesTwo.j1 kj3 t623 t624 t625 bt629.1 bt629.2.1 true))) else (plunderlaw19_RacesTwo.j1 kj3 t623 t624 t625 bt629.1 bt629.2.1 true)) else (plunderlaw19_RacesTwo.j1 kj3 t623 t624 t625 bt629.1 bt629.2.1 true)) else (plunderlaw19_RacesTwo.j1 kj3 t623 t624 t625 bt629.1 bt629.2.1 true))) = some r := H
        have A13 := Aside0.mk A130
        clear A130
        replace H := Option.bind_eq_some_iff.mp H
        obtain ⟨⟨t629, t630, t631⟩, A140, H⟩ := H
        replace H : (if t626 = 0 then (if t628 = 0 then (if t631 = 0 then (if (t625 != t627) = true then (plunderlaw19_RacesTwo.j1 kj3 t623 t624 t625 t629 t630 true) else (if (t629.length : Int) = (l0.length : Int) then (plunderlaw19_RacesTwo.j1 kj3 t623 t624 t625 t629 t630 ((t630.length : Int) != (l0.length : Int))) else (plunderlaw19_RacesTwo.j1 kj3 t623 t624 t625 t629 t630 true))) else (plunderlaw19_RacesTwo.j1 kj3 t623 t624 t625 t629 t630 true)) else (plunderlaw19_RacesTwo.j1 kj3 t623 t624 t625 t629 t630 true)) else (plunderlaw19_RacesTwo.j1 kj3 t623 t624 t625 t629 t630 true)) = some r := H
        have A14 := Aside0.mk A140
        clear A140
        have HC15 := Aside0.mk H
        clear H
        go_upto_region 8 with (first | ((with_reducible refine gate_callee (f := 33) rfl ?_); refine goesL_ (some 28) rfl rfl Try.func33 (by kernel_rfl) rfl #[.int .i64 a1, .int .i64 (l0.length : Int)] rfl (by (try simp only [List.map_toArray, List.map_cons, List.map_nil]); first | done | rfl | (simp only [List.length_drop, List.length_take]; rfl)) ?_; (with_reducible refine (plunderlaw19_mod.calls a1 (l0.length : Int) t623 _ A10.out).mono ?_); rintro e w' ⟨rfl, ⟨nd, rfl⟩⟩; refine ⟨_, rfl, ?_⟩) | ((with_reducible refine gate_callee (f := 33) rfl ?_); refine goesL_ (some 32) rfl rfl Try.func33 (by kernel_rfl) rfl #[.int .i64 a2, .int .i64 (l0.length : Int)] rfl (by (try simp only [List.map_toArray, List.map_cons, List.map_nil]); first | done | rfl | (simp only [List.length_drop, List.length_take]; rfl)) ?_; (with_reducible refine (plunderlaw19_mod.calls a2 (l0.length : Int) t624 _ A11.out).mono ?_); rintro e w' ⟨rfl, ⟨nd, rfl⟩⟩; refine ⟨_, rfl, ?_⟩) | ((with_reducible refine gate_callee (f := 20) rfl ?_); refine goesL_ (some 37) rfl rfl Try.func20 (by kernel_rfl) rfl #[.slice A0 l0.length c0, .int .i64 t623, .int .i64 t624] rfl (by (try simp only [List.map_toArray, List.map_cons, List.map_nil]); first | done | rfl | (simp only [List.length_drop, List.length_take]; rfl)) ?_; (with_reducible refine (races_Parallel.calls kj3 _ _ l0 t623 t624 t625 t626 _ ?side1 ?side2 A12.out).mono ?_); (case side1 => repeat (first | exact (Kd.C_below HR0.out (by repeat (first | (with_reducible first | exact HB.out | apply below_alloc | apply pw_below_drewN | apply below_drew1) | exact HB.out))) | (with_reducible refine Kd.C_alloc ?_ _) | (with_reducible refine Kd.C_drewN ?_ _) | (with_reducible refine Kd.C_drew ?_))); (case side2 => exact HC0.out); rintro e w16 ⟨rfl, hb⟩; refine ⟨_, rfl, ?_⟩; have n0_ := Aside0.mk (below_step (by repeat (first | (with_reducible first | exact HB.out | apply below_alloc | apply pw_below_drewN | apply below_drew1) | exact HB.out)) hb); clear HB; have HB := n0_; clear n0_; (try clear hb); (try clear hb2); (try clear hk); (try clear hi)) | ((with_reducible refine gate_callee (f := 20) rfl ?_); refine goesL_ (some 44) rfl rfl Try.func20 (by kernel_rfl) rfl #[.slice A0 l0.length c0, .int .i64 t624, .int .i64 t623] rfl (by (try simp only [List.map_toArray, List.map_cons, List.map_nil]); first | done | rfl | (simp only [List.length_drop, List.length_take]; rfl)) ?_; (with_reducible refine (races_Parallel.calls kj3 _ _ l0 t624 t623 t627 t628 _ ?side1 ?side2 A13.out).mono ?_); (case side1 => repeat (first | exact (Kd.C_below HR0.out HB.out) | (with_reducible refine Kd.C_alloc ?_ _) | (with_reducible refine Kd.C_drewN ?_ _) | (with_reducible refine Kd.C_drew ?_))); (case side2 => exact HC0.out); rintro e w17 ⟨rfl, hb⟩; refine ⟨_, rfl, ?_⟩; have n0_ := Aside0.mk (below_step (by repeat (first | (with_reducible first | exact HB.out | apply below_alloc | apply pw_below_drewN | apply below_drew1) | exact HB.out)) hb); clear HB; have HB := n0_; clear n0_; (try clear hb); (try clear hb2); (try clear hk); (try clear hi)) | ((with_reducible refine gate_callee (f := 13) rfl ?_); refine goesL_ (some 49) rfl rfl Try.func13 (by kernel_rfl) rfl #[.slice A0 l0.length c0] rfl (by (try simp only [List.map_toArray, List.map_cons, List.map_nil]); first | done | rfl | (simp only [List.length_drop, List.length_take]; rfl)) ?_; (with_reducible refine (races_Orders.calls kj3 _ _ l0 t629 t630 t631 _ ?side1 ?side2 A14.out).mono ?_); (case side1 => repeat (first | exact (Kd.C_below HR0.out HB.out) | (with_reducible refine Kd.C_alloc ?_ _) | (with_reducible refine Kd.C_drewN ?_ _) | (with_reducible refine Kd.C_drew ?_))); (case side2 => exact HC0.out); rintro e w18 ⟨v632, v634, rfl, ho0, ho1, hb⟩; refine ⟨_, rfl, ?_⟩; have n0_ := Aside0.mk (Kd.R_lower ho0 (below_size (by repeat (first | (with_reducible first | exact HB.out | apply below_alloc | apply pw_below_drewN | apply below_drew1) | exact HB.out)))); have n1_ := Aside0.mk (Kd.R_lower ho1 (below_size (by repeat (first | (with_reducible first | exact HB.out | apply below_alloc | apply pw_below_drewN | apply below_drew1) | exact HB.out)))); have n2_ := Aside0.mk (below_step (by repeat (first | (with_reducible first | exact HB.out | apply below_alloc | apply pw_below_drewN | apply below_drew1) | exact HB.out)) hb); clear HB; have HO633 := n0_; have HO635 := n1_; have HB := n2_; clear n0_ n1_ n2_; (try clear hb); (try clear hb2); (try clear hk); (try clear hi); (try clear ho0); (try clear ho1)))
        (try simp only [Act.put, List.setIfInBounds_toArray, List.set_cons_zero, List.set_cons_succ])
        go_cut [81] (fun v81 wc => ∃ (kq : Nat) (x81_14 : Bool), v81 = .bool x81_14 ∧ Aside0 (plunderlaw19_RacesTwo.j1 kq t623 t624 t625 t629 t630 x81_14 = some r) ∧ Aside0 (kq ≤ kj3) ∧ Aside0 (Kd.R (Kd.int .i64) 3 wc w.heap.size (fun k_ => some k_ ≠ (v634 : Value).ownBlock) v632 t629) ∧ Aside0 (Kd.R (Kd.int .i64) 3 wc w.heap.size (fun k_ => some k_ ≠ (v632 : Value).ownBlock) v634 t630) ∧ Aside0 (Below w.heap.size w wc))
        case first =>
          have H := HC15.out
          clear HC15
          by_cases c19 : t626 = 0
          · rw [if_pos c19] at H
            have c19b0 : (t626 == 0) = true := beq_iff_eq.mpr c19
            have c19b1 : (t626 != 0) = false := bne_eq_false_iff_eq.mpr c19
            clear c19
            (first | rw [c19b0] | (simp only [i64_w, i32_w]; rw [c19b0]) | skip)
            by_cases c20 : t628 = 0
            · rw [if_pos c20] at H
              have c20b0 : (t628 == 0) = true := beq_iff_eq.mpr c20
              have c20b1 : (t628 != 0) = false := bne_eq_false_iff_eq.mpr c20
              clear c20
              by_cases c21 : t631 = 0
              · rw [if_pos c21] at H
                have c21b0 : (t631 == 0) = true := beq_iff_eq.mpr c21
                have c21b1 : (t631 != 0) = false := bne_eq_false_iff_eq.mpr c21
                clear c21
                by_cases c22 : (t625 != t627) = true
                · rw [if_pos c22] at H
                  have c22b0 : (t625 != t627) = true := c22
                  (try (have c22b1 : decide (t625 = t627) = false := by simpa using c22))
                  (try (have c22b2 : (t625 == t627) = false := by simpa using c22))
                  (try (have c22b3 : ¬ (t625 = t627) := by simpa using c22))
                  clear c22
                  have H' := Aside0.mk H
                  clear H
                  go_wp2
                  go_meet
                  case rel => exact ⟨_, (true), (by first | rfl | (simp; done) | (simp [*]; done)), H', ⟨by have := HJ3.out; first | omega | exact Nat.le_refl _⟩, ⟨by (with_reducible repeat (first | apply Kd.R_alloc | apply Kd.R_drewN | apply Kd.R_drew)); exact HO633.out⟩, ⟨by (with_reducible repeat (first | apply Kd.R_alloc | apply Kd.R_drewN | apply Kd.R_drew)); exact HO635.out⟩, ⟨by repeat (first | (with_reducible first | exact HB.out | apply below_alloc | apply pw_below_drewN | apply below_drew1) | exact HB.out)⟩⟩
                · rw [if_neg c22] at H
                  have c22b0 : (t625 != t627) = false := by simpa using c22
                  (try (have c22b1 : decide (t625 = t627) = true := by simpa using c22))
                  (try (have c22b2 : (t625 == t627) = true := by simpa using c22))
                  clear c22
                  by_cases c23 : (t629.length : Int) = (l0.length : Int)
                  · rw [if_pos c23] at H
                    have c23b0 : ((t629.length : Int) == (l0.length : Int)) = true := beq_iff_eq.mpr c23
                    have c23b1 : ((t629.length : Int) != (l0.length : Int)) = false := bne_eq_false_iff_eq.mpr c23
                    have c23b2 : (t629.length == l0.length) = true := by first | simpa using c23 | (simp at c23 ⊢; omega)
                    clear c23
                    have H' := Aside0.mk H
                    clear H
                    obtain ⟨Ao24, co24, eo24⟩ := Kd.R_slice HO633.out
                    subst eo24
                    obtain ⟨Ao25, co25, eo25⟩ := Kd.R_slice HO635.out
                    subst eo25
                    go_wp2
                    go_meet
                    case rel => exact ⟨_, (((t630.length : Int) != (l0.length : Int))), (by first | rfl | (simp; done) | (simp [*]; done)), H', ⟨by have := HJ3.out; first | omega | exact Nat.le_refl _⟩, ⟨by (with_reducible repeat (first | apply Kd.R_alloc | apply Kd.R_drewN | apply Kd.R_drew)); exact HO633.out⟩, ⟨by (with_reducible repeat (first | apply Kd.R_alloc | apply Kd.R_drewN | apply Kd.R_drew)); exact HO635.out⟩, ⟨by repeat (first | (with_reducible first | exact HB.out | apply below_alloc | apply pw_below_drewN | apply below_drew1) | exact HB.out)⟩⟩
                  · rw [if_neg c23] at H
                    have c23b0 : ((t629.length : Int) == (l0.length : Int)) = false := beq_eq_false_iff_ne.mpr c23
                    have c23b1 : ((t629.length : Int) != (l0.length : Int)) = true := bne_iff_ne.mpr c23
                    have c23b2 : (t629.length == l0.length) = false := by first | simpa using c23 | (simp at c23 ⊢; omega)
                    have H' := Aside0.mk H
                    clear H
                    obtain ⟨Ao26, co26, eo26⟩ := Kd.R_slice HO633.out
                    subst eo26
                    go_wp2
                    go_meet
                    case rel => exact ⟨_, (true), (by first | rfl | (simp; done) | (simp [*]; done)), H', ⟨by have := HJ3.out; first | omega | exact Nat.le_refl _⟩, ⟨by (with_reducible repeat (first | apply Kd.R_alloc | apply Kd.R_drewN | apply Kd.R_drew)); exact HO633.out⟩, ⟨by (with_reducible repeat (first | apply Kd.R_alloc | apply Kd.R_drewN | apply Kd.R_drew)); exact HO635.out⟩, ⟨by repeat (first | (with_reducible first | exact HB.out | apply below_alloc | apply pw_below_drewN | apply below_drew1) | exact HB.out)⟩⟩
              · rw [if_neg c21] at H
                have c21b0 : (t631 == 0) = false := beq_eq_false_iff_ne.mpr c21
                have c21b1 : (t631 != 0) = true := bne_iff_ne.mpr c21
                have H' := Aside0.mk H
                clear H
                go_wp2
                go_meet
                case rel => exact ⟨_, (true), (by first | rfl | (simp; done) | (simp [*]; done)), H', ⟨by have := HJ3.out; first | omega | exact Nat.le_refl _⟩, ⟨by (with_reducible repeat (first | apply Kd.R_alloc | apply Kd.R_drewN | apply Kd.R_drew)); exact HO633.out⟩, ⟨by (with_reducible repeat (first | apply Kd.R_alloc | apply Kd.R_drewN | apply Kd.R_drew)); exact HO635.out⟩, ⟨by repeat (first | (with_reducible first | exact HB.out | apply below_alloc | apply pw_below_drewN | apply below_drew1) | exact HB.out)⟩⟩
            · rw [if_neg c20] at H
              have c20b0 : (t628 == 0) = false := beq_eq_false_iff_ne.mpr c20
              have c20b1 : (t628 != 0) = true := bne_iff_ne.mpr c20
              have H' := Aside0.mk H
              clear H
              go_wp2
              go_meet
              case rel => exact ⟨_, (true), (by first | rfl | (simp; done) | (simp [*]; done)), H', ⟨by have := HJ3.out; first | omega | exact Nat.le_refl _⟩, ⟨by (with_reducible repeat (first | apply Kd.R_alloc | apply Kd.R_drewN | apply Kd.R_drew)); exact HO633.out⟩, ⟨by (with_reducible repeat (first | apply Kd.R_alloc | apply Kd.R_drewN | apply Kd.R_drew)); exact HO635.out⟩, ⟨by repeat (first | (with_reducible first | exact HB.out | apply below_alloc | apply pw_below_drewN | apply below_drew1) | exact HB.out)⟩⟩
          · rw [if_neg c19] at H
            have c19b0 : (t626 == 0) = false := beq_eq_false_iff_ne.mpr c19
            have c19b1 : (t626 != 0) = true := bne_iff_ne.mpr c19
            (first | rw [c19b0] | (simp only [i64_w, i32_w]; rw [c19b0]) | skip)
            have H' := Aside0.mk H
            clear H
            go_wp2
            go_meet
            case rel => exact ⟨_, (true), (by first | rfl | (simp; done) | (simp [*]; done)), H', ⟨by have := HJ3.out; first | omega | exact Nat.le_refl _⟩, ⟨by (with_reducible repeat (first | apply Kd.R_alloc | apply Kd.R_drewN | apply Kd.R_drew)); exact HO633.out⟩, ⟨by (with_reducible repeat (first | apply Kd.R_alloc | apply Kd.R_drewN | apply Kd.R_drew)); exact HO635.out⟩, ⟨by repeat (first | (with_reducible first | exact HB.out | apply below_alloc | apply pw_below_drewN | apply below_drew1) | exact HB.out)⟩⟩
        case rest =>
          clear HC15
          try clear c1
          try clear c2
          try clear p2
          try clear c3
          try clear c6
          try clear c7
          try clear c10
          try clear c13
          try clear c19
          try clear c19b0
          try clear c19b1
          try clear c20
          try clear c20b0
          try clear c20b1
          try clear c21
          try clear c21b0
          try clear c21b1
          try clear c22
          try clear c22b0
          try clear c22b1
          try clear c22b2
          try clear c23
          try clear c23b0
          try clear c23b1
          try clear c23b2
          try clear p2
          obtain ⟨kq, x81_14, rfl, HA, HJ14, HO_11, HO_12, HB⟩ := hcut
          cases kq with
          | zero => exact absurd HA.out (by simp [plunderlaw19_RacesTwo.j1])
          | succ kj14 =>
            have H := HA.out
            clear HA
            simp only [plunderlaw19_RacesTwo.j1] at H
            by_cases c27 : x81_14 = true
            · subst c27
              have H1 : (some false) = some r := by rw [if_pos rfl] at H; exact H
              clear H
              have H := H1
              clear H1
              obtain rfl := Option.some.inj H
              go_wp2
              go_ret
              exact ⟨by first | rfl | (simp [errW_none, errW_some] <;> rfl) | (simp [*, errW_none, errW_some] <;> rfl), by repeat (first | (with_reducible first | exact HB.out | apply below_alloc | apply pw_below_drewN | apply below_drew1) | exact HB.out)⟩
            · replace c27 := Bool.eq_false_iff.mpr c27
              subst c27
              have H1 : (if t623 = t624 then (if t625 = true then (some false) else ((plunderlaw19_ahead.f kj14 t629 t623 t624).bind fun t636 => (some (t636 == (-1))))) else ((plunderlaw19_ahead.f kj14 t629 t623 t624).bind fun t637 => ((plunderlaw19_ahead.f kj14 t630 t623 t624).bind fun t638 => (if t637 = 0 then (plunderlaw19_RacesTwo.j2 kj14 t623 t624 t625 t637 t638 true) else (plunderlaw19_RacesTwo.j2 kj14 t623 t624 t625 t637 t638 (t638 == 0)))))) = some r := by rw [if_neg (show ¬ (false = true) by decide)] at H; exact H
              clear H
              have H := H1
              clear H1
              by_cases c28 : t623 = t624
              · rw [if_pos c28] at H
                have c28b0 : (t623 == t624) = true := beq_iff_eq.mpr c28
                have c28b1 : (t623 != t624) = false := bne_eq_false_iff_eq.mpr c28
                clear c28
                by_cases c29 : t625 = true
                · subst c29
                  have H1 : (some false) = some r := by rw [if_pos rfl] at H; exact H
                  clear H
                  have H := H1
                  clear H1
                  obtain rfl := Option.some.inj H
                  go_wp2
                  go_ret
                  exact ⟨by first | rfl | (simp [errW_none, errW_some] <;> rfl) | (simp [*, errW_none, errW_some] <;> rfl), by repeat (first | (with_reducible first | exact HB.out | apply below_alloc | apply pw_below_drewN | apply below_drew1) | exact HB.out)⟩
                · replace c29 := Bool.eq_false_iff.mpr c29
                  subst c29
                  have H1 : ((plunderlaw19_ahead.f kj14 t629 t623 t624).bind fun t636 => (some (t636 == (-1)))) = some r := by rw [if_neg (show ¬ (false = true) by decide)] at H; exact H
                  clear H
                  have H := H1
                  clear H1
                  replace H := Option.bind_eq_some_iff.mp H
                  obtain ⟨t636, A300, H⟩ := H
                  replace H : (some (t636 == (-1))) = some r := H
                  have A30 := Aside0.mk A300
                  clear A300
                  obtain rfl := Option.some.inj H
                  obtain ⟨Ao31, co31, eo31⟩ := Kd.R_slice HO_11.out
                  subst eo31
                  go_wp2_with (first | (go_at_call 36; (with_reducible refine (plunderlaw19_ahead.calls kj14 _ _ t629 t623 t624 t636 _ ?side1 ?side2 A30.out).mono ?_); (case side1 => repeat (first | exact (Kd.R_reads' HO_11.out).2.2 | (with_reducible refine Kd.C_alloc ?_ _) | (with_reducible refine Kd.C_drewN ?_ _) | (with_reducible refine Kd.C_drew ?_))); (case side2 => exact (Kd.R_reads' HO_11.out).2.1); rintro e w' ⟨rfl, ⟨nd, rfl⟩⟩))
                  go_ret
                  exact ⟨by first | rfl | (simp [errW_none, errW_some] <;> rfl) | (simp [*, errW_none, errW_some] <;> rfl), by repeat (first | (with_reducible first | exact HB.out | apply below_alloc | apply pw_below_drewN | apply below_drew1) | exact HB.out)⟩
              · rw [if_neg c28] at H
                have c28b0 : (t623 == t624) = false := beq_eq_false_iff_ne.mpr c28
                have c28b1 : (t623 != t624) = true := bne_iff_ne.mpr c28
                replace H := Option.bind_eq_some_iff.mp H
                obtain ⟨t637, A320, H⟩ := H
                replace H : ((plunderlaw19_ahead.f kj14 t630 t623 t624).bind fun t638 => (if t637 = 0 then (plunderlaw19_RacesTwo.j2 kj14 t623 t624 t625 t637 t638 true) else (plunderlaw19_RacesTwo.j2 kj14 t623 t624 t625 t637 t638 (t638 == 0)))) = some r := H
                have A32 := Aside0.mk A320
                clear A320
                replace H := Option.bind_eq_some_iff.mp H
                obtain ⟨t638, A330, H⟩ := H
                replace H : (if t637 = 0 then (plunderlaw19_RacesTwo.j2 kj14 t623 t624 t625 t637 t638 true) else (plunderlaw19_RacesTwo.j2 kj14 t623 t624 t625 t637 t638 (t638 == 0))) = some r := H
                have A33 := Aside0.mk A330
                clear A330
                have HC34 := Aside0.mk H
                clear H
                obtain ⟨Ao35, co35, eo35⟩ := Kd.R_slice HO_11.out
                subst eo35
                go_upto_region 14 with (first | ((with_reducible refine gate_callee (f := 36) rfl ?_); refine goesL_ (some 97) rfl rfl Try.func36 (by kernel_rfl) rfl #[.slice Ao35 t629.length co35, .int .i64 t623, .int .i64 t624] rfl (by (try simp only [List.map_toArray, List.map_cons, List.map_nil]); first | done | rfl | (simp only [List.length_drop, List.length_take]; rfl)) ?_; (with_reducible refine (plunderlaw19_ahead.calls kj14 _ _ t629 t623 t624 t637 _ ?side1 ?side2 A32.out).mono ?_); (case side1 => repeat (first | exact (Kd.R_reads' HO_11.out).2.2 | (with_reducible refine Kd.C_alloc ?_ _) | (with_reducible refine Kd.C_drewN ?_ _) | (with_reducible refine Kd.C_drew ?_))); (case side2 => exact (Kd.R_reads' HO_11.out).2.1); rintro e w' ⟨rfl, ⟨nd, rfl⟩⟩; refine ⟨_, rfl, ?_⟩; obtain ⟨Ao36, co36, eo36⟩ := Kd.R_slice HO_12.out; subst eo36) | ((with_reducible refine gate_callee (f := 36) rfl ?_); refine goesL_ (some 101) rfl rfl Try.func36 (by kernel_rfl) rfl #[.slice Ao36 t630.length co36, .int .i64 t623, .int .i64 t624] rfl (by (try simp only [List.map_toArray, List.map_cons, List.map_nil]); first | done | rfl | (simp only [List.length_drop, List.length_take]; rfl)) ?_; (with_reducible refine (plunderlaw19_ahead.calls kj14 _ _ t630 t623 t624 t638 _ ?side1 ?side2 A33.out).mono ?_); (case side1 => repeat (first | exact (Kd.R_reads' HO_12.out).2.2 | (with_reducible refine Kd.C_alloc ?_ _) | (with_reducible refine Kd.C_drewN ?_ _) | (with_reducible refine Kd.C_drew ?_))); (case side2 => exact (Kd.R_reads' HO_12.out).2.1); rintro e w' ⟨rfl, ⟨nd, rfl⟩⟩; refine ⟨_, rfl, ?_⟩))
                (try simp only [Act.put, List.setIfInBounds_toArray, List.set_cons_zero, List.set_cons_succ])
                go_cut [107] (fun v107 wc => ∃ (kq : Nat) (x107_33 : Bool), v107 = .bool x107_33 ∧ Aside0 (plunderlaw19_RacesTwo.j2 kq t623 t624 t625 t637 t638 x107_33 = some r) ∧ Aside0 (kq ≤ kj14) ∧ Aside0 (Below w.heap.size w wc))
                case first =>
                  have H := HC34.out
                  clear HC34
                  by_cases c37 : t637 = 0
                  · rw [if_pos c37] at H
                    have c37b0 : (t637 == 0) = true := beq_iff_eq.mpr c37
                    have c37b1 : (t637 != 0) = false := bne_eq_false_iff_eq.mpr c37
                    clear c37
                    (first | rw [c37b0] | (simp only [i64_w, i32_w]; rw [c37b0]) | skip)
                    have H' := Aside0.mk H
                    clear H
                    go_wp2
                    go_meet
                    case rel => exact ⟨_, (true), (by first | rfl | (simp; done) | (simp [*]; done)), H', ⟨by have := HJ3.out; have := HJ14.out; first | omega | exact Nat.le_refl _⟩, ⟨by repeat (first | (with_reducible first | exact HB.out | apply below_alloc | apply pw_below_drewN | apply below_drew1) | exact HB.out)⟩⟩
                  · rw [if_neg c37] at H
                    have c37b0 : (t637 == 0) = false := beq_eq_false_iff_ne.mpr c37
                    have c37b1 : (t637 != 0) = true := bne_iff_ne.mpr c37
                    (first | rw [c37b0] | (simp only [i64_w, i32_w]; rw [c37b0]) | skip)
                    have H' := Aside0.mk H
                    clear H
                    go_wp2
                    go_meet
                    case rel => exact ⟨_, ((t638 == 0)), (by first | rfl | (simp; done) | (simp [*]; done)), H', ⟨by have := HJ3.out; have := HJ14.out; first | omega | exact Nat.le_refl _⟩, ⟨by repeat (first | (with_reducible first | exact HB.out | apply below_alloc | apply pw_below_drewN | apply below_drew1) | exact HB.out)⟩⟩
                case rest =>
                  clear HC34
                  try clear c1
                  try clear c2
                  try clear p2
                  try clear c3
                  try clear c6
                  try clear c7
                  try clear c10
                  try clear c13
                  try clear c19
                  try clear c19b0
                  try clear c19b1
                  try clear c20
                  try clear c20b0
                  try clear c20b1
                  try clear c21
                  try clear c21b0
                  try clear c21b1
                  try clear c22
                  try clear c22b0
                  try clear c22b1
                  try clear c22b2
                  try clear c23
                  try clear c23b0
                  try clear c23b1
                  try clear c23b2
                  try clear c27
                  try clear c28
                  try clear c28b0
                  try clear c28b1
                  try clear c29
                  try clear c30
                  try clear c33
                  try clear c36
                  try clear c37
                  try clear c37b0
                  try clear c37b1
                  try clear p2
                  obtain ⟨kq, x107_33, rfl, HA, HJ33, HB⟩ := hcut
                  cases kq with
                  | zero => exact absurd HA.out (by simp [plunderlaw19_RacesTwo.j2])
                  | succ kj33 =>
                    have H := HA.out
                    clear HA
                    simp only [plunderlaw19_RacesTwo.j2] at H
                    by_cases c38 : x107_33 = true
                    · subst c38
                      have H1 : (some false) = some r := by rw [if_pos rfl] at H; exact H
                      clear H
                      have H := H1
                      clear H1
                      obtain rfl := Option.some.inj H
                      go_wp2
                      go_ret
                      exact ⟨by first | rfl | (simp [errW_none, errW_some] <;> rfl) | (simp [*, errW_none, errW_some] <;> rfl), by repeat (first | (with_reducible first | exact HB.out | apply below_alloc | apply pw_below_drewN | apply below_drew1) | exact HB.out)⟩
                    · replace c38 := Bool.eq_false_iff.mpr c38
                      subst c38
                      have H1 : (if t625 = true then (some (t637 != t638)) else (if t637 = t638 then (some ((t637 == 1) == (decide (t623 < t624)))) else (some false))) = some r := by rw [if_neg (show ¬ (false = true) by decide)] at H; exact H
                      clear H
                      have H := H1
                      clear H1
                      by_cases c39 : t625 = true
                      · subst c39
                        have H1 : (some (t637 != t638)) = some r := by rw [if_pos rfl] at H; exact H
                        clear H
                        have H := H1
                        clear H1
                        obtain rfl := Option.some.inj H
                        go_wp2
                        go_ret
                        exact ⟨by first | rfl | (simp [errW_none, errW_some] <;> rfl) | (simp [*, errW_none, errW_some] <;> rfl), by repeat (first | (with_reducible first | exact HB.out | apply below_alloc | apply pw_below_drewN | apply below_drew1) | exact HB.out)⟩
                      · replace c39 := Bool.eq_false_iff.mpr c39
                        subst c39
                        have H1 : (if t637 = t638 then (some ((t637 == 1) == (decide (t623 < t624)))) else (some false)) = some r := by rw [if_neg (show ¬ (false = true) by decide)] at H; exact H
                        clear H
                        have H := H1
                        clear H1
                        by_cases c40 : t637 = t638
                        · rw [if_pos c40] at H
                          have c40b0 : (t637 == t638) = true := beq_iff_eq.mpr c40
                          have c40b1 : (t637 != t638) = false := bne_eq_false_iff_eq.mpr c40
                          clear c40
                          obtain rfl := Option.some.inj H
                          go_wp2
                          go_ret
                          exact ⟨by first | rfl | (simp [errW_none, errW_some] <;> rfl) | (simp [*, errW_none, errW_some] <;> rfl), by repeat (first | (with_reducible first | exact HB.out | apply below_alloc | apply pw_below_drewN | apply below_drew1) | exact HB.out)⟩
                        · rw [if_neg c40] at H
                          have c40b0 : (t637 == t638) = false := beq_eq_false_iff_ne.mpr c40
                          have c40b1 : (t637 != t638) = true := bne_iff_ne.mpr c40
                          obtain rfl := Option.some.inj H
                          go_wp2
                          go_ret
                          exact ⟨by first | rfl | (simp [errW_none, errW_some] <;> rfl) | (simp [*, errW_none, errW_some] <;> rfl), by repeat (first | (with_reducible first | exact HB.out | apply below_alloc | apply pw_below_drewN | apply below_drew1) | exact HB.out)⟩

end Go.Proofs.Ytkecgjmbamaejaa.P
