/- Written by a program: plain Lean functions that answer as Go functions of this seat do, and the proofs that the calls come to these answers. -/
import Derived.Test.YtcioegimmjppcaaDoorZPxSd
import Derived.Test.YtcioegimmjppcaaDoorZJP
import Derived.Test.YtcioegimmjppcaaDoorZPx8
namespace Go.Proofs.YtcioegimmjppcaaDoor.P
open Go.RowKit Go.Proofs.YtcioegimmjppcaaDoorW.PrintWords Go.Proofs.YtcioegimmjppcaaDoorW.PrintLast Go.Proofs.YtcioegimmjppcaaDoorW.PrintMore
attribute [local go_sem] max2_int min2_int max_two min_two max_three min_three max_four min_four   -- for this text's walks alone
set_option linter.unusedVariables false
set_option linter.unusedSimpArgs false


abbrev mA0 : Array Bool := #[F_, F_, F_, F_, F_, F_, F_, F_, F_, F_, F_, F_, F_, F_, F_, F_, F_, F_, F_, F_, F_, F_, F_, F_, F_, F_, F_, F_, F_, F_]
abbrev mA1 : Array Bool := #[T_, F_, F_, F_, F_, F_, F_, F_, F_, F_, F_, F_, F_, F_, F_, F_, F_, F_, F_, F_, F_, F_, F_, F_, F_, F_, F_, F_, F_, F_]
abbrev mA2 : Array Bool := #[T_, T_, F_, F_, F_, F_, F_, F_, F_, F_, F_, F_, F_, F_, F_, F_, F_, F_, F_, F_, F_, F_, F_, F_, F_, F_, F_, F_, F_, F_]
abbrev mA3 : Array Bool := #[T_, T_, T_, F_, F_, F_, F_, F_, F_, F_, F_, F_, F_, F_, F_, F_, F_, F_, F_, F_, F_, F_, F_, F_, F_, F_, F_, F_, F_, F_]
abbrev mA4 : Array Bool := #[T_, T_, T_, T_, F_, F_, F_, F_, F_, F_, F_, F_, F_, F_, F_, F_, F_, F_, F_, F_, F_, F_, F_, F_, F_, F_, F_, F_, F_, F_]
abbrev mA5 : Array Bool := #[T_, T_, T_, T_, T_, F_, F_, F_, F_, F_, F_, F_, F_, F_, F_, F_, F_, F_, F_, F_, F_, F_, F_, F_, F_, F_, F_, F_, F_, F_]
abbrev mA6 : Array Bool := #[T_, T_, T_, T_, T_, T_, F_, F_, F_, F_, F_, F_, F_, F_, F_, F_, F_, F_, F_, F_, F_, F_, F_, F_, F_, F_, F_, F_, F_, F_]
abbrev mA7 : Array Bool := #[T_, T_, T_, T_, T_, T_, T_, F_, F_, F_, F_, F_, F_, F_, F_, F_, F_, F_, F_, F_, F_, F_, F_, F_, F_, F_, F_, F_, F_, F_]
abbrev mA8 : Array Bool := #[T_, T_, T_, T_, T_, T_, T_, T_, F_, F_, F_, F_, F_, F_, F_, F_, F_, F_, F_, F_, F_, F_, F_, F_, F_, F_, F_, F_, F_, F_]
abbrev mA9 : Array Bool := #[T_, T_, T_, T_, T_, T_, T_, T_, T_, F_, F_, F_, F_, F_, F_, F_, F_, F_, F_, F_, F_, F_, F_, F_, F_, F_, F_, F_, F_, F_]
abbrev mA10 : Array Bool := #[T_, T_, T_, T_, T_, T_, T_, T_, T_, T_, F_, F_, F_, F_, F_, F_, F_, F_, F_, F_, F_, F_, F_, F_, F_, F_, F_, F_, F_, F_]
abbrev mA11 : Array Bool := #[T_, T_, T_, T_, T_, T_, T_, T_, T_, T_, T_, F_, F_, F_, F_, F_, F_, F_, F_, F_, F_, F_, F_, F_, F_, F_, F_, F_, F_, F_]
abbrev mA12 : Array Bool := #[T_, T_, T_, T_, T_, T_, T_, T_, T_, T_, T_, T_, F_, F_, F_, F_, F_, F_, F_, F_, F_, F_, F_, F_, F_, F_, F_, F_, F_, F_]
abbrev mA13 : Array Bool := #[T_, T_, T_, T_, T_, T_, T_, T_, T_, T_, T_, T_, T_, F_, F_, F_, F_, F_, F_, F_, F_, F_, F_, F_, F_, F_, F_, F_, F_, F_]
abbrev mA14 : Array Bool := #[T_, T_, T_, T_, T_, T_, T_, T_, T_, T_, T_, T_, T_, T_, F_, F_, F_, F_, F_, F_, F_, F_, F_, F_, F_, F_, F_, F_, F_, F_]
abbrev mA15 : Array Bool := #[T_, T_, T_, T_, T_, T_, T_, T_, T_, T_, T_, T_, T_, T_, T_, F_, F_, F_, F_, F_, F_, F_, F_, F_, F_, F_, F_, F_, F_, F_]
abbrev mA16 : Array Bool := #[T_, T_, T_, T_, T_, T_, T_, T_, T_, T_, T_, T_, T_, T_, T_, T_, F_, F_, F_, F_, F_, F_, F_, F_, F_, F_, F_, F_, F_, F_]
abbrev mA17 : Array Bool := #[T_, T_, T_, T_, T_, T_, T_, T_, T_, T_, T_, T_, T_, T_, T_, T_, T_, F_, F_, F_, F_, F_, F_, F_, F_, F_, F_, F_, F_, F_]
abbrev mA18 : Array Bool := #[T_, T_, T_, T_, T_, T_, T_, T_, T_, T_, T_, T_, T_, T_, T_, T_, T_, T_, F_, F_, F_, F_, F_, F_, F_, F_, F_, F_, F_, F_]
abbrev mA19 : Array Bool := #[T_, T_, T_, T_, T_, T_, T_, T_, T_, T_, T_, T_, T_, T_, T_, T_, T_, T_, T_, F_, F_, F_, F_, F_, F_, F_, F_, F_, F_, F_]
abbrev mA20 : Array Bool := #[T_, T_, T_, T_, T_, T_, T_, T_, T_, T_, T_, T_, T_, T_, T_, T_, T_, T_, T_, T_, F_, F_, F_, F_, F_, F_, F_, F_, F_, F_]
abbrev mA21 : Array Bool := #[T_, T_, T_, T_, T_, T_, T_, T_, T_, T_, T_, T_, T_, T_, T_, T_, T_, T_, T_, T_, T_, F_, F_, F_, F_, F_, F_, F_, F_, F_]
abbrev mA22 : Array Bool := #[T_, T_, T_, T_, T_, T_, T_, T_, T_, T_, T_, T_, T_, T_, T_, T_, T_, T_, T_, T_, T_, T_, F_, F_, F_, F_, F_, F_, F_, F_]
abbrev mA23 : Array Bool := #[T_, T_, T_, T_, T_, T_, T_, T_, T_, T_, T_, T_, T_, T_, T_, T_, T_, T_, T_, T_, T_, T_, T_, F_, F_, F_, F_, F_, F_, F_]
abbrev mA24 : Array Bool := #[T_, T_, T_, T_, T_, T_, T_, T_, T_, T_, T_, T_, T_, T_, T_, T_, T_, T_, T_, T_, T_, T_, T_, T_, F_, F_, F_, F_, F_, F_]
abbrev mA25 : Array Bool := #[T_, T_, T_, T_, T_, T_, T_, T_, T_, T_, T_, T_, T_, T_, T_, T_, T_, T_, T_, T_, T_, T_, T_, T_, T_, F_, F_, F_, F_, F_]
abbrev mA26 : Array Bool := #[T_, T_, T_, T_, T_, T_, T_, T_, T_, T_, T_, T_, T_, T_, T_, T_, T_, T_, T_, T_, T_, T_, T_, T_, T_, T_, F_, F_, F_, F_]
abbrev mA27 : Array Bool := #[T_, T_, T_, T_, T_, T_, T_, T_, T_, T_, T_, T_, T_, T_, T_, T_, T_, T_, T_, T_, T_, T_, T_, T_, T_, T_, T_, F_, F_, F_]
abbrev mA28 : Array Bool := #[T_, T_, T_, T_, T_, T_, T_, T_, T_, T_, T_, T_, T_, T_, T_, T_, T_, T_, T_, T_, T_, T_, T_, T_, T_, T_, T_, T_, F_, F_]
abbrev mA29 : Array Bool := #[T_, T_, T_, T_, T_, T_, T_, T_, T_, T_, T_, T_, T_, T_, T_, T_, T_, T_, T_, T_, T_, T_, T_, T_, T_, T_, T_, T_, T_, F_]
abbrev mA30 : Array Bool := #[T_, T_, T_, T_, T_, T_, T_, T_, T_, T_, T_, T_, T_, T_, T_, T_, T_, T_, T_, T_, T_, T_, T_, T_, T_, T_, T_, T_, T_, T_]
abbrev mA31 : Array Bool := #[T_, T_, T_, T_, T_, T_, T_, T_, T_, T_, F_, T_, F_, F_, F_, F_, F_, F_, F_, F_, F_, F_, F_, F_, F_, F_, F_, F_, F_, F_]
abbrev mA32 : Array Bool := #[T_, T_, T_, T_, T_, T_, T_, T_, T_, T_, F_, T_, T_, F_, F_, F_, F_, F_, F_, F_, F_, F_, F_, F_, F_, F_, F_, F_, F_, F_]
abbrev mA33 : Array Bool := #[T_, T_, T_, T_, T_, T_, T_, T_, T_, T_, F_, T_, T_, T_, F_, F_, F_, F_, F_, F_, F_, F_, F_, F_, F_, F_, F_, F_, F_, F_]
abbrev mA34 : Array Bool := #[T_, T_, T_, T_, T_, T_, T_, T_, T_, T_, T_, T_, T_, T_, T_, T_, T_, T_, T_, F_, T_, F_, F_, F_, F_, F_, F_, F_, F_, F_]
abbrev mA35 : Array Bool := #[T_, T_, T_, T_, T_, T_, T_, T_, T_, T_, T_, T_, T_, T_, T_, T_, T_, T_, T_, F_, T_, T_, F_, F_, F_, F_, F_, F_, F_, F_]
abbrev mA36 : Array Bool := #[T_, T_, T_, T_, T_, T_, T_, T_, T_, T_, T_, T_, T_, T_, T_, T_, T_, T_, T_, F_, T_, T_, T_, F_, F_, F_, F_, F_, F_, F_]
abbrev mA37 : Array Bool := #[T_, T_, T_, T_, T_, T_, T_, T_, T_, T_, T_, T_, T_, T_, T_, T_, T_, T_, T_, F_, T_, T_, T_, T_, F_, F_, F_, F_, F_, F_]
abbrev mA38 : Array Bool := #[T_, T_, T_, T_, T_, T_, T_, T_, T_, T_, T_, T_, T_, T_, T_, T_, T_, T_, T_, F_, T_, T_, T_, T_, F_, T_, F_, F_, F_, F_]
abbrev mA39 : Array Bool := #[T_, T_, T_, T_, T_, T_, T_, T_, T_, T_, T_, T_, T_, T_, T_, T_, T_, T_, T_, T_, T_, T_, T_, T_, F_, T_, F_, F_, F_, F_]
def plunderlaw6_shaped.T14 : Bool × List (List Nat × List Nat) := (true, [([], []), ([0], [0]), ([1], [1]), ([2], [2]), ([2], [2]), ([4, 2], [2, 4]), ([3, 5, 2], [2, 3, 5]), ([2, 6], [2, 6]), ([7, 2], [7]), ([8], [8]), ([9, 8], [8, 9]), ([8], [8]), ([8], [8]), ([11, 12, 8], [8, 11, 12]), ([13, 8], [8, 13]), ([10, 14, 8], [8, 10, 14]), ([8, 15], [8, 15]), ([16, 8], [16]), ([17], [17]), ([18, 17], [17, 18]), ([17], [17]), ([17], [17]), ([20, 21, 17], [17, 20, 21]), ([22, 17], [17, 22]), ([23, 17], [17, 23]), ([17], [17]), ([25, 17], [17, 25]), ([24, 26, 17, 17], [17, 24, 26]), ([19, 27, 17], [17, 19, 27]), ([17, 28], [17, 28])])
def plunderlaw6_shaped.B14 : List Nat := [0, 1, 3, 7, 7, 23, 63, 127, 255, 511, 1023, 511, 511, 6655, 14847, 32767, 65535, 131071, 262143, 524287, 262143, 262143, 3407871, 7602175, 15990783, 262143, 33816575, 133431295, 268435455, 536870911]
theorem plunderlaw6_shaped.tab14 : rtab .any (opsOf Tryd.f25 14) = plunderlaw6_shaped.T14 := by kernel_rfl
theorem plunderlaw6_shaped.bits14 : waitsOk plunderlaw6_shaped.T14.2 plunderlaw6_shaped.B14 = true := by kernel_rfl
set_option maxHeartbeats 8000000 in
set_option maxRecDepth 100000 in
theorem plunderlaw6_shaped.calls (k : Nat) (A0 : Option Addr) (c0 : Nat) (l0 : List (S49)) (r : List Int) (w : World) (hr0 : Kd.C k49 w A0 l0.length l0) (hc0 : l0.length ≤ c0) (h : plunderlaw6_shaped.f k l0 = some r) :
  Calls Tryd.prog 25 #[.slice A0 l0.length c0] w fun e w' => ∃ v0_ : Value, e = .returned (v0_) ∧ Kd.R (Kd.int .i64) 3 w' w.heap.size (fun _ => True) v0_ r ∧ Below w.heap.size w w' := by
 have hu49 := Tryd.underlying49
 have HR0 := Aside0.mk hr0; have HC0 := Aside0.mk hc0; clear hr0 hc0
 have HB := Aside0.mk (Below.refl w.heap.size w)
 have H : (if 0 ≤ (l0.length : Int) then (if ((l0.length : Int) : Int).toNat ≤ 35184372088832 then (plunderlaw6_shaped.l0 k l0 (List.replicate ((l0.length : Int) : Int).toNat 0) (List.replicate ((l0.length : Int) : Int).toNat 0) 0) else (none)) else (none)) = some r := h
 clear h
 by_cases c2 : 0 ≤ (l0.length : Int)
 ·rw [if_pos c2] at H
  have c2b0 := eq_true c2
  have c2b1 : decide (0 ≤ (l0.length : Int)) = true := decide_eq_true c2
  clear c2
  by_cases c3 : ((l0.length : Int) : Int).toNat ≤ 35184372088832
  ·rw [if_pos c3] at H
   have c3b0 := eq_true c3
   have c3b1 : decide (((l0.length : Int) : Int).toNat ≤ 35184372088832) = true := decide_eq_true c3
   clear c3
   obtain ⟨y120, hy120⟩ : ∃ y_ : List Int, y_ = (List.replicate ((l0.length : Int) : Int).toNat 0) := ⟨_, rfl⟩
   replace H : (plunderlaw6_shaped.l0 k l0 y120 (List.replicate ((l0.length : Int) : Int).toNat 0) 0) = some r := by first | (rw [hy120]; with_reducible exact H) | (have H2_ := (Option.bind_some _ _).symm.trans H; rw [hy120]; with_reducible exact H2_) | (have H2_ := (Option.bind_some _ _).symm.trans H; with_reducible exact H2_) | with_reducible exact H | (rw [hy120]; exact H) | exact H
   have Ny120 := Aside0.mk hy120; clear hy120
   obtain ⟨y123, hy123⟩ : ∃ y_ : List Int, y_ = (List.replicate ((l0.length : Int) : Int).toNat 0) := ⟨_, rfl⟩
   replace H : (plunderlaw6_shaped.l0 k l0 y120 y123 0) = some r := by first | (rw [hy123]; with_reducible exact H) | (have H2_ := (Option.bind_some _ _).symm.trans H; rw [hy123]; with_reducible exact H2_) | (have H2_ := (Option.bind_some _ _).symm.trans H; with_reducible exact H2_) | with_reducible exact H | (rw [hy123]; exact H) | exact H
   have Ny123 := Aside0.mk hy123; clear hy123
   have H' := Aside0.mk H
   clear H
   go_enter Tryd.func25, Tryd.ntmps25
   go_wp2_with (first | ((with_reducible refine gate_dst (N := 10) rfl ?_); refine Kd.R_make (Kd.int .i64) _ 3 rfl (N := 10) rfl 52 _ _ rfl (l0.length : Int) rfl rfl Tryd.underlying52 (.int .i64 0) 8 info3 rfl (by decide) (by omega) 0 (ok := fun _ => True) (okp := fun _ => True) rfl (fun _ hk => hk) trivial (of_decide_eq_true (by first | (with_reducible assumption) | assumption)) (Nat.le_trans (Nat.mul_le_mul_right _ (of_decide_eq_true (by first | (with_reducible assumption) | assumption) : (l0.length : Int).toNat ≤ 35184372088832)) (by omega)) (Below.refl _ _) (Nat.le_refl _) ?_; intro v121 w4 ho5 hb hg_ hnew_; clear hg_ hnew_; (first | rw [← Ny120.out] at ho5 | (simp only [Int.reduceToNat] at ho5; rw [← Ny120.out] at ho5)); have n0_ := Aside0.mk (Kd.R_lower ho5 (below_size (by repeat (first | (with_reducible first | exact HB.out | apply below_alloc | apply pw_below_drewN | apply below_drew1) | exact HB.out)))); have n1_ := Aside0.mk (below_step (by repeat (first | (with_reducible first | exact HB.out | apply below_alloc | apply pw_below_drewN | apply below_drew1) | exact HB.out)) hb); clear HB; have HO122 := n0_; have HB := n1_; clear n0_ n1_; clear hb ho5) | ((with_reducible refine gate_dst (N := 13) rfl ?_); refine Kd.R_make (Kd.int .i64) _ 3 rfl (N := 13) rfl 52 _ _ rfl (l0.length : Int) rfl rfl Tryd.underlying52 (.int .i64 0) 8 info3 rfl (by decide) (by omega) 0 (ok := fun _ => True) (okp := fun _ => True) rfl (fun _ hk => hk) trivial (of_decide_eq_true (by first | (with_reducible assumption) | assumption)) (Nat.le_trans (Nat.mul_le_mul_right _ (of_decide_eq_true (by first | (with_reducible assumption) | assumption) : (l0.length : Int).toNat ≤ 35184372088832)) (by omega)) (Below.refl _ _) (Nat.le_refl _) ?_; intro v124 w6 ho7 hb hg_ hnew_; clear hg_ hnew_; (first | rw [← Ny123.out] at ho7 | (simp only [Int.reduceToNat] at ho7; rw [← Ny123.out] at ho7)); have n0_ := Aside0.mk (Kd.R_elder' (by (with_reducible repeat (first | apply Kd.R_alloc | apply Kd.R_drewN | apply Kd.R_drew)); exact HO122.out) (Kd.R_base ho7) hb); have n1_ := Aside0.mk (Kd.R_lower (Kd.R_new' ho7 (Kd.R_lt (by (with_reducible repeat (first | apply Kd.R_alloc | apply Kd.R_drewN | apply Kd.R_drew)); exact HO122.out))) (below_size (by repeat (first | (with_reducible first | exact HB.out | apply below_alloc | apply pw_below_drewN | apply below_drew1) | exact HB.out)))); have n2_ := Aside0.mk (below_step (by repeat (first | (with_reducible first | exact HB.out | apply below_alloc | apply pw_below_drewN | apply below_drew1) | exact HB.out)) hb); clear HO122; clear HB; have HO122 := n0_; have HO125 := n1_; have HB := n2_; clear n0_ n1_ n2_; clear hb ho7))
   go_loopg [5] k (fun kq v5 w' => ∃ (x3_1 : List Int) (x4_1 : List Int) (x5_1 : Int), v5 = .int .i64 x5_1 ∧ Aside0 (plunderlaw6_shaped.l0 kq l0 x3_1 x4_1 x5_1 = some r) ∧ Aside0 (kq ≤ k) ∧ Aside0 (Kd.R (Kd.int .i64) 3 w' w.heap.size (fun k_ => some k_ ≠ (v124 : Value).ownBlock) v121 x3_1) ∧ Aside0 (Kd.R (Kd.int .i64) 3 w' w.heap.size (fun k_ => some k_ ≠ (v121 : Value).ownBlock) v124 x4_1) ∧ Aside0 (Below w.heap.size w w'))
   case atStart => exact ⟨(y120), (y123), (0), (by first | rfl | (simp; done) | (simp [*]; done)), H', ⟨Nat.le_refl _⟩, ⟨by (with_reducible repeat (first | apply Kd.R_alloc | apply Kd.R_drewN | apply Kd.R_drew)); exact Kd.R_mono HO122.out (fun _ hk => hk.2)⟩, ⟨by (with_reducible repeat (first | apply Kd.R_alloc | apply Kd.R_drewN | apply Kd.R_drew)); exact Kd.R_mono HO125.out (fun _ hk => hk.2)⟩, ⟨by repeat (first | (with_reducible first | exact HB.out | apply below_alloc | apply pw_below_drewN | apply below_drew1) | exact HB.out)⟩⟩
   case round =>
    clear H'; try clear c2; try clear c2b0; try clear c2b1; try clear p2; try clear c3; try clear c3b0; try clear c3b1
    obtain ⟨x3_1, x4_1, x5_1, rfl, HA, HK1, HO_3, HO_4, HB⟩ := hrel
    cases gk with
    | zero => exact absurd HA.out (by simp [plunderlaw6_shaped.l0])
    | succ k1 =>
     have H := HA.out
     clear HA
     simp only [plunderlaw6_shaped.l0] at H
     by_cases c8 : x5_1 < (l0.length : Int)
     ·rw [if_pos c8] at H
      have c8b0 : decide (x5_1 < (l0.length : Int)) = true := decide_eq_true c8
      clear c8
      by_cases c9 : 0 ≤ x5_1
      ·rw [if_pos c9] at H
       have c9b0 : decide (0 ≤ x5_1) = true := decide_eq_true c9
       clear c9
       by_cases c10 : x5_1 = 0
       ·rw [if_pos c10] at H
        have c10b0 : (x5_1 == 0) = true := beq_iff_eq.mpr c10
        have c10b1 : (x5_1 != 0) = false := bne_eq_false_iff_eq.mpr c10
        clear c10
        by_cases c11 : ((rd_T49 l0 x5_1).f0) = (-1)
        ·rw [if_pos c11] at H
         have c11b0 : (((rd_T49 l0 x5_1).f0) == (-1)) = true := beq_iff_eq.mpr c11
         have c11b1 : (((rd_T49 l0 x5_1).f0) != (-1)) = false := bne_eq_false_iff_eq.mpr c11
         clear c11
         by_cases c12 : ((rd_T49 l0 x5_1).f1) = 0
         ·rw [if_pos c12] at H
          have c12b0 : (((rd_T49 l0 x5_1).f1) == 0) = true := beq_iff_eq.mpr c12
          have c12b1 : (((rd_T49 l0 x5_1).f1) != 0) = false := bne_eq_false_iff_eq.mpr c12
          clear c12
          by_cases c13 : ((rd_T49 l0 x5_1).f2) = 0
          ·rw [if_pos c13] at H
           have c13b0 : (((rd_T49 l0 x5_1).f2) == 0) = true := beq_iff_eq.mpr c13
           have c13b1 : (((rd_T49 l0 x5_1).f2) != 0) = false := bne_eq_false_iff_eq.mpr c13
           clear c13
           by_cases c14 : ((rd_T49 l0 x5_1).f4) = 1
           ·rw [if_pos c14] at H
            have c14b0 : (((rd_T49 l0 x5_1).f4) == 1) = true := beq_iff_eq.mpr c14
            have c14b1 : (((rd_T49 l0 x5_1).f4) != 1) = false := bne_eq_false_iff_eq.mpr c14
            clear c14
            by_cases c15 : 0 < (x4_1.length : Int)
            ·rw [if_pos c15] at H
             have c15b0 : decide (0 < (x4_1.length : Int)) = true := decide_eq_true c15
             have c15b1 : decide (0 < x4_1.length) = true := decide_eq_true (by omega)
             clear c15
             obtain ⟨y128, hy128⟩ : ∃ y_ : List Int, y_ = (x4_1.set (0 : Int).toNat 1) := ⟨_, rfl⟩
             replace H : (plunderlaw6_shaped.l0 k1 l0 x3_1 y128 (wrap64 (x5_1 + 1))) = some r := by first | (rw [hy128]; with_reducible exact H) | (have H2_ := (Option.bind_some _ _).symm.trans H; rw [hy128]; with_reducible exact H2_) | (have H2_ := (Option.bind_some _ _).symm.trans H; with_reducible exact H2_) | with_reducible exact H | (rw [hy128]; exact H) | exact H
             have Ny128 := Aside0.mk hy128; clear hy128
             have H' := Aside0.mk H
             clear H
             have p126 : 0 ≤ (x5_1 : Int) := of_decide_eq_true (by first | (with_reducible assumption) | assumption)
             have q126 : x5_1 < (l0.length : Int) := of_decide_eq_true (by first | (with_reducible assumption) | assumption)
             obtain ⟨ad126, e126, hx126_0, hx126_1, hx126_2, hx126_3, hx126_4, hx126_5, hx126_6⟩ := at_T49 HR0.out x5_1 p126 q126
             cases e126
             replace hx126_0 := cl_ HB.out hx126_0
             replace hx126_1 := cl_ HB.out hx126_1
             replace hx126_2 := cl_ HB.out hx126_2
             replace hx126_3 := cl_ HB.out hx126_3
             replace hx126_4 := cl_ HB.out hx126_4
             replace hx126_5 := cl_ HB.out hx126_5
             replace hx126_6 := cl_ HB.out hx126_6
             replace p126 := eq_true p126
             replace q126 := eq_true q126
             go_wp2_with (first | ((with_reducible refine gate_dst (N := 6) rfl ?_); refine box_event ?hg (N := 6) ?hd (cs := #[.int .i64 0, .int .i64 0, .int .i64 0, .int .i64 0, .int .i64 0, .int .i64 0, .int .i64 0]) (t := 49) ?hr ?_; (case hd => rfl); (case hg => rfl); (case hr => first | (go_simp; done) | (go_simp; rfl)); intro gb127 hg w17 hbox hb; have n0_ := Aside0.mk (Kd.R_below (by (with_reducible repeat (first | apply Kd.R_alloc | apply Kd.R_drewN | apply Kd.R_drew)); exact HO_3.out) hb); have n1_ := Aside0.mk (Kd.R_below (by (with_reducible repeat (first | apply Kd.R_alloc | apply Kd.R_drewN | apply Kd.R_drew)); exact HO_4.out) hb); have n2_ := Aside0.mk (below_step (by repeat (first | (with_reducible first | exact HB.out | apply below_alloc | apply pw_below_drewN | apply below_drew1) | exact HB.out)) hb); have n3_ := Aside0.mk (hbox); have n4_ := Aside0.mk ((by rw [hg]; exact (below_size (by repeat (first | (with_reducible first | exact HB.out | apply below_alloc | apply pw_below_drewN | apply below_drew1) | exact HB.out))) : w.heap.size ≤ gb127)); have n5_ := Aside0.mk ((by rw [hg]; exact (below_size (by repeat (first | (with_reducible first | exact HB.out | apply below_alloc | apply pw_below_drewN | apply below_drew1) | exact HB.out))) : w.heap.size ≤ gb127)); clear HO_3; clear HO_4; clear HB; have HO_3 := n0_; have HO_4 := n1_; have HB := n2_; have BK127 := n3_; have GW127 := n4_; have GE127 := n5_; clear n0_ n1_ n2_ n3_ n4_ n5_; clear hb hbox hg; have hcz18_0 : w17.cell? ⟨gb127, 0, none⟩ = some (.int .i64 0) := (blk_cell BK127.out 0).trans rfl; have hcz18_1 : w17.cell? ⟨gb127, 1, none⟩ = some (.int .i64 0) := (blk_cell BK127.out 1).trans rfl; have hcz18_2 : w17.cell? ⟨gb127, 2, none⟩ = some (.int .i64 0) := (blk_cell BK127.out 2).trans rfl; have hcz18_3 : w17.cell? ⟨gb127, 3, none⟩ = some (.int .i64 0) := (blk_cell BK127.out 3).trans rfl; have hcz18_4 : w17.cell? ⟨gb127, 4, none⟩ = some (.int .i64 0) := (blk_cell BK127.out 4).trans rfl; have hcz18_5 : w17.cell? ⟨gb127, 5, none⟩ = some (.int .i64 0) := (blk_cell BK127.out 5).trans rfl; have hcz18_6 : w17.cell? ⟨gb127, 6, none⟩ = some (.int .i64 0) := (blk_cell BK127.out 6).trans rfl; have hfz18_0 := blk_frozen BK127.out 0; have hfz18_1 := blk_frozen BK127.out 1; have hfz18_2 := blk_frozen BK127.out 2; have hfz18_3 := blk_frozen BK127.out 3; have hfz18_4 := blk_frozen BK127.out 4; have hfz18_5 := blk_frozen BK127.out 5; have hfz18_6 := blk_frozen BK127.out 6) | ((with_reducible refine gate_store (t := 49) (p := 6) rfl ?_); refine store_event (t := 49) (p := 6) (v := ?vo_w19) (w1 := (((((((w17.setCell ⟨gb127, 0, none⟩ (.int .i64 ((rd_T49 l0 x5_1).f0))).setCell ⟨gb127, 1, none⟩ (.int .i64 ((rd_T49 l0 x5_1).f1))).setCell ⟨gb127, 2, none⟩ (.int .i64 ((rd_T49 l0 x5_1).f2))).setCell ⟨gb127, 3, none⟩ (.int .i64 ((rd_T49 l0 x5_1).f3))).setCell ⟨gb127, 4, none⟩ (.int .i64 ((rd_T49 l0 x5_1).f4))).setCell ⟨gb127, 5, none⟩ (.int .i64 ((rd_T49 l0 x5_1).f5))).setCell ⟨gb127, 6, none⟩ (.int .i64 ((rd_T49 l0 x5_1).f6)))) ?hg ?ho ?hn ?hr ?_; (case ho => rfl); (case hg => rfl); (case hn => rfl); (case hr => first | (go_simp; done) | (go_simp; rfl)); intro w19 hw; have n0_ : Aside0 (Kd.R (Kd.int .i64) 3 w19 w.heap.size (fun k_ => some k_ ≠ (v124 : Value).ownBlock) v121 x3_1) := ⟨(by rw [hw]; exact (by (with_reducible repeat (first | apply Kd.R_alloc | apply Kd.R_drewN | apply Kd.R_drew)); exact Kd.R_mono (Kd.R_far (p := ⟨gb127, 6, none⟩) (Kd.R_far (p := ⟨gb127, 5, none⟩) (Kd.R_far (p := ⟨gb127, 4, none⟩) (Kd.R_far (p := ⟨gb127, 3, none⟩) (Kd.R_far (p := ⟨gb127, 2, none⟩) (Kd.R_far (p := ⟨gb127, 1, none⟩) (Kd.R_far (p := ⟨gb127, 0, none⟩) (Kd.R_types HO_3.out BK127.out (by decide)) (fun _ hk => hk.2) (.int .i64 ((rd_T49 l0 x5_1).f0))) (fun _ hk => hk.2) (.int .i64 ((rd_T49 l0 x5_1).f1))) (fun _ hk => hk.2) (.int .i64 ((rd_T49 l0 x5_1).f2))) (fun _ hk => hk.2) (.int .i64 ((rd_T49 l0 x5_1).f3))) (fun _ hk => hk.2) (.int .i64 ((rd_T49 l0 x5_1).f4))) (fun _ hk => hk.2) (.int .i64 ((rd_T49 l0 x5_1).f5))) (fun _ hk => hk.2) (.int .i64 ((rd_T49 l0 x5_1).f6))) (fun _ hk => hk.1)))⟩; have n1_ : Aside0 (Kd.R (Kd.int .i64) 3 w19 w.heap.size (fun k_ => some k_ ≠ (v121 : Value).ownBlock) v124 x4_1) := ⟨(by rw [hw]; exact (by (with_reducible repeat (first | apply Kd.R_alloc | apply Kd.R_drewN | apply Kd.R_drew)); exact Kd.R_mono (Kd.R_far (p := ⟨gb127, 6, none⟩) (Kd.R_far (p := ⟨gb127, 5, none⟩) (Kd.R_far (p := ⟨gb127, 4, none⟩) (Kd.R_far (p := ⟨gb127, 3, none⟩) (Kd.R_far (p := ⟨gb127, 2, none⟩) (Kd.R_far (p := ⟨gb127, 1, none⟩) (Kd.R_far (p := ⟨gb127, 0, none⟩) (Kd.R_types HO_4.out BK127.out (by decide)) (fun _ hk => hk.2) (.int .i64 ((rd_T49 l0 x5_1).f0))) (fun _ hk => hk.2) (.int .i64 ((rd_T49 l0 x5_1).f1))) (fun _ hk => hk.2) (.int .i64 ((rd_T49 l0 x5_1).f2))) (fun _ hk => hk.2) (.int .i64 ((rd_T49 l0 x5_1).f3))) (fun _ hk => hk.2) (.int .i64 ((rd_T49 l0 x5_1).f4))) (fun _ hk => hk.2) (.int .i64 ((rd_T49 l0 x5_1).f5))) (fun _ hk => hk.2) (.int .i64 ((rd_T49 l0 x5_1).f6))) (fun _ hk => hk.1)))⟩; have n2_ : Aside0 (w19.heap[gb127]? = some (.cells #[.int .i64 ((rd_T49 l0 x5_1).f0), .int .i64 ((rd_T49 l0 x5_1).f1), .int .i64 ((rd_T49 l0 x5_1).f2), .int .i64 ((rd_T49 l0 x5_1).f3), .int .i64 ((rd_T49 l0 x5_1).f4), .int .i64 ((rd_T49 l0 x5_1).f5), .int .i64 ((rd_T49 l0 x5_1).f6)] 49 (0, 0))) := ⟨(by rw [hw]; exact (by (with_reducible repeat (first | refine blk_drewN ?_ _ | refine blk_drew ?_ | refine blk_alloc ?_ _)); refine blk_put (cs := #[.int .i64 ((rd_T49 l0 x5_1).f0), .int .i64 ((rd_T49 l0 x5_1).f1), .int .i64 ((rd_T49 l0 x5_1).f2), .int .i64 ((rd_T49 l0 x5_1).f3), .int .i64 ((rd_T49 l0 x5_1).f4), .int .i64 ((rd_T49 l0 x5_1).f5), .int .i64 0]) ?_ 6 _ rfl; (with_reducible repeat (first | refine blk_drewN ?_ _ | refine blk_drew ?_ | refine blk_alloc ?_ _)); refine blk_put (cs := #[.int .i64 ((rd_T49 l0 x5_1).f0), .int .i64 ((rd_T49 l0 x5_1).f1), .int .i64 ((rd_T49 l0 x5_1).f2), .int .i64 ((rd_T49 l0 x5_1).f3), .int .i64 ((rd_T49 l0 x5_1).f4), .int .i64 0, .int .i64 0]) ?_ 5 _ rfl; (with_reducible repeat (first | refine blk_drewN ?_ _ | refine blk_drew ?_ | refine blk_alloc ?_ _)); refine blk_put (cs := #[.int .i64 ((rd_T49 l0 x5_1).f0), .int .i64 ((rd_T49 l0 x5_1).f1), .int .i64 ((rd_T49 l0 x5_1).f2), .int .i64 ((rd_T49 l0 x5_1).f3), .int .i64 0, .int .i64 0, .int .i64 0]) ?_ 4 _ rfl; (with_reducible repeat (first | refine blk_drewN ?_ _ | refine blk_drew ?_ | refine blk_alloc ?_ _)); refine blk_put (cs := #[.int .i64 ((rd_T49 l0 x5_1).f0), .int .i64 ((rd_T49 l0 x5_1).f1), .int .i64 ((rd_T49 l0 x5_1).f2), .int .i64 0, .int .i64 0, .int .i64 0, .int .i64 0]) ?_ 3 _ rfl; (with_reducible repeat (first | refine blk_drewN ?_ _ | refine blk_drew ?_ | refine blk_alloc ?_ _)); refine blk_put (cs := #[.int .i64 ((rd_T49 l0 x5_1).f0), .int .i64 ((rd_T49 l0 x5_1).f1), .int .i64 0, .int .i64 0, .int .i64 0, .int .i64 0, .int .i64 0]) ?_ 2 _ rfl; (with_reducible repeat (first | refine blk_drewN ?_ _ | refine blk_drew ?_ | refine blk_alloc ?_ _)); refine blk_put (cs := #[.int .i64 ((rd_T49 l0 x5_1).f0), .int .i64 0, .int .i64 0, .int .i64 0, .int .i64 0, .int .i64 0, .int .i64 0]) ?_ 1 _ rfl; (with_reducible repeat (first | refine blk_drewN ?_ _ | refine blk_drew ?_ | refine blk_alloc ?_ _)); refine blk_put (cs := #[.int .i64 0, .int .i64 0, .int .i64 0, .int .i64 0, .int .i64 0, .int .i64 0, .int .i64 0]) ?_ 0 _ rfl; (with_reducible repeat (first | refine blk_drewN ?_ _ | refine blk_drew ?_ | refine blk_alloc ?_ _)); exact BK127.out))⟩; have n3_ : Aside0 (Below w.heap.size w w19) := ⟨(by rw [hw]; exact (by repeat (first | (with_reducible first | exact HB.out | apply below_alloc | apply pw_below_drewN | apply below_drew1 | refine below_set ?_ GE127.out) | exact HB.out)))⟩; clear hw; clear HO_3; clear HO_4; clear BK127; clear HB; have HO_3 := n0_; have HO_4 := n1_; have BK127 := n2_; have HB := n3_; clear n0_ n1_ n2_ n3_; have hcz20_0 : w19.cell? ⟨gb127, 0, none⟩ = some (.int .i64 ((rd_T49 l0 x5_1).f0)) := (blk_cell BK127.out 0).trans rfl; have hcz20_1 : w19.cell? ⟨gb127, 1, none⟩ = some (.int .i64 ((rd_T49 l0 x5_1).f1)) := (blk_cell BK127.out 1).trans rfl; have hcz20_2 : w19.cell? ⟨gb127, 2, none⟩ = some (.int .i64 ((rd_T49 l0 x5_1).f2)) := (blk_cell BK127.out 2).trans rfl; have hcz20_3 : w19.cell? ⟨gb127, 3, none⟩ = some (.int .i64 ((rd_T49 l0 x5_1).f3)) := (blk_cell BK127.out 3).trans rfl; have hcz20_4 : w19.cell? ⟨gb127, 4, none⟩ = some (.int .i64 ((rd_T49 l0 x5_1).f4)) := (blk_cell BK127.out 4).trans rfl; have hcz20_5 : w19.cell? ⟨gb127, 5, none⟩ = some (.int .i64 ((rd_T49 l0 x5_1).f5)) := (blk_cell BK127.out 5).trans rfl; have hcz20_6 : w19.cell? ⟨gb127, 6, none⟩ = some (.int .i64 ((rd_T49 l0 x5_1).f6)) := (blk_cell BK127.out 6).trans rfl; have hfz20_0 := blk_frozen BK127.out 0; have hfz20_1 := blk_frozen BK127.out 1; have hfz20_2 := blk_frozen BK127.out 2; have hfz20_3 := blk_frozen BK127.out 3; have hfz20_4 := blk_frozen BK127.out 4; have hfz20_5 := blk_frozen BK127.out 5; have hfz20_6 := blk_frozen BK127.out 6; have p16 : 0 ≤ (0 : Int) := (by omega); have q16 : (0 : Int) < ((x4_1.length : Int) : Int) := of_decide_eq_true (by first | (with_reducible assumption) | assumption); have qi16 : (0 < x4_1.length) = True := eq_true (by omega); obtain ⟨go16, co16, eo16, gb16, gl16, cl16, HG16⟩ := Kd.R_form HO_4.out (by omega); (first | cases eo16 | (injection eo16 with ea_ en_ ec_; (first | subst ea_ | (injection ea_ with ea_; subst ea_)); subst ec_; clear en_)); have GB16 := Aside0.mk gb16; have GG16 := Aside0.mk HG16; clear gb16 gl16 HG16; obtain ⟨hx16_0, hf16_0⟩ := Kd.R_celln 0 HO_4.out (0 : Int) p16 q16; (try rw [show ((0 : Int)).toNat = 0 from rfl] at hx16_0); (try simp only [Nat.reduceMul, Nat.zero_mul, Nat.zero_add, Nat.reduceAdd] at hx16_0); (try rw [show ((0 : Int)).toNat = 0 from rfl] at hf16_0); (try simp only [Nat.reduceMul, Nat.zero_mul, Nat.zero_add, Nat.reduceAdd] at hf16_0); replace p16 := eq_true p16; replace q16 := eq_true q16; obtain ⟨hy21_, hz21_⟩ := Kd.R_celln 0 HO_4.out (0 : Int) (by omega) (of_decide_eq_true (by first | (with_reducible assumption) | assumption)); (try simp only [Int.reduceToNat, Int.toNat_zero, Int.toNat_ofNat, Nat.reduceMul, Nat.zero_mul, Nat.zero_add] at hy21_ hz21_); (try rw [show ((0 : Int)).toNat = 0 from rfl] at hy21_); (try rw [show ((0 : Int)).toNat = 0 from rfl] at hz21_); have HP21 := Kd.R_putg HO_4.out (0 : Int) 1) | ((with_reducible refine gate_store (t := 3) (p := 45) rfl ?_); refine store_event (t := 3) (p := 45) (v := ?vo_w22) (w1 := (w19.setCell ⟨go16, (0 : Int).toNat, none⟩ (.int .i64 1))) ?hg ?ho ?hn ?hr ?_; (case ho => rfl); (case hg => rfl); (case hn => rfl); (case hr => first | (go_simp; done) | (go_simp; rfl)); intro w22 hw; have hg : w19.grownBy w22 (some go16) := (by rw [hw]; exact HP21.2); have hp_ : Kd.R (Kd.int .i64) 3 w22 w.heap.size (fun k_ => some k_ ≠ (v121 : Value).ownBlock) (.slice (some ⟨go16, 0, none⟩) x4_1.length co16) y128 := (by rw [hw, Ny128.out]; exact HP21.1); clear HP21; have n0_ := Aside0.mk (Kd.R_after (v := (.slice (some ⟨go16, 0, none⟩) x4_1.length co16)) (v1 := (.slice (some ⟨go16, 0, none⟩) x4_1.length co16)) (ok := (fun _ => True)) (by (with_reducible repeat (first | apply Kd.R_alloc | apply Kd.R_drewN | apply Kd.R_drew)); exact Kd.R_mono HO_3.out (fun _ hk => ⟨trivial, hk⟩)) hg (.inl rfl)); have n1_ := Aside0.mk (hp_); have n2_ := Aside0.mk (blk_grown (g := gb127) (o := .cells #[.int .i64 ((rd_T49 l0 x5_1).f0), .int .i64 ((rd_T49 l0 x5_1).f1), .int .i64 ((rd_T49 l0 x5_1).f2), .int .i64 ((rd_T49 l0 x5_1).f3), .int .i64 ((rd_T49 l0 x5_1).f4), .int .i64 ((rd_T49 l0 x5_1).f5), .int .i64 ((rd_T49 l0 x5_1).f6)] 49 (0, 0)) (by (with_reducible repeat (first | refine blk_drewN ?_ _ | refine blk_drew ?_ | refine blk_alloc ?_ _)); exact BK127.out) hg (Kd.R_ne HO_4.out BK127.out (by decide))); have n3_ := Aside0.mk ((by rw [hw]; exact below_set (HB.out) GB16.out : Below w.heap.size w w22)); clear HO_3; clear HO_4; clear BK127; clear HB; have HO_3 := n0_; have HO_4 := n1_; have BK127 := n2_; have HB := n3_; clear n0_ n1_ n2_ n3_; clear hg hw hp_))
             go_roundg k1
             case measure => have := HK1.out; omega
             case rel => exact ⟨(x3_1), (y128), (wrap64 (x5_1 + 1)), (by first | rfl | (simp; done) | (simp [*]; done)), H', ⟨by have := HK1.out; omega⟩, ⟨by (with_reducible repeat (first | apply Kd.R_alloc | apply Kd.R_drewN | apply Kd.R_drew)); exact Kd.R_mono HO_3.out (fun _ hk => hk.2)⟩, ⟨by (with_reducible repeat (first | apply Kd.R_alloc | apply Kd.R_drewN | apply Kd.R_drew)); exact HO_4.out⟩, ⟨by repeat (first | (with_reducible first | exact HB.out | apply below_alloc | apply pw_below_drewN | apply below_drew1 | refine below_set ?_ GE127.out) | exact HB.out)⟩⟩
            ·rw [if_neg c15] at H; exact absurd H (by simp)
           ·rw [if_neg c14] at H
            have c14b0 : (((rd_T49 l0 x5_1).f4) == 1) = false := beq_eq_false_iff_ne.mpr c14
            have c14b1 : (((rd_T49 l0 x5_1).f4) != 1) = true := bne_iff_ne.mpr c14
            obtain rfl := Option.some.inj H
            have p126 : 0 ≤ (x5_1 : Int) := of_decide_eq_true (by first | (with_reducible assumption) | assumption)
            have q126 : x5_1 < (l0.length : Int) := of_decide_eq_true (by first | (with_reducible assumption) | assumption)
            obtain ⟨ad126, e126, hx126_0, hx126_1, hx126_2, hx126_3, hx126_4, hx126_5, hx126_6⟩ := at_T49 HR0.out x5_1 p126 q126
            cases e126
            replace hx126_0 := cl_ HB.out hx126_0
            replace hx126_1 := cl_ HB.out hx126_1
            replace hx126_2 := cl_ HB.out hx126_2
            replace hx126_3 := cl_ HB.out hx126_3
            replace hx126_4 := cl_ HB.out hx126_4
            replace hx126_5 := cl_ HB.out hx126_5
            replace hx126_6 := cl_ HB.out hx126_6
            replace p126 := eq_true p126
            replace q126 := eq_true q126
            go_wp2_with (first | ((with_reducible refine gate_dst (N := 6) rfl ?_); refine box_event ?hg (N := 6) ?hd (cs := #[.int .i64 0, .int .i64 0, .int .i64 0, .int .i64 0, .int .i64 0, .int .i64 0, .int .i64 0]) (t := 49) ?hr ?_; (case hd => rfl); (case hg => rfl); (case hr => first | (go_simp; done) | (go_simp; rfl)); intro gb127 hg w23 hbox hb; have n0_ := Aside0.mk (Kd.R_below (by (with_reducible repeat (first | apply Kd.R_alloc | apply Kd.R_drewN | apply Kd.R_drew)); exact HO_3.out) hb); have n1_ := Aside0.mk (Kd.R_below (by (with_reducible repeat (first | apply Kd.R_alloc | apply Kd.R_drewN | apply Kd.R_drew)); exact HO_4.out) hb); have n2_ := Aside0.mk (below_step (by repeat (first | (with_reducible first | exact HB.out | apply below_alloc | apply pw_below_drewN | apply below_drew1) | exact HB.out)) hb); have n3_ := Aside0.mk (hbox); have n4_ := Aside0.mk ((by rw [hg]; exact (below_size (by repeat (first | (with_reducible first | exact HB.out | apply below_alloc | apply pw_below_drewN | apply below_drew1) | exact HB.out))) : w.heap.size ≤ gb127)); have n5_ := Aside0.mk ((by rw [hg]; exact (below_size (by repeat (first | (with_reducible first | exact HB.out | apply below_alloc | apply pw_below_drewN | apply below_drew1) | exact HB.out))) : w.heap.size ≤ gb127)); clear HO_3; clear HO_4; clear HB; have HO_3 := n0_; have HO_4 := n1_; have HB := n2_; have BK127 := n3_; have GW127 := n4_; have GE127 := n5_; clear n0_ n1_ n2_ n3_ n4_ n5_; clear hb hbox hg; have hcz24_0 : w23.cell? ⟨gb127, 0, none⟩ = some (.int .i64 0) := (blk_cell BK127.out 0).trans rfl; have hcz24_1 : w23.cell? ⟨gb127, 1, none⟩ = some (.int .i64 0) := (blk_cell BK127.out 1).trans rfl; have hcz24_2 : w23.cell? ⟨gb127, 2, none⟩ = some (.int .i64 0) := (blk_cell BK127.out 2).trans rfl; have hcz24_3 : w23.cell? ⟨gb127, 3, none⟩ = some (.int .i64 0) := (blk_cell BK127.out 3).trans rfl; have hcz24_4 : w23.cell? ⟨gb127, 4, none⟩ = some (.int .i64 0) := (blk_cell BK127.out 4).trans rfl; have hcz24_5 : w23.cell? ⟨gb127, 5, none⟩ = some (.int .i64 0) := (blk_cell BK127.out 5).trans rfl; have hcz24_6 : w23.cell? ⟨gb127, 6, none⟩ = some (.int .i64 0) := (blk_cell BK127.out 6).trans rfl; have hfz24_0 := blk_frozen BK127.out 0; have hfz24_1 := blk_frozen BK127.out 1; have hfz24_2 := blk_frozen BK127.out 2; have hfz24_3 := blk_frozen BK127.out 3; have hfz24_4 := blk_frozen BK127.out 4; have hfz24_5 := blk_frozen BK127.out 5; have hfz24_6 := blk_frozen BK127.out 6))
            go_ret
            exact ⟨_, by first | rfl | (simp [errW_none, errW_some] <;> rfl) | (simp [*, errW_none, errW_some] <;> rfl), by first | exact Kd.R_nil _ _ _ _ _ | exact Kd.N_nil _ _ _ _ _ | exact Kd.V_nil _ _ _ _ _ | exact Kd.Q_nil _ _ _ _ _ | exact Kd.S_nil _ _ _ _ _, by repeat (first | (with_reducible first | exact HB.out | apply below_alloc | apply pw_below_drewN | apply below_drew1 | refine below_set ?_ GE127.out) | exact HB.out)⟩
          ·rw [if_neg c13] at H
           have c13b0 : (((rd_T49 l0 x5_1).f2) == 0) = false := beq_eq_false_iff_ne.mpr c13
           have c13b1 : (((rd_T49 l0 x5_1).f2) != 0) = true := bne_iff_ne.mpr c13
           obtain rfl := Option.some.inj H
           have p126 : 0 ≤ (x5_1 : Int) := of_decide_eq_true (by first | (with_reducible assumption) | assumption)
           have q126 : x5_1 < (l0.length : Int) := of_decide_eq_true (by first | (with_reducible assumption) | assumption)
           obtain ⟨ad126, e126, hx126_0, hx126_1, hx126_2, hx126_3, hx126_4, hx126_5, hx126_6⟩ := at_T49 HR0.out x5_1 p126 q126
           cases e126
           replace hx126_0 := cl_ HB.out hx126_0
           replace hx126_1 := cl_ HB.out hx126_1
           replace hx126_2 := cl_ HB.out hx126_2
           replace hx126_3 := cl_ HB.out hx126_3
           replace hx126_4 := cl_ HB.out hx126_4
           replace hx126_5 := cl_ HB.out hx126_5
           replace hx126_6 := cl_ HB.out hx126_6
           replace p126 := eq_true p126
           replace q126 := eq_true q126
           go_wp2_with (first | ((with_reducible refine gate_dst (N := 6) rfl ?_); refine box_event ?hg (N := 6) ?hd (cs := #[.int .i64 0, .int .i64 0, .int .i64 0, .int .i64 0, .int .i64 0, .int .i64 0, .int .i64 0]) (t := 49) ?hr ?_; (case hd => rfl); (case hg => rfl); (case hr => first | (go_simp; done) | (go_simp; rfl)); intro gb127 hg w25 hbox hb; have n0_ := Aside0.mk (Kd.R_below (by (with_reducible repeat (first | apply Kd.R_alloc | apply Kd.R_drewN | apply Kd.R_drew)); exact HO_3.out) hb); have n1_ := Aside0.mk (Kd.R_below (by (with_reducible repeat (first | apply Kd.R_alloc | apply Kd.R_drewN | apply Kd.R_drew)); exact HO_4.out) hb); have n2_ := Aside0.mk (below_step (by repeat (first | (with_reducible first | exact HB.out | apply below_alloc | apply pw_below_drewN | apply below_drew1) | exact HB.out)) hb); have n3_ := Aside0.mk (hbox); have n4_ := Aside0.mk ((by rw [hg]; exact (below_size (by repeat (first | (with_reducible first | exact HB.out | apply below_alloc | apply pw_below_drewN | apply below_drew1) | exact HB.out))) : w.heap.size ≤ gb127)); have n5_ := Aside0.mk ((by rw [hg]; exact (below_size (by repeat (first | (with_reducible first | exact HB.out | apply below_alloc | apply pw_below_drewN | apply below_drew1) | exact HB.out))) : w.heap.size ≤ gb127)); clear HO_3; clear HO_4; clear HB; have HO_3 := n0_; have HO_4 := n1_; have HB := n2_; have BK127 := n3_; have GW127 := n4_; have GE127 := n5_; clear n0_ n1_ n2_ n3_ n4_ n5_; clear hb hbox hg; have hcz26_0 : w25.cell? ⟨gb127, 0, none⟩ = some (.int .i64 0) := (blk_cell BK127.out 0).trans rfl; have hcz26_1 : w25.cell? ⟨gb127, 1, none⟩ = some (.int .i64 0) := (blk_cell BK127.out 1).trans rfl; have hcz26_2 : w25.cell? ⟨gb127, 2, none⟩ = some (.int .i64 0) := (blk_cell BK127.out 2).trans rfl; have hcz26_3 : w25.cell? ⟨gb127, 3, none⟩ = some (.int .i64 0) := (blk_cell BK127.out 3).trans rfl; have hcz26_4 : w25.cell? ⟨gb127, 4, none⟩ = some (.int .i64 0) := (blk_cell BK127.out 4).trans rfl; have hcz26_5 : w25.cell? ⟨gb127, 5, none⟩ = some (.int .i64 0) := (blk_cell BK127.out 5).trans rfl; have hcz26_6 : w25.cell? ⟨gb127, 6, none⟩ = some (.int .i64 0) := (blk_cell BK127.out 6).trans rfl; have hfz26_0 := blk_frozen BK127.out 0; have hfz26_1 := blk_frozen BK127.out 1; have hfz26_2 := blk_frozen BK127.out 2; have hfz26_3 := blk_frozen BK127.out 3; have hfz26_4 := blk_frozen BK127.out 4; have hfz26_5 := blk_frozen BK127.out 5; have hfz26_6 := blk_frozen BK127.out 6))
           go_ret
           exact ⟨_, by first | rfl | (simp [errW_none, errW_some] <;> rfl) | (simp [*, errW_none, errW_some] <;> rfl), by first | exact Kd.R_nil _ _ _ _ _ | exact Kd.N_nil _ _ _ _ _ | exact Kd.V_nil _ _ _ _ _ | exact Kd.Q_nil _ _ _ _ _ | exact Kd.S_nil _ _ _ _ _, by repeat (first | (with_reducible first | exact HB.out | apply below_alloc | apply pw_below_drewN | apply below_drew1 | refine below_set ?_ GE127.out) | exact HB.out)⟩
         ·rw [if_neg c12] at H
          have c12b0 : (((rd_T49 l0 x5_1).f1) == 0) = false := beq_eq_false_iff_ne.mpr c12
          have c12b1 : (((rd_T49 l0 x5_1).f1) != 0) = true := bne_iff_ne.mpr c12
          obtain rfl := Option.some.inj H
          have p126 : 0 ≤ (x5_1 : Int) := of_decide_eq_true (by first | (with_reducible assumption) | assumption)
          have q126 : x5_1 < (l0.length : Int) := of_decide_eq_true (by first | (with_reducible assumption) | assumption)
          obtain ⟨ad126, e126, hx126_0, hx126_1, hx126_2, hx126_3, hx126_4, hx126_5, hx126_6⟩ := at_T49 HR0.out x5_1 p126 q126
          cases e126
          replace hx126_0 := cl_ HB.out hx126_0
          replace hx126_1 := cl_ HB.out hx126_1
          replace hx126_2 := cl_ HB.out hx126_2
          replace hx126_3 := cl_ HB.out hx126_3
          replace hx126_4 := cl_ HB.out hx126_4
          replace hx126_5 := cl_ HB.out hx126_5
          replace hx126_6 := cl_ HB.out hx126_6
          replace p126 := eq_true p126
          replace q126 := eq_true q126
          go_wp2_with (first | ((with_reducible refine gate_dst (N := 6) rfl ?_); refine box_event ?hg (N := 6) ?hd (cs := #[.int .i64 0, .int .i64 0, .int .i64 0, .int .i64 0, .int .i64 0, .int .i64 0, .int .i64 0]) (t := 49) ?hr ?_; (case hd => rfl); (case hg => rfl); (case hr => first | (go_simp; done) | (go_simp; rfl)); intro gb127 hg w27 hbox hb; have n0_ := Aside0.mk (Kd.R_below (by (with_reducible repeat (first | apply Kd.R_alloc | apply Kd.R_drewN | apply Kd.R_drew)); exact HO_3.out) hb); have n1_ := Aside0.mk (Kd.R_below (by (with_reducible repeat (first | apply Kd.R_alloc | apply Kd.R_drewN | apply Kd.R_drew)); exact HO_4.out) hb); have n2_ := Aside0.mk (below_step (by repeat (first | (with_reducible first | exact HB.out | apply below_alloc | apply pw_below_drewN | apply below_drew1) | exact HB.out)) hb); have n3_ := Aside0.mk (hbox); have n4_ := Aside0.mk ((by rw [hg]; exact (below_size (by repeat (first | (with_reducible first | exact HB.out | apply below_alloc | apply pw_below_drewN | apply below_drew1) | exact HB.out))) : w.heap.size ≤ gb127)); have n5_ := Aside0.mk ((by rw [hg]; exact (below_size (by repeat (first | (with_reducible first | exact HB.out | apply below_alloc | apply pw_below_drewN | apply below_drew1) | exact HB.out))) : w.heap.size ≤ gb127)); clear HO_3; clear HO_4; clear HB; have HO_3 := n0_; have HO_4 := n1_; have HB := n2_; have BK127 := n3_; have GW127 := n4_; have GE127 := n5_; clear n0_ n1_ n2_ n3_ n4_ n5_; clear hb hbox hg; have hcz28_0 : w27.cell? ⟨gb127, 0, none⟩ = some (.int .i64 0) := (blk_cell BK127.out 0).trans rfl; have hcz28_1 : w27.cell? ⟨gb127, 1, none⟩ = some (.int .i64 0) := (blk_cell BK127.out 1).trans rfl; have hcz28_2 : w27.cell? ⟨gb127, 2, none⟩ = some (.int .i64 0) := (blk_cell BK127.out 2).trans rfl; have hcz28_3 : w27.cell? ⟨gb127, 3, none⟩ = some (.int .i64 0) := (blk_cell BK127.out 3).trans rfl; have hcz28_4 : w27.cell? ⟨gb127, 4, none⟩ = some (.int .i64 0) := (blk_cell BK127.out 4).trans rfl; have hcz28_5 : w27.cell? ⟨gb127, 5, none⟩ = some (.int .i64 0) := (blk_cell BK127.out 5).trans rfl; have hcz28_6 : w27.cell? ⟨gb127, 6, none⟩ = some (.int .i64 0) := (blk_cell BK127.out 6).trans rfl; have hfz28_0 := blk_frozen BK127.out 0; have hfz28_1 := blk_frozen BK127.out 1; have hfz28_2 := blk_frozen BK127.out 2; have hfz28_3 := blk_frozen BK127.out 3; have hfz28_4 := blk_frozen BK127.out 4; have hfz28_5 := blk_frozen BK127.out 5; have hfz28_6 := blk_frozen BK127.out 6))
          go_ret
          exact ⟨_, by first | rfl | (simp [errW_none, errW_some] <;> rfl) | (simp [*, errW_none, errW_some] <;> rfl), by first | exact Kd.R_nil _ _ _ _ _ | exact Kd.N_nil _ _ _ _ _ | exact Kd.V_nil _ _ _ _ _ | exact Kd.Q_nil _ _ _ _ _ | exact Kd.S_nil _ _ _ _ _, by repeat (first | (with_reducible first | exact HB.out | apply below_alloc | apply pw_below_drewN | apply below_drew1 | refine below_set ?_ GE127.out) | exact HB.out)⟩
        ·rw [if_neg c11] at H
         have c11b0 : (((rd_T49 l0 x5_1).f0) == (-1)) = false := beq_eq_false_iff_ne.mpr c11
         have c11b1 : (((rd_T49 l0 x5_1).f0) != (-1)) = true := bne_iff_ne.mpr c11
         obtain rfl := Option.some.inj H
         have p126 : 0 ≤ (x5_1 : Int) := of_decide_eq_true (by first | (with_reducible assumption) | assumption)
         have q126 : x5_1 < (l0.length : Int) := of_decide_eq_true (by first | (with_reducible assumption) | assumption)
         obtain ⟨ad126, e126, hx126_0, hx126_1, hx126_2, hx126_3, hx126_4, hx126_5, hx126_6⟩ := at_T49 HR0.out x5_1 p126 q126
         cases e126
         replace hx126_0 := cl_ HB.out hx126_0
         replace hx126_1 := cl_ HB.out hx126_1
         replace hx126_2 := cl_ HB.out hx126_2
         replace hx126_3 := cl_ HB.out hx126_3
         replace hx126_4 := cl_ HB.out hx126_4
         replace hx126_5 := cl_ HB.out hx126_5
         replace hx126_6 := cl_ HB.out hx126_6
         replace p126 := eq_true p126
         replace q126 := eq_true q126
         go_wp2_with (first | ((with_reducible refine gate_dst (N := 6) rfl ?_); refine box_event ?hg (N := 6) ?hd (cs := #[.int .i64 0, .int .i64 0, .int .i64 0, .int .i64 0, .int .i64 0, .int .i64 0, .int .i64 0]) (t := 49) ?hr ?_; (case hd => rfl); (case hg => rfl); (case hr => first | (go_simp; done) | (go_simp; rfl)); intro gb127 hg w29 hbox hb; have n0_ := Aside0.mk (Kd.R_below (by (with_reducible repeat (first | apply Kd.R_alloc | apply Kd.R_drewN | apply Kd.R_drew)); exact HO_3.out) hb); have n1_ := Aside0.mk (Kd.R_below (by (with_reducible repeat (first | apply Kd.R_alloc | apply Kd.R_drewN | apply Kd.R_drew)); exact HO_4.out) hb); have n2_ := Aside0.mk (below_step (by repeat (first | (with_reducible first | exact HB.out | apply below_alloc | apply pw_below_drewN | apply below_drew1) | exact HB.out)) hb); have n3_ := Aside0.mk (hbox); have n4_ := Aside0.mk ((by rw [hg]; exact (below_size (by repeat (first | (with_reducible first | exact HB.out | apply below_alloc | apply pw_below_drewN | apply below_drew1) | exact HB.out))) : w.heap.size ≤ gb127)); have n5_ := Aside0.mk ((by rw [hg]; exact (below_size (by repeat (first | (with_reducible first | exact HB.out | apply below_alloc | apply pw_below_drewN | apply below_drew1) | exact HB.out))) : w.heap.size ≤ gb127)); clear HO_3; clear HO_4; clear HB; have HO_3 := n0_; have HO_4 := n1_; have HB := n2_; have BK127 := n3_; have GW127 := n4_; have GE127 := n5_; clear n0_ n1_ n2_ n3_ n4_ n5_; clear hb hbox hg; have hcz30_0 : w29.cell? ⟨gb127, 0, none⟩ = some (.int .i64 0) := (blk_cell BK127.out 0).trans rfl; have hcz30_1 : w29.cell? ⟨gb127, 1, none⟩ = some (.int .i64 0) := (blk_cell BK127.out 1).trans rfl; have hcz30_2 : w29.cell? ⟨gb127, 2, none⟩ = some (.int .i64 0) := (blk_cell BK127.out 2).trans rfl; have hcz30_3 : w29.cell? ⟨gb127, 3, none⟩ = some (.int .i64 0) := (blk_cell BK127.out 3).trans rfl; have hcz30_4 : w29.cell? ⟨gb127, 4, none⟩ = some (.int .i64 0) := (blk_cell BK127.out 4).trans rfl; have hcz30_5 : w29.cell? ⟨gb127, 5, none⟩ = some (.int .i64 0) := (blk_cell BK127.out 5).trans rfl; have hcz30_6 : w29.cell? ⟨gb127, 6, none⟩ = some (.int .i64 0) := (blk_cell BK127.out 6).trans rfl; have hfz30_0 := blk_frozen BK127.out 0; have hfz30_1 := blk_frozen BK127.out 1; have hfz30_2 := blk_frozen BK127.out 2; have hfz30_3 := blk_frozen BK127.out 3; have hfz30_4 := blk_frozen BK127.out 4; have hfz30_5 := blk_frozen BK127.out 5; have hfz30_6 := blk_frozen BK127.out 6))
         go_ret
         exact ⟨_, by first | rfl | (simp [errW_none, errW_some] <;> rfl) | (simp [*, errW_none, errW_some] <;> rfl), by first | exact Kd.R_nil _ _ _ _ _ | exact Kd.N_nil _ _ _ _ _ | exact Kd.V_nil _ _ _ _ _ | exact Kd.Q_nil _ _ _ _ _ | exact Kd.S_nil _ _ _ _ _, by repeat (first | (with_reducible first | exact HB.out | apply below_alloc | apply pw_below_drewN | apply below_drew1 | refine below_set ?_ GE127.out) | exact HB.out)⟩
       ·rw [if_neg c10] at H
        have c10b0 : (x5_1 == 0) = false := beq_eq_false_iff_ne.mpr c10
        have c10b1 : (x5_1 != 0) = true := bne_iff_ne.mpr c10
        have H' := Aside0.mk H
        clear H
        have p126 : 0 ≤ (x5_1 : Int) := of_decide_eq_true (by first | (with_reducible assumption) | assumption)
        have q126 : x5_1 < (l0.length : Int) := of_decide_eq_true (by first | (with_reducible assumption) | assumption)
        obtain ⟨ad126, e126, hx126_0, hx126_1, hx126_2, hx126_3, hx126_4, hx126_5, hx126_6⟩ := at_T49 HR0.out x5_1 p126 q126
        cases e126
        replace hx126_0 := cl_ HB.out hx126_0
        replace hx126_1 := cl_ HB.out hx126_1
        replace hx126_2 := cl_ HB.out hx126_2
        replace hx126_3 := cl_ HB.out hx126_3
        replace hx126_4 := cl_ HB.out hx126_4
        replace hx126_5 := cl_ HB.out hx126_5
        replace hx126_6 := cl_ HB.out hx126_6
        replace p126 := eq_true p126
        replace q126 := eq_true q126
        go_wp2_with (first | ((with_reducible refine gate_dst (N := 6) rfl ?_); refine box_event ?hg (N := 6) ?hd (cs := #[.int .i64 0, .int .i64 0, .int .i64 0, .int .i64 0, .int .i64 0, .int .i64 0, .int .i64 0]) (t := 49) ?hr ?_; (case hd => rfl); (case hg => rfl); (case hr => first | (go_simp; done) | (go_simp; rfl)); intro gb127 hg w31 hbox hb; have n0_ := Aside0.mk (Kd.R_below (by (with_reducible repeat (first | apply Kd.R_alloc | apply Kd.R_drewN | apply Kd.R_drew)); exact HO_3.out) hb); have n1_ := Aside0.mk (Kd.R_below (by (with_reducible repeat (first | apply Kd.R_alloc | apply Kd.R_drewN | apply Kd.R_drew)); exact HO_4.out) hb); have n2_ := Aside0.mk (below_step (by repeat (first | (with_reducible first | exact HB.out | apply below_alloc | apply pw_below_drewN | apply below_drew1) | exact HB.out)) hb); have n3_ := Aside0.mk (hbox); have n4_ := Aside0.mk ((by rw [hg]; exact (below_size (by repeat (first | (with_reducible first | exact HB.out | apply below_alloc | apply pw_below_drewN | apply below_drew1) | exact HB.out))) : w.heap.size ≤ gb127)); have n5_ := Aside0.mk ((by rw [hg]; exact (below_size (by repeat (first | (with_reducible first | exact HB.out | apply below_alloc | apply pw_below_drewN | apply below_drew1) | exact HB.out))) : w.heap.size ≤ gb127)); clear HO_3; clear HO_4; clear HB; have HO_3 := n0_; have HO_4 := n1_; have HB := n2_; have BK127 := n3_; have GW127 := n4_; have GE127 := n5_; clear n0_ n1_ n2_ n3_ n4_ n5_; clear hb hbox hg; have hcz32_0 : w31.cell? ⟨gb127, 0, none⟩ = some (.int .i64 0) := (blk_cell BK127.out 0).trans rfl; have hcz32_1 : w31.cell? ⟨gb127, 1, none⟩ = some (.int .i64 0) := (blk_cell BK127.out 1).trans rfl; have hcz32_2 : w31.cell? ⟨gb127, 2, none⟩ = some (.int .i64 0) := (blk_cell BK127.out 2).trans rfl; have hcz32_3 : w31.cell? ⟨gb127, 3, none⟩ = some (.int .i64 0) := (blk_cell BK127.out 3).trans rfl; have hcz32_4 : w31.cell? ⟨gb127, 4, none⟩ = some (.int .i64 0) := (blk_cell BK127.out 4).trans rfl; have hcz32_5 : w31.cell? ⟨gb127, 5, none⟩ = some (.int .i64 0) := (blk_cell BK127.out 5).trans rfl; have hcz32_6 : w31.cell? ⟨gb127, 6, none⟩ = some (.int .i64 0) := (blk_cell BK127.out 6).trans rfl; have hfz32_0 := blk_frozen BK127.out 0; have hfz32_1 := blk_frozen BK127.out 1; have hfz32_2 := blk_frozen BK127.out 2; have hfz32_3 := blk_frozen BK127.out 3; have hfz32_4 := blk_frozen BK127.out 4; have hfz32_5 := blk_frozen BK127.out 5; have hfz32_6 := blk_frozen BK127.out 6))
        go_loopg [7] k1 (fun kq v7 w' => ∃ (x7_2 : Int), v7 = .int .i64 x7_2 ∧ Aside0 (plunderlaw6_shaped.l1 kq l0 x3_1 x4_1 x5_1 x7_2 ((rd_T49 l0 x5_1).f0) ((rd_T49 l0 x5_1).f1) ((rd_T49 l0 x5_1).f2) ((rd_T49 l0 x5_1).f3) ((rd_T49 l0 x5_1).f4) ((rd_T49 l0 x5_1).f5) ((rd_T49 l0 x5_1).f6) = some r) ∧ Aside0 (kq ≤ k1) ∧ Aside0 (Kd.R (Kd.int .i64) 3 w' w.heap.size (fun k_ => some k_ ≠ (v124 : Value).ownBlock) v121 x3_1) ∧ Aside0 (Kd.R (Kd.int .i64) 3 w' w.heap.size (fun k_ => some k_ ≠ (v121 : Value).ownBlock) v124 x4_1) ∧ Aside0 (w'.heap[gb127]? = some (.cells #[.int .i64 ((rd_T49 l0 x5_1).f0), .int .i64 ((rd_T49 l0 x5_1).f1), .int .i64 ((rd_T49 l0 x5_1).f2), .int .i64 ((rd_T49 l0 x5_1).f3), .int .i64 ((rd_T49 l0 x5_1).f4), .int .i64 ((rd_T49 l0 x5_1).f5), .int .i64 ((rd_T49 l0 x5_1).f6)] 49 (0, 0))) ∧ Aside0 (Below w.heap.size w w'))
        case atStart => exact ⟨(wrap64 (x5_1 - 1)), (by first | rfl | (simp; done) | (simp [*]; done)), H', ⟨Nat.le_refl _⟩, ⟨by (with_reducible repeat (first | apply Kd.R_alloc | apply Kd.R_drewN | apply Kd.R_drew)); exact Kd.R_mono (Kd.R_far (p := ⟨gb127, 6, none⟩) (Kd.R_far (p := ⟨gb127, 5, none⟩) (Kd.R_far (p := ⟨gb127, 4, none⟩) (Kd.R_far (p := ⟨gb127, 3, none⟩) (Kd.R_far (p := ⟨gb127, 2, none⟩) (Kd.R_far (p := ⟨gb127, 1, none⟩) (Kd.R_far (p := ⟨gb127, 0, none⟩) (Kd.R_types HO_3.out BK127.out (by decide)) (fun _ hk => hk.2) (.int .i64 ((rd_T49 l0 x5_1).f0))) (fun _ hk => hk.2) (.int .i64 ((rd_T49 l0 x5_1).f1))) (fun _ hk => hk.2) (.int .i64 ((rd_T49 l0 x5_1).f2))) (fun _ hk => hk.2) (.int .i64 ((rd_T49 l0 x5_1).f3))) (fun _ hk => hk.2) (.int .i64 ((rd_T49 l0 x5_1).f4))) (fun _ hk => hk.2) (.int .i64 ((rd_T49 l0 x5_1).f5))) (fun _ hk => hk.2) (.int .i64 ((rd_T49 l0 x5_1).f6))) (fun _ hk => hk.1)⟩, ⟨by (with_reducible repeat (first | apply Kd.R_alloc | apply Kd.R_drewN | apply Kd.R_drew)); exact Kd.R_mono (Kd.R_far (p := ⟨gb127, 6, none⟩) (Kd.R_far (p := ⟨gb127, 5, none⟩) (Kd.R_far (p := ⟨gb127, 4, none⟩) (Kd.R_far (p := ⟨gb127, 3, none⟩) (Kd.R_far (p := ⟨gb127, 2, none⟩) (Kd.R_far (p := ⟨gb127, 1, none⟩) (Kd.R_far (p := ⟨gb127, 0, none⟩) (Kd.R_types HO_4.out BK127.out (by decide)) (fun _ hk => hk.2) (.int .i64 ((rd_T49 l0 x5_1).f0))) (fun _ hk => hk.2) (.int .i64 ((rd_T49 l0 x5_1).f1))) (fun _ hk => hk.2) (.int .i64 ((rd_T49 l0 x5_1).f2))) (fun _ hk => hk.2) (.int .i64 ((rd_T49 l0 x5_1).f3))) (fun _ hk => hk.2) (.int .i64 ((rd_T49 l0 x5_1).f4))) (fun _ hk => hk.2) (.int .i64 ((rd_T49 l0 x5_1).f5))) (fun _ hk => hk.2) (.int .i64 ((rd_T49 l0 x5_1).f6))) (fun _ hk => hk.1)⟩, ⟨by (with_reducible repeat (first | refine blk_drewN ?_ _ | refine blk_drew ?_ | refine blk_alloc ?_ _)); refine blk_put (cs := #[.int .i64 ((rd_T49 l0 x5_1).f0), .int .i64 ((rd_T49 l0 x5_1).f1), .int .i64 ((rd_T49 l0 x5_1).f2), .int .i64 ((rd_T49 l0 x5_1).f3), .int .i64 ((rd_T49 l0 x5_1).f4), .int .i64 ((rd_T49 l0 x5_1).f5), .int .i64 0]) ?_ 6 _ rfl; (with_reducible repeat (first | refine blk_drewN ?_ _ | refine blk_drew ?_ | refine blk_alloc ?_ _)); refine blk_put (cs := #[.int .i64 ((rd_T49 l0 x5_1).f0), .int .i64 ((rd_T49 l0 x5_1).f1), .int .i64 ((rd_T49 l0 x5_1).f2), .int .i64 ((rd_T49 l0 x5_1).f3), .int .i64 ((rd_T49 l0 x5_1).f4), .int .i64 0, .int .i64 0]) ?_ 5 _ rfl; (with_reducible repeat (first | refine blk_drewN ?_ _ | refine blk_drew ?_ | refine blk_alloc ?_ _)); refine blk_put (cs := #[.int .i64 ((rd_T49 l0 x5_1).f0), .int .i64 ((rd_T49 l0 x5_1).f1), .int .i64 ((rd_T49 l0 x5_1).f2), .int .i64 ((rd_T49 l0 x5_1).f3), .int .i64 0, .int .i64 0, .int .i64 0]) ?_ 4 _ rfl; (with_reducible repeat (first | refine blk_drewN ?_ _ | refine blk_drew ?_ | refine blk_alloc ?_ _)); refine blk_put (cs := #[.int .i64 ((rd_T49 l0 x5_1).f0), .int .i64 ((rd_T49 l0 x5_1).f1), .int .i64 ((rd_T49 l0 x5_1).f2), .int .i64 0, .int .i64 0, .int .i64 0, .int .i64 0]) ?_ 3 _ rfl; (with_reducible repeat (first | refine blk_drewN ?_ _ | refine blk_drew ?_ | refine blk_alloc ?_ _)); refine blk_put (cs := #[.int .i64 ((rd_T49 l0 x5_1).f0), .int .i64 ((rd_T49 l0 x5_1).f1), .int .i64 0, .int .i64 0, .int .i64 0, .int .i64 0, .int .i64 0]) ?_ 2 _ rfl; (with_reducible repeat (first | refine blk_drewN ?_ _ | refine blk_drew ?_ | refine blk_alloc ?_ _)); refine blk_put (cs := #[.int .i64 ((rd_T49 l0 x5_1).f0), .int .i64 0, .int .i64 0, .int .i64 0, .int .i64 0, .int .i64 0, .int .i64 0]) ?_ 1 _ rfl; (with_reducible repeat (first | refine blk_drewN ?_ _ | refine blk_drew ?_ | refine blk_alloc ?_ _)); refine blk_put (cs := #[.int .i64 0, .int .i64 0, .int .i64 0, .int .i64 0, .int .i64 0, .int .i64 0, .int .i64 0]) ?_ 0 _ rfl; (with_reducible repeat (first | refine blk_drewN ?_ _ | refine blk_drew ?_ | refine blk_alloc ?_ _)); exact BK127.out⟩, ⟨by repeat (first | (with_reducible first | exact HB.out | apply below_alloc | apply pw_below_drewN | apply below_drew1 | refine below_set ?_ GE127.out) | exact HB.out)⟩⟩
        case round =>
         clear H'; try clear c1; try clear p1; try clear q1; try clear hx1; try clear qi1; try clear hf1; try clear c2; try clear c2b0; try clear c2b1; try clear p2; try clear c3; try clear c3b0; try clear c3b1; try clear p6; try clear c8; try clear c8b0; try clear c9; try clear c9b0; try clear c10; try clear c10b0; try clear c10b1; try clear c11; try clear c11b0; try clear c11b1; try clear c12; try clear c12b0; try clear c12b1; try clear p12; try clear q12; try clear hx12; try clear c13; try clear c13b0; try clear c13b1; try clear c14; try clear c14b0; try clear c14b1; try clear c15; try clear c15b0; try clear c15b1; try clear p16; try clear q16; try clear hx16; try clear qi16; try clear hf16; try clear c25; try clear hcz18_0; try clear hcz18_1; try clear hcz18_2; try clear hcz18_3; try clear hcz18_4; try clear hcz18_5; try clear hcz18_6; try clear hcz20_0; try clear hcz20_1; try clear hcz20_2; try clear hcz20_3; try clear hcz20_4; try clear hcz20_5; try clear hcz20_6; try clear hcz24_0; try clear hcz24_1; try clear hcz24_2; try clear hcz24_3; try clear hcz24_4; try clear hcz24_5; try clear hcz24_6; try clear hcz26_0; try clear hcz26_1; try clear hcz26_2; try clear hcz26_3; try clear hcz26_4; try clear hcz26_5; try clear hcz26_6; try clear hcz28_0; try clear hcz28_1; try clear hcz28_2; try clear hcz28_3; try clear hcz28_4; try clear hcz28_5; try clear hcz28_6; try clear hcz30_0; try clear hcz30_1; try clear hcz30_2; try clear hcz30_3; try clear hcz30_4; try clear hcz30_5; try clear hcz30_6; try clear hcz32_0; try clear hcz32_1; try clear hcz32_2; try clear hcz32_3; try clear hcz32_4; try clear hcz32_5; try clear hcz32_6; try clear hfz18_0; try clear hfz18_1; try clear hfz18_2; try clear hfz18_3; try clear hfz18_4; try clear hfz18_5; try clear hfz18_6; try clear hfz20_0; try clear hfz20_1; try clear hfz20_2; try clear hfz20_3; try clear hfz20_4; try clear hfz20_5; try clear hfz20_6; try clear hfz24_0; try clear hfz24_1; try clear hfz24_2; try clear hfz24_3; try clear hfz24_4; try clear hfz24_5; try clear hfz24_6; try clear hfz26_0; try clear hfz26_1; try clear hfz26_2; try clear hfz26_3; try clear hfz26_4; try clear hfz26_5; try clear hfz26_6; try clear hfz28_0; try clear hfz28_1; try clear hfz28_2; try clear hfz28_3; try clear hfz28_4; try clear hfz28_5; try clear hfz28_6; try clear hfz30_0; try clear hfz30_1; try clear hfz30_2; try clear hfz30_3; try clear hfz30_4; try clear hfz30_5; try clear hfz30_6; try clear hfz32_0; try clear hfz32_1; try clear hfz32_2; try clear hfz32_3; try clear hfz32_4; try clear hfz32_5; try clear hfz32_6; try clear hx126_0; try clear hx126_1; try clear hx126_2; try clear hx126_3; try clear hx126_4; try clear hx126_5; try clear hx126_6; try clear hx16_0; try clear p126; try clear p16; try clear p2; try clear q126; try clear q16
         obtain ⟨x7_2, rfl, HA, HK2, HO_3, HO_4, BK127, HB⟩ := hrel
         cases gk with
         | zero => exact absurd HA.out (by simp [plunderlaw6_shaped.l1])
         | succ k2 =>
          have H := HA.out
          clear HA
          simp only [plunderlaw6_shaped.l1] at H
          by_cases c33 : x7_2 > ((rd_T49 l0 x5_1).f0)
          ·rw [if_pos c33] at H
           have c33b0 : decide (((rd_T49 l0 x5_1).f0) < x7_2) = true := decide_eq_true c33
           clear c33
           by_cases c34 : x7_2 ≥ 0
           ·rw [if_pos c34] at H
            have c34b0 : decide (0 ≤ x7_2) = true := decide_eq_true c34
            clear c34
            by_cases c35 : 0 ≤ x7_2
            ·rw [if_pos c35] at H
             have c35b0 : decide (0 ≤ x7_2) = true := decide_eq_true c35
             clear c35
             by_cases c36 : x7_2 < (l0.length : Int)
             ·rw [if_pos c36] at H
              have c36b0 : decide (x7_2 < (l0.length : Int)) = true := decide_eq_true c36
              clear c36
              have H' := Aside0.mk H
              clear H
              have hcz37_0 : wr.cell? ⟨gb127, 0, none⟩ = some (.int .i64 ((rd_T49 l0 x5_1).f0)) := (blk_cell BK127.out 0).trans rfl
              have hcz37_1 : wr.cell? ⟨gb127, 1, none⟩ = some (.int .i64 ((rd_T49 l0 x5_1).f1)) := (blk_cell BK127.out 1).trans rfl
              have hcz37_2 : wr.cell? ⟨gb127, 2, none⟩ = some (.int .i64 ((rd_T49 l0 x5_1).f2)) := (blk_cell BK127.out 2).trans rfl
              have hcz37_3 : wr.cell? ⟨gb127, 3, none⟩ = some (.int .i64 ((rd_T49 l0 x5_1).f3)) := (blk_cell BK127.out 3).trans rfl
              have hcz37_4 : wr.cell? ⟨gb127, 4, none⟩ = some (.int .i64 ((rd_T49 l0 x5_1).f4)) := (blk_cell BK127.out 4).trans rfl
              have hcz37_5 : wr.cell? ⟨gb127, 5, none⟩ = some (.int .i64 ((rd_T49 l0 x5_1).f5)) := (blk_cell BK127.out 5).trans rfl
              have hcz37_6 : wr.cell? ⟨gb127, 6, none⟩ = some (.int .i64 ((rd_T49 l0 x5_1).f6)) := (blk_cell BK127.out 6).trans rfl
              have hfz37_0 := blk_frozen BK127.out 0
              have hfz37_1 := blk_frozen BK127.out 1
              have hfz37_2 := blk_frozen BK127.out 2
              have hfz37_3 := blk_frozen BK127.out 3
              have hfz37_4 := blk_frozen BK127.out 4
              have hfz37_5 := blk_frozen BK127.out 5
              have hfz37_6 := blk_frozen BK127.out 6
              have p129 : 0 ≤ (x7_2 : Int) := of_decide_eq_true (by first | (with_reducible assumption) | assumption)
              have q129 : x7_2 < (l0.length : Int) := of_decide_eq_true (by first | (with_reducible assumption) | assumption)
              obtain ⟨ad129, e129, hx129_0, hx129_1, hx129_2, hx129_3, hx129_4, hx129_5, hx129_6⟩ := at_T49 HR0.out x7_2 p129 q129
              obtain rfl : ad126 = ad129 := (by injection e129)
              replace hx129_0 := cl_ HB.out hx129_0
              replace hx129_1 := cl_ HB.out hx129_1
              replace hx129_2 := cl_ HB.out hx129_2
              replace hx129_3 := cl_ HB.out hx129_3
              replace hx129_4 := cl_ HB.out hx129_4
              replace hx129_5 := cl_ HB.out hx129_5
              replace hx129_6 := cl_ HB.out hx129_6
              replace p129 := eq_true p129
              replace q129 := eq_true q129
              go_wp2
              go_roundg k2
              case measure => have := HK1.out; have := HK2.out; omega
              case rel => exact ⟨((rd_T49 l0 x7_2).f0), (by first | rfl | (simp; done) | (simp [*]; done)), H', ⟨by have := HK1.out; have := HK2.out; omega⟩, ⟨by (with_reducible repeat (first | apply Kd.R_alloc | apply Kd.R_drewN | apply Kd.R_drew)); exact HO_3.out⟩, ⟨by (with_reducible repeat (first | apply Kd.R_alloc | apply Kd.R_drewN | apply Kd.R_drew)); exact HO_4.out⟩, ⟨by (with_reducible repeat (first | refine blk_drewN ?_ _ | refine blk_drew ?_ | refine blk_alloc ?_ _)); exact BK127.out⟩, ⟨by repeat (first | (with_reducible first | exact HB.out | apply below_alloc | apply pw_below_drewN | apply below_drew1 | refine below_set ?_ GE127.out) | exact HB.out)⟩⟩
             ·rw [if_neg c36] at H; exact absurd H (by simp)
            ·rw [if_neg c35] at H; exact absurd H (by simp)
           ·rw [if_neg c34] at H
            have c34b0 : decide (0 ≤ x7_2) = false := decide_eq_false c34
            clear c34
            by_cases c38 : x7_2 < 0
            ·rw [if_pos c38] at H
             have c38b0 : decide (x7_2 < 0) = true := decide_eq_true c38
             clear c38
             obtain rfl := Option.some.inj H
             have hcz39_0 : wr.cell? ⟨gb127, 0, none⟩ = some (.int .i64 ((rd_T49 l0 x5_1).f0)) := (blk_cell BK127.out 0).trans rfl
             have hcz39_1 : wr.cell? ⟨gb127, 1, none⟩ = some (.int .i64 ((rd_T49 l0 x5_1).f1)) := (blk_cell BK127.out 1).trans rfl
             have hcz39_2 : wr.cell? ⟨gb127, 2, none⟩ = some (.int .i64 ((rd_T49 l0 x5_1).f2)) := (blk_cell BK127.out 2).trans rfl
             have hcz39_3 : wr.cell? ⟨gb127, 3, none⟩ = some (.int .i64 ((rd_T49 l0 x5_1).f3)) := (blk_cell BK127.out 3).trans rfl
             have hcz39_4 : wr.cell? ⟨gb127, 4, none⟩ = some (.int .i64 ((rd_T49 l0 x5_1).f4)) := (blk_cell BK127.out 4).trans rfl
             have hcz39_5 : wr.cell? ⟨gb127, 5, none⟩ = some (.int .i64 ((rd_T49 l0 x5_1).f5)) := (blk_cell BK127.out 5).trans rfl
             have hcz39_6 : wr.cell? ⟨gb127, 6, none⟩ = some (.int .i64 ((rd_T49 l0 x5_1).f6)) := (blk_cell BK127.out 6).trans rfl
             have hfz39_0 := blk_frozen BK127.out 0
             have hfz39_1 := blk_frozen BK127.out 1
             have hfz39_2 := blk_frozen BK127.out 2
             have hfz39_3 := blk_frozen BK127.out 3
             have hfz39_4 := blk_frozen BK127.out 4
             have hfz39_5 := blk_frozen BK127.out 5
             have hfz39_6 := blk_frozen BK127.out 6
             try go_wp2
             have n0_ := Aside0.mk (Kd.R_drew HO_3.out)
             have n1_ := Aside0.mk (Kd.R_drew HO_4.out)
             have n2_ := Aside0.mk (blk_drew BK127.out)
             have n3_ := Aside0.mk (below_drew1 HB.out)
             clear HO_3; clear HO_4; clear BK127; clear HB
             have HO_3 := n0_
             have HO_4 := n1_
             have BK127 := n2_
             have HB := n3_
             clear n0_ n1_ n2_ n3_; refine start_ (n := 30) (S := fun w' => True) (ds := []) mA0 (by kernel_rfl) rfl rfl trivial (fun hHeld => ?_); refine with_tabW plunderlaw6_shaped.tab14 plunderlaw6_shaped.bits14 (fun HT_ HW_ => ?_)
             generalize wr.drew = w40 at HO_3 HO_4 BK127 HB hHeld ⊢
             refine pure_ (i := 0) (N := some 61) (v := ?_) (a' := ?_) mA1 rfl rfl (any_of HT_.out (by kernel_rfl)) (fun _ _ _ h => h) (Or.inl ⟨by rfl, ?_⟩) ?_ ?_; rotate_left
             ·intro w'; go_simp; with_reducible rfl
             rotate_left
             ·simp only [Act.put, sA_, sB_, sC_, i64_w, i32_w]; rfl
             refine pure_ (i := 1) (N := some 62) (v := ?_) (a' := ?_) mA2 rfl rfl (any_of HT_.out (by kernel_rfl)) (fun _ _ _ h => h) (Or.inl ⟨by rfl, ?_⟩) ?_ ?_; rotate_left
             ·intro w'; go_simp; with_reducible rfl
             rotate_left
             ·simp only [Act.put, sA_, sB_, sC_, i64_w, i32_w]; rfl
             refine pure_ (i := 2) (N := some 63) (v := ?_) (a' := ?_) mA3 rfl rfl (any_of HT_.out (by kernel_rfl)) (fun _ _ _ h => h) (Or.inl ⟨by rfl, ?_⟩) ?_ ?_; rotate_left
             ·intro w'; go_simp; with_reducible rfl
             rotate_left
             ·simp only [Act.put, sA_, sB_, sC_, i64_w, i32_w]; rfl
             refine pure_ (i := 3) (N := some 64) (v := undef) (a' := ?_) mA4 rfl rfl (any_of HT_.out (by kernel_rfl)) (fun _ _ _ h => h) (Or.inr ⟨by rfl, rfl⟩) ?_ ?_; rotate_left
             ·simp only [Act.put, sA_, sB_, sC_, i64_w, i32_w]; rfl
             refine pure_ (i := 4) (N := some 65) (v := undef) (a' := ?_) mA5 rfl rfl (any_of HT_.out (by kernel_rfl)) (fun _ _ _ h => h) (Or.inr ⟨by rfl, rfl⟩) ?_ ?_; rotate_left
             ·simp only [Act.put, sA_, sB_, sC_, i64_w, i32_w]; rfl
             refine pure_ (i := 5) (N := some 66) (v := undef) (a' := ?_) mA6 rfl rfl (any_of HT_.out (by kernel_rfl)) (fun _ _ _ h => h) (Or.inr ⟨by rfl, rfl⟩) ?_ ?_; rotate_left
             ·simp only [Act.put, sA_, sB_, sC_, i64_w, i32_w]; rfl
             refine pure_ (i := 6) (N := some 67) (v := undef) (a' := ?_) mA7 rfl rfl (any_of HT_.out (by kernel_rfl)) (fun _ _ _ h => h) (Or.inr ⟨by rfl, rfl⟩) ?_ ?_; rotate_left
             ·simp only [Act.put, sA_, sB_, sC_, i64_w, i32_w]; rfl
             refine pure_ (i := 7) (N := some 68) (v := ?_) (a' := ?_) mA8 rfl rfl (any_of HT_.out (by kernel_rfl)) (fun _ _ _ h => h) (Or.inl ⟨by rfl, ?_⟩) ?_ ?_; rotate_left
             ·intro w'; go_simp; with_reducible rfl
             rotate_left
             ·simp only [Act.put, sA_, sB_, sC_, i64_w, i32_w]; rfl
             refine pure_ (i := 8) (N := some 69) (v := ?_) (a' := ?_) mA9 rfl rfl (any_of HT_.out (by kernel_rfl)) (fun _ _ _ h => h) (Or.inl ⟨by rfl, ?_⟩) ?_ ?_; rotate_left
             ·intro w'; go_simp; with_reducible rfl
             rotate_left
             ·simp only [Act.put, sA_, sB_, sC_, i64_w, i32_w]; rfl
             refine pure_ (i := 9) (N := some 70) (v := undef) (a' := ?_) mA10 rfl rfl (any_of HT_.out (by kernel_rfl)) (fun _ _ _ h => h) (Or.inr ⟨by rfl, rfl⟩) ?_ ?_; rotate_left
             ·simp only [Act.put, sA_, sB_, sC_, i64_w, i32_w]; rfl
             refine pure_ (i := 10) (N := some 71) (v := undef) (a' := ?_) mA11 rfl rfl (any_of HT_.out (by kernel_rfl)) (fun _ _ _ h => h) (Or.inr ⟨by rfl, rfl⟩) ?_ ?_; rotate_left
             ·simp only [Act.put, sA_, sB_, sC_, i64_w, i32_w]; rfl
             refine pure_ (i := 11) (N := some 72) (v := undef) (a' := ?_) mA12 rfl rfl (any_of HT_.out (by kernel_rfl)) (fun _ _ _ h => h) (Or.inr ⟨by rfl, rfl⟩) ?_ ?_; rotate_left
             ·simp only [Act.put, sA_, sB_, sC_, i64_w, i32_w]; rfl
             refine pure_ (i := 12) (N := some 73) (v := undef) (a' := ?_) mA13 rfl rfl (any_of HT_.out (by kernel_rfl)) (fun _ _ _ h => h) (Or.inr ⟨by rfl, rfl⟩) ?_ ?_; rotate_left
             ·simp only [Act.put, sA_, sB_, sC_, i64_w, i32_w]; rfl
             refine pure_ (i := 13) (N := some 74) (v := undef) (a' := ?_) mA14 rfl rfl (any_of HT_.out (by kernel_rfl)) (fun _ _ _ h => h) (Or.inr ⟨by rfl, rfl⟩) ?_ ?_; rotate_left
             ·simp only [Act.put, sA_, sB_, sC_, i64_w, i32_w]; rfl
             refine pure_ (i := 14) (N := some 75) (v := undef) (a' := ?_) mA15 rfl rfl (any_of HT_.out (by kernel_rfl)) (fun _ _ _ h => h) (Or.inr ⟨by rfl, rfl⟩) ?_ ?_; rotate_left
             ·simp only [Act.put, sA_, sB_, sC_, i64_w, i32_w]; rfl
             refine pure_ (i := 15) (N := some 76) (v := undef) (a' := ?_) mA16 rfl rfl (any_of HT_.out (by kernel_rfl)) (fun _ _ _ h => h) (Or.inr ⟨by rfl, rfl⟩) ?_ ?_; rotate_left
             ·simp only [Act.put, sA_, sB_, sC_, i64_w, i32_w]; rfl
             refine pure_ (i := 16) (N := some 77) (v := ?_) (a' := ?_) mA17 rfl rfl (any_of HT_.out (by kernel_rfl)) (fun _ _ _ h => h) (Or.inl ⟨by rfl, ?_⟩) ?_ ?_; rotate_left
             ·intro w'; go_simp; with_reducible rfl
             rotate_left
             ·simp only [Act.put, sA_, sB_, sC_, i64_w, i32_w]; rfl
             refine pure_ (i := 17) (N := some 78) (v := ?_) (a' := ?_) mA18 rfl rfl (any_of HT_.out (by kernel_rfl)) (fun _ _ _ h => h) (Or.inl ⟨by rfl, ?_⟩) ?_ ?_; rotate_left
             ·intro w'; go_simp; with_reducible rfl
             rotate_left
             ·simp only [Act.put, sA_, sB_, sC_, i64_w, i32_w]; rfl
             refine pure_ (i := 18) (N := some 79) (v := undef) (a' := ?_) mA19 rfl rfl (any_of HT_.out (by kernel_rfl)) (fun _ _ _ h => h) (Or.inr ⟨by rfl, rfl⟩) ?_ ?_; rotate_left
             ·simp only [Act.put, sA_, sB_, sC_, i64_w, i32_w]; rfl
             refine pure_ (i := 19) (N := some 80) (v := undef) (a' := ?_) mA20 rfl rfl (any_of HT_.out (by kernel_rfl)) (fun _ _ _ h => h) (Or.inr ⟨by rfl, rfl⟩) ?_ ?_; rotate_left
             ·simp only [Act.put, sA_, sB_, sC_, i64_w, i32_w]; rfl
             refine pure_ (i := 20) (N := some 81) (v := undef) (a' := ?_) mA21 rfl rfl (any_of HT_.out (by kernel_rfl)) (fun _ _ _ h => h) (Or.inr ⟨by rfl, rfl⟩) ?_ ?_; rotate_left
             ·simp only [Act.put, sA_, sB_, sC_, i64_w, i32_w]; rfl
             refine pure_ (i := 21) (N := some 82) (v := undef) (a' := ?_) mA22 rfl rfl (any_of HT_.out (by kernel_rfl)) (fun _ _ _ h => h) (Or.inr ⟨by rfl, rfl⟩) ?_ ?_; rotate_left
             ·simp only [Act.put, sA_, sB_, sC_, i64_w, i32_w]; rfl
             refine pure_ (i := 22) (N := some 83) (v := undef) (a' := ?_) mA23 rfl rfl (any_of HT_.out (by kernel_rfl)) (fun _ _ _ h => h) (Or.inr ⟨by rfl, rfl⟩) ?_ ?_; rotate_left
             ·simp only [Act.put, sA_, sB_, sC_, i64_w, i32_w]; rfl
             refine pure_ (i := 23) (N := some 84) (v := undef) (a' := ?_) mA24 rfl rfl (any_of HT_.out (by kernel_rfl)) (fun _ _ _ h => h) (Or.inr ⟨by rfl, rfl⟩) ?_ ?_; rotate_left
             ·simp only [Act.put, sA_, sB_, sC_, i64_w, i32_w]; rfl
             refine pure_ (i := 24) (N := some 85) (v := undef) (a' := ?_) mA25 rfl rfl (any_of HT_.out (by kernel_rfl)) (fun _ _ _ h => h) (Or.inr ⟨by rfl, rfl⟩) ?_ ?_; rotate_left
             ·simp only [Act.put, sA_, sB_, sC_, i64_w, i32_w]; rfl
             refine pure_ (i := 25) (N := some 86) (v := undef) (a' := ?_) mA26 rfl rfl (any_of HT_.out (by kernel_rfl)) (fun _ _ _ h => h) (Or.inr ⟨by rfl, rfl⟩) ?_ ?_; rotate_left
             ·simp only [Act.put, sA_, sB_, sC_, i64_w, i32_w]; rfl
             refine pure_ (i := 26) (N := some 87) (v := undef) (a' := ?_) mA27 rfl rfl (any_of HT_.out (by kernel_rfl)) (fun _ _ _ h => h) (Or.inr ⟨by rfl, rfl⟩) ?_ ?_; rotate_left
             ·simp only [Act.put, sA_, sB_, sC_, i64_w, i32_w]; rfl
             refine pure_ (i := 27) (N := some 88) (v := undef) (a' := ?_) mA28 rfl rfl (any_of HT_.out (by kernel_rfl)) (fun _ _ _ h => h) (Or.inr ⟨by rfl, rfl⟩) ?_ ?_; rotate_left
             ·simp only [Act.put, sA_, sB_, sC_, i64_w, i32_w]; rfl
             refine pure_ (i := 28) (N := some 89) (v := undef) (a' := ?_) mA29 rfl rfl (any_of HT_.out (by kernel_rfl)) (fun _ _ _ h => h) (Or.inr ⟨by rfl, rfl⟩) ?_ ?_; rotate_left
             ·simp only [Act.put, sA_, sB_, sC_, i64_w, i32_w]; rfl
             refine pure_ (i := 29) (N := some 90) (v := ?_) (a' := ?_) mA30 rfl rfl (any_of HT_.out (by kernel_rfl)) (fun _ _ _ h => h) (Or.inl ⟨by rfl, ?_⟩) ?_ ?_; rotate_left
             ·intro w'; go_simp; with_reducible rfl
             rotate_left
             ·simp only [Act.put, sA_, sB_, sC_, i64_w, i32_w]; rfl
             refine done_ (done_of HT_.out (by kernel_rfl)) ?_
             try go_wp2
             go_ret
             exact ⟨_, by first | rfl | (simp [errW_none, errW_some] <;> rfl) | (simp [*, errW_none, errW_some] <;> rfl), by first | exact Kd.R_nil _ _ _ _ _ | exact Kd.N_nil _ _ _ _ _ | exact Kd.V_nil _ _ _ _ _ | exact Kd.Q_nil _ _ _ _ _ | exact Kd.S_nil _ _ _ _ _, by repeat (first | (with_reducible first | exact HB.out | apply below_alloc | apply pw_below_drewN | apply below_drew1 | refine below_set ?_ GE127.out) | exact HB.out)⟩
            ·rw [if_neg c38] at H
             have c38b0 : decide (x7_2 < 0) = false := decide_eq_false c38
             clear c38
             by_cases c41 : x7_2 = ((rd_T49 l0 x5_1).f0)
             ·rw [if_pos c41] at H
              have c41b0 : (x7_2 == ((rd_T49 l0 x5_1).f0)) = true := beq_iff_eq.mpr c41
              have c41b1 : (x7_2 != ((rd_T49 l0 x5_1).f0)) = false := bne_eq_false_iff_eq.mpr c41
              clear c41
              by_cases c42 : 0 ≤ x7_2
              ·rw [if_pos c42] at H
               have c42b0 : decide (0 ≤ x7_2) = true := decide_eq_true c42
               clear c42
               by_cases c43 : x7_2 < (x3_1.length : Int)
               ·rw [if_pos c43] at H
                have c43b0 : decide (x7_2 < (x3_1.length : Int)) = true := decide_eq_true c43
                clear c43
                by_cases c44 : ((rd_T49 l0 x5_1).f1) = (rd x3_1 x7_2)
                ·rw [if_pos c44] at H
                 have c44b0 : (((rd_T49 l0 x5_1).f1) == (rd x3_1 x7_2)) = true := beq_iff_eq.mpr c44
                 have c44b1 : (((rd_T49 l0 x5_1).f1) != (rd x3_1 x7_2)) = false := bne_eq_false_iff_eq.mpr c44
                 clear c44
                 by_cases c45 : x7_2 < (l0.length : Int)
                 ·rw [if_pos c45] at H
                  have c45b0 : decide (x7_2 < (l0.length : Int)) = true := decide_eq_true c45
                  clear c45
                  replace H := Option.bind_eq_some_iff.mp H
                  obtain ⟨t132, A460, H⟩ := H
                  replace H : (if ((rd_T49 l0 x5_1).f4) = t132 then (if x7_2 < (x4_1.length : Int) then (if 0 ≤ x5_1 then (if x5_1 < (x4_1.length : Int) then (plunderlaw6_shaped.l0 k2 l0 (x3_1.set (x7_2 : Int).toNat (wrap64 ((rd x3_1 x7_2) + 1))) (x4_1.set (x5_1 : Int).toNat (wrap64 ((rd x4_1 x7_2) + 1))) (wrap64 (x5_1 + 1))) else (none)) else (none)) else (none)) else (some ([] : List Int))) = some r := H
                  have A46 := Aside0.mk A460; clear A460
                  by_cases c47 : ((rd_T49 l0 x5_1).f4) = t132
                  ·rw [if_pos c47] at H
                   have c47b0 : (((rd_T49 l0 x5_1).f4) == t132) = true := beq_iff_eq.mpr c47
                   have c47b1 : (((rd_T49 l0 x5_1).f4) != t132) = false := bne_eq_false_iff_eq.mpr c47
                   clear c47
                   obtain ⟨y134, hy134⟩ : ∃ y_ : List Int, y_ = (x3_1.set (x7_2 : Int).toNat (wrap64 ((rd x3_1 x7_2) + 1))) := ⟨_, rfl⟩
                   replace H : (if x7_2 < (x4_1.length : Int) then (if 0 ≤ x5_1 then (if x5_1 < (x4_1.length : Int) then (plunderlaw6_shaped.l0 k2 l0 y134 (x4_1.set (x5_1 : Int).toNat (wrap64 ((rd x4_1 x7_2) + 1))) (wrap64 (x5_1 + 1))) else (none)) else (none)) else (none)) = some r := by first | (rw [hy134]; with_reducible exact H) | (have H2_ := (Option.bind_some _ _).symm.trans H; rw [hy134]; with_reducible exact H2_) | (have H2_ := (Option.bind_some _ _).symm.trans H; with_reducible exact H2_) | with_reducible exact H | (rw [hy134]; exact H) | exact H
                   have Ny134 := Aside0.mk hy134; clear hy134
                   by_cases c49 : x7_2 < (x4_1.length : Int)
                   ·rw [if_pos c49] at H
                    have c49b0 : decide (x7_2 < (x4_1.length : Int)) = true := decide_eq_true c49
                    clear c49
                    by_cases c50 : 0 ≤ x5_1
                    ·rw [if_pos c50] at H
                     have c50b0 : decide (0 ≤ x5_1) = true := decide_eq_true c50
                     clear c50
                     by_cases c51 : x5_1 < (x4_1.length : Int)
                     ·rw [if_pos c51] at H
                      have c51b0 : decide (x5_1 < (x4_1.length : Int)) = true := decide_eq_true c51
                      clear c51
                      obtain ⟨y136, hy136⟩ : ∃ y_ : List Int, y_ = (x4_1.set (x5_1 : Int).toNat (wrap64 ((rd x4_1 x7_2) + 1))) := ⟨_, rfl⟩
                      replace H : (plunderlaw6_shaped.l0 k2 l0 y134 y136 (wrap64 (x5_1 + 1))) = some r := by first | (rw [hy136]; with_reducible exact H) | (have H2_ := (Option.bind_some _ _).symm.trans H; rw [hy136]; with_reducible exact H2_) | (have H2_ := (Option.bind_some _ _).symm.trans H; with_reducible exact H2_) | with_reducible exact H | (rw [hy136]; exact H) | exact H
                      have Ny136 := Aside0.mk hy136; clear hy136
                      have H' := Aside0.mk H
                      clear H
                      have hcz53_0 : wr.cell? ⟨gb127, 0, none⟩ = some (.int .i64 ((rd_T49 l0 x5_1).f0)) := (blk_cell BK127.out 0).trans rfl
                      have hcz53_1 : wr.cell? ⟨gb127, 1, none⟩ = some (.int .i64 ((rd_T49 l0 x5_1).f1)) := (blk_cell BK127.out 1).trans rfl
                      have hcz53_2 : wr.cell? ⟨gb127, 2, none⟩ = some (.int .i64 ((rd_T49 l0 x5_1).f2)) := (blk_cell BK127.out 2).trans rfl
                      have hcz53_3 : wr.cell? ⟨gb127, 3, none⟩ = some (.int .i64 ((rd_T49 l0 x5_1).f3)) := (blk_cell BK127.out 3).trans rfl
                      have hcz53_4 : wr.cell? ⟨gb127, 4, none⟩ = some (.int .i64 ((rd_T49 l0 x5_1).f4)) := (blk_cell BK127.out 4).trans rfl
                      have hcz53_5 : wr.cell? ⟨gb127, 5, none⟩ = some (.int .i64 ((rd_T49 l0 x5_1).f5)) := (blk_cell BK127.out 5).trans rfl
                      have hcz53_6 : wr.cell? ⟨gb127, 6, none⟩ = some (.int .i64 ((rd_T49 l0 x5_1).f6)) := (blk_cell BK127.out 6).trans rfl
                      have hfz53_0 := blk_frozen BK127.out 0
                      have hfz53_1 := blk_frozen BK127.out 1
                      have hfz53_2 := blk_frozen BK127.out 2
                      have hfz53_3 := blk_frozen BK127.out 3
                      have hfz53_4 := blk_frozen BK127.out 4
                      have hfz53_5 := blk_frozen BK127.out 5
                      have hfz53_6 := blk_frozen BK127.out 6
                      try go_wp2
                      have n0_ := Aside0.mk (Kd.R_drew HO_3.out)
                      have n1_ := Aside0.mk (Kd.R_drew HO_4.out)
                      have n2_ := Aside0.mk (blk_drew BK127.out)
                      have n3_ := Aside0.mk (below_drew1 HB.out)
                      clear HO_3; clear HO_4; clear BK127; clear HB
                      have HO_3 := n0_
                      have HO_4 := n1_
                      have BK127 := n2_
                      have HB := n3_
                      clear n0_ n1_ n2_ n3_
                      obtain ⟨Ao55, co55, eo55⟩ := Kd.R_slice HO_3.out
                      (first | subst eo55 | (injection eo55 with f1_ f2_ f3_; have f4_ := f1_.symm; have f5_ := f3_.symm; clear f1_ f2_ f3_; subst f4_; subst f5_))
                      have p130 : 0 ≤ (x7_2 : Int) := of_decide_eq_true (by first | (with_reducible assumption) | assumption)
                      have q130 : x7_2 < (x3_1.length : Int) := of_decide_eq_true (by first | (with_reducible assumption) | assumption)
                      obtain ⟨ad130, e130, hx130_0⟩ := Kd.at_int (Kd.R_reads' HO_3.out).2.2 x7_2 p130 q130
                      cases e130
                      replace p130 := eq_true p130
                      replace q130 := eq_true q130
                      have p131 : 0 ≤ (x7_2 : Int) := of_decide_eq_true (by first | (with_reducible assumption) | assumption)
                      have q131 : x7_2 < (l0.length : Int) := of_decide_eq_true (by first | (with_reducible assumption) | assumption)
                      obtain ⟨ad131, e131, hx131_0, hx131_1, hx131_2, hx131_3, hx131_4, hx131_5, hx131_6⟩ := at_T49 HR0.out x7_2 p131 q131
                      have hw131_6 := hx131_6
                      have hw131_5 := hx131_5
                      have hw131_4 := hx131_4
                      have hw131_3 := hx131_3
                      have hw131_2 := hx131_2
                      have hw131_1 := hx131_1
                      have hw131_0 := hx131_0
                      obtain rfl : ad126 = ad131 := (by injection e131)
                      replace hx131_0 := cl_ HB.out hx131_0
                      replace hx131_1 := cl_ HB.out hx131_1
                      replace hx131_2 := cl_ HB.out hx131_2
                      replace hx131_3 := cl_ HB.out hx131_3
                      replace hx131_4 := cl_ HB.out hx131_4
                      replace hx131_5 := cl_ HB.out hx131_5
                      replace hx131_6 := cl_ HB.out hx131_6
                      replace p131 := eq_true p131
                      replace q131 := eq_true q131
                      refine start_ (n := 30) (S := fun w' => w'.cell? ⟨gb127, 0, none⟩ = some (.int .i64 ((rd_T49 l0 x5_1).f0)) ∧ w'.cell? ⟨gb127, 1, none⟩ = some (.int .i64 ((rd_T49 l0 x5_1).f1)) ∧ w'.cell? ⟨gb127, 2, none⟩ = some (.int .i64 ((rd_T49 l0 x5_1).f2)) ∧ w'.cell? ⟨gb127, 3, none⟩ = some (.int .i64 ((rd_T49 l0 x5_1).f3)) ∧ w'.cell? ⟨gb127, 4, none⟩ = some (.int .i64 ((rd_T49 l0 x5_1).f4)) ∧ w'.cell? ⟨gb127, 5, none⟩ = some (.int .i64 ((rd_T49 l0 x5_1).f5)) ∧ w'.cell? ⟨gb127, 6, none⟩ = some (.int .i64 ((rd_T49 l0 x5_1).f6)) ∧ w'.cell? (ad130.add (x7_2).toNat) = some (.int .i64 (rd x3_1 x7_2)) ∧ w'.cell? (ad126.add ((x7_2).toNat * 7)) = some (.int .i64 ((rd_T49 l0 x7_2).f0)) ∧ w'.cell? ⟨(ad126.add ((x7_2).toNat * 7)).block, (ad126.add ((x7_2).toNat * 7)).off + 1, none⟩ = some (.int .i64 ((rd_T49 l0 x7_2).f1)) ∧ w'.cell? ⟨(ad126.add ((x7_2).toNat * 7)).block, (ad126.add ((x7_2).toNat * 7)).off + 2, none⟩ = some (.int .i64 ((rd_T49 l0 x7_2).f2)) ∧ w'.cell? ⟨(ad126.add ((x7_2).toNat * 7)).block, (ad126.add ((x7_2).toNat * 7)).off + 3, none⟩ = some (.int .i64 ((rd_T49 l0 x7_2).f3)) ∧ w'.cell? ⟨(ad126.add ((x7_2).toNat * 7)).block, (ad126.add ((x7_2).toNat * 7)).off + 4, none⟩ = some (.int .i64 ((rd_T49 l0 x7_2).f4)) ∧ w'.cell? ⟨(ad126.add ((x7_2).toNat * 7)).block, (ad126.add ((x7_2).toNat * 7)).off + 5, none⟩ = some (.int .i64 ((rd_T49 l0 x7_2).f5)) ∧ w'.cell? ⟨(ad126.add ((x7_2).toNat * 7)).block, (ad126.add ((x7_2).toNat * 7)).off + 6, none⟩ = some (.int .i64 ((rd_T49 l0 x7_2).f6))) (ds := []) mA0 (by kernel_rfl) rfl rfl ⟨(blk_cell BK127.out 0).trans rfl, (blk_cell BK127.out 1).trans rfl, (blk_cell BK127.out 2).trans rfl, (blk_cell BK127.out 3).trans rfl, (blk_cell BK127.out 4).trans rfl, (blk_cell BK127.out 5).trans rfl, (blk_cell BK127.out 6).trans rfl, hx130_0, ((HB.out.cell (World.block_lt_of_cell? w _ hw131_0)).trans hw131_0), ((HB.out.cell (World.block_lt_of_cell? w _ hw131_1)).trans hw131_1), ((HB.out.cell (World.block_lt_of_cell? w _ hw131_2)).trans hw131_2), ((HB.out.cell (World.block_lt_of_cell? w _ hw131_3)).trans hw131_3), ((HB.out.cell (World.block_lt_of_cell? w _ hw131_4)).trans hw131_4), ((HB.out.cell (World.block_lt_of_cell? w _ hw131_5)).trans hw131_5), ((HB.out.cell (World.block_lt_of_cell? w _ hw131_6)).trans hw131_6)⟩ (fun hHeld => ?_); refine with_tabW plunderlaw6_shaped.tab14 plunderlaw6_shaped.bits14 (fun HT_ HW_ => ?_)
                      generalize wr.drew = w54 at HO_3 HO_4 BK127 HB hx130_0 hx131_0 hx131_1 hx131_2 hx131_3 hx131_4 hx131_5 hx131_6 hHeld ⊢
                      refine pure_ (i := 0) (N := some 61) (v := ?_) (a' := ?_) mA1 rfl rfl (any_of HT_.out (by kernel_rfl)) (fun _ _ _ h => h) (Or.inl ⟨by rfl, ?_⟩) ?_ ?_; rotate_left
                      ·intro w'; go_simp; with_reducible rfl
                      rotate_left
                      ·simp only [Act.put, sA_, sB_, sC_, i64_w, i32_w]; rfl
                      refine pure_ (i := 1) (N := some 62) (v := ?_) (a' := ?_) mA2 rfl rfl (any_of HT_.out (by kernel_rfl)) (fun _ _ _ h => h) (Or.inl ⟨by rfl, ?_⟩) ?_ ?_; rotate_left
                      ·intro w'; go_simp; with_reducible rfl
                      rotate_left
                      ·simp only [Act.put, sA_, sB_, sC_, i64_w, i32_w]; rfl
                      refine pure_ (i := 2) (N := some 63) (v := ?_) (a' := ?_) mA3 rfl rfl (any_of HT_.out (by kernel_rfl)) (fun _ _ _ h => h) (Or.inl ⟨by rfl, ?_⟩) ?_ ?_; rotate_left
                      ·intro w'; go_simp; with_reducible rfl
                      rotate_left
                      ·simp only [Act.put, sA_, sB_, sC_, i64_w, i32_w]; rfl
                      refine pure_ (i := 3) (N := some 64) (v := ?_) (a' := ?_) mA4 rfl rfl (any_of HT_.out (by kernel_rfl)) (fun _ _ _ h => h) (Or.inl ⟨by rfl, ?_⟩) ?_ ?_; rotate_left
                      ·intro w'; go_simp; with_reducible rfl
                      rotate_left
                      ·simp only [Act.put, sA_, sB_, sC_, i64_w, i32_w]; rfl
                      refine pure_ (i := 4) (N := some 65) (v := ?_) (a' := ?_) mA5 rfl rfl (any_of HT_.out (by kernel_rfl)) (fun _ _ _ h => h) (Or.inl ⟨by rfl, ?_⟩) ?_ ?_; rotate_left
                      ·intro w'; go_simp; with_reducible rfl
                      rotate_left
                      ·simp only [Act.put, sA_, sB_, sC_, i64_w, i32_w]; rfl
                      refine take_ (i := 5) (N := some 66) (v := ?_) (a' := ?_) mA6 rfl rfl (take_ofW HT_.out HW_.out (by kernel_rfl)) (fun _ _ _ h => h) (Or.inl ⟨by rfl, ?_⟩) hHeld ?_ ?_; rotate_left
                      ·rintro w' ⟨s0, s1, s2, s3, s4, s5, s6, s7, s8, s9, s10, s11, s12, s13, s14⟩
                       go_simp; with_reducible rfl
                      rotate_left
                      ·simp only [Act.put, sA_, sB_, sC_, i64_w, i32_w]; rfl
                      refine pure_ (i := 6) (N := some 67) (v := ?_) (a' := ?_) mA7 rfl rfl (any_of HT_.out (by kernel_rfl)) (fun _ _ _ h => h) (Or.inl ⟨by rfl, ?_⟩) ?_ ?_; rotate_left
                      ·intro w'; go_simp; with_reducible rfl
                      rotate_left
                      ·simp only [Act.put, sA_, sB_, sC_, i64_w, i32_w]; rfl
                      refine pure_ (i := 7) (N := some 68) (v := ?_) (a' := ?_) mA8 rfl rfl (any_of HT_.out (by kernel_rfl)) (fun _ _ _ h => h) (Or.inl ⟨by rfl, ?_⟩) ?_ ?_; rotate_left
                      ·intro w'; go_simp; with_reducible rfl
                      rotate_left
                      ·simp only [Act.put, sA_, sB_, sC_, i64_w, i32_w]; rfl
                      refine pure_ (i := 8) (N := some 69) (v := ?_) (a' := ?_) mA9 rfl rfl (any_of HT_.out (by kernel_rfl)) (fun _ _ _ h => h) (Or.inl ⟨by rfl, ?_⟩) ?_ ?_; rotate_left
                      ·intro w'; go_simp; with_reducible rfl
                      rotate_left
                      ·simp only [Act.put, sA_, sB_, sC_, i64_w, i32_w]; rfl
                      refine pure_ (i := 9) (N := some 70) (v := ?_) (a' := ?_) mA10 rfl rfl (any_of HT_.out (by kernel_rfl)) (fun _ _ _ h => h) (Or.inl ⟨by rfl, ?_⟩) ?_ ?_; rotate_left
                      ·intro w'; go_simp; with_reducible rfl
                      rotate_left
                      ·simp only [Act.put, sA_, sB_, sC_, i64_w, i32_w]; rfl
                      refine pure_ (i := 11) (N := some 72) (v := ?_) (a' := ?_) mA31 rfl rfl (any_of HT_.out (by kernel_rfl)) (fun _ _ _ h => h) (Or.inl ⟨by rfl, ?_⟩) ?_ ?_; rotate_left
                      ·intro w'; go_simp; with_reducible rfl
                      rotate_left
                      ·simp only [Act.put, sA_, sB_, sC_, i64_w, i32_w]; rfl
                      refine pure_ (i := 12) (N := some 73) (v := ?_) (a' := ?_) mA32 rfl rfl (any_of HT_.out (by kernel_rfl)) (fun _ _ _ h => h) (Or.inl ⟨by rfl, ?_⟩) ?_ ?_; rotate_left
                      ·intro w'; go_simp; with_reducible rfl
                      rotate_left
                      ·simp only [Act.put, sA_, sB_, sC_, i64_w, i32_w]; rfl
                      refine pure_ (i := 13) (N := some 74) (v := ?_) (a' := ?_) mA33 rfl rfl (any_of HT_.out (by kernel_rfl)) (fun _ _ _ h => h) (Or.inl ⟨by rfl, ?_⟩) ?_ ?_; rotate_left
                      ·intro w'; go_simp; with_reducible rfl
                      rotate_left
                      ·simp only [Act.put, sA_, sB_, sC_, i64_w, i32_w]; rfl
                      refine take_ (i := 10) (N := some 71) (v := ?_) (a' := ?_) mA14 rfl rfl (take_ofW HT_.out HW_.out (by kernel_rfl)) (fun _ _ _ h => h) (Or.inl ⟨by rfl, ?_⟩) hHeld ?_ ?_; rotate_left
                      ·rintro w' ⟨s0, s1, s2, s3, s4, s5, s6, s7, s8, s9, s10, s11, s12, s13, s14⟩
                       go_simp; with_reducible rfl
                      rotate_left
                      ·simp only [Act.put, sA_, sB_, sC_, i64_w, i32_w]; rfl
                      refine take_ (i := 14) (N := some 75) (v := ?_) (a' := ?_) mA15 rfl rfl (take_ofW HT_.out HW_.out (by kernel_rfl)) (fun _ _ _ h => h) (Or.inl ⟨by rfl, ?_⟩) hHeld ?_ ?_; rotate_left
                      ·rintro w' ⟨s0, s1, s2, s3, s4, s5, s6, s7, s8, s9, s10, s11, s12, s13, s14⟩
                       go_simp; with_reducible rfl
                      rotate_left
                      ·simp only [Act.put, sA_, sB_, sC_, i64_w, i32_w]; rfl
                      refine pure_ (i := 15) (N := some 76) (v := ?_) (a' := ?_) mA16 rfl rfl (any_of HT_.out (by kernel_rfl)) (fun _ _ _ h => h) (Or.inl ⟨by rfl, ?_⟩) ?_ ?_; rotate_left
                      ·intro w'; go_simp; with_reducible rfl
                      rotate_left
                      ·simp only [Act.put, sA_, sB_, sC_, i64_w, i32_w]; rfl
                      refine pure_ (i := 16) (N := some 77) (v := ?_) (a' := ?_) mA17 rfl rfl (any_of HT_.out (by kernel_rfl)) (fun _ _ _ h => h) (Or.inl ⟨by rfl, ?_⟩) ?_ ?_; rotate_left
                      ·intro w'; go_simp; with_reducible rfl
                      rotate_left
                      ·simp only [Act.put, sA_, sB_, sC_, i64_w, i32_w]; rfl
                      refine pure_ (i := 17) (N := some 78) (v := ?_) (a' := ?_) mA18 rfl rfl (any_of HT_.out (by kernel_rfl)) (fun _ _ _ h => h) (Or.inl ⟨by rfl, ?_⟩) ?_ ?_; rotate_left
                      ·intro w'; go_simp; with_reducible rfl
                      rotate_left
                      ·simp only [Act.put, sA_, sB_, sC_, i64_w, i32_w]; rfl
                      refine pure_ (i := 18) (N := some 79) (v := ?_) (a' := ?_) mA19 rfl rfl (any_of HT_.out (by kernel_rfl)) (fun _ _ _ h => h) (Or.inl ⟨by rfl, ?_⟩) ?_ ?_; rotate_left
                      ·intro w'; go_simp; with_reducible rfl
                      rotate_left
                      ·simp only [Act.put, sA_, sB_, sC_, i64_w, i32_w]; rfl
                      refine pure_ (i := 20) (N := some 81) (v := ?_) (a' := ?_) mA34 rfl rfl (any_of HT_.out (by kernel_rfl)) (fun _ _ _ h => h) (Or.inl ⟨by rfl, ?_⟩) ?_ ?_; rotate_left
                      ·intro w'; go_simp; with_reducible rfl
                      rotate_left
                      ·simp only [Act.put, sA_, sB_, sC_, i64_w, i32_w]; rfl
                      refine pure_ (i := 21) (N := some 82) (v := ?_) (a' := ?_) mA35 rfl rfl (any_of HT_.out (by kernel_rfl)) (fun _ _ _ h => h) (Or.inl ⟨by rfl, ?_⟩) ?_ ?_; rotate_left
                      ·intro w'; go_simp; with_reducible rfl
                      rotate_left
                      ·simp only [Act.put, sA_, sB_, sC_, i64_w, i32_w]; rfl
                      refine pure_ (i := 22) (N := some 83) (v := ?_) (a' := ?_) mA36 rfl rfl (any_of HT_.out (by kernel_rfl)) (fun _ _ _ h => h) (Or.inl ⟨by rfl, ?_⟩) ?_ ?_; rotate_left
                      ·intro w'; go_simp; with_reducible rfl
                      rotate_left
                      ·simp only [Act.put, sA_, sB_, sC_, i64_w, i32_w]; rfl
                      refine pure_ (i := 23) (N := some 84) (v := ?_) (a' := ?_) mA37 rfl rfl (any_of HT_.out (by kernel_rfl)) (fun _ _ _ h => h) (Or.inl ⟨by rfl, ?_⟩) ?_ ?_; rotate_left
                      ·intro w'; go_simp; with_reducible rfl
                      rotate_left
                      ·simp only [Act.put, sA_, sB_, sC_, i64_w, i32_w]; rfl
                      refine pure_ (i := 25) (N := some 86) (v := ?_) (a' := ?_) mA38 rfl rfl (any_of HT_.out (by kernel_rfl)) (fun _ _ _ h => h) (Or.inl ⟨by rfl, ?_⟩) ?_ ?_; rotate_left
                      ·intro w'; go_simp; with_reducible rfl
                      rotate_left
                      ·simp only [Act.put, sA_, sB_, sC_, i64_w, i32_w]; rfl
                      refine take_ (i := 19) (N := some 80) (v := ?_) (a' := ?_) mA39 rfl rfl (take_ofW HT_.out HW_.out (by kernel_rfl)) (fun _ _ _ h => h) (Or.inl ⟨by rfl, ?_⟩) hHeld ?_ ?_; rotate_left
                      ·rintro w' ⟨s0, s1, s2, s3, s4, s5, s6, s7, s8, s9, s10, s11, s12, s13, s14⟩
                       go_simp; with_reducible rfl
                      rotate_left
                      ·simp only [Act.put, sA_, sB_, sC_, i64_w, i32_w]; rfl
                      refine take_ (i := 24) (N := some 85) (v := ?_) (a' := ?_) mA26 rfl rfl (take_ofW HT_.out HW_.out (by kernel_rfl)) (fun _ _ _ h => h) (Or.inl ⟨by rfl, ?_⟩) hHeld ?_ ?_; rotate_left
                      ·rintro w' ⟨s0, s1, s2, s3, s4, s5, s6, s7, s8, s9, s10, s11, s12, s13, s14⟩
                       go_simp; with_reducible rfl
                      rotate_left
                      ·simp only [Act.put, sA_, sB_, sC_, i64_w, i32_w]; rfl
                      refine take_ (i := 26) (N := some 87) (v := ?_) (a' := ?_) mA27 rfl rfl (take_ofW HT_.out HW_.out (by kernel_rfl)) (fun _ _ _ h => h) (Or.inl ⟨by rfl, ?_⟩) hHeld ?_ ?_; rotate_left
                      ·rintro w' ⟨s0, s1, s2, s3, s4, s5, s6, s7, s8, s9, s10, s11, s12, s13, s14⟩
                       go_simp; with_reducible rfl
                      rotate_left
                      ·simp only [Act.put, sA_, sB_, sC_, i64_w, i32_w]; rfl
                      refine one_ (i := 27) (N := some 88) mA28 rfl rfl (one_of HT_.out (by kernel_rfl)) (by decide) (fun K hK => ?_); refine goes_ Tryd.func35 (by kernel_rfl) rfl #[.int .i64 ((rd_T49 l0 x7_2).f4), .int .i64 ((rd_T49 l0 x5_1).f1)] (by rfl) rfl rfl (by (try simp only [List.map_toArray, List.map_cons, List.map_nil]); first | done | rfl | (simp only [List.length_drop, List.length_take]; rfl)) ?_
                      with_reducible refine (serial_Ped.calls ((rd_T49 l0 x7_2).f4) ((rd_T49 l0 x5_1).f1) t132 _ A46.out).mono ?_
                      rintro e w' ⟨rfl, ⟨nd, rfl⟩⟩
                      refine ⟨_, rfl, ?_⟩; refine hK.out _ _ ⟨(blk_cell BK127.out 0).trans rfl, (blk_cell BK127.out 1).trans rfl, (blk_cell BK127.out 2).trans rfl, (blk_cell BK127.out 3).trans rfl, (blk_cell BK127.out 4).trans rfl, (blk_cell BK127.out 5).trans rfl, (blk_cell BK127.out 6).trans rfl, hHeld.2.2.2.2.2.2.2.1, ((HB.out.cell (World.block_lt_of_cell? w _ hw131_0)).trans hw131_0), ((HB.out.cell (World.block_lt_of_cell? w _ hw131_1)).trans hw131_1), ((HB.out.cell (World.block_lt_of_cell? w _ hw131_2)).trans hw131_2), ((HB.out.cell (World.block_lt_of_cell? w _ hw131_3)).trans hw131_3), ((HB.out.cell (World.block_lt_of_cell? w _ hw131_4)).trans hw131_4), ((HB.out.cell (World.block_lt_of_cell? w _ hw131_5)).trans hw131_5), ((HB.out.cell (World.block_lt_of_cell? w _ hw131_6)).trans hw131_6)⟩ (fun hHeld => ?_); clear hK K; refine norm_ (a' := ?_) ?_ ?_; rotate_left
                      ·show Act.put _ (some 88) _ = _
                       simp only [Act.put, sA_, sB_, sC_, i64_w, i32_w]; rfl
                      refine pure_ (i := 28) (N := some 89) (v := ?_) (a' := ?_) mA29 rfl rfl (any_of HT_.out (by kernel_rfl)) (fun _ _ _ h => h) (Or.inl ⟨by rfl, ?_⟩) ?_ ?_; rotate_left
                      ·intro w'; go_simp; with_reducible rfl
                      rotate_left
                      ·simp only [Act.put, sA_, sB_, sC_, i64_w, i32_w]; rfl
                      refine pure_ (i := 29) (N := some 90) (v := ?_) (a' := ?_) mA30 rfl rfl (any_of HT_.out (by kernel_rfl)) (fun _ _ _ h => h) (Or.inl ⟨by rfl, ?_⟩) ?_ ?_; rotate_left
                      ·intro w'; go_simp; with_reducible rfl
                      rotate_left
                      ·simp only [Act.put, sA_, sB_, sC_, i64_w, i32_w]; rfl
                      refine done_ (done_of HT_.out (by kernel_rfl)) ?_
                      have n0_ := Aside0.mk (Kd.R_drewN HO_3.out nd)
                      have n1_ := Aside0.mk (Kd.R_drewN HO_4.out nd)
                      have m0_ := Aside0.mk (blk_drewN BK127.out nd)
                      have q_ := Aside0.mk (pw_below_drewN HB.out nd)
                      clear HO_3 HO_4 BK127 HB
                      have HO_3 := n0_
                      have HO_4 := n1_
                      have BK127 := m0_
                      have HB := q_
                      clear q_ n0_ n1_ m0_
                      have hxd_ : ∀ p v, w54.cell? p = some v → (w54.drewN nd).cell? p = some v := fun _ _ h => h
                      replace hx130_0 := hxd_ _ _ hx130_0
                      replace hx131_0 := hxd_ _ _ hx131_0
                      replace hx131_1 := hxd_ _ _ hx131_1
                      replace hx131_2 := hxd_ _ _ hx131_2
                      replace hx131_3 := hxd_ _ _ hx131_3
                      replace hx131_4 := hxd_ _ _ hx131_4
                      replace hx131_5 := hxd_ _ _ hx131_5
                      replace hx131_6 := hxd_ _ _ hx131_6
                      clear hxd_
                      generalize w54.drewN nd = w54 at HO_3 HO_4 BK127 HB hx130_0 hx131_0 hx131_1 hx131_2 hx131_3 hx131_4 hx131_5 hx131_6 ⊢
                      have p133 : 0 ≤ (x7_2 : Int) := of_decide_eq_true (by first | (with_reducible assumption) | assumption)
                      have q133 : x7_2 < (x3_1.length : Int) := of_decide_eq_true (by first | (with_reducible assumption) | assumption)
                      obtain ⟨ad133, e133, hx133_0⟩ := Kd.at_int (Kd.R_reads' HO_3.out).2.2 x7_2 p133 q133
                      obtain rfl : ad130 = ad133 := (by injection e133)
                      replace p133 := eq_true p133
                      replace q133 := eq_true q133
                      have p48 : 0 ≤ (x7_2 : Int) := of_decide_eq_true (by first | (with_reducible assumption) | assumption)
                      have q48 : (x7_2 : Int) < ((x3_1.length : Int) : Int) := of_decide_eq_true (by first | (with_reducible assumption) | assumption)
                      obtain ⟨go48, co48, eo48, gb48, gl48, cl48, HG48⟩ := Kd.R_form HO_3.out (by omega)
                      (first | cases eo48 | (injection eo48 with ea_ en_ ec_; (first | subst ea_ | (injection ea_ with ea_; subst ea_)); subst ec_; clear en_))
                      have GB48 := Aside0.mk gb48; have GG48 := Aside0.mk HG48; clear gb48 gl48 HG48
                      (first | simp only [add_plain] at hx130_0 | skip)
                      (first | simp only [add_plain] at hx133_0 | skip)
                      obtain ⟨hx48_0, hf48_0⟩ := Kd.R_celln 0 HO_3.out (x7_2 : Int) p48 q48
                      replace p48 := eq_true p48
                      replace q48 := eq_true q48
                      obtain ⟨hy56_, hz56_⟩ := Kd.R_celln 0 HO_3.out (x7_2 : Int) (of_decide_eq_true (by first | (with_reducible assumption) | assumption)) (of_decide_eq_true (by first | (with_reducible assumption) | assumption))
                      have HP56 := Kd.R_putg HO_3.out (x7_2 : Int) (wrap64 ((rd x3_1 x7_2) + 1))
                      try go_wp2_with (first | ((with_reducible refine gate_store (t := 3) (p := 96) rfl ?_); refine store_event (t := 3) (p := 96) (v := ?vo_w57) (w1 := (w54.setCell ⟨go48, (x7_2 : Int).toNat, none⟩ (.int .i64 (wrap64 ((rd x3_1 x7_2) + 1))))) ?hg ?ho ?hn ?hr ?_; (case ho => rfl); (case hg => rfl); (case hn => rfl); (case hr => first | (go_simp; done) | (go_simp; rfl)); intro w57 hw; have hg : w54.grownBy w57 (some go48) := (by rw [hw]; exact HP56.2); have hp_ : Kd.R (Kd.int .i64) 3 w57 w.heap.size (fun k_ => some k_ ≠ (v124 : Value).ownBlock) (.slice (some ⟨go48, 0, none⟩) x3_1.length co55) y134 := (by rw [hw, Ny134.out]; exact HP56.1); clear HP56; have n0_ := Aside0.mk (hp_); have n1_ := Aside0.mk (Kd.R_after (v := (.slice (some ⟨go48, 0, none⟩) x3_1.length co55)) (v1 := (.slice (some ⟨go48, 0, none⟩) x3_1.length co55)) (ok := (fun _ => True)) (by (with_reducible repeat (first | apply Kd.R_alloc | apply Kd.R_drewN | apply Kd.R_drew)); exact Kd.R_mono HO_4.out (fun _ hk => ⟨trivial, hk⟩)) hg (.inl rfl)); have n2_ := Aside0.mk (blk_grown (g := gb127) (o := .cells #[.int .i64 ((rd_T49 l0 x5_1).f0), .int .i64 ((rd_T49 l0 x5_1).f1), .int .i64 ((rd_T49 l0 x5_1).f2), .int .i64 ((rd_T49 l0 x5_1).f3), .int .i64 ((rd_T49 l0 x5_1).f4), .int .i64 ((rd_T49 l0 x5_1).f5), .int .i64 ((rd_T49 l0 x5_1).f6)] 49 (0, 0)) (by (with_reducible repeat (first | refine blk_drewN ?_ _ | refine blk_drew ?_ | refine blk_alloc ?_ _)); exact BK127.out) hg (Kd.R_ne HO_3.out BK127.out (by decide))); have n3_ := Aside0.mk ((by rw [hw]; exact below_set (HB.out) GB48.out : Below w.heap.size w w57)); clear HO_3; clear HO_4; clear BK127; clear HB; have HO_3 := n0_; have HO_4 := n1_; have BK127 := n2_; have HB := n3_; clear n0_ n1_ n2_ n3_; clear hg hw hp_; obtain ⟨Ao58, co58, eo58⟩ := Kd.R_slice HO_4.out; subst eo58; have p135 : 0 ≤ (x7_2 : Int) := of_decide_eq_true (by first | (with_reducible assumption) | assumption); have q135 : x7_2 < (x4_1.length : Int) := of_decide_eq_true (by first | (with_reducible assumption) | assumption); obtain ⟨ad135, e135, hx135_0⟩ := Kd.at_int (Kd.R_reads' HO_4.out).2.2 x7_2 p135 q135; cases e135; replace p135 := eq_true p135; replace q135 := eq_true q135; have p52 : 0 ≤ (x5_1 : Int) := of_decide_eq_true (by first | (with_reducible assumption) | assumption); have q52 : (x5_1 : Int) < ((x4_1.length : Int) : Int) := of_decide_eq_true (by first | (with_reducible assumption) | assumption); obtain ⟨go52, co52, eo52, gb52, gl52, cl52, HG52⟩ := Kd.R_form HO_4.out (by omega); (first | cases eo52 | (injection eo52 with ea_ en_ ec_; (first | subst ea_ | (injection ea_ with ea_; subst ea_)); subst ec_; clear en_)); have GB52 := Aside0.mk gb52; have GG52 := Aside0.mk HG52; clear gb52 gl52 HG52; (first | simp only [add_plain] at hx135_0 | skip); obtain ⟨hx52_0, hf52_0⟩ := Kd.R_celln 0 HO_4.out (x5_1 : Int) p52 q52; replace p52 := eq_true p52; replace q52 := eq_true q52; have n_ := Aside0.mk (Kd.R_mono (ok' := (fun k_ => some k_ ≠ (.slice (some ⟨go48, 0, none⟩) x3_1.length co55 : Value).ownBlock)) HO_4.out (fun k_ hk => hk.2)); clear HO_4; have HO_4 := n_; clear n_; obtain ⟨hy59_, hz59_⟩ := Kd.R_celln 0 HO_4.out (x5_1 : Int) (of_decide_eq_true (by first | (with_reducible assumption) | assumption)) (of_decide_eq_true (by first | (with_reducible assumption) | assumption)); have HP59 := Kd.R_putg HO_4.out (x5_1 : Int) (wrap64 ((rd x4_1 x7_2) + 1))) | ((with_reducible refine gate_store (t := 3) (p := 104) rfl ?_); refine store_event (t := 3) (p := 104) (v := ?vo_w60) (w1 := (w57.setCell ⟨go52, (x5_1 : Int).toNat, none⟩ (.int .i64 (wrap64 ((rd x4_1 x7_2) + 1))))) ?hg ?ho ?hn ?hr ?_; (case ho => rfl); (case hg => rfl); (case hn => rfl); (case hr => first | (go_simp; done) | (go_simp; rfl)); intro w60 hw; have hg : w57.grownBy w60 (some go52) := (by rw [hw]; exact HP59.2); have hp_ : Kd.R (Kd.int .i64) 3 w60 w.heap.size (fun k_ => some k_ ≠ (.slice (some ⟨go48, 0, none⟩) x3_1.length co55 : Value).ownBlock) (.slice (some ⟨go52, 0, none⟩) x4_1.length co58) y136 := (by rw [hw, Ny136.out]; exact HP59.1); clear HP59; have n0_ := Aside0.mk (Kd.R_after (v := (.slice (some ⟨go52, 0, none⟩) x4_1.length co58)) (v1 := (.slice (some ⟨go52, 0, none⟩) x4_1.length co58)) (ok := (fun _ => True)) (by (with_reducible repeat (first | apply Kd.R_alloc | apply Kd.R_drewN | apply Kd.R_drew)); exact Kd.R_mono HO_3.out (fun _ hk => ⟨trivial, hk⟩)) hg (.inl rfl)); have n1_ := Aside0.mk (hp_); have n2_ := Aside0.mk (blk_grown (g := gb127) (o := .cells #[.int .i64 ((rd_T49 l0 x5_1).f0), .int .i64 ((rd_T49 l0 x5_1).f1), .int .i64 ((rd_T49 l0 x5_1).f2), .int .i64 ((rd_T49 l0 x5_1).f3), .int .i64 ((rd_T49 l0 x5_1).f4), .int .i64 ((rd_T49 l0 x5_1).f5), .int .i64 ((rd_T49 l0 x5_1).f6)] 49 (0, 0)) (by (with_reducible repeat (first | refine blk_drewN ?_ _ | refine blk_drew ?_ | refine blk_alloc ?_ _)); exact BK127.out) hg (Kd.R_ne HO_4.out BK127.out (by decide))); have n3_ := Aside0.mk ((by rw [hw]; exact below_set (HB.out) GB52.out : Below w.heap.size w w60)); clear HO_3; clear HO_4; clear BK127; clear HB; have HO_3 := n0_; have HO_4 := n1_; have BK127 := n2_; have HB := n3_; clear n0_ n1_ n2_ n3_; clear hg hw hp_))
                      go_roundg k2
                      case measure => have := HK1.out; have := HK2.out; omega
                      case rel => exact ⟨(y134), (y136), (wrap64 (x5_1 + 1)), (by first | rfl | (simp; done) | (simp [*]; done)), H', ⟨by have := HK1.out; have := HK2.out; omega⟩, ⟨by (with_reducible repeat (first | apply Kd.R_alloc | apply Kd.R_drewN | apply Kd.R_drew)); exact Kd.R_mono HO_3.out (fun _ hk => hk.2)⟩, ⟨by (with_reducible repeat (first | apply Kd.R_alloc | apply Kd.R_drewN | apply Kd.R_drew)); exact HO_4.out⟩, ⟨by repeat (first | (with_reducible first | exact HB.out | apply below_alloc | apply pw_below_drewN | apply below_drew1 | refine below_set ?_ GE127.out) | exact HB.out)⟩⟩
                     ·rw [if_neg c51] at H; exact absurd H (by simp)
                    ·rw [if_neg c50] at H; exact absurd H (by simp)
                   ·rw [if_neg c49] at H; exact absurd H (by simp)
                  ·rw [if_neg c47] at H
                   have c47b0 : (((rd_T49 l0 x5_1).f4) == t132) = false := beq_eq_false_iff_ne.mpr c47
                   have c47b1 : (((rd_T49 l0 x5_1).f4) != t132) = true := bne_iff_ne.mpr c47
                   obtain rfl := Option.some.inj H
                   have hcz61_0 : wr.cell? ⟨gb127, 0, none⟩ = some (.int .i64 ((rd_T49 l0 x5_1).f0)) := (blk_cell BK127.out 0).trans rfl
                   have hcz61_1 : wr.cell? ⟨gb127, 1, none⟩ = some (.int .i64 ((rd_T49 l0 x5_1).f1)) := (blk_cell BK127.out 1).trans rfl
                   have hcz61_2 : wr.cell? ⟨gb127, 2, none⟩ = some (.int .i64 ((rd_T49 l0 x5_1).f2)) := (blk_cell BK127.out 2).trans rfl
                   have hcz61_3 : wr.cell? ⟨gb127, 3, none⟩ = some (.int .i64 ((rd_T49 l0 x5_1).f3)) := (blk_cell BK127.out 3).trans rfl
                   have hcz61_4 : wr.cell? ⟨gb127, 4, none⟩ = some (.int .i64 ((rd_T49 l0 x5_1).f4)) := (blk_cell BK127.out 4).trans rfl
                   have hcz61_5 : wr.cell? ⟨gb127, 5, none⟩ = some (.int .i64 ((rd_T49 l0 x5_1).f5)) := (blk_cell BK127.out 5).trans rfl
                   have hcz61_6 : wr.cell? ⟨gb127, 6, none⟩ = some (.int .i64 ((rd_T49 l0 x5_1).f6)) := (blk_cell BK127.out 6).trans rfl
                   have hfz61_0 := blk_frozen BK127.out 0
                   have hfz61_1 := blk_frozen BK127.out 1
                   have hfz61_2 := blk_frozen BK127.out 2
                   have hfz61_3 := blk_frozen BK127.out 3
                   have hfz61_4 := blk_frozen BK127.out 4
                   have hfz61_5 := blk_frozen BK127.out 5
                   have hfz61_6 := blk_frozen BK127.out 6
                   try go_wp2
                   have n0_ := Aside0.mk (Kd.R_drew HO_3.out)
                   have n1_ := Aside0.mk (Kd.R_drew HO_4.out)
                   have n2_ := Aside0.mk (blk_drew BK127.out)
                   have n3_ := Aside0.mk (below_drew1 HB.out)
                   clear HO_3; clear HO_4; clear BK127; clear HB
                   have HO_3 := n0_
                   have HO_4 := n1_
                   have BK127 := n2_
                   have HB := n3_
                   clear n0_ n1_ n2_ n3_
                   obtain ⟨Ao63, co63, eo63⟩ := Kd.R_slice HO_3.out
                   (first | subst eo63 | (injection eo63 with f1_ f2_ f3_; have f4_ := f1_.symm; have f5_ := f3_.symm; clear f1_ f2_ f3_; subst f4_; subst f5_))
                   have p130 : 0 ≤ (x7_2 : Int) := of_decide_eq_true (by first | (with_reducible assumption) | assumption)
                   have q130 : x7_2 < (x3_1.length : Int) := of_decide_eq_true (by first | (with_reducible assumption) | assumption)
                   obtain ⟨ad130, e130, hx130_0⟩ := Kd.at_int (Kd.R_reads' HO_3.out).2.2 x7_2 p130 q130
                   cases e130
                   replace p130 := eq_true p130
                   replace q130 := eq_true q130
                   have p131 : 0 ≤ (x7_2 : Int) := of_decide_eq_true (by first | (with_reducible assumption) | assumption)
                   have q131 : x7_2 < (l0.length : Int) := of_decide_eq_true (by first | (with_reducible assumption) | assumption)
                   obtain ⟨ad131, e131, hx131_0, hx131_1, hx131_2, hx131_3, hx131_4, hx131_5, hx131_6⟩ := at_T49 HR0.out x7_2 p131 q131
                   have hw131_6 := hx131_6
                   have hw131_5 := hx131_5
                   have hw131_4 := hx131_4
                   have hw131_3 := hx131_3
                   have hw131_2 := hx131_2
                   have hw131_1 := hx131_1
                   have hw131_0 := hx131_0
                   obtain rfl : ad126 = ad131 := (by injection e131)
                   replace hx131_0 := cl_ HB.out hx131_0
                   replace hx131_1 := cl_ HB.out hx131_1
                   replace hx131_2 := cl_ HB.out hx131_2
                   replace hx131_3 := cl_ HB.out hx131_3
                   replace hx131_4 := cl_ HB.out hx131_4
                   replace hx131_5 := cl_ HB.out hx131_5
                   replace hx131_6 := cl_ HB.out hx131_6
                   replace p131 := eq_true p131
                   replace q131 := eq_true q131
                   refine start_ (n := 30) (S := fun w' => w'.cell? ⟨gb127, 0, none⟩ = some (.int .i64 ((rd_T49 l0 x5_1).f0)) ∧ w'.cell? ⟨gb127, 1, none⟩ = some (.int .i64 ((rd_T49 l0 x5_1).f1)) ∧ w'.cell? ⟨gb127, 2, none⟩ = some (.int .i64 ((rd_T49 l0 x5_1).f2)) ∧ w'.cell? ⟨gb127, 3, none⟩ = some (.int .i64 ((rd_T49 l0 x5_1).f3)) ∧ w'.cell? ⟨gb127, 4, none⟩ = some (.int .i64 ((rd_T49 l0 x5_1).f4)) ∧ w'.cell? ⟨gb127, 5, none⟩ = some (.int .i64 ((rd_T49 l0 x5_1).f5)) ∧ w'.cell? ⟨gb127, 6, none⟩ = some (.int .i64 ((rd_T49 l0 x5_1).f6)) ∧ w'.cell? (ad130.add (x7_2).toNat) = some (.int .i64 (rd x3_1 x7_2)) ∧ w'.cell? (ad126.add ((x7_2).toNat * 7)) = some (.int .i64 ((rd_T49 l0 x7_2).f0)) ∧ w'.cell? ⟨(ad126.add ((x7_2).toNat * 7)).block, (ad126.add ((x7_2).toNat * 7)).off + 1, none⟩ = some (.int .i64 ((rd_T49 l0 x7_2).f1)) ∧ w'.cell? ⟨(ad126.add ((x7_2).toNat * 7)).block, (ad126.add ((x7_2).toNat * 7)).off + 2, none⟩ = some (.int .i64 ((rd_T49 l0 x7_2).f2)) ∧ w'.cell? ⟨(ad126.add ((x7_2).toNat * 7)).block, (ad126.add ((x7_2).toNat * 7)).off + 3, none⟩ = some (.int .i64 ((rd_T49 l0 x7_2).f3)) ∧ w'.cell? ⟨(ad126.add ((x7_2).toNat * 7)).block, (ad126.add ((x7_2).toNat * 7)).off + 4, none⟩ = some (.int .i64 ((rd_T49 l0 x7_2).f4)) ∧ w'.cell? ⟨(ad126.add ((x7_2).toNat * 7)).block, (ad126.add ((x7_2).toNat * 7)).off + 5, none⟩ = some (.int .i64 ((rd_T49 l0 x7_2).f5)) ∧ w'.cell? ⟨(ad126.add ((x7_2).toNat * 7)).block, (ad126.add ((x7_2).toNat * 7)).off + 6, none⟩ = some (.int .i64 ((rd_T49 l0 x7_2).f6))) (ds := []) mA0 (by kernel_rfl) rfl rfl ⟨(blk_cell BK127.out 0).trans rfl, (blk_cell BK127.out 1).trans rfl, (blk_cell BK127.out 2).trans rfl, (blk_cell BK127.out 3).trans rfl, (blk_cell BK127.out 4).trans rfl, (blk_cell BK127.out 5).trans rfl, (blk_cell BK127.out 6).trans rfl, hx130_0, ((HB.out.cell (World.block_lt_of_cell? w _ hw131_0)).trans hw131_0), ((HB.out.cell (World.block_lt_of_cell? w _ hw131_1)).trans hw131_1), ((HB.out.cell (World.block_lt_of_cell? w _ hw131_2)).trans hw131_2), ((HB.out.cell (World.block_lt_of_cell? w _ hw131_3)).trans hw131_3), ((HB.out.cell (World.block_lt_of_cell? w _ hw131_4)).trans hw131_4), ((HB.out.cell (World.block_lt_of_cell? w _ hw131_5)).trans hw131_5), ((HB.out.cell (World.block_lt_of_cell? w _ hw131_6)).trans hw131_6)⟩ (fun hHeld => ?_); refine with_tabW plunderlaw6_shaped.tab14 plunderlaw6_shaped.bits14 (fun HT_ HW_ => ?_)
                   generalize wr.drew = w62 at HO_3 HO_4 BK127 HB hx130_0 hx131_0 hx131_1 hx131_2 hx131_3 hx131_4 hx131_5 hx131_6 hHeld ⊢
                   refine pure_ (i := 0) (N := some 61) (v := ?_) (a' := ?_) mA1 rfl rfl (any_of HT_.out (by kernel_rfl)) (fun _ _ _ h => h) (Or.inl ⟨by rfl, ?_⟩) ?_ ?_; rotate_left
                   ·intro w'; go_simp; with_reducible rfl
                   rotate_left
                   ·simp only [Act.put, sA_, sB_, sC_, i64_w, i32_w]; rfl
                   refine pure_ (i := 1) (N := some 62) (v := ?_) (a' := ?_) mA2 rfl rfl (any_of HT_.out (by kernel_rfl)) (fun _ _ _ h => h) (Or.inl ⟨by rfl, ?_⟩) ?_ ?_; rotate_left
                   ·intro w'; go_simp; with_reducible rfl
                   rotate_left
                   ·simp only [Act.put, sA_, sB_, sC_, i64_w, i32_w]; rfl
                   refine pure_ (i := 2) (N := some 63) (v := ?_) (a' := ?_) mA3 rfl rfl (any_of HT_.out (by kernel_rfl)) (fun _ _ _ h => h) (Or.inl ⟨by rfl, ?_⟩) ?_ ?_; rotate_left
                   ·intro w'; go_simp; with_reducible rfl
                   rotate_left
                   ·simp only [Act.put, sA_, sB_, sC_, i64_w, i32_w]; rfl
                   refine pure_ (i := 3) (N := some 64) (v := ?_) (a' := ?_) mA4 rfl rfl (any_of HT_.out (by kernel_rfl)) (fun _ _ _ h => h) (Or.inl ⟨by rfl, ?_⟩) ?_ ?_; rotate_left
                   ·intro w'; go_simp; with_reducible rfl
                   rotate_left
                   ·simp only [Act.put, sA_, sB_, sC_, i64_w, i32_w]; rfl
                   refine pure_ (i := 4) (N := some 65) (v := ?_) (a' := ?_) mA5 rfl rfl (any_of HT_.out (by kernel_rfl)) (fun _ _ _ h => h) (Or.inl ⟨by rfl, ?_⟩) ?_ ?_; rotate_left
                   ·intro w'; go_simp; with_reducible rfl
                   rotate_left
                   ·simp only [Act.put, sA_, sB_, sC_, i64_w, i32_w]; rfl
                   refine take_ (i := 5) (N := some 66) (v := ?_) (a' := ?_) mA6 rfl rfl (take_ofW HT_.out HW_.out (by kernel_rfl)) (fun _ _ _ h => h) (Or.inl ⟨by rfl, ?_⟩) hHeld ?_ ?_; rotate_left
                   ·rintro w' ⟨s0, s1, s2, s3, s4, s5, s6, s7, s8, s9, s10, s11, s12, s13, s14⟩
                    go_simp; with_reducible rfl
                   rotate_left
                   ·simp only [Act.put, sA_, sB_, sC_, i64_w, i32_w]; rfl
                   refine pure_ (i := 6) (N := some 67) (v := ?_) (a' := ?_) mA7 rfl rfl (any_of HT_.out (by kernel_rfl)) (fun _ _ _ h => h) (Or.inl ⟨by rfl, ?_⟩) ?_ ?_; rotate_left
                   ·intro w'; go_simp; with_reducible rfl
                   rotate_left
                   ·simp only [Act.put, sA_, sB_, sC_, i64_w, i32_w]; rfl
                   refine pure_ (i := 7) (N := some 68) (v := ?_) (a' := ?_) mA8 rfl rfl (any_of HT_.out (by kernel_rfl)) (fun _ _ _ h => h) (Or.inl ⟨by rfl, ?_⟩) ?_ ?_; rotate_left
                   ·intro w'; go_simp; with_reducible rfl
                   rotate_left
                   ·simp only [Act.put, sA_, sB_, sC_, i64_w, i32_w]; rfl
                   refine pure_ (i := 8) (N := some 69) (v := ?_) (a' := ?_) mA9 rfl rfl (any_of HT_.out (by kernel_rfl)) (fun _ _ _ h => h) (Or.inl ⟨by rfl, ?_⟩) ?_ ?_; rotate_left
                   ·intro w'; go_simp; with_reducible rfl
                   rotate_left
                   ·simp only [Act.put, sA_, sB_, sC_, i64_w, i32_w]; rfl
                   refine pure_ (i := 9) (N := some 70) (v := ?_) (a' := ?_) mA10 rfl rfl (any_of HT_.out (by kernel_rfl)) (fun _ _ _ h => h) (Or.inl ⟨by rfl, ?_⟩) ?_ ?_; rotate_left
                   ·intro w'; go_simp; with_reducible rfl
                   rotate_left
                   ·simp only [Act.put, sA_, sB_, sC_, i64_w, i32_w]; rfl
                   refine pure_ (i := 11) (N := some 72) (v := ?_) (a' := ?_) mA31 rfl rfl (any_of HT_.out (by kernel_rfl)) (fun _ _ _ h => h) (Or.inl ⟨by rfl, ?_⟩) ?_ ?_; rotate_left
                   ·intro w'; go_simp; with_reducible rfl
                   rotate_left
                   ·simp only [Act.put, sA_, sB_, sC_, i64_w, i32_w]; rfl
                   refine pure_ (i := 12) (N := some 73) (v := ?_) (a' := ?_) mA32 rfl rfl (any_of HT_.out (by kernel_rfl)) (fun _ _ _ h => h) (Or.inl ⟨by rfl, ?_⟩) ?_ ?_; rotate_left
                   ·intro w'; go_simp; with_reducible rfl
                   rotate_left
                   ·simp only [Act.put, sA_, sB_, sC_, i64_w, i32_w]; rfl
                   refine pure_ (i := 13) (N := some 74) (v := ?_) (a' := ?_) mA33 rfl rfl (any_of HT_.out (by kernel_rfl)) (fun _ _ _ h => h) (Or.inl ⟨by rfl, ?_⟩) ?_ ?_; rotate_left
                   ·intro w'; go_simp; with_reducible rfl
                   rotate_left
                   ·simp only [Act.put, sA_, sB_, sC_, i64_w, i32_w]; rfl
                   refine take_ (i := 10) (N := some 71) (v := ?_) (a' := ?_) mA14 rfl rfl (take_ofW HT_.out HW_.out (by kernel_rfl)) (fun _ _ _ h => h) (Or.inl ⟨by rfl, ?_⟩) hHeld ?_ ?_; rotate_left
                   ·rintro w' ⟨s0, s1, s2, s3, s4, s5, s6, s7, s8, s9, s10, s11, s12, s13, s14⟩
                    go_simp; with_reducible rfl
                   rotate_left
                   ·simp only [Act.put, sA_, sB_, sC_, i64_w, i32_w]; rfl
                   refine take_ (i := 14) (N := some 75) (v := ?_) (a' := ?_) mA15 rfl rfl (take_ofW HT_.out HW_.out (by kernel_rfl)) (fun _ _ _ h => h) (Or.inl ⟨by rfl, ?_⟩) hHeld ?_ ?_; rotate_left
                   ·rintro w' ⟨s0, s1, s2, s3, s4, s5, s6, s7, s8, s9, s10, s11, s12, s13, s14⟩
                    go_simp; with_reducible rfl
                   rotate_left
                   ·simp only [Act.put, sA_, sB_, sC_, i64_w, i32_w]; rfl
                   refine pure_ (i := 15) (N := some 76) (v := ?_) (a' := ?_) mA16 rfl rfl (any_of HT_.out (by kernel_rfl)) (fun _ _ _ h => h) (Or.inl ⟨by rfl, ?_⟩) ?_ ?_; rotate_left
                   ·intro w'; go_simp; with_reducible rfl
                   rotate_left
                   ·simp only [Act.put, sA_, sB_, sC_, i64_w, i32_w]; rfl
                   refine pure_ (i := 16) (N := some 77) (v := ?_) (a' := ?_) mA17 rfl rfl (any_of HT_.out (by kernel_rfl)) (fun _ _ _ h => h) (Or.inl ⟨by rfl, ?_⟩) ?_ ?_; rotate_left
                   ·intro w'; go_simp; with_reducible rfl
                   rotate_left
                   ·simp only [Act.put, sA_, sB_, sC_, i64_w, i32_w]; rfl
                   refine pure_ (i := 17) (N := some 78) (v := ?_) (a' := ?_) mA18 rfl rfl (any_of HT_.out (by kernel_rfl)) (fun _ _ _ h => h) (Or.inl ⟨by rfl, ?_⟩) ?_ ?_; rotate_left
                   ·intro w'; go_simp; with_reducible rfl
                   rotate_left
                   ·simp only [Act.put, sA_, sB_, sC_, i64_w, i32_w]; rfl
                   refine pure_ (i := 18) (N := some 79) (v := ?_) (a' := ?_) mA19 rfl rfl (any_of HT_.out (by kernel_rfl)) (fun _ _ _ h => h) (Or.inl ⟨by rfl, ?_⟩) ?_ ?_; rotate_left
                   ·intro w'; go_simp; with_reducible rfl
                   rotate_left
                   ·simp only [Act.put, sA_, sB_, sC_, i64_w, i32_w]; rfl
                   refine pure_ (i := 20) (N := some 81) (v := ?_) (a' := ?_) mA34 rfl rfl (any_of HT_.out (by kernel_rfl)) (fun _ _ _ h => h) (Or.inl ⟨by rfl, ?_⟩) ?_ ?_; rotate_left
                   ·intro w'; go_simp; with_reducible rfl
                   rotate_left
                   ·simp only [Act.put, sA_, sB_, sC_, i64_w, i32_w]; rfl
                   refine pure_ (i := 21) (N := some 82) (v := ?_) (a' := ?_) mA35 rfl rfl (any_of HT_.out (by kernel_rfl)) (fun _ _ _ h => h) (Or.inl ⟨by rfl, ?_⟩) ?_ ?_; rotate_left
                   ·intro w'; go_simp; with_reducible rfl
                   rotate_left
                   ·simp only [Act.put, sA_, sB_, sC_, i64_w, i32_w]; rfl
                   refine pure_ (i := 22) (N := some 83) (v := ?_) (a' := ?_) mA36 rfl rfl (any_of HT_.out (by kernel_rfl)) (fun _ _ _ h => h) (Or.inl ⟨by rfl, ?_⟩) ?_ ?_; rotate_left
                   ·intro w'; go_simp; with_reducible rfl
                   rotate_left
                   ·simp only [Act.put, sA_, sB_, sC_, i64_w, i32_w]; rfl
                   refine pure_ (i := 23) (N := some 84) (v := ?_) (a' := ?_) mA37 rfl rfl (any_of HT_.out (by kernel_rfl)) (fun _ _ _ h => h) (Or.inl ⟨by rfl, ?_⟩) ?_ ?_; rotate_left
                   ·intro w'; go_simp; with_reducible rfl
                   rotate_left
                   ·simp only [Act.put, sA_, sB_, sC_, i64_w, i32_w]; rfl
                   refine pure_ (i := 25) (N := some 86) (v := ?_) (a' := ?_) mA38 rfl rfl (any_of HT_.out (by kernel_rfl)) (fun _ _ _ h => h) (Or.inl ⟨by rfl, ?_⟩) ?_ ?_; rotate_left
                   ·intro w'; go_simp; with_reducible rfl
                   rotate_left
                   ·simp only [Act.put, sA_, sB_, sC_, i64_w, i32_w]; rfl
                   refine take_ (i := 19) (N := some 80) (v := ?_) (a' := ?_) mA39 rfl rfl (take_ofW HT_.out HW_.out (by kernel_rfl)) (fun _ _ _ h => h) (Or.inl ⟨by rfl, ?_⟩) hHeld ?_ ?_; rotate_left
                   ·rintro w' ⟨s0, s1, s2, s3, s4, s5, s6, s7, s8, s9, s10, s11, s12, s13, s14⟩
                    go_simp; with_reducible rfl
                   rotate_left
                   ·simp only [Act.put, sA_, sB_, sC_, i64_w, i32_w]; rfl
                   refine take_ (i := 24) (N := some 85) (v := ?_) (a' := ?_) mA26 rfl rfl (take_ofW HT_.out HW_.out (by kernel_rfl)) (fun _ _ _ h => h) (Or.inl ⟨by rfl, ?_⟩) hHeld ?_ ?_; rotate_left
                   ·rintro w' ⟨s0, s1, s2, s3, s4, s5, s6, s7, s8, s9, s10, s11, s12, s13, s14⟩
                    go_simp; with_reducible rfl
                   rotate_left
                   ·simp only [Act.put, sA_, sB_, sC_, i64_w, i32_w]; rfl
                   refine take_ (i := 26) (N := some 87) (v := ?_) (a' := ?_) mA27 rfl rfl (take_ofW HT_.out HW_.out (by kernel_rfl)) (fun _ _ _ h => h) (Or.inl ⟨by rfl, ?_⟩) hHeld ?_ ?_; rotate_left
                   ·rintro w' ⟨s0, s1, s2, s3, s4, s5, s6, s7, s8, s9, s10, s11, s12, s13, s14⟩
                    go_simp; with_reducible rfl
                   rotate_left
                   ·simp only [Act.put, sA_, sB_, sC_, i64_w, i32_w]; rfl
                   refine one_ (i := 27) (N := some 88) mA28 rfl rfl (one_of HT_.out (by kernel_rfl)) (by decide) (fun K hK => ?_); refine goes_ Tryd.func35 (by kernel_rfl) rfl #[.int .i64 ((rd_T49 l0 x7_2).f4), .int .i64 ((rd_T49 l0 x5_1).f1)] (by rfl) rfl rfl (by (try simp only [List.map_toArray, List.map_cons, List.map_nil]); first | done | rfl | (simp only [List.length_drop, List.length_take]; rfl)) ?_
                   with_reducible refine (serial_Ped.calls ((rd_T49 l0 x7_2).f4) ((rd_T49 l0 x5_1).f1) t132 _ A46.out).mono ?_
                   rintro e w' ⟨rfl, ⟨nd, rfl⟩⟩
                   refine ⟨_, rfl, ?_⟩; refine hK.out _ _ ⟨(blk_cell BK127.out 0).trans rfl, (blk_cell BK127.out 1).trans rfl, (blk_cell BK127.out 2).trans rfl, (blk_cell BK127.out 3).trans rfl, (blk_cell BK127.out 4).trans rfl, (blk_cell BK127.out 5).trans rfl, (blk_cell BK127.out 6).trans rfl, hHeld.2.2.2.2.2.2.2.1, ((HB.out.cell (World.block_lt_of_cell? w _ hw131_0)).trans hw131_0), ((HB.out.cell (World.block_lt_of_cell? w _ hw131_1)).trans hw131_1), ((HB.out.cell (World.block_lt_of_cell? w _ hw131_2)).trans hw131_2), ((HB.out.cell (World.block_lt_of_cell? w _ hw131_3)).trans hw131_3), ((HB.out.cell (World.block_lt_of_cell? w _ hw131_4)).trans hw131_4), ((HB.out.cell (World.block_lt_of_cell? w _ hw131_5)).trans hw131_5), ((HB.out.cell (World.block_lt_of_cell? w _ hw131_6)).trans hw131_6)⟩ (fun hHeld => ?_); clear hK K; refine norm_ (a' := ?_) ?_ ?_; rotate_left
                   ·show Act.put _ (some 88) _ = _
                    simp only [Act.put, sA_, sB_, sC_, i64_w, i32_w]; rfl
                   refine pure_ (i := 28) (N := some 89) (v := ?_) (a' := ?_) mA29 rfl rfl (any_of HT_.out (by kernel_rfl)) (fun _ _ _ h => h) (Or.inl ⟨by rfl, ?_⟩) ?_ ?_; rotate_left
                   ·intro w'; go_simp; with_reducible rfl
                   rotate_left
                   ·simp only [Act.put, sA_, sB_, sC_, i64_w, i32_w]; rfl
                   refine pure_ (i := 29) (N := some 90) (v := ?_) (a' := ?_) mA30 rfl rfl (any_of HT_.out (by kernel_rfl)) (fun _ _ _ h => h) (Or.inl ⟨by rfl, ?_⟩) ?_ ?_; rotate_left
                   ·intro w'; go_simp; with_reducible rfl
                   rotate_left
                   ·simp only [Act.put, sA_, sB_, sC_, i64_w, i32_w]; rfl
                   refine done_ (done_of HT_.out (by kernel_rfl)) ?_
                   try go_wp2
                   go_ret
                   exact ⟨_, by first | rfl | (simp [errW_none, errW_some] <;> rfl) | (simp [*, errW_none, errW_some] <;> rfl), by first | exact Kd.R_nil _ _ _ _ _ | exact Kd.N_nil _ _ _ _ _ | exact Kd.V_nil _ _ _ _ _ | exact Kd.Q_nil _ _ _ _ _ | exact Kd.S_nil _ _ _ _ _, by repeat (first | (with_reducible first | exact HB.out | apply below_alloc | apply pw_below_drewN | apply below_drew1 | refine below_set ?_ GE127.out) | exact HB.out)⟩
                 ·rw [if_neg c45] at H; exact absurd H (by simp)
                ·rw [if_neg c44] at H
                 have c44b0 : (((rd_T49 l0 x5_1).f1) == (rd x3_1 x7_2)) = false := beq_eq_false_iff_ne.mpr c44
                 have c44b1 : (((rd_T49 l0 x5_1).f1) != (rd x3_1 x7_2)) = true := bne_iff_ne.mpr c44
                 obtain rfl := Option.some.inj H
                 have hcz64_0 : wr.cell? ⟨gb127, 0, none⟩ = some (.int .i64 ((rd_T49 l0 x5_1).f0)) := (blk_cell BK127.out 0).trans rfl
                 have hcz64_1 : wr.cell? ⟨gb127, 1, none⟩ = some (.int .i64 ((rd_T49 l0 x5_1).f1)) := (blk_cell BK127.out 1).trans rfl
                 have hcz64_2 : wr.cell? ⟨gb127, 2, none⟩ = some (.int .i64 ((rd_T49 l0 x5_1).f2)) := (blk_cell BK127.out 2).trans rfl
                 have hcz64_3 : wr.cell? ⟨gb127, 3, none⟩ = some (.int .i64 ((rd_T49 l0 x5_1).f3)) := (blk_cell BK127.out 3).trans rfl
                 have hcz64_4 : wr.cell? ⟨gb127, 4, none⟩ = some (.int .i64 ((rd_T49 l0 x5_1).f4)) := (blk_cell BK127.out 4).trans rfl
                 have hcz64_5 : wr.cell? ⟨gb127, 5, none⟩ = some (.int .i64 ((rd_T49 l0 x5_1).f5)) := (blk_cell BK127.out 5).trans rfl
                 have hcz64_6 : wr.cell? ⟨gb127, 6, none⟩ = some (.int .i64 ((rd_T49 l0 x5_1).f6)) := (blk_cell BK127.out 6).trans rfl
                 have hfz64_0 := blk_frozen BK127.out 0
                 have hfz64_1 := blk_frozen BK127.out 1
                 have hfz64_2 := blk_frozen BK127.out 2
                 have hfz64_3 := blk_frozen BK127.out 3
                 have hfz64_4 := blk_frozen BK127.out 4
                 have hfz64_5 := blk_frozen BK127.out 5
                 have hfz64_6 := blk_frozen BK127.out 6
                 try go_wp2
                 have n0_ := Aside0.mk (Kd.R_drew HO_3.out)
                 have n1_ := Aside0.mk (Kd.R_drew HO_4.out)
                 have n2_ := Aside0.mk (blk_drew BK127.out)
                 have n3_ := Aside0.mk (below_drew1 HB.out)
                 clear HO_3; clear HO_4; clear BK127; clear HB
                 have HO_3 := n0_
                 have HO_4 := n1_
                 have BK127 := n2_
                 have HB := n3_
                 clear n0_ n1_ n2_ n3_
                 obtain ⟨Ao66, co66, eo66⟩ := Kd.R_slice HO_3.out
                 (first | subst eo66 | (injection eo66 with f1_ f2_ f3_; have f4_ := f1_.symm; have f5_ := f3_.symm; clear f1_ f2_ f3_; subst f4_; subst f5_))
                 have p130 : 0 ≤ (x7_2 : Int) := of_decide_eq_true (by first | (with_reducible assumption) | assumption)
                 have q130 : x7_2 < (x3_1.length : Int) := of_decide_eq_true (by first | (with_reducible assumption) | assumption)
                 obtain ⟨ad130, e130, hx130_0⟩ := Kd.at_int (Kd.R_reads' HO_3.out).2.2 x7_2 p130 q130
                 cases e130
                 replace p130 := eq_true p130
                 replace q130 := eq_true q130
                 refine start_ (n := 30) (S := fun w' => w'.cell? ⟨gb127, 0, none⟩ = some (.int .i64 ((rd_T49 l0 x5_1).f0)) ∧ w'.cell? ⟨gb127, 1, none⟩ = some (.int .i64 ((rd_T49 l0 x5_1).f1)) ∧ w'.cell? ⟨gb127, 2, none⟩ = some (.int .i64 ((rd_T49 l0 x5_1).f2)) ∧ w'.cell? ⟨gb127, 3, none⟩ = some (.int .i64 ((rd_T49 l0 x5_1).f3)) ∧ w'.cell? ⟨gb127, 4, none⟩ = some (.int .i64 ((rd_T49 l0 x5_1).f4)) ∧ w'.cell? ⟨gb127, 5, none⟩ = some (.int .i64 ((rd_T49 l0 x5_1).f5)) ∧ w'.cell? ⟨gb127, 6, none⟩ = some (.int .i64 ((rd_T49 l0 x5_1).f6)) ∧ w'.cell? (ad130.add (x7_2).toNat) = some (.int .i64 (rd x3_1 x7_2))) (ds := []) mA0 (by kernel_rfl) rfl rfl ⟨(blk_cell BK127.out 0).trans rfl, (blk_cell BK127.out 1).trans rfl, (blk_cell BK127.out 2).trans rfl, (blk_cell BK127.out 3).trans rfl, (blk_cell BK127.out 4).trans rfl, (blk_cell BK127.out 5).trans rfl, (blk_cell BK127.out 6).trans rfl, hx130_0⟩ (fun hHeld => ?_); refine with_tabW plunderlaw6_shaped.tab14 plunderlaw6_shaped.bits14 (fun HT_ HW_ => ?_)
                 generalize wr.drew = w65 at HO_3 HO_4 BK127 HB hx130_0 hHeld ⊢
                 refine pure_ (i := 0) (N := some 61) (v := ?_) (a' := ?_) mA1 rfl rfl (any_of HT_.out (by kernel_rfl)) (fun _ _ _ h => h) (Or.inl ⟨by rfl, ?_⟩) ?_ ?_; rotate_left
                 ·intro w'; go_simp; with_reducible rfl
                 rotate_left
                 ·simp only [Act.put, sA_, sB_, sC_, i64_w, i32_w]; rfl
                 refine pure_ (i := 1) (N := some 62) (v := ?_) (a' := ?_) mA2 rfl rfl (any_of HT_.out (by kernel_rfl)) (fun _ _ _ h => h) (Or.inl ⟨by rfl, ?_⟩) ?_ ?_; rotate_left
                 ·intro w'; go_simp; with_reducible rfl
                 rotate_left
                 ·simp only [Act.put, sA_, sB_, sC_, i64_w, i32_w]; rfl
                 refine pure_ (i := 2) (N := some 63) (v := ?_) (a' := ?_) mA3 rfl rfl (any_of HT_.out (by kernel_rfl)) (fun _ _ _ h => h) (Or.inl ⟨by rfl, ?_⟩) ?_ ?_; rotate_left
                 ·intro w'; go_simp; with_reducible rfl
                 rotate_left
                 ·simp only [Act.put, sA_, sB_, sC_, i64_w, i32_w]; rfl
                 refine pure_ (i := 3) (N := some 64) (v := ?_) (a' := ?_) mA4 rfl rfl (any_of HT_.out (by kernel_rfl)) (fun _ _ _ h => h) (Or.inl ⟨by rfl, ?_⟩) ?_ ?_; rotate_left
                 ·intro w'; go_simp; with_reducible rfl
                 rotate_left
                 ·simp only [Act.put, sA_, sB_, sC_, i64_w, i32_w]; rfl
                 refine pure_ (i := 4) (N := some 65) (v := ?_) (a' := ?_) mA5 rfl rfl (any_of HT_.out (by kernel_rfl)) (fun _ _ _ h => h) (Or.inl ⟨by rfl, ?_⟩) ?_ ?_; rotate_left
                 ·intro w'; go_simp; with_reducible rfl
                 rotate_left
                 ·simp only [Act.put, sA_, sB_, sC_, i64_w, i32_w]; rfl
                 refine take_ (i := 5) (N := some 66) (v := ?_) (a' := ?_) mA6 rfl rfl (take_ofW HT_.out HW_.out (by kernel_rfl)) (fun _ _ _ h => h) (Or.inl ⟨by rfl, ?_⟩) hHeld ?_ ?_; rotate_left
                 ·rintro w' ⟨s0, s1, s2, s3, s4, s5, s6, s7⟩
                  go_simp; with_reducible rfl
                 rotate_left
                 ·simp only [Act.put, sA_, sB_, sC_, i64_w, i32_w]; rfl
                 refine pure_ (i := 6) (N := some 67) (v := ?_) (a' := ?_) mA7 rfl rfl (any_of HT_.out (by kernel_rfl)) (fun _ _ _ h => h) (Or.inl ⟨by rfl, ?_⟩) ?_ ?_; rotate_left
                 ·intro w'; go_simp; with_reducible rfl
                 rotate_left
                 ·simp only [Act.put, sA_, sB_, sC_, i64_w, i32_w]; rfl
                 refine pure_ (i := 7) (N := some 68) (v := ?_) (a' := ?_) mA8 rfl rfl (any_of HT_.out (by kernel_rfl)) (fun _ _ _ h => h) (Or.inl ⟨by rfl, ?_⟩) ?_ ?_; rotate_left
                 ·intro w'; go_simp; with_reducible rfl
                 rotate_left
                 ·simp only [Act.put, sA_, sB_, sC_, i64_w, i32_w]; rfl
                 refine pure_ (i := 8) (N := some 69) (v := ?_) (a' := ?_) mA9 rfl rfl (any_of HT_.out (by kernel_rfl)) (fun _ _ _ h => h) (Or.inl ⟨by rfl, ?_⟩) ?_ ?_; rotate_left
                 ·intro w'; go_simp; with_reducible rfl
                 rotate_left
                 ·simp only [Act.put, sA_, sB_, sC_, i64_w, i32_w]; rfl
                 refine pure_ (i := 9) (N := some 70) (v := ?_) (a' := ?_) mA10 rfl rfl (any_of HT_.out (by kernel_rfl)) (fun _ _ _ h => h) (Or.inl ⟨by rfl, ?_⟩) ?_ ?_; rotate_left
                 ·intro w'; go_simp; with_reducible rfl
                 rotate_left
                 ·simp only [Act.put, sA_, sB_, sC_, i64_w, i32_w]; rfl
                 refine pure_ (i := 11) (N := some 72) (v := ?_) (a' := ?_) mA31 rfl rfl (any_of HT_.out (by kernel_rfl)) (fun _ _ _ h => h) (Or.inl ⟨by rfl, ?_⟩) ?_ ?_; rotate_left
                 ·intro w'; go_simp; with_reducible rfl
                 rotate_left
                 ·simp only [Act.put, sA_, sB_, sC_, i64_w, i32_w]; rfl
                 refine pure_ (i := 12) (N := some 73) (v := ?_) (a' := ?_) mA32 rfl rfl (any_of HT_.out (by kernel_rfl)) (fun _ _ _ h => h) (Or.inl ⟨by rfl, ?_⟩) ?_ ?_; rotate_left
                 ·intro w'; go_simp; with_reducible rfl
                 rotate_left
                 ·simp only [Act.put, sA_, sB_, sC_, i64_w, i32_w]; rfl
                 refine pure_ (i := 13) (N := some 74) (v := ?_) (a' := ?_) mA33 rfl rfl (any_of HT_.out (by kernel_rfl)) (fun _ _ _ h => h) (Or.inl ⟨by rfl, ?_⟩) ?_ ?_; rotate_left
                 ·intro w'; go_simp; with_reducible rfl
                 rotate_left
                 ·simp only [Act.put, sA_, sB_, sC_, i64_w, i32_w]; rfl
                 refine take_ (i := 10) (N := some 71) (v := ?_) (a' := ?_) mA14 rfl rfl (take_ofW HT_.out HW_.out (by kernel_rfl)) (fun _ _ _ h => h) (Or.inl ⟨by rfl, ?_⟩) hHeld ?_ ?_; rotate_left
                 ·rintro w' ⟨s0, s1, s2, s3, s4, s5, s6, s7⟩
                  go_simp; with_reducible rfl
                 rotate_left
                 ·simp only [Act.put, sA_, sB_, sC_, i64_w, i32_w]; rfl
                 refine take_ (i := 14) (N := some 75) (v := ?_) (a' := ?_) mA15 rfl rfl (take_ofW HT_.out HW_.out (by kernel_rfl)) (fun _ _ _ h => h) (Or.inl ⟨by rfl, ?_⟩) hHeld ?_ ?_; rotate_left
                 ·rintro w' ⟨s0, s1, s2, s3, s4, s5, s6, s7⟩
                  go_simp; with_reducible rfl
                 rotate_left
                 ·simp only [Act.put, sA_, sB_, sC_, i64_w, i32_w]; rfl
                 refine pure_ (i := 15) (N := some 76) (v := ?_) (a' := ?_) mA16 rfl rfl (any_of HT_.out (by kernel_rfl)) (fun _ _ _ h => h) (Or.inl ⟨by rfl, ?_⟩) ?_ ?_; rotate_left
                 ·intro w'; go_simp; with_reducible rfl
                 rotate_left
                 ·simp only [Act.put, sA_, sB_, sC_, i64_w, i32_w]; rfl
                 refine pure_ (i := 16) (N := some 77) (v := ?_) (a' := ?_) mA17 rfl rfl (any_of HT_.out (by kernel_rfl)) (fun _ _ _ h => h) (Or.inl ⟨by rfl, ?_⟩) ?_ ?_; rotate_left
                 ·intro w'; go_simp; with_reducible rfl
                 rotate_left
                 ·simp only [Act.put, sA_, sB_, sC_, i64_w, i32_w]; rfl
                 refine pure_ (i := 17) (N := some 78) (v := ?_) (a' := ?_) mA18 rfl rfl (any_of HT_.out (by kernel_rfl)) (fun _ _ _ h => h) (Or.inl ⟨by rfl, ?_⟩) ?_ ?_; rotate_left
                 ·intro w'; go_simp; with_reducible rfl
                 rotate_left
                 ·simp only [Act.put, sA_, sB_, sC_, i64_w, i32_w]; rfl
                 refine pure_ (i := 18) (N := some 79) (v := undef) (a' := ?_) mA19 rfl rfl (any_of HT_.out (by kernel_rfl)) (fun _ _ _ h => h) (Or.inr ⟨by rfl, rfl⟩) ?_ ?_; rotate_left
                 ·simp only [Act.put, sA_, sB_, sC_, i64_w, i32_w]; rfl
                 refine pure_ (i := 19) (N := some 80) (v := undef) (a' := ?_) mA20 rfl rfl (any_of HT_.out (by kernel_rfl)) (fun _ _ _ h => h) (Or.inr ⟨by rfl, rfl⟩) ?_ ?_; rotate_left
                 ·simp only [Act.put, sA_, sB_, sC_, i64_w, i32_w]; rfl
                 refine pure_ (i := 20) (N := some 81) (v := undef) (a' := ?_) mA21 rfl rfl (any_of HT_.out (by kernel_rfl)) (fun _ _ _ h => h) (Or.inr ⟨by rfl, rfl⟩) ?_ ?_; rotate_left
                 ·simp only [Act.put, sA_, sB_, sC_, i64_w, i32_w]; rfl
                 refine pure_ (i := 21) (N := some 82) (v := undef) (a' := ?_) mA22 rfl rfl (any_of HT_.out (by kernel_rfl)) (fun _ _ _ h => h) (Or.inr ⟨by rfl, rfl⟩) ?_ ?_; rotate_left
                 ·simp only [Act.put, sA_, sB_, sC_, i64_w, i32_w]; rfl
                 refine pure_ (i := 22) (N := some 83) (v := undef) (a' := ?_) mA23 rfl rfl (any_of HT_.out (by kernel_rfl)) (fun _ _ _ h => h) (Or.inr ⟨by rfl, rfl⟩) ?_ ?_; rotate_left
                 ·simp only [Act.put, sA_, sB_, sC_, i64_w, i32_w]; rfl
                 refine pure_ (i := 23) (N := some 84) (v := undef) (a' := ?_) mA24 rfl rfl (any_of HT_.out (by kernel_rfl)) (fun _ _ _ h => h) (Or.inr ⟨by rfl, rfl⟩) ?_ ?_; rotate_left
                 ·simp only [Act.put, sA_, sB_, sC_, i64_w, i32_w]; rfl
                 refine pure_ (i := 24) (N := some 85) (v := undef) (a' := ?_) mA25 rfl rfl (any_of HT_.out (by kernel_rfl)) (fun _ _ _ h => h) (Or.inr ⟨by rfl, rfl⟩) ?_ ?_; rotate_left
                 ·simp only [Act.put, sA_, sB_, sC_, i64_w, i32_w]; rfl
                 refine pure_ (i := 25) (N := some 86) (v := undef) (a' := ?_) mA26 rfl rfl (any_of HT_.out (by kernel_rfl)) (fun _ _ _ h => h) (Or.inr ⟨by rfl, rfl⟩) ?_ ?_; rotate_left
                 ·simp only [Act.put, sA_, sB_, sC_, i64_w, i32_w]; rfl
                 refine pure_ (i := 26) (N := some 87) (v := undef) (a' := ?_) mA27 rfl rfl (any_of HT_.out (by kernel_rfl)) (fun _ _ _ h => h) (Or.inr ⟨by rfl, rfl⟩) ?_ ?_; rotate_left
                 ·simp only [Act.put, sA_, sB_, sC_, i64_w, i32_w]; rfl
                 refine pure_ (i := 27) (N := some 88) (v := undef) (a' := ?_) mA28 rfl rfl (any_of HT_.out (by kernel_rfl)) (fun _ _ _ h => h) (Or.inr ⟨by rfl, rfl⟩) ?_ ?_; rotate_left
                 ·simp only [Act.put, sA_, sB_, sC_, i64_w, i32_w]; rfl
                 refine pure_ (i := 28) (N := some 89) (v := undef) (a' := ?_) mA29 rfl rfl (any_of HT_.out (by kernel_rfl)) (fun _ _ _ h => h) (Or.inr ⟨by rfl, rfl⟩) ?_ ?_; rotate_left
                 ·simp only [Act.put, sA_, sB_, sC_, i64_w, i32_w]; rfl
                 refine pure_ (i := 29) (N := some 90) (v := ?_) (a' := ?_) mA30 rfl rfl (any_of HT_.out (by kernel_rfl)) (fun _ _ _ h => h) (Or.inl ⟨by rfl, ?_⟩) ?_ ?_; rotate_left
                 ·intro w'; go_simp; with_reducible rfl
                 rotate_left
                 ·simp only [Act.put, sA_, sB_, sC_, i64_w, i32_w]; rfl
                 refine done_ (done_of HT_.out (by kernel_rfl)) ?_
                 try go_wp2
                 go_ret
                 exact ⟨_, by first | rfl | (simp [errW_none, errW_some] <;> rfl) | (simp [*, errW_none, errW_some] <;> rfl), by first | exact Kd.R_nil _ _ _ _ _ | exact Kd.N_nil _ _ _ _ _ | exact Kd.V_nil _ _ _ _ _ | exact Kd.Q_nil _ _ _ _ _ | exact Kd.S_nil _ _ _ _ _, by repeat (first | (with_reducible first | exact HB.out | apply below_alloc | apply pw_below_drewN | apply below_drew1 | refine below_set ?_ GE127.out) | exact HB.out)⟩
               ·rw [if_neg c43] at H; exact absurd H (by simp)
              ·rw [if_neg c42] at H; exact absurd H (by simp)
             ·rw [if_neg c41] at H
              have c41b0 : (x7_2 == ((rd_T49 l0 x5_1).f0)) = false := beq_eq_false_iff_ne.mpr c41
              have c41b1 : (x7_2 != ((rd_T49 l0 x5_1).f0)) = true := bne_iff_ne.mpr c41
              obtain rfl := Option.some.inj H
              have hcz67_0 : wr.cell? ⟨gb127, 0, none⟩ = some (.int .i64 ((rd_T49 l0 x5_1).f0)) := (blk_cell BK127.out 0).trans rfl
              have hcz67_1 : wr.cell? ⟨gb127, 1, none⟩ = some (.int .i64 ((rd_T49 l0 x5_1).f1)) := (blk_cell BK127.out 1).trans rfl
              have hcz67_2 : wr.cell? ⟨gb127, 2, none⟩ = some (.int .i64 ((rd_T49 l0 x5_1).f2)) := (blk_cell BK127.out 2).trans rfl
              have hcz67_3 : wr.cell? ⟨gb127, 3, none⟩ = some (.int .i64 ((rd_T49 l0 x5_1).f3)) := (blk_cell BK127.out 3).trans rfl
              have hcz67_4 : wr.cell? ⟨gb127, 4, none⟩ = some (.int .i64 ((rd_T49 l0 x5_1).f4)) := (blk_cell BK127.out 4).trans rfl
              have hcz67_5 : wr.cell? ⟨gb127, 5, none⟩ = some (.int .i64 ((rd_T49 l0 x5_1).f5)) := (blk_cell BK127.out 5).trans rfl
              have hcz67_6 : wr.cell? ⟨gb127, 6, none⟩ = some (.int .i64 ((rd_T49 l0 x5_1).f6)) := (blk_cell BK127.out 6).trans rfl
              have hfz67_0 := blk_frozen BK127.out 0
              have hfz67_1 := blk_frozen BK127.out 1
              have hfz67_2 := blk_frozen BK127.out 2
              have hfz67_3 := blk_frozen BK127.out 3
              have hfz67_4 := blk_frozen BK127.out 4
              have hfz67_5 := blk_frozen BK127.out 5
              have hfz67_6 := blk_frozen BK127.out 6
              try go_wp2
              have n0_ := Aside0.mk (Kd.R_drew HO_3.out)
              have n1_ := Aside0.mk (Kd.R_drew HO_4.out)
              have n2_ := Aside0.mk (blk_drew BK127.out)
              have n3_ := Aside0.mk (below_drew1 HB.out)
              clear HO_3; clear HO_4; clear BK127; clear HB
              have HO_3 := n0_
              have HO_4 := n1_
              have BK127 := n2_
              have HB := n3_
              clear n0_ n1_ n2_ n3_; refine start_ (n := 30) (S := fun w' => w'.cell? ⟨gb127, 0, none⟩ = some (.int .i64 ((rd_T49 l0 x5_1).f0)) ∧ w'.cell? ⟨gb127, 1, none⟩ = some (.int .i64 ((rd_T49 l0 x5_1).f1)) ∧ w'.cell? ⟨gb127, 2, none⟩ = some (.int .i64 ((rd_T49 l0 x5_1).f2)) ∧ w'.cell? ⟨gb127, 3, none⟩ = some (.int .i64 ((rd_T49 l0 x5_1).f3)) ∧ w'.cell? ⟨gb127, 4, none⟩ = some (.int .i64 ((rd_T49 l0 x5_1).f4)) ∧ w'.cell? ⟨gb127, 5, none⟩ = some (.int .i64 ((rd_T49 l0 x5_1).f5)) ∧ w'.cell? ⟨gb127, 6, none⟩ = some (.int .i64 ((rd_T49 l0 x5_1).f6))) (ds := []) mA0 (by kernel_rfl) rfl rfl ⟨(blk_cell BK127.out 0).trans rfl, (blk_cell BK127.out 1).trans rfl, (blk_cell BK127.out 2).trans rfl, (blk_cell BK127.out 3).trans rfl, (blk_cell BK127.out 4).trans rfl, (blk_cell BK127.out 5).trans rfl, (blk_cell BK127.out 6).trans rfl⟩ (fun hHeld => ?_); refine with_tabW plunderlaw6_shaped.tab14 plunderlaw6_shaped.bits14 (fun HT_ HW_ => ?_)
              generalize wr.drew = w68 at HO_3 HO_4 BK127 HB hHeld ⊢
              refine pure_ (i := 0) (N := some 61) (v := ?_) (a' := ?_) mA1 rfl rfl (any_of HT_.out (by kernel_rfl)) (fun _ _ _ h => h) (Or.inl ⟨by rfl, ?_⟩) ?_ ?_; rotate_left
              ·intro w'; go_simp; with_reducible rfl
              rotate_left
              ·simp only [Act.put, sA_, sB_, sC_, i64_w, i32_w]; rfl
              refine pure_ (i := 1) (N := some 62) (v := ?_) (a' := ?_) mA2 rfl rfl (any_of HT_.out (by kernel_rfl)) (fun _ _ _ h => h) (Or.inl ⟨by rfl, ?_⟩) ?_ ?_; rotate_left
              ·intro w'; go_simp; with_reducible rfl
              rotate_left
              ·simp only [Act.put, sA_, sB_, sC_, i64_w, i32_w]; rfl
              refine pure_ (i := 2) (N := some 63) (v := ?_) (a' := ?_) mA3 rfl rfl (any_of HT_.out (by kernel_rfl)) (fun _ _ _ h => h) (Or.inl ⟨by rfl, ?_⟩) ?_ ?_; rotate_left
              ·intro w'; go_simp; with_reducible rfl
              rotate_left
              ·simp only [Act.put, sA_, sB_, sC_, i64_w, i32_w]; rfl
              refine pure_ (i := 3) (N := some 64) (v := ?_) (a' := ?_) mA4 rfl rfl (any_of HT_.out (by kernel_rfl)) (fun _ _ _ h => h) (Or.inl ⟨by rfl, ?_⟩) ?_ ?_; rotate_left
              ·intro w'; go_simp; with_reducible rfl
              rotate_left
              ·simp only [Act.put, sA_, sB_, sC_, i64_w, i32_w]; rfl
              refine pure_ (i := 4) (N := some 65) (v := ?_) (a' := ?_) mA5 rfl rfl (any_of HT_.out (by kernel_rfl)) (fun _ _ _ h => h) (Or.inl ⟨by rfl, ?_⟩) ?_ ?_; rotate_left
              ·intro w'; go_simp; with_reducible rfl
              rotate_left
              ·simp only [Act.put, sA_, sB_, sC_, i64_w, i32_w]; rfl
              refine take_ (i := 5) (N := some 66) (v := ?_) (a' := ?_) mA6 rfl rfl (take_ofW HT_.out HW_.out (by kernel_rfl)) (fun _ _ _ h => h) (Or.inl ⟨by rfl, ?_⟩) hHeld ?_ ?_; rotate_left
              ·rintro w' ⟨s0, s1, s2, s3, s4, s5, s6⟩
               go_simp; with_reducible rfl
              rotate_left
              ·simp only [Act.put, sA_, sB_, sC_, i64_w, i32_w]; rfl
              refine pure_ (i := 6) (N := some 67) (v := ?_) (a' := ?_) mA7 rfl rfl (any_of HT_.out (by kernel_rfl)) (fun _ _ _ h => h) (Or.inl ⟨by rfl, ?_⟩) ?_ ?_; rotate_left
              ·intro w'; go_simp; with_reducible rfl
              rotate_left
              ·simp only [Act.put, sA_, sB_, sC_, i64_w, i32_w]; rfl
              refine pure_ (i := 7) (N := some 68) (v := ?_) (a' := ?_) mA8 rfl rfl (any_of HT_.out (by kernel_rfl)) (fun _ _ _ h => h) (Or.inl ⟨by rfl, ?_⟩) ?_ ?_; rotate_left
              ·intro w'; go_simp; with_reducible rfl
              rotate_left
              ·simp only [Act.put, sA_, sB_, sC_, i64_w, i32_w]; rfl
              refine pure_ (i := 8) (N := some 69) (v := ?_) (a' := ?_) mA9 rfl rfl (any_of HT_.out (by kernel_rfl)) (fun _ _ _ h => h) (Or.inl ⟨by rfl, ?_⟩) ?_ ?_; rotate_left
              ·intro w'; go_simp; with_reducible rfl
              rotate_left
              ·simp only [Act.put, sA_, sB_, sC_, i64_w, i32_w]; rfl
              refine pure_ (i := 9) (N := some 70) (v := undef) (a' := ?_) mA10 rfl rfl (any_of HT_.out (by kernel_rfl)) (fun _ _ _ h => h) (Or.inr ⟨by rfl, rfl⟩) ?_ ?_; rotate_left
              ·simp only [Act.put, sA_, sB_, sC_, i64_w, i32_w]; rfl
              refine pure_ (i := 10) (N := some 71) (v := undef) (a' := ?_) mA11 rfl rfl (any_of HT_.out (by kernel_rfl)) (fun _ _ _ h => h) (Or.inr ⟨by rfl, rfl⟩) ?_ ?_; rotate_left
              ·simp only [Act.put, sA_, sB_, sC_, i64_w, i32_w]; rfl
              refine pure_ (i := 11) (N := some 72) (v := undef) (a' := ?_) mA12 rfl rfl (any_of HT_.out (by kernel_rfl)) (fun _ _ _ h => h) (Or.inr ⟨by rfl, rfl⟩) ?_ ?_; rotate_left
              ·simp only [Act.put, sA_, sB_, sC_, i64_w, i32_w]; rfl
              refine pure_ (i := 12) (N := some 73) (v := undef) (a' := ?_) mA13 rfl rfl (any_of HT_.out (by kernel_rfl)) (fun _ _ _ h => h) (Or.inr ⟨by rfl, rfl⟩) ?_ ?_; rotate_left
              ·simp only [Act.put, sA_, sB_, sC_, i64_w, i32_w]; rfl
              refine pure_ (i := 13) (N := some 74) (v := undef) (a' := ?_) mA14 rfl rfl (any_of HT_.out (by kernel_rfl)) (fun _ _ _ h => h) (Or.inr ⟨by rfl, rfl⟩) ?_ ?_; rotate_left
              ·simp only [Act.put, sA_, sB_, sC_, i64_w, i32_w]; rfl
              refine pure_ (i := 14) (N := some 75) (v := undef) (a' := ?_) mA15 rfl rfl (any_of HT_.out (by kernel_rfl)) (fun _ _ _ h => h) (Or.inr ⟨by rfl, rfl⟩) ?_ ?_; rotate_left
              ·simp only [Act.put, sA_, sB_, sC_, i64_w, i32_w]; rfl
              refine pure_ (i := 15) (N := some 76) (v := undef) (a' := ?_) mA16 rfl rfl (any_of HT_.out (by kernel_rfl)) (fun _ _ _ h => h) (Or.inr ⟨by rfl, rfl⟩) ?_ ?_; rotate_left
              ·simp only [Act.put, sA_, sB_, sC_, i64_w, i32_w]; rfl
              refine pure_ (i := 16) (N := some 77) (v := ?_) (a' := ?_) mA17 rfl rfl (any_of HT_.out (by kernel_rfl)) (fun _ _ _ h => h) (Or.inl ⟨by rfl, ?_⟩) ?_ ?_; rotate_left
              ·intro w'; go_simp; with_reducible rfl
              rotate_left
              ·simp only [Act.put, sA_, sB_, sC_, i64_w, i32_w]; rfl
              refine pure_ (i := 17) (N := some 78) (v := ?_) (a' := ?_) mA18 rfl rfl (any_of HT_.out (by kernel_rfl)) (fun _ _ _ h => h) (Or.inl ⟨by rfl, ?_⟩) ?_ ?_; rotate_left
              ·intro w'; go_simp; with_reducible rfl
              rotate_left
              ·simp only [Act.put, sA_, sB_, sC_, i64_w, i32_w]; rfl
              refine pure_ (i := 18) (N := some 79) (v := undef) (a' := ?_) mA19 rfl rfl (any_of HT_.out (by kernel_rfl)) (fun _ _ _ h => h) (Or.inr ⟨by rfl, rfl⟩) ?_ ?_; rotate_left
              ·simp only [Act.put, sA_, sB_, sC_, i64_w, i32_w]; rfl
              refine pure_ (i := 19) (N := some 80) (v := undef) (a' := ?_) mA20 rfl rfl (any_of HT_.out (by kernel_rfl)) (fun _ _ _ h => h) (Or.inr ⟨by rfl, rfl⟩) ?_ ?_; rotate_left
              ·simp only [Act.put, sA_, sB_, sC_, i64_w, i32_w]; rfl
              refine pure_ (i := 20) (N := some 81) (v := undef) (a' := ?_) mA21 rfl rfl (any_of HT_.out (by kernel_rfl)) (fun _ _ _ h => h) (Or.inr ⟨by rfl, rfl⟩) ?_ ?_; rotate_left
              ·simp only [Act.put, sA_, sB_, sC_, i64_w, i32_w]; rfl
              refine pure_ (i := 21) (N := some 82) (v := undef) (a' := ?_) mA22 rfl rfl (any_of HT_.out (by kernel_rfl)) (fun _ _ _ h => h) (Or.inr ⟨by rfl, rfl⟩) ?_ ?_; rotate_left
              ·simp only [Act.put, sA_, sB_, sC_, i64_w, i32_w]; rfl
              refine pure_ (i := 22) (N := some 83) (v := undef) (a' := ?_) mA23 rfl rfl (any_of HT_.out (by kernel_rfl)) (fun _ _ _ h => h) (Or.inr ⟨by rfl, rfl⟩) ?_ ?_; rotate_left
              ·simp only [Act.put, sA_, sB_, sC_, i64_w, i32_w]; rfl
              refine pure_ (i := 23) (N := some 84) (v := undef) (a' := ?_) mA24 rfl rfl (any_of HT_.out (by kernel_rfl)) (fun _ _ _ h => h) (Or.inr ⟨by rfl, rfl⟩) ?_ ?_; rotate_left
              ·simp only [Act.put, sA_, sB_, sC_, i64_w, i32_w]; rfl
              refine pure_ (i := 24) (N := some 85) (v := undef) (a' := ?_) mA25 rfl rfl (any_of HT_.out (by kernel_rfl)) (fun _ _ _ h => h) (Or.inr ⟨by rfl, rfl⟩) ?_ ?_; rotate_left
              ·simp only [Act.put, sA_, sB_, sC_, i64_w, i32_w]; rfl
              refine pure_ (i := 25) (N := some 86) (v := undef) (a' := ?_) mA26 rfl rfl (any_of HT_.out (by kernel_rfl)) (fun _ _ _ h => h) (Or.inr ⟨by rfl, rfl⟩) ?_ ?_; rotate_left
              ·simp only [Act.put, sA_, sB_, sC_, i64_w, i32_w]; rfl
              refine pure_ (i := 26) (N := some 87) (v := undef) (a' := ?_) mA27 rfl rfl (any_of HT_.out (by kernel_rfl)) (fun _ _ _ h => h) (Or.inr ⟨by rfl, rfl⟩) ?_ ?_; rotate_left
              ·simp only [Act.put, sA_, sB_, sC_, i64_w, i32_w]; rfl
              refine pure_ (i := 27) (N := some 88) (v := undef) (a' := ?_) mA28 rfl rfl (any_of HT_.out (by kernel_rfl)) (fun _ _ _ h => h) (Or.inr ⟨by rfl, rfl⟩) ?_ ?_; rotate_left
              ·simp only [Act.put, sA_, sB_, sC_, i64_w, i32_w]; rfl
              refine pure_ (i := 28) (N := some 89) (v := undef) (a' := ?_) mA29 rfl rfl (any_of HT_.out (by kernel_rfl)) (fun _ _ _ h => h) (Or.inr ⟨by rfl, rfl⟩) ?_ ?_; rotate_left
              ·simp only [Act.put, sA_, sB_, sC_, i64_w, i32_w]; rfl
              refine pure_ (i := 29) (N := some 90) (v := ?_) (a' := ?_) mA30 rfl rfl (any_of HT_.out (by kernel_rfl)) (fun _ _ _ h => h) (Or.inl ⟨by rfl, ?_⟩) ?_ ?_; rotate_left
              ·intro w'; go_simp; with_reducible rfl
              rotate_left
              ·simp only [Act.put, sA_, sB_, sC_, i64_w, i32_w]; rfl
              refine done_ (done_of HT_.out (by kernel_rfl)) ?_
              try go_wp2
              go_ret
              exact ⟨_, by first | rfl | (simp [errW_none, errW_some] <;> rfl) | (simp [*, errW_none, errW_some] <;> rfl), by first | exact Kd.R_nil _ _ _ _ _ | exact Kd.N_nil _ _ _ _ _ | exact Kd.V_nil _ _ _ _ _ | exact Kd.Q_nil _ _ _ _ _ | exact Kd.S_nil _ _ _ _ _, by repeat (first | (with_reducible first | exact HB.out | apply below_alloc | apply pw_below_drewN | apply below_drew1 | refine below_set ?_ GE127.out) | exact HB.out)⟩
          ·rw [if_neg c33] at H
           have c33b0 : decide (((rd_T49 l0 x5_1).f0) < x7_2) = false := decide_eq_false c33
           clear c33
           by_cases c69 : x7_2 < 0
           ·rw [if_pos c69] at H
            have c69b0 : decide (x7_2 < 0) = true := decide_eq_true c69
            clear c69
            obtain rfl := Option.some.inj H
            have hcz70_0 : wr.cell? ⟨gb127, 0, none⟩ = some (.int .i64 ((rd_T49 l0 x5_1).f0)) := (blk_cell BK127.out 0).trans rfl
            have hcz70_1 : wr.cell? ⟨gb127, 1, none⟩ = some (.int .i64 ((rd_T49 l0 x5_1).f1)) := (blk_cell BK127.out 1).trans rfl
            have hcz70_2 : wr.cell? ⟨gb127, 2, none⟩ = some (.int .i64 ((rd_T49 l0 x5_1).f2)) := (blk_cell BK127.out 2).trans rfl
            have hcz70_3 : wr.cell? ⟨gb127, 3, none⟩ = some (.int .i64 ((rd_T49 l0 x5_1).f3)) := (blk_cell BK127.out 3).trans rfl
            have hcz70_4 : wr.cell? ⟨gb127, 4, none⟩ = some (.int .i64 ((rd_T49 l0 x5_1).f4)) := (blk_cell BK127.out 4).trans rfl
            have hcz70_5 : wr.cell? ⟨gb127, 5, none⟩ = some (.int .i64 ((rd_T49 l0 x5_1).f5)) := (blk_cell BK127.out 5).trans rfl
            have hcz70_6 : wr.cell? ⟨gb127, 6, none⟩ = some (.int .i64 ((rd_T49 l0 x5_1).f6)) := (blk_cell BK127.out 6).trans rfl
            have hfz70_0 := blk_frozen BK127.out 0
            have hfz70_1 := blk_frozen BK127.out 1
            have hfz70_2 := blk_frozen BK127.out 2
            have hfz70_3 := blk_frozen BK127.out 3
            have hfz70_4 := blk_frozen BK127.out 4
            have hfz70_5 := blk_frozen BK127.out 5
            have hfz70_6 := blk_frozen BK127.out 6
            try go_wp2
            have n0_ := Aside0.mk (Kd.R_drew HO_3.out)
            have n1_ := Aside0.mk (Kd.R_drew HO_4.out)
            have n2_ := Aside0.mk (blk_drew BK127.out)
            have n3_ := Aside0.mk (below_drew1 HB.out)
            clear HO_3; clear HO_4; clear BK127; clear HB
            have HO_3 := n0_
            have HO_4 := n1_
            have BK127 := n2_
            have HB := n3_
            clear n0_ n1_ n2_ n3_; refine start_ (n := 30) (S := fun w' => True) (ds := []) mA0 (by kernel_rfl) rfl rfl trivial (fun hHeld => ?_); refine with_tabW plunderlaw6_shaped.tab14 plunderlaw6_shaped.bits14 (fun HT_ HW_ => ?_)
            generalize wr.drew = w71 at HO_3 HO_4 BK127 HB hHeld ⊢
            refine pure_ (i := 0) (N := some 61) (v := ?_) (a' := ?_) mA1 rfl rfl (any_of HT_.out (by kernel_rfl)) (fun _ _ _ h => h) (Or.inl ⟨by rfl, ?_⟩) ?_ ?_; rotate_left
            ·intro w'; go_simp; with_reducible rfl
            rotate_left
            ·simp only [Act.put, sA_, sB_, sC_, i64_w, i32_w]; rfl
            refine pure_ (i := 1) (N := some 62) (v := ?_) (a' := ?_) mA2 rfl rfl (any_of HT_.out (by kernel_rfl)) (fun _ _ _ h => h) (Or.inl ⟨by rfl, ?_⟩) ?_ ?_; rotate_left
            ·intro w'; go_simp; with_reducible rfl
            rotate_left
            ·simp only [Act.put, sA_, sB_, sC_, i64_w, i32_w]; rfl
            refine pure_ (i := 2) (N := some 63) (v := ?_) (a' := ?_) mA3 rfl rfl (any_of HT_.out (by kernel_rfl)) (fun _ _ _ h => h) (Or.inl ⟨by rfl, ?_⟩) ?_ ?_; rotate_left
            ·intro w'; go_simp; with_reducible rfl
            rotate_left
            ·simp only [Act.put, sA_, sB_, sC_, i64_w, i32_w]; rfl
            refine pure_ (i := 3) (N := some 64) (v := undef) (a' := ?_) mA4 rfl rfl (any_of HT_.out (by kernel_rfl)) (fun _ _ _ h => h) (Or.inr ⟨by rfl, rfl⟩) ?_ ?_; rotate_left
            ·simp only [Act.put, sA_, sB_, sC_, i64_w, i32_w]; rfl
            refine pure_ (i := 4) (N := some 65) (v := undef) (a' := ?_) mA5 rfl rfl (any_of HT_.out (by kernel_rfl)) (fun _ _ _ h => h) (Or.inr ⟨by rfl, rfl⟩) ?_ ?_; rotate_left
            ·simp only [Act.put, sA_, sB_, sC_, i64_w, i32_w]; rfl
            refine pure_ (i := 5) (N := some 66) (v := undef) (a' := ?_) mA6 rfl rfl (any_of HT_.out (by kernel_rfl)) (fun _ _ _ h => h) (Or.inr ⟨by rfl, rfl⟩) ?_ ?_; rotate_left
            ·simp only [Act.put, sA_, sB_, sC_, i64_w, i32_w]; rfl
            refine pure_ (i := 6) (N := some 67) (v := undef) (a' := ?_) mA7 rfl rfl (any_of HT_.out (by kernel_rfl)) (fun _ _ _ h => h) (Or.inr ⟨by rfl, rfl⟩) ?_ ?_; rotate_left
            ·simp only [Act.put, sA_, sB_, sC_, i64_w, i32_w]; rfl
            refine pure_ (i := 7) (N := some 68) (v := ?_) (a' := ?_) mA8 rfl rfl (any_of HT_.out (by kernel_rfl)) (fun _ _ _ h => h) (Or.inl ⟨by rfl, ?_⟩) ?_ ?_; rotate_left
            ·intro w'; go_simp; with_reducible rfl
            rotate_left
            ·simp only [Act.put, sA_, sB_, sC_, i64_w, i32_w]; rfl
            refine pure_ (i := 8) (N := some 69) (v := ?_) (a' := ?_) mA9 rfl rfl (any_of HT_.out (by kernel_rfl)) (fun _ _ _ h => h) (Or.inl ⟨by rfl, ?_⟩) ?_ ?_; rotate_left
            ·intro w'; go_simp; with_reducible rfl
            rotate_left
            ·simp only [Act.put, sA_, sB_, sC_, i64_w, i32_w]; rfl
            refine pure_ (i := 9) (N := some 70) (v := undef) (a' := ?_) mA10 rfl rfl (any_of HT_.out (by kernel_rfl)) (fun _ _ _ h => h) (Or.inr ⟨by rfl, rfl⟩) ?_ ?_; rotate_left
            ·simp only [Act.put, sA_, sB_, sC_, i64_w, i32_w]; rfl
            refine pure_ (i := 10) (N := some 71) (v := undef) (a' := ?_) mA11 rfl rfl (any_of HT_.out (by kernel_rfl)) (fun _ _ _ h => h) (Or.inr ⟨by rfl, rfl⟩) ?_ ?_; rotate_left
            ·simp only [Act.put, sA_, sB_, sC_, i64_w, i32_w]; rfl
            refine pure_ (i := 11) (N := some 72) (v := undef) (a' := ?_) mA12 rfl rfl (any_of HT_.out (by kernel_rfl)) (fun _ _ _ h => h) (Or.inr ⟨by rfl, rfl⟩) ?_ ?_; rotate_left
            ·simp only [Act.put, sA_, sB_, sC_, i64_w, i32_w]; rfl
            refine pure_ (i := 12) (N := some 73) (v := undef) (a' := ?_) mA13 rfl rfl (any_of HT_.out (by kernel_rfl)) (fun _ _ _ h => h) (Or.inr ⟨by rfl, rfl⟩) ?_ ?_; rotate_left
            ·simp only [Act.put, sA_, sB_, sC_, i64_w, i32_w]; rfl
            refine pure_ (i := 13) (N := some 74) (v := undef) (a' := ?_) mA14 rfl rfl (any_of HT_.out (by kernel_rfl)) (fun _ _ _ h => h) (Or.inr ⟨by rfl, rfl⟩) ?_ ?_; rotate_left
            ·simp only [Act.put, sA_, sB_, sC_, i64_w, i32_w]; rfl
            refine pure_ (i := 14) (N := some 75) (v := undef) (a' := ?_) mA15 rfl rfl (any_of HT_.out (by kernel_rfl)) (fun _ _ _ h => h) (Or.inr ⟨by rfl, rfl⟩) ?_ ?_; rotate_left
            ·simp only [Act.put, sA_, sB_, sC_, i64_w, i32_w]; rfl
            refine pure_ (i := 15) (N := some 76) (v := undef) (a' := ?_) mA16 rfl rfl (any_of HT_.out (by kernel_rfl)) (fun _ _ _ h => h) (Or.inr ⟨by rfl, rfl⟩) ?_ ?_; rotate_left
            ·simp only [Act.put, sA_, sB_, sC_, i64_w, i32_w]; rfl
            refine pure_ (i := 16) (N := some 77) (v := ?_) (a' := ?_) mA17 rfl rfl (any_of HT_.out (by kernel_rfl)) (fun _ _ _ h => h) (Or.inl ⟨by rfl, ?_⟩) ?_ ?_; rotate_left
            ·intro w'; go_simp; with_reducible rfl
            rotate_left
            ·simp only [Act.put, sA_, sB_, sC_, i64_w, i32_w]; rfl
            refine pure_ (i := 17) (N := some 78) (v := ?_) (a' := ?_) mA18 rfl rfl (any_of HT_.out (by kernel_rfl)) (fun _ _ _ h => h) (Or.inl ⟨by rfl, ?_⟩) ?_ ?_; rotate_left
            ·intro w'; go_simp; with_reducible rfl
            rotate_left
            ·simp only [Act.put, sA_, sB_, sC_, i64_w, i32_w]; rfl
            refine pure_ (i := 18) (N := some 79) (v := undef) (a' := ?_) mA19 rfl rfl (any_of HT_.out (by kernel_rfl)) (fun _ _ _ h => h) (Or.inr ⟨by rfl, rfl⟩) ?_ ?_; rotate_left
            ·simp only [Act.put, sA_, sB_, sC_, i64_w, i32_w]; rfl
            refine pure_ (i := 19) (N := some 80) (v := undef) (a' := ?_) mA20 rfl rfl (any_of HT_.out (by kernel_rfl)) (fun _ _ _ h => h) (Or.inr ⟨by rfl, rfl⟩) ?_ ?_; rotate_left
            ·simp only [Act.put, sA_, sB_, sC_, i64_w, i32_w]; rfl
            refine pure_ (i := 20) (N := some 81) (v := undef) (a' := ?_) mA21 rfl rfl (any_of HT_.out (by kernel_rfl)) (fun _ _ _ h => h) (Or.inr ⟨by rfl, rfl⟩) ?_ ?_; rotate_left
            ·simp only [Act.put, sA_, sB_, sC_, i64_w, i32_w]; rfl
            refine pure_ (i := 21) (N := some 82) (v := undef) (a' := ?_) mA22 rfl rfl (any_of HT_.out (by kernel_rfl)) (fun _ _ _ h => h) (Or.inr ⟨by rfl, rfl⟩) ?_ ?_; rotate_left
            ·simp only [Act.put, sA_, sB_, sC_, i64_w, i32_w]; rfl
            refine pure_ (i := 22) (N := some 83) (v := undef) (a' := ?_) mA23 rfl rfl (any_of HT_.out (by kernel_rfl)) (fun _ _ _ h => h) (Or.inr ⟨by rfl, rfl⟩) ?_ ?_; rotate_left
            ·simp only [Act.put, sA_, sB_, sC_, i64_w, i32_w]; rfl
            refine pure_ (i := 23) (N := some 84) (v := undef) (a' := ?_) mA24 rfl rfl (any_of HT_.out (by kernel_rfl)) (fun _ _ _ h => h) (Or.inr ⟨by rfl, rfl⟩) ?_ ?_; rotate_left
            ·simp only [Act.put, sA_, sB_, sC_, i64_w, i32_w]; rfl
            refine pure_ (i := 24) (N := some 85) (v := undef) (a' := ?_) mA25 rfl rfl (any_of HT_.out (by kernel_rfl)) (fun _ _ _ h => h) (Or.inr ⟨by rfl, rfl⟩) ?_ ?_; rotate_left
            ·simp only [Act.put, sA_, sB_, sC_, i64_w, i32_w]; rfl
            refine pure_ (i := 25) (N := some 86) (v := undef) (a' := ?_) mA26 rfl rfl (any_of HT_.out (by kernel_rfl)) (fun _ _ _ h => h) (Or.inr ⟨by rfl, rfl⟩) ?_ ?_; rotate_left
            ·simp only [Act.put, sA_, sB_, sC_, i64_w, i32_w]; rfl
            refine pure_ (i := 26) (N := some 87) (v := undef) (a' := ?_) mA27 rfl rfl (any_of HT_.out (by kernel_rfl)) (fun _ _ _ h => h) (Or.inr ⟨by rfl, rfl⟩) ?_ ?_; rotate_left
            ·simp only [Act.put, sA_, sB_, sC_, i64_w, i32_w]; rfl
            refine pure_ (i := 27) (N := some 88) (v := undef) (a' := ?_) mA28 rfl rfl (any_of HT_.out (by kernel_rfl)) (fun _ _ _ h => h) (Or.inr ⟨by rfl, rfl⟩) ?_ ?_; rotate_left
            ·simp only [Act.put, sA_, sB_, sC_, i64_w, i32_w]; rfl
            refine pure_ (i := 28) (N := some 89) (v := undef) (a' := ?_) mA29 rfl rfl (any_of HT_.out (by kernel_rfl)) (fun _ _ _ h => h) (Or.inr ⟨by rfl, rfl⟩) ?_ ?_; rotate_left
            ·simp only [Act.put, sA_, sB_, sC_, i64_w, i32_w]; rfl
            refine pure_ (i := 29) (N := some 90) (v := ?_) (a' := ?_) mA30 rfl rfl (any_of HT_.out (by kernel_rfl)) (fun _ _ _ h => h) (Or.inl ⟨by rfl, ?_⟩) ?_ ?_; rotate_left
            ·intro w'; go_simp; with_reducible rfl
            rotate_left
            ·simp only [Act.put, sA_, sB_, sC_, i64_w, i32_w]; rfl
            refine done_ (done_of HT_.out (by kernel_rfl)) ?_
            try go_wp2
            go_ret
            exact ⟨_, by first | rfl | (simp [errW_none, errW_some] <;> rfl) | (simp [*, errW_none, errW_some] <;> rfl), by first | exact Kd.R_nil _ _ _ _ _ | exact Kd.N_nil _ _ _ _ _ | exact Kd.V_nil _ _ _ _ _ | exact Kd.Q_nil _ _ _ _ _ | exact Kd.S_nil _ _ _ _ _, by repeat (first | (with_reducible first | exact HB.out | apply below_alloc | apply pw_below_drewN | apply below_drew1 | refine below_set ?_ GE127.out) | exact HB.out)⟩
           ·rw [if_neg c69] at H
            have c69b0 : decide (x7_2 < 0) = false := decide_eq_false c69
            clear c69
            by_cases c72 : x7_2 = ((rd_T49 l0 x5_1).f0)
            ·rw [if_pos c72] at H
             have c72b0 : (x7_2 == ((rd_T49 l0 x5_1).f0)) = true := beq_iff_eq.mpr c72
             have c72b1 : (x7_2 != ((rd_T49 l0 x5_1).f0)) = false := bne_eq_false_iff_eq.mpr c72
             clear c72
             by_cases c73 : 0 ≤ x7_2
             ·rw [if_pos c73] at H
              have c73b0 : decide (0 ≤ x7_2) = true := decide_eq_true c73
              clear c73
              by_cases c74 : x7_2 < (x3_1.length : Int)
              ·rw [if_pos c74] at H
               have c74b0 : decide (x7_2 < (x3_1.length : Int)) = true := decide_eq_true c74
               clear c74
               by_cases c75 : ((rd_T49 l0 x5_1).f1) = (rd x3_1 x7_2)
               ·rw [if_pos c75] at H
                have c75b0 : (((rd_T49 l0 x5_1).f1) == (rd x3_1 x7_2)) = true := beq_iff_eq.mpr c75
                have c75b1 : (((rd_T49 l0 x5_1).f1) != (rd x3_1 x7_2)) = false := bne_eq_false_iff_eq.mpr c75
                clear c75
                by_cases c76 : x7_2 < (l0.length : Int)
                ·rw [if_pos c76] at H
                 have c76b0 : decide (x7_2 < (l0.length : Int)) = true := decide_eq_true c76
                 clear c76
                 replace H := Option.bind_eq_some_iff.mp H
                 obtain ⟨t139, A770, H⟩ := H
                 replace H : (if ((rd_T49 l0 x5_1).f4) = t139 then (if x7_2 < (x4_1.length : Int) then (if 0 ≤ x5_1 then (if x5_1 < (x4_1.length : Int) then (plunderlaw6_shaped.l0 k2 l0 (x3_1.set (x7_2 : Int).toNat (wrap64 ((rd x3_1 x7_2) + 1))) (x4_1.set (x5_1 : Int).toNat (wrap64 ((rd x4_1 x7_2) + 1))) (wrap64 (x5_1 + 1))) else (none)) else (none)) else (none)) else (some ([] : List Int))) = some r := H
                 have A77 := Aside0.mk A770; clear A770
                 by_cases c78 : ((rd_T49 l0 x5_1).f4) = t139
                 ·rw [if_pos c78] at H
                  have c78b0 : (((rd_T49 l0 x5_1).f4) == t139) = true := beq_iff_eq.mpr c78
                  have c78b1 : (((rd_T49 l0 x5_1).f4) != t139) = false := bne_eq_false_iff_eq.mpr c78
                  clear c78
                  obtain ⟨y141, hy141⟩ : ∃ y_ : List Int, y_ = (x3_1.set (x7_2 : Int).toNat (wrap64 ((rd x3_1 x7_2) + 1))) := ⟨_, rfl⟩
                  replace H : (if x7_2 < (x4_1.length : Int) then (if 0 ≤ x5_1 then (if x5_1 < (x4_1.length : Int) then (plunderlaw6_shaped.l0 k2 l0 y141 (x4_1.set (x5_1 : Int).toNat (wrap64 ((rd x4_1 x7_2) + 1))) (wrap64 (x5_1 + 1))) else (none)) else (none)) else (none)) = some r := by first | (rw [hy141]; with_reducible exact H) | (have H2_ := (Option.bind_some _ _).symm.trans H; rw [hy141]; with_reducible exact H2_) | (have H2_ := (Option.bind_some _ _).symm.trans H; with_reducible exact H2_) | with_reducible exact H | (rw [hy141]; exact H) | exact H
                  have Ny141 := Aside0.mk hy141; clear hy141
                  by_cases c80 : x7_2 < (x4_1.length : Int)
                  ·rw [if_pos c80] at H
                   have c80b0 : decide (x7_2 < (x4_1.length : Int)) = true := decide_eq_true c80
                   clear c80
                   by_cases c81 : 0 ≤ x5_1
                   ·rw [if_pos c81] at H
                    have c81b0 : decide (0 ≤ x5_1) = true := decide_eq_true c81
                    clear c81
                    by_cases c82 : x5_1 < (x4_1.length : Int)
                    ·rw [if_pos c82] at H
                     have c82b0 : decide (x5_1 < (x4_1.length : Int)) = true := decide_eq_true c82
                     clear c82
                     obtain ⟨y143, hy143⟩ : ∃ y_ : List Int, y_ = (x4_1.set (x5_1 : Int).toNat (wrap64 ((rd x4_1 x7_2) + 1))) := ⟨_, rfl⟩
                     replace H : (plunderlaw6_shaped.l0 k2 l0 y141 y143 (wrap64 (x5_1 + 1))) = some r := by first | (rw [hy143]; with_reducible exact H) | (have H2_ := (Option.bind_some _ _).symm.trans H; rw [hy143]; with_reducible exact H2_) | (have H2_ := (Option.bind_some _ _).symm.trans H; with_reducible exact H2_) | with_reducible exact H | (rw [hy143]; exact H) | exact H
                     have Ny143 := Aside0.mk hy143; clear hy143
                     have H' := Aside0.mk H
                     clear H
                     have hcz84_0 : wr.cell? ⟨gb127, 0, none⟩ = some (.int .i64 ((rd_T49 l0 x5_1).f0)) := (blk_cell BK127.out 0).trans rfl
                     have hcz84_1 : wr.cell? ⟨gb127, 1, none⟩ = some (.int .i64 ((rd_T49 l0 x5_1).f1)) := (blk_cell BK127.out 1).trans rfl
                     have hcz84_2 : wr.cell? ⟨gb127, 2, none⟩ = some (.int .i64 ((rd_T49 l0 x5_1).f2)) := (blk_cell BK127.out 2).trans rfl
                     have hcz84_3 : wr.cell? ⟨gb127, 3, none⟩ = some (.int .i64 ((rd_T49 l0 x5_1).f3)) := (blk_cell BK127.out 3).trans rfl
                     have hcz84_4 : wr.cell? ⟨gb127, 4, none⟩ = some (.int .i64 ((rd_T49 l0 x5_1).f4)) := (blk_cell BK127.out 4).trans rfl
                     have hcz84_5 : wr.cell? ⟨gb127, 5, none⟩ = some (.int .i64 ((rd_T49 l0 x5_1).f5)) := (blk_cell BK127.out 5).trans rfl
                     have hcz84_6 : wr.cell? ⟨gb127, 6, none⟩ = some (.int .i64 ((rd_T49 l0 x5_1).f6)) := (blk_cell BK127.out 6).trans rfl
                     have hfz84_0 := blk_frozen BK127.out 0
                     have hfz84_1 := blk_frozen BK127.out 1
                     have hfz84_2 := blk_frozen BK127.out 2
                     have hfz84_3 := blk_frozen BK127.out 3
                     have hfz84_4 := blk_frozen BK127.out 4
                     have hfz84_5 := blk_frozen BK127.out 5
                     have hfz84_6 := blk_frozen BK127.out 6
                     try go_wp2
                     have n0_ := Aside0.mk (Kd.R_drew HO_3.out)
                     have n1_ := Aside0.mk (Kd.R_drew HO_4.out)
                     have n2_ := Aside0.mk (blk_drew BK127.out)
                     have n3_ := Aside0.mk (below_drew1 HB.out)
                     clear HO_3; clear HO_4; clear BK127; clear HB
                     have HO_3 := n0_
                     have HO_4 := n1_
                     have BK127 := n2_
                     have HB := n3_
                     clear n0_ n1_ n2_ n3_
                     obtain ⟨Ao86, co86, eo86⟩ := Kd.R_slice HO_3.out
                     (first | subst eo86 | (injection eo86 with f1_ f2_ f3_; have f4_ := f1_.symm; have f5_ := f3_.symm; clear f1_ f2_ f3_; subst f4_; subst f5_))
                     have p137 : 0 ≤ (x7_2 : Int) := of_decide_eq_true (by first | (with_reducible assumption) | assumption)
                     have q137 : x7_2 < (x3_1.length : Int) := of_decide_eq_true (by first | (with_reducible assumption) | assumption)
                     obtain ⟨ad137, e137, hx137_0⟩ := Kd.at_int (Kd.R_reads' HO_3.out).2.2 x7_2 p137 q137
                     cases e137
                     replace p137 := eq_true p137
                     replace q137 := eq_true q137
                     have p138 : 0 ≤ (x7_2 : Int) := of_decide_eq_true (by first | (with_reducible assumption) | assumption)
                     have q138 : x7_2 < (l0.length : Int) := of_decide_eq_true (by first | (with_reducible assumption) | assumption)
                     obtain ⟨ad138, e138, hx138_0, hx138_1, hx138_2, hx138_3, hx138_4, hx138_5, hx138_6⟩ := at_T49 HR0.out x7_2 p138 q138
                     have hw138_6 := hx138_6
                     have hw138_5 := hx138_5
                     have hw138_4 := hx138_4
                     have hw138_3 := hx138_3
                     have hw138_2 := hx138_2
                     have hw138_1 := hx138_1
                     have hw138_0 := hx138_0
                     obtain rfl : ad126 = ad138 := (by injection e138)
                     replace hx138_0 := cl_ HB.out hx138_0
                     replace hx138_1 := cl_ HB.out hx138_1
                     replace hx138_2 := cl_ HB.out hx138_2
                     replace hx138_3 := cl_ HB.out hx138_3
                     replace hx138_4 := cl_ HB.out hx138_4
                     replace hx138_5 := cl_ HB.out hx138_5
                     replace hx138_6 := cl_ HB.out hx138_6
                     replace p138 := eq_true p138
                     replace q138 := eq_true q138
                     refine start_ (n := 30) (S := fun w' => w'.cell? ⟨gb127, 0, none⟩ = some (.int .i64 ((rd_T49 l0 x5_1).f0)) ∧ w'.cell? ⟨gb127, 1, none⟩ = some (.int .i64 ((rd_T49 l0 x5_1).f1)) ∧ w'.cell? ⟨gb127, 2, none⟩ = some (.int .i64 ((rd_T49 l0 x5_1).f2)) ∧ w'.cell? ⟨gb127, 3, none⟩ = some (.int .i64 ((rd_T49 l0 x5_1).f3)) ∧ w'.cell? ⟨gb127, 4, none⟩ = some (.int .i64 ((rd_T49 l0 x5_1).f4)) ∧ w'.cell? ⟨gb127, 5, none⟩ = some (.int .i64 ((rd_T49 l0 x5_1).f5)) ∧ w'.cell? ⟨gb127, 6, none⟩ = some (.int .i64 ((rd_T49 l0 x5_1).f6)) ∧ w'.cell? (ad137.add (x7_2).toNat) = some (.int .i64 (rd x3_1 x7_2)) ∧ w'.cell? (ad126.add ((x7_2).toNat * 7)) = some (.int .i64 ((rd_T49 l0 x7_2).f0)) ∧ w'.cell? ⟨(ad126.add ((x7_2).toNat * 7)).block, (ad126.add ((x7_2).toNat * 7)).off + 1, none⟩ = some (.int .i64 ((rd_T49 l0 x7_2).f1)) ∧ w'.cell? ⟨(ad126.add ((x7_2).toNat * 7)).block, (ad126.add ((x7_2).toNat * 7)).off + 2, none⟩ = some (.int .i64 ((rd_T49 l0 x7_2).f2)) ∧ w'.cell? ⟨(ad126.add ((x7_2).toNat * 7)).block, (ad126.add ((x7_2).toNat * 7)).off + 3, none⟩ = some (.int .i64 ((rd_T49 l0 x7_2).f3)) ∧ w'.cell? ⟨(ad126.add ((x7_2).toNat * 7)).block, (ad126.add ((x7_2).toNat * 7)).off + 4, none⟩ = some (.int .i64 ((rd_T49 l0 x7_2).f4)) ∧ w'.cell? ⟨(ad126.add ((x7_2).toNat * 7)).block, (ad126.add ((x7_2).toNat * 7)).off + 5, none⟩ = some (.int .i64 ((rd_T49 l0 x7_2).f5)) ∧ w'.cell? ⟨(ad126.add ((x7_2).toNat * 7)).block, (ad126.add ((x7_2).toNat * 7)).off + 6, none⟩ = some (.int .i64 ((rd_T49 l0 x7_2).f6))) (ds := []) mA0 (by kernel_rfl) rfl rfl ⟨(blk_cell BK127.out 0).trans rfl, (blk_cell BK127.out 1).trans rfl, (blk_cell BK127.out 2).trans rfl, (blk_cell BK127.out 3).trans rfl, (blk_cell BK127.out 4).trans rfl, (blk_cell BK127.out 5).trans rfl, (blk_cell BK127.out 6).trans rfl, hx137_0, ((HB.out.cell (World.block_lt_of_cell? w _ hw138_0)).trans hw138_0), ((HB.out.cell (World.block_lt_of_cell? w _ hw138_1)).trans hw138_1), ((HB.out.cell (World.block_lt_of_cell? w _ hw138_2)).trans hw138_2), ((HB.out.cell (World.block_lt_of_cell? w _ hw138_3)).trans hw138_3), ((HB.out.cell (World.block_lt_of_cell? w _ hw138_4)).trans hw138_4), ((HB.out.cell (World.block_lt_of_cell? w _ hw138_5)).trans hw138_5), ((HB.out.cell (World.block_lt_of_cell? w _ hw138_6)).trans hw138_6)⟩ (fun hHeld => ?_); refine with_tabW plunderlaw6_shaped.tab14 plunderlaw6_shaped.bits14 (fun HT_ HW_ => ?_)
                     generalize wr.drew = w85 at HO_3 HO_4 BK127 HB hx137_0 hx138_0 hx138_1 hx138_2 hx138_3 hx138_4 hx138_5 hx138_6 hHeld ⊢
                     refine pure_ (i := 0) (N := some 61) (v := ?_) (a' := ?_) mA1 rfl rfl (any_of HT_.out (by kernel_rfl)) (fun _ _ _ h => h) (Or.inl ⟨by rfl, ?_⟩) ?_ ?_; rotate_left
                     ·intro w'; go_simp; with_reducible rfl
                     rotate_left
                     ·simp only [Act.put, sA_, sB_, sC_, i64_w, i32_w]; rfl
                     refine pure_ (i := 1) (N := some 62) (v := ?_) (a' := ?_) mA2 rfl rfl (any_of HT_.out (by kernel_rfl)) (fun _ _ _ h => h) (Or.inl ⟨by rfl, ?_⟩) ?_ ?_; rotate_left
                     ·intro w'; go_simp; with_reducible rfl
                     rotate_left
                     ·simp only [Act.put, sA_, sB_, sC_, i64_w, i32_w]; rfl
                     refine pure_ (i := 2) (N := some 63) (v := ?_) (a' := ?_) mA3 rfl rfl (any_of HT_.out (by kernel_rfl)) (fun _ _ _ h => h) (Or.inl ⟨by rfl, ?_⟩) ?_ ?_; rotate_left
                     ·intro w'; go_simp; with_reducible rfl
                     rotate_left
                     ·simp only [Act.put, sA_, sB_, sC_, i64_w, i32_w]; rfl
                     refine pure_ (i := 3) (N := some 64) (v := ?_) (a' := ?_) mA4 rfl rfl (any_of HT_.out (by kernel_rfl)) (fun _ _ _ h => h) (Or.inl ⟨by rfl, ?_⟩) ?_ ?_; rotate_left
                     ·intro w'; go_simp; with_reducible rfl
                     rotate_left
                     ·simp only [Act.put, sA_, sB_, sC_, i64_w, i32_w]; rfl
                     refine pure_ (i := 4) (N := some 65) (v := ?_) (a' := ?_) mA5 rfl rfl (any_of HT_.out (by kernel_rfl)) (fun _ _ _ h => h) (Or.inl ⟨by rfl, ?_⟩) ?_ ?_; rotate_left
                     ·intro w'; go_simp; with_reducible rfl
                     rotate_left
                     ·simp only [Act.put, sA_, sB_, sC_, i64_w, i32_w]; rfl
                     refine take_ (i := 5) (N := some 66) (v := ?_) (a' := ?_) mA6 rfl rfl (take_ofW HT_.out HW_.out (by kernel_rfl)) (fun _ _ _ h => h) (Or.inl ⟨by rfl, ?_⟩) hHeld ?_ ?_; rotate_left
                     ·rintro w' ⟨s0, s1, s2, s3, s4, s5, s6, s7, s8, s9, s10, s11, s12, s13, s14⟩
                      go_simp; with_reducible rfl
                     rotate_left
                     ·simp only [Act.put, sA_, sB_, sC_, i64_w, i32_w]; rfl
                     refine pure_ (i := 6) (N := some 67) (v := ?_) (a' := ?_) mA7 rfl rfl (any_of HT_.out (by kernel_rfl)) (fun _ _ _ h => h) (Or.inl ⟨by rfl, ?_⟩) ?_ ?_; rotate_left
                     ·intro w'; go_simp; with_reducible rfl
                     rotate_left
                     ·simp only [Act.put, sA_, sB_, sC_, i64_w, i32_w]; rfl
                     refine pure_ (i := 7) (N := some 68) (v := ?_) (a' := ?_) mA8 rfl rfl (any_of HT_.out (by kernel_rfl)) (fun _ _ _ h => h) (Or.inl ⟨by rfl, ?_⟩) ?_ ?_; rotate_left
                     ·intro w'; go_simp; with_reducible rfl
                     rotate_left
                     ·simp only [Act.put, sA_, sB_, sC_, i64_w, i32_w]; rfl
                     refine pure_ (i := 8) (N := some 69) (v := ?_) (a' := ?_) mA9 rfl rfl (any_of HT_.out (by kernel_rfl)) (fun _ _ _ h => h) (Or.inl ⟨by rfl, ?_⟩) ?_ ?_; rotate_left
                     ·intro w'; go_simp; with_reducible rfl
                     rotate_left
                     ·simp only [Act.put, sA_, sB_, sC_, i64_w, i32_w]; rfl
                     refine pure_ (i := 9) (N := some 70) (v := ?_) (a' := ?_) mA10 rfl rfl (any_of HT_.out (by kernel_rfl)) (fun _ _ _ h => h) (Or.inl ⟨by rfl, ?_⟩) ?_ ?_; rotate_left
                     ·intro w'; go_simp; with_reducible rfl
                     rotate_left
                     ·simp only [Act.put, sA_, sB_, sC_, i64_w, i32_w]; rfl
                     refine pure_ (i := 11) (N := some 72) (v := ?_) (a' := ?_) mA31 rfl rfl (any_of HT_.out (by kernel_rfl)) (fun _ _ _ h => h) (Or.inl ⟨by rfl, ?_⟩) ?_ ?_; rotate_left
                     ·intro w'; go_simp; with_reducible rfl
                     rotate_left
                     ·simp only [Act.put, sA_, sB_, sC_, i64_w, i32_w]; rfl
                     refine pure_ (i := 12) (N := some 73) (v := ?_) (a' := ?_) mA32 rfl rfl (any_of HT_.out (by kernel_rfl)) (fun _ _ _ h => h) (Or.inl ⟨by rfl, ?_⟩) ?_ ?_; rotate_left
                     ·intro w'; go_simp; with_reducible rfl
                     rotate_left
                     ·simp only [Act.put, sA_, sB_, sC_, i64_w, i32_w]; rfl
                     refine pure_ (i := 13) (N := some 74) (v := ?_) (a' := ?_) mA33 rfl rfl (any_of HT_.out (by kernel_rfl)) (fun _ _ _ h => h) (Or.inl ⟨by rfl, ?_⟩) ?_ ?_; rotate_left
                     ·intro w'; go_simp; with_reducible rfl
                     rotate_left
                     ·simp only [Act.put, sA_, sB_, sC_, i64_w, i32_w]; rfl
                     refine take_ (i := 10) (N := some 71) (v := ?_) (a' := ?_) mA14 rfl rfl (take_ofW HT_.out HW_.out (by kernel_rfl)) (fun _ _ _ h => h) (Or.inl ⟨by rfl, ?_⟩) hHeld ?_ ?_; rotate_left
                     ·rintro w' ⟨s0, s1, s2, s3, s4, s5, s6, s7, s8, s9, s10, s11, s12, s13, s14⟩
                      go_simp; with_reducible rfl
                     rotate_left
                     ·simp only [Act.put, sA_, sB_, sC_, i64_w, i32_w]; rfl
                     refine take_ (i := 14) (N := some 75) (v := ?_) (a' := ?_) mA15 rfl rfl (take_ofW HT_.out HW_.out (by kernel_rfl)) (fun _ _ _ h => h) (Or.inl ⟨by rfl, ?_⟩) hHeld ?_ ?_; rotate_left
                     ·rintro w' ⟨s0, s1, s2, s3, s4, s5, s6, s7, s8, s9, s10, s11, s12, s13, s14⟩
                      go_simp; with_reducible rfl
                     rotate_left
                     ·simp only [Act.put, sA_, sB_, sC_, i64_w, i32_w]; rfl
                     refine pure_ (i := 15) (N := some 76) (v := ?_) (a' := ?_) mA16 rfl rfl (any_of HT_.out (by kernel_rfl)) (fun _ _ _ h => h) (Or.inl ⟨by rfl, ?_⟩) ?_ ?_; rotate_left
                     ·intro w'; go_simp; with_reducible rfl
                     rotate_left
                     ·simp only [Act.put, sA_, sB_, sC_, i64_w, i32_w]; rfl
                     refine pure_ (i := 16) (N := some 77) (v := ?_) (a' := ?_) mA17 rfl rfl (any_of HT_.out (by kernel_rfl)) (fun _ _ _ h => h) (Or.inl ⟨by rfl, ?_⟩) ?_ ?_; rotate_left
                     ·intro w'; go_simp; with_reducible rfl
                     rotate_left
                     ·simp only [Act.put, sA_, sB_, sC_, i64_w, i32_w]; rfl
                     refine pure_ (i := 17) (N := some 78) (v := ?_) (a' := ?_) mA18 rfl rfl (any_of HT_.out (by kernel_rfl)) (fun _ _ _ h => h) (Or.inl ⟨by rfl, ?_⟩) ?_ ?_; rotate_left
                     ·intro w'; go_simp; with_reducible rfl
                     rotate_left
                     ·simp only [Act.put, sA_, sB_, sC_, i64_w, i32_w]; rfl
                     refine pure_ (i := 18) (N := some 79) (v := ?_) (a' := ?_) mA19 rfl rfl (any_of HT_.out (by kernel_rfl)) (fun _ _ _ h => h) (Or.inl ⟨by rfl, ?_⟩) ?_ ?_; rotate_left
                     ·intro w'; go_simp; with_reducible rfl
                     rotate_left
                     ·simp only [Act.put, sA_, sB_, sC_, i64_w, i32_w]; rfl
                     refine pure_ (i := 20) (N := some 81) (v := ?_) (a' := ?_) mA34 rfl rfl (any_of HT_.out (by kernel_rfl)) (fun _ _ _ h => h) (Or.inl ⟨by rfl, ?_⟩) ?_ ?_; rotate_left
                     ·intro w'; go_simp; with_reducible rfl
                     rotate_left
                     ·simp only [Act.put, sA_, sB_, sC_, i64_w, i32_w]; rfl
                     refine pure_ (i := 21) (N := some 82) (v := ?_) (a' := ?_) mA35 rfl rfl (any_of HT_.out (by kernel_rfl)) (fun _ _ _ h => h) (Or.inl ⟨by rfl, ?_⟩) ?_ ?_; rotate_left
                     ·intro w'; go_simp; with_reducible rfl
                     rotate_left
                     ·simp only [Act.put, sA_, sB_, sC_, i64_w, i32_w]; rfl
                     refine pure_ (i := 22) (N := some 83) (v := ?_) (a' := ?_) mA36 rfl rfl (any_of HT_.out (by kernel_rfl)) (fun _ _ _ h => h) (Or.inl ⟨by rfl, ?_⟩) ?_ ?_; rotate_left
                     ·intro w'; go_simp; with_reducible rfl
                     rotate_left
                     ·simp only [Act.put, sA_, sB_, sC_, i64_w, i32_w]; rfl
                     refine pure_ (i := 23) (N := some 84) (v := ?_) (a' := ?_) mA37 rfl rfl (any_of HT_.out (by kernel_rfl)) (fun _ _ _ h => h) (Or.inl ⟨by rfl, ?_⟩) ?_ ?_; rotate_left
                     ·intro w'; go_simp; with_reducible rfl
                     rotate_left
                     ·simp only [Act.put, sA_, sB_, sC_, i64_w, i32_w]; rfl
                     refine pure_ (i := 25) (N := some 86) (v := ?_) (a' := ?_) mA38 rfl rfl (any_of HT_.out (by kernel_rfl)) (fun _ _ _ h => h) (Or.inl ⟨by rfl, ?_⟩) ?_ ?_; rotate_left
                     ·intro w'; go_simp; with_reducible rfl
                     rotate_left
                     ·simp only [Act.put, sA_, sB_, sC_, i64_w, i32_w]; rfl
                     refine take_ (i := 19) (N := some 80) (v := ?_) (a' := ?_) mA39 rfl rfl (take_ofW HT_.out HW_.out (by kernel_rfl)) (fun _ _ _ h => h) (Or.inl ⟨by rfl, ?_⟩) hHeld ?_ ?_; rotate_left
                     ·rintro w' ⟨s0, s1, s2, s3, s4, s5, s6, s7, s8, s9, s10, s11, s12, s13, s14⟩
                      go_simp; with_reducible rfl
                     rotate_left
                     ·simp only [Act.put, sA_, sB_, sC_, i64_w, i32_w]; rfl
                     refine take_ (i := 24) (N := some 85) (v := ?_) (a' := ?_) mA26 rfl rfl (take_ofW HT_.out HW_.out (by kernel_rfl)) (fun _ _ _ h => h) (Or.inl ⟨by rfl, ?_⟩) hHeld ?_ ?_; rotate_left
                     ·rintro w' ⟨s0, s1, s2, s3, s4, s5, s6, s7, s8, s9, s10, s11, s12, s13, s14⟩
                      go_simp; with_reducible rfl
                     rotate_left
                     ·simp only [Act.put, sA_, sB_, sC_, i64_w, i32_w]; rfl
                     refine take_ (i := 26) (N := some 87) (v := ?_) (a' := ?_) mA27 rfl rfl (take_ofW HT_.out HW_.out (by kernel_rfl)) (fun _ _ _ h => h) (Or.inl ⟨by rfl, ?_⟩) hHeld ?_ ?_; rotate_left
                     ·rintro w' ⟨s0, s1, s2, s3, s4, s5, s6, s7, s8, s9, s10, s11, s12, s13, s14⟩
                      go_simp; with_reducible rfl
                     rotate_left
                     ·simp only [Act.put, sA_, sB_, sC_, i64_w, i32_w]; rfl
                     refine one_ (i := 27) (N := some 88) mA28 rfl rfl (one_of HT_.out (by kernel_rfl)) (by decide) (fun K hK => ?_); refine goes_ Tryd.func35 (by kernel_rfl) rfl #[.int .i64 ((rd_T49 l0 x7_2).f4), .int .i64 ((rd_T49 l0 x5_1).f1)] (by rfl) rfl rfl (by (try simp only [List.map_toArray, List.map_cons, List.map_nil]); first | done | rfl | (simp only [List.length_drop, List.length_take]; rfl)) ?_
                     with_reducible refine (serial_Ped.calls ((rd_T49 l0 x7_2).f4) ((rd_T49 l0 x5_1).f1) t139 _ A77.out).mono ?_
                     rintro e w' ⟨rfl, ⟨nd, rfl⟩⟩
                     refine ⟨_, rfl, ?_⟩; refine hK.out _ _ ⟨(blk_cell BK127.out 0).trans rfl, (blk_cell BK127.out 1).trans rfl, (blk_cell BK127.out 2).trans rfl, (blk_cell BK127.out 3).trans rfl, (blk_cell BK127.out 4).trans rfl, (blk_cell BK127.out 5).trans rfl, (blk_cell BK127.out 6).trans rfl, hHeld.2.2.2.2.2.2.2.1, ((HB.out.cell (World.block_lt_of_cell? w _ hw138_0)).trans hw138_0), ((HB.out.cell (World.block_lt_of_cell? w _ hw138_1)).trans hw138_1), ((HB.out.cell (World.block_lt_of_cell? w _ hw138_2)).trans hw138_2), ((HB.out.cell (World.block_lt_of_cell? w _ hw138_3)).trans hw138_3), ((HB.out.cell (World.block_lt_of_cell? w _ hw138_4)).trans hw138_4), ((HB.out.cell (World.block_lt_of_cell? w _ hw138_5)).trans hw138_5), ((HB.out.cell (World.block_lt_of_cell? w _ hw138_6)).trans hw138_6)⟩ (fun hHeld => ?_); clear hK K; refine norm_ (a' := ?_) ?_ ?_; rotate_left
                     ·show Act.put _ (some 88) _ = _
                      simp only [Act.put, sA_, sB_, sC_, i64_w, i32_w]; rfl
                     refine pure_ (i := 28) (N := some 89) (v := ?_) (a' := ?_) mA29 rfl rfl (any_of HT_.out (by kernel_rfl)) (fun _ _ _ h => h) (Or.inl ⟨by rfl, ?_⟩) ?_ ?_; rotate_left
                     ·intro w'; go_simp; with_reducible rfl
                     rotate_left
                     ·simp only [Act.put, sA_, sB_, sC_, i64_w, i32_w]; rfl
                     refine pure_ (i := 29) (N := some 90) (v := ?_) (a' := ?_) mA30 rfl rfl (any_of HT_.out (by kernel_rfl)) (fun _ _ _ h => h) (Or.inl ⟨by rfl, ?_⟩) ?_ ?_; rotate_left
                     ·intro w'; go_simp; with_reducible rfl
                     rotate_left
                     ·simp only [Act.put, sA_, sB_, sC_, i64_w, i32_w]; rfl
                     refine done_ (done_of HT_.out (by kernel_rfl)) ?_
                     have n0_ := Aside0.mk (Kd.R_drewN HO_3.out nd)
                     have n1_ := Aside0.mk (Kd.R_drewN HO_4.out nd)
                     have m0_ := Aside0.mk (blk_drewN BK127.out nd)
                     have q_ := Aside0.mk (pw_below_drewN HB.out nd)
                     clear HO_3 HO_4 BK127 HB
                     have HO_3 := n0_
                     have HO_4 := n1_
                     have BK127 := m0_
                     have HB := q_
                     clear q_ n0_ n1_ m0_
                     have hxd_ : ∀ p v, w85.cell? p = some v → (w85.drewN nd).cell? p = some v := fun _ _ h => h
                     replace hx137_0 := hxd_ _ _ hx137_0
                     replace hx138_0 := hxd_ _ _ hx138_0
                     replace hx138_1 := hxd_ _ _ hx138_1
                     replace hx138_2 := hxd_ _ _ hx138_2
                     replace hx138_3 := hxd_ _ _ hx138_3
                     replace hx138_4 := hxd_ _ _ hx138_4
                     replace hx138_5 := hxd_ _ _ hx138_5
                     replace hx138_6 := hxd_ _ _ hx138_6
                     clear hxd_
                     generalize w85.drewN nd = w85 at HO_3 HO_4 BK127 HB hx137_0 hx138_0 hx138_1 hx138_2 hx138_3 hx138_4 hx138_5 hx138_6 ⊢
                     have p140 : 0 ≤ (x7_2 : Int) := of_decide_eq_true (by first | (with_reducible assumption) | assumption)
                     have q140 : x7_2 < (x3_1.length : Int) := of_decide_eq_true (by first | (with_reducible assumption) | assumption)
                     obtain ⟨ad140, e140, hx140_0⟩ := Kd.at_int (Kd.R_reads' HO_3.out).2.2 x7_2 p140 q140
                     obtain rfl : ad137 = ad140 := (by injection e140)
                     replace p140 := eq_true p140
                     replace q140 := eq_true q140
                     have p79 : 0 ≤ (x7_2 : Int) := of_decide_eq_true (by first | (with_reducible assumption) | assumption)
                     have q79 : (x7_2 : Int) < ((x3_1.length : Int) : Int) := of_decide_eq_true (by first | (with_reducible assumption) | assumption)
                     obtain ⟨go79, co79, eo79, gb79, gl79, cl79, HG79⟩ := Kd.R_form HO_3.out (by omega)
                     (first | cases eo79 | (injection eo79 with ea_ en_ ec_; (first | subst ea_ | (injection ea_ with ea_; subst ea_)); subst ec_; clear en_))
                     have GB79 := Aside0.mk gb79; have GG79 := Aside0.mk HG79; clear gb79 gl79 HG79
                     (first | simp only [add_plain] at hx137_0 | skip)
                     (first | simp only [add_plain] at hx140_0 | skip)
                     obtain ⟨hx79_0, hf79_0⟩ := Kd.R_celln 0 HO_3.out (x7_2 : Int) p79 q79
                     replace p79 := eq_true p79
                     replace q79 := eq_true q79
                     obtain ⟨hy87_, hz87_⟩ := Kd.R_celln 0 HO_3.out (x7_2 : Int) (of_decide_eq_true (by first | (with_reducible assumption) | assumption)) (of_decide_eq_true (by first | (with_reducible assumption) | assumption))
                     have HP87 := Kd.R_putg HO_3.out (x7_2 : Int) (wrap64 ((rd x3_1 x7_2) + 1))
                     try go_wp2_with (first | ((with_reducible refine gate_store (t := 3) (p := 96) rfl ?_); refine store_event (t := 3) (p := 96) (v := ?vo_w88) (w1 := (w85.setCell ⟨go79, (x7_2 : Int).toNat, none⟩ (.int .i64 (wrap64 ((rd x3_1 x7_2) + 1))))) ?hg ?ho ?hn ?hr ?_; (case ho => rfl); (case hg => rfl); (case hn => rfl); (case hr => first | (go_simp; done) | (go_simp; rfl)); intro w88 hw; have hg : w85.grownBy w88 (some go79) := (by rw [hw]; exact HP87.2); have hp_ : Kd.R (Kd.int .i64) 3 w88 w.heap.size (fun k_ => some k_ ≠ (v124 : Value).ownBlock) (.slice (some ⟨go79, 0, none⟩) x3_1.length co86) y141 := (by rw [hw, Ny141.out]; exact HP87.1); clear HP87; have n0_ := Aside0.mk (hp_); have n1_ := Aside0.mk (Kd.R_after (v := (.slice (some ⟨go79, 0, none⟩) x3_1.length co86)) (v1 := (.slice (some ⟨go79, 0, none⟩) x3_1.length co86)) (ok := (fun _ => True)) (by (with_reducible repeat (first | apply Kd.R_alloc | apply Kd.R_drewN | apply Kd.R_drew)); exact Kd.R_mono HO_4.out (fun _ hk => ⟨trivial, hk⟩)) hg (.inl rfl)); have n2_ := Aside0.mk (blk_grown (g := gb127) (o := .cells #[.int .i64 ((rd_T49 l0 x5_1).f0), .int .i64 ((rd_T49 l0 x5_1).f1), .int .i64 ((rd_T49 l0 x5_1).f2), .int .i64 ((rd_T49 l0 x5_1).f3), .int .i64 ((rd_T49 l0 x5_1).f4), .int .i64 ((rd_T49 l0 x5_1).f5), .int .i64 ((rd_T49 l0 x5_1).f6)] 49 (0, 0)) (by (with_reducible repeat (first | refine blk_drewN ?_ _ | refine blk_drew ?_ | refine blk_alloc ?_ _)); exact BK127.out) hg (Kd.R_ne HO_3.out BK127.out (by decide))); have n3_ := Aside0.mk ((by rw [hw]; exact below_set (HB.out) GB79.out : Below w.heap.size w w88)); clear HO_3; clear HO_4; clear BK127; clear HB; have HO_3 := n0_; have HO_4 := n1_; have BK127 := n2_; have HB := n3_; clear n0_ n1_ n2_ n3_; clear hg hw hp_; obtain ⟨Ao89, co89, eo89⟩ := Kd.R_slice HO_4.out; subst eo89; have p142 : 0 ≤ (x7_2 : Int) := of_decide_eq_true (by first | (with_reducible assumption) | assumption); have q142 : x7_2 < (x4_1.length : Int) := of_decide_eq_true (by first | (with_reducible assumption) | assumption); obtain ⟨ad142, e142, hx142_0⟩ := Kd.at_int (Kd.R_reads' HO_4.out).2.2 x7_2 p142 q142; cases e142; replace p142 := eq_true p142; replace q142 := eq_true q142; have p83 : 0 ≤ (x5_1 : Int) := of_decide_eq_true (by first | (with_reducible assumption) | assumption); have q83 : (x5_1 : Int) < ((x4_1.length : Int) : Int) := of_decide_eq_true (by first | (with_reducible assumption) | assumption); obtain ⟨go83, co83, eo83, gb83, gl83, cl83, HG83⟩ := Kd.R_form HO_4.out (by omega); (first | cases eo83 | (injection eo83 with ea_ en_ ec_; (first | subst ea_ | (injection ea_ with ea_; subst ea_)); subst ec_; clear en_)); have GB83 := Aside0.mk gb83; have GG83 := Aside0.mk HG83; clear gb83 gl83 HG83; (first | simp only [add_plain] at hx142_0 | skip); obtain ⟨hx83_0, hf83_0⟩ := Kd.R_celln 0 HO_4.out (x5_1 : Int) p83 q83; replace p83 := eq_true p83; replace q83 := eq_true q83; have n_ := Aside0.mk (Kd.R_mono (ok' := (fun k_ => some k_ ≠ (.slice (some ⟨go79, 0, none⟩) x3_1.length co86 : Value).ownBlock)) HO_4.out (fun k_ hk => hk.2)); clear HO_4; have HO_4 := n_; clear n_; obtain ⟨hy90_, hz90_⟩ := Kd.R_celln 0 HO_4.out (x5_1 : Int) (of_decide_eq_true (by first | (with_reducible assumption) | assumption)) (of_decide_eq_true (by first | (with_reducible assumption) | assumption)); have HP90 := Kd.R_putg HO_4.out (x5_1 : Int) (wrap64 ((rd x4_1 x7_2) + 1))) | ((with_reducible refine gate_store (t := 3) (p := 104) rfl ?_); refine store_event (t := 3) (p := 104) (v := ?vo_w91) (w1 := (w88.setCell ⟨go83, (x5_1 : Int).toNat, none⟩ (.int .i64 (wrap64 ((rd x4_1 x7_2) + 1))))) ?hg ?ho ?hn ?hr ?_; (case ho => rfl); (case hg => rfl); (case hn => rfl); (case hr => first | (go_simp; done) | (go_simp; rfl)); intro w91 hw; have hg : w88.grownBy w91 (some go83) := (by rw [hw]; exact HP90.2); have hp_ : Kd.R (Kd.int .i64) 3 w91 w.heap.size (fun k_ => some k_ ≠ (.slice (some ⟨go79, 0, none⟩) x3_1.length co86 : Value).ownBlock) (.slice (some ⟨go83, 0, none⟩) x4_1.length co89) y143 := (by rw [hw, Ny143.out]; exact HP90.1); clear HP90; have n0_ := Aside0.mk (Kd.R_after (v := (.slice (some ⟨go83, 0, none⟩) x4_1.length co89)) (v1 := (.slice (some ⟨go83, 0, none⟩) x4_1.length co89)) (ok := (fun _ => True)) (by (with_reducible repeat (first | apply Kd.R_alloc | apply Kd.R_drewN | apply Kd.R_drew)); exact Kd.R_mono HO_3.out (fun _ hk => ⟨trivial, hk⟩)) hg (.inl rfl)); have n1_ := Aside0.mk (hp_); have n2_ := Aside0.mk (blk_grown (g := gb127) (o := .cells #[.int .i64 ((rd_T49 l0 x5_1).f0), .int .i64 ((rd_T49 l0 x5_1).f1), .int .i64 ((rd_T49 l0 x5_1).f2), .int .i64 ((rd_T49 l0 x5_1).f3), .int .i64 ((rd_T49 l0 x5_1).f4), .int .i64 ((rd_T49 l0 x5_1).f5), .int .i64 ((rd_T49 l0 x5_1).f6)] 49 (0, 0)) (by (with_reducible repeat (first | refine blk_drewN ?_ _ | refine blk_drew ?_ | refine blk_alloc ?_ _)); exact BK127.out) hg (Kd.R_ne HO_4.out BK127.out (by decide))); have n3_ := Aside0.mk ((by rw [hw]; exact below_set (HB.out) GB83.out : Below w.heap.size w w91)); clear HO_3; clear HO_4; clear BK127; clear HB; have HO_3 := n0_; have HO_4 := n1_; have BK127 := n2_; have HB := n3_; clear n0_ n1_ n2_ n3_; clear hg hw hp_))
                     go_roundg k2
                     case measure => have := HK1.out; have := HK2.out; omega
                     case rel => exact ⟨(y141), (y143), (wrap64 (x5_1 + 1)), (by first | rfl | (simp; done) | (simp [*]; done)), H', ⟨by have := HK1.out; have := HK2.out; omega⟩, ⟨by (with_reducible repeat (first | apply Kd.R_alloc | apply Kd.R_drewN | apply Kd.R_drew)); exact Kd.R_mono HO_3.out (fun _ hk => hk.2)⟩, ⟨by (with_reducible repeat (first | apply Kd.R_alloc | apply Kd.R_drewN | apply Kd.R_drew)); exact HO_4.out⟩, ⟨by repeat (first | (with_reducible first | exact HB.out | apply below_alloc | apply pw_below_drewN | apply below_drew1 | refine below_set ?_ GE127.out) | exact HB.out)⟩⟩
                    ·rw [if_neg c82] at H; exact absurd H (by simp)
                   ·rw [if_neg c81] at H; exact absurd H (by simp)
                  ·rw [if_neg c80] at H; exact absurd H (by simp)
                 ·rw [if_neg c78] at H
                  have c78b0 : (((rd_T49 l0 x5_1).f4) == t139) = false := beq_eq_false_iff_ne.mpr c78
                  have c78b1 : (((rd_T49 l0 x5_1).f4) != t139) = true := bne_iff_ne.mpr c78
                  obtain rfl := Option.some.inj H
                  have hcz92_0 : wr.cell? ⟨gb127, 0, none⟩ = some (.int .i64 ((rd_T49 l0 x5_1).f0)) := (blk_cell BK127.out 0).trans rfl
                  have hcz92_1 : wr.cell? ⟨gb127, 1, none⟩ = some (.int .i64 ((rd_T49 l0 x5_1).f1)) := (blk_cell BK127.out 1).trans rfl
                  have hcz92_2 : wr.cell? ⟨gb127, 2, none⟩ = some (.int .i64 ((rd_T49 l0 x5_1).f2)) := (blk_cell BK127.out 2).trans rfl
                  have hcz92_3 : wr.cell? ⟨gb127, 3, none⟩ = some (.int .i64 ((rd_T49 l0 x5_1).f3)) := (blk_cell BK127.out 3).trans rfl
                  have hcz92_4 : wr.cell? ⟨gb127, 4, none⟩ = some (.int .i64 ((rd_T49 l0 x5_1).f4)) := (blk_cell BK127.out 4).trans rfl
                  have hcz92_5 : wr.cell? ⟨gb127, 5, none⟩ = some (.int .i64 ((rd_T49 l0 x5_1).f5)) := (blk_cell BK127.out 5).trans rfl
                  have hcz92_6 : wr.cell? ⟨gb127, 6, none⟩ = some (.int .i64 ((rd_T49 l0 x5_1).f6)) := (blk_cell BK127.out 6).trans rfl
                  have hfz92_0 := blk_frozen BK127.out 0
                  have hfz92_1 := blk_frozen BK127.out 1
                  have hfz92_2 := blk_frozen BK127.out 2
                  have hfz92_3 := blk_frozen BK127.out 3
                  have hfz92_4 := blk_frozen BK127.out 4
                  have hfz92_5 := blk_frozen BK127.out 5
                  have hfz92_6 := blk_frozen BK127.out 6
                  try go_wp2
                  have n0_ := Aside0.mk (Kd.R_drew HO_3.out)
                  have n1_ := Aside0.mk (Kd.R_drew HO_4.out)
                  have n2_ := Aside0.mk (blk_drew BK127.out)
                  have n3_ := Aside0.mk (below_drew1 HB.out)
                  clear HO_3; clear HO_4; clear BK127; clear HB
                  have HO_3 := n0_
                  have HO_4 := n1_
                  have BK127 := n2_
                  have HB := n3_
                  clear n0_ n1_ n2_ n3_
                  obtain ⟨Ao94, co94, eo94⟩ := Kd.R_slice HO_3.out
                  (first | subst eo94 | (injection eo94 with f1_ f2_ f3_; have f4_ := f1_.symm; have f5_ := f3_.symm; clear f1_ f2_ f3_; subst f4_; subst f5_))
                  have p137 : 0 ≤ (x7_2 : Int) := of_decide_eq_true (by first | (with_reducible assumption) | assumption)
                  have q137 : x7_2 < (x3_1.length : Int) := of_decide_eq_true (by first | (with_reducible assumption) | assumption)
                  obtain ⟨ad137, e137, hx137_0⟩ := Kd.at_int (Kd.R_reads' HO_3.out).2.2 x7_2 p137 q137
                  cases e137
                  replace p137 := eq_true p137
                  replace q137 := eq_true q137
                  have p138 : 0 ≤ (x7_2 : Int) := of_decide_eq_true (by first | (with_reducible assumption) | assumption)
                  have q138 : x7_2 < (l0.length : Int) := of_decide_eq_true (by first | (with_reducible assumption) | assumption)
                  obtain ⟨ad138, e138, hx138_0, hx138_1, hx138_2, hx138_3, hx138_4, hx138_5, hx138_6⟩ := at_T49 HR0.out x7_2 p138 q138
                  have hw138_6 := hx138_6
                  have hw138_5 := hx138_5
                  have hw138_4 := hx138_4
                  have hw138_3 := hx138_3
                  have hw138_2 := hx138_2
                  have hw138_1 := hx138_1
                  have hw138_0 := hx138_0
                  obtain rfl : ad126 = ad138 := (by injection e138)
                  replace hx138_0 := cl_ HB.out hx138_0
                  replace hx138_1 := cl_ HB.out hx138_1
                  replace hx138_2 := cl_ HB.out hx138_2
                  replace hx138_3 := cl_ HB.out hx138_3
                  replace hx138_4 := cl_ HB.out hx138_4
                  replace hx138_5 := cl_ HB.out hx138_5
                  replace hx138_6 := cl_ HB.out hx138_6
                  replace p138 := eq_true p138
                  replace q138 := eq_true q138
                  refine start_ (n := 30) (S := fun w' => w'.cell? ⟨gb127, 0, none⟩ = some (.int .i64 ((rd_T49 l0 x5_1).f0)) ∧ w'.cell? ⟨gb127, 1, none⟩ = some (.int .i64 ((rd_T49 l0 x5_1).f1)) ∧ w'.cell? ⟨gb127, 2, none⟩ = some (.int .i64 ((rd_T49 l0 x5_1).f2)) ∧ w'.cell? ⟨gb127, 3, none⟩ = some (.int .i64 ((rd_T49 l0 x5_1).f3)) ∧ w'.cell? ⟨gb127, 4, none⟩ = some (.int .i64 ((rd_T49 l0 x5_1).f4)) ∧ w'.cell? ⟨gb127, 5, none⟩ = some (.int .i64 ((rd_T49 l0 x5_1).f5)) ∧ w'.cell? ⟨gb127, 6, none⟩ = some (.int .i64 ((rd_T49 l0 x5_1).f6)) ∧ w'.cell? (ad137.add (x7_2).toNat) = some (.int .i64 (rd x3_1 x7_2)) ∧ w'.cell? (ad126.add ((x7_2).toNat * 7)) = some (.int .i64 ((rd_T49 l0 x7_2).f0)) ∧ w'.cell? ⟨(ad126.add ((x7_2).toNat * 7)).block, (ad126.add ((x7_2).toNat * 7)).off + 1, none⟩ = some (.int .i64 ((rd_T49 l0 x7_2).f1)) ∧ w'.cell? ⟨(ad126.add ((x7_2).toNat * 7)).block, (ad126.add ((x7_2).toNat * 7)).off + 2, none⟩ = some (.int .i64 ((rd_T49 l0 x7_2).f2)) ∧ w'.cell? ⟨(ad126.add ((x7_2).toNat * 7)).block, (ad126.add ((x7_2).toNat * 7)).off + 3, none⟩ = some (.int .i64 ((rd_T49 l0 x7_2).f3)) ∧ w'.cell? ⟨(ad126.add ((x7_2).toNat * 7)).block, (ad126.add ((x7_2).toNat * 7)).off + 4, none⟩ = some (.int .i64 ((rd_T49 l0 x7_2).f4)) ∧ w'.cell? ⟨(ad126.add ((x7_2).toNat * 7)).block, (ad126.add ((x7_2).toNat * 7)).off + 5, none⟩ = some (.int .i64 ((rd_T49 l0 x7_2).f5)) ∧ w'.cell? ⟨(ad126.add ((x7_2).toNat * 7)).block, (ad126.add ((x7_2).toNat * 7)).off + 6, none⟩ = some (.int .i64 ((rd_T49 l0 x7_2).f6))) (ds := []) mA0 (by kernel_rfl) rfl rfl ⟨(blk_cell BK127.out 0).trans rfl, (blk_cell BK127.out 1).trans rfl, (blk_cell BK127.out 2).trans rfl, (blk_cell BK127.out 3).trans rfl, (blk_cell BK127.out 4).trans rfl, (blk_cell BK127.out 5).trans rfl, (blk_cell BK127.out 6).trans rfl, hx137_0, ((HB.out.cell (World.block_lt_of_cell? w _ hw138_0)).trans hw138_0), ((HB.out.cell (World.block_lt_of_cell? w _ hw138_1)).trans hw138_1), ((HB.out.cell (World.block_lt_of_cell? w _ hw138_2)).trans hw138_2), ((HB.out.cell (World.block_lt_of_cell? w _ hw138_3)).trans hw138_3), ((HB.out.cell (World.block_lt_of_cell? w _ hw138_4)).trans hw138_4), ((HB.out.cell (World.block_lt_of_cell? w _ hw138_5)).trans hw138_5), ((HB.out.cell (World.block_lt_of_cell? w _ hw138_6)).trans hw138_6)⟩ (fun hHeld => ?_); refine with_tabW plunderlaw6_shaped.tab14 plunderlaw6_shaped.bits14 (fun HT_ HW_ => ?_)
                  generalize wr.drew = w93 at HO_3 HO_4 BK127 HB hx137_0 hx138_0 hx138_1 hx138_2 hx138_3 hx138_4 hx138_5 hx138_6 hHeld ⊢
                  refine pure_ (i := 0) (N := some 61) (v := ?_) (a' := ?_) mA1 rfl rfl (any_of HT_.out (by kernel_rfl)) (fun _ _ _ h => h) (Or.inl ⟨by rfl, ?_⟩) ?_ ?_; rotate_left
                  ·intro w'; go_simp; with_reducible rfl
                  rotate_left
                  ·simp only [Act.put, sA_, sB_, sC_, i64_w, i32_w]; rfl
                  refine pure_ (i := 1) (N := some 62) (v := ?_) (a' := ?_) mA2 rfl rfl (any_of HT_.out (by kernel_rfl)) (fun _ _ _ h => h) (Or.inl ⟨by rfl, ?_⟩) ?_ ?_; rotate_left
                  ·intro w'; go_simp; with_reducible rfl
                  rotate_left
                  ·simp only [Act.put, sA_, sB_, sC_, i64_w, i32_w]; rfl
                  refine pure_ (i := 2) (N := some 63) (v := ?_) (a' := ?_) mA3 rfl rfl (any_of HT_.out (by kernel_rfl)) (fun _ _ _ h => h) (Or.inl ⟨by rfl, ?_⟩) ?_ ?_; rotate_left
                  ·intro w'; go_simp; with_reducible rfl
                  rotate_left
                  ·simp only [Act.put, sA_, sB_, sC_, i64_w, i32_w]; rfl
                  refine pure_ (i := 3) (N := some 64) (v := ?_) (a' := ?_) mA4 rfl rfl (any_of HT_.out (by kernel_rfl)) (fun _ _ _ h => h) (Or.inl ⟨by rfl, ?_⟩) ?_ ?_; rotate_left
                  ·intro w'; go_simp; with_reducible rfl
                  rotate_left
                  ·simp only [Act.put, sA_, sB_, sC_, i64_w, i32_w]; rfl
                  refine pure_ (i := 4) (N := some 65) (v := ?_) (a' := ?_) mA5 rfl rfl (any_of HT_.out (by kernel_rfl)) (fun _ _ _ h => h) (Or.inl ⟨by rfl, ?_⟩) ?_ ?_; rotate_left
                  ·intro w'; go_simp; with_reducible rfl
                  rotate_left
                  ·simp only [Act.put, sA_, sB_, sC_, i64_w, i32_w]; rfl
                  refine take_ (i := 5) (N := some 66) (v := ?_) (a' := ?_) mA6 rfl rfl (take_ofW HT_.out HW_.out (by kernel_rfl)) (fun _ _ _ h => h) (Or.inl ⟨by rfl, ?_⟩) hHeld ?_ ?_; rotate_left
                  ·rintro w' ⟨s0, s1, s2, s3, s4, s5, s6, s7, s8, s9, s10, s11, s12, s13, s14⟩
                   go_simp; with_reducible rfl
                  rotate_left
                  ·simp only [Act.put, sA_, sB_, sC_, i64_w, i32_w]; rfl
                  refine pure_ (i := 6) (N := some 67) (v := ?_) (a' := ?_) mA7 rfl rfl (any_of HT_.out (by kernel_rfl)) (fun _ _ _ h => h) (Or.inl ⟨by rfl, ?_⟩) ?_ ?_; rotate_left
                  ·intro w'; go_simp; with_reducible rfl
                  rotate_left
                  ·simp only [Act.put, sA_, sB_, sC_, i64_w, i32_w]; rfl
                  refine pure_ (i := 7) (N := some 68) (v := ?_) (a' := ?_) mA8 rfl rfl (any_of HT_.out (by kernel_rfl)) (fun _ _ _ h => h) (Or.inl ⟨by rfl, ?_⟩) ?_ ?_; rotate_left
                  ·intro w'; go_simp; with_reducible rfl
                  rotate_left
                  ·simp only [Act.put, sA_, sB_, sC_, i64_w, i32_w]; rfl
                  refine pure_ (i := 8) (N := some 69) (v := ?_) (a' := ?_) mA9 rfl rfl (any_of HT_.out (by kernel_rfl)) (fun _ _ _ h => h) (Or.inl ⟨by rfl, ?_⟩) ?_ ?_; rotate_left
                  ·intro w'; go_simp; with_reducible rfl
                  rotate_left
                  ·simp only [Act.put, sA_, sB_, sC_, i64_w, i32_w]; rfl
                  refine pure_ (i := 9) (N := some 70) (v := ?_) (a' := ?_) mA10 rfl rfl (any_of HT_.out (by kernel_rfl)) (fun _ _ _ h => h) (Or.inl ⟨by rfl, ?_⟩) ?_ ?_; rotate_left
                  ·intro w'; go_simp; with_reducible rfl
                  rotate_left
                  ·simp only [Act.put, sA_, sB_, sC_, i64_w, i32_w]; rfl
                  refine pure_ (i := 11) (N := some 72) (v := ?_) (a' := ?_) mA31 rfl rfl (any_of HT_.out (by kernel_rfl)) (fun _ _ _ h => h) (Or.inl ⟨by rfl, ?_⟩) ?_ ?_; rotate_left
                  ·intro w'; go_simp; with_reducible rfl
                  rotate_left
                  ·simp only [Act.put, sA_, sB_, sC_, i64_w, i32_w]; rfl
                  refine pure_ (i := 12) (N := some 73) (v := ?_) (a' := ?_) mA32 rfl rfl (any_of HT_.out (by kernel_rfl)) (fun _ _ _ h => h) (Or.inl ⟨by rfl, ?_⟩) ?_ ?_; rotate_left
                  ·intro w'; go_simp; with_reducible rfl
                  rotate_left
                  ·simp only [Act.put, sA_, sB_, sC_, i64_w, i32_w]; rfl
                  refine pure_ (i := 13) (N := some 74) (v := ?_) (a' := ?_) mA33 rfl rfl (any_of HT_.out (by kernel_rfl)) (fun _ _ _ h => h) (Or.inl ⟨by rfl, ?_⟩) ?_ ?_; rotate_left
                  ·intro w'; go_simp; with_reducible rfl
                  rotate_left
                  ·simp only [Act.put, sA_, sB_, sC_, i64_w, i32_w]; rfl
                  refine take_ (i := 10) (N := some 71) (v := ?_) (a' := ?_) mA14 rfl rfl (take_ofW HT_.out HW_.out (by kernel_rfl)) (fun _ _ _ h => h) (Or.inl ⟨by rfl, ?_⟩) hHeld ?_ ?_; rotate_left
                  ·rintro w' ⟨s0, s1, s2, s3, s4, s5, s6, s7, s8, s9, s10, s11, s12, s13, s14⟩
                   go_simp; with_reducible rfl
                  rotate_left
                  ·simp only [Act.put, sA_, sB_, sC_, i64_w, i32_w]; rfl
                  refine take_ (i := 14) (N := some 75) (v := ?_) (a' := ?_) mA15 rfl rfl (take_ofW HT_.out HW_.out (by kernel_rfl)) (fun _ _ _ h => h) (Or.inl ⟨by rfl, ?_⟩) hHeld ?_ ?_; rotate_left
                  ·rintro w' ⟨s0, s1, s2, s3, s4, s5, s6, s7, s8, s9, s10, s11, s12, s13, s14⟩
                   go_simp; with_reducible rfl
                  rotate_left
                  ·simp only [Act.put, sA_, sB_, sC_, i64_w, i32_w]; rfl
                  refine pure_ (i := 15) (N := some 76) (v := ?_) (a' := ?_) mA16 rfl rfl (any_of HT_.out (by kernel_rfl)) (fun _ _ _ h => h) (Or.inl ⟨by rfl, ?_⟩) ?_ ?_; rotate_left
                  ·intro w'; go_simp; with_reducible rfl
                  rotate_left
                  ·simp only [Act.put, sA_, sB_, sC_, i64_w, i32_w]; rfl
                  refine pure_ (i := 16) (N := some 77) (v := ?_) (a' := ?_) mA17 rfl rfl (any_of HT_.out (by kernel_rfl)) (fun _ _ _ h => h) (Or.inl ⟨by rfl, ?_⟩) ?_ ?_; rotate_left
                  ·intro w'; go_simp; with_reducible rfl
                  rotate_left
                  ·simp only [Act.put, sA_, sB_, sC_, i64_w, i32_w]; rfl
                  refine pure_ (i := 17) (N := some 78) (v := ?_) (a' := ?_) mA18 rfl rfl (any_of HT_.out (by kernel_rfl)) (fun _ _ _ h => h) (Or.inl ⟨by rfl, ?_⟩) ?_ ?_; rotate_left
                  ·intro w'; go_simp; with_reducible rfl
                  rotate_left
                  ·simp only [Act.put, sA_, sB_, sC_, i64_w, i32_w]; rfl
                  refine pure_ (i := 18) (N := some 79) (v := ?_) (a' := ?_) mA19 rfl rfl (any_of HT_.out (by kernel_rfl)) (fun _ _ _ h => h) (Or.inl ⟨by rfl, ?_⟩) ?_ ?_; rotate_left
                  ·intro w'; go_simp; with_reducible rfl
                  rotate_left
                  ·simp only [Act.put, sA_, sB_, sC_, i64_w, i32_w]; rfl
                  refine pure_ (i := 20) (N := some 81) (v := ?_) (a' := ?_) mA34 rfl rfl (any_of HT_.out (by kernel_rfl)) (fun _ _ _ h => h) (Or.inl ⟨by rfl, ?_⟩) ?_ ?_; rotate_left
                  ·intro w'; go_simp; with_reducible rfl
                  rotate_left
                  ·simp only [Act.put, sA_, sB_, sC_, i64_w, i32_w]; rfl
                  refine pure_ (i := 21) (N := some 82) (v := ?_) (a' := ?_) mA35 rfl rfl (any_of HT_.out (by kernel_rfl)) (fun _ _ _ h => h) (Or.inl ⟨by rfl, ?_⟩) ?_ ?_; rotate_left
                  ·intro w'; go_simp; with_reducible rfl
                  rotate_left
                  ·simp only [Act.put, sA_, sB_, sC_, i64_w, i32_w]; rfl
                  refine pure_ (i := 22) (N := some 83) (v := ?_) (a' := ?_) mA36 rfl rfl (any_of HT_.out (by kernel_rfl)) (fun _ _ _ h => h) (Or.inl ⟨by rfl, ?_⟩) ?_ ?_; rotate_left
                  ·intro w'; go_simp; with_reducible rfl
                  rotate_left
                  ·simp only [Act.put, sA_, sB_, sC_, i64_w, i32_w]; rfl
                  refine pure_ (i := 23) (N := some 84) (v := ?_) (a' := ?_) mA37 rfl rfl (any_of HT_.out (by kernel_rfl)) (fun _ _ _ h => h) (Or.inl ⟨by rfl, ?_⟩) ?_ ?_; rotate_left
                  ·intro w'; go_simp; with_reducible rfl
                  rotate_left
                  ·simp only [Act.put, sA_, sB_, sC_, i64_w, i32_w]; rfl
                  refine pure_ (i := 25) (N := some 86) (v := ?_) (a' := ?_) mA38 rfl rfl (any_of HT_.out (by kernel_rfl)) (fun _ _ _ h => h) (Or.inl ⟨by rfl, ?_⟩) ?_ ?_; rotate_left
                  ·intro w'; go_simp; with_reducible rfl
                  rotate_left
                  ·simp only [Act.put, sA_, sB_, sC_, i64_w, i32_w]; rfl
                  refine take_ (i := 19) (N := some 80) (v := ?_) (a' := ?_) mA39 rfl rfl (take_ofW HT_.out HW_.out (by kernel_rfl)) (fun _ _ _ h => h) (Or.inl ⟨by rfl, ?_⟩) hHeld ?_ ?_; rotate_left
                  ·rintro w' ⟨s0, s1, s2, s3, s4, s5, s6, s7, s8, s9, s10, s11, s12, s13, s14⟩
                   go_simp; with_reducible rfl
                  rotate_left
                  ·simp only [Act.put, sA_, sB_, sC_, i64_w, i32_w]; rfl
                  refine take_ (i := 24) (N := some 85) (v := ?_) (a' := ?_) mA26 rfl rfl (take_ofW HT_.out HW_.out (by kernel_rfl)) (fun _ _ _ h => h) (Or.inl ⟨by rfl, ?_⟩) hHeld ?_ ?_; rotate_left
                  ·rintro w' ⟨s0, s1, s2, s3, s4, s5, s6, s7, s8, s9, s10, s11, s12, s13, s14⟩
                   go_simp; with_reducible rfl
                  rotate_left
                  ·simp only [Act.put, sA_, sB_, sC_, i64_w, i32_w]; rfl
                  refine take_ (i := 26) (N := some 87) (v := ?_) (a' := ?_) mA27 rfl rfl (take_ofW HT_.out HW_.out (by kernel_rfl)) (fun _ _ _ h => h) (Or.inl ⟨by rfl, ?_⟩) hHeld ?_ ?_; rotate_left
                  ·rintro w' ⟨s0, s1, s2, s3, s4, s5, s6, s7, s8, s9, s10, s11, s12, s13, s14⟩
                   go_simp; with_reducible rfl
                  rotate_left
                  ·simp only [Act.put, sA_, sB_, sC_, i64_w, i32_w]; rfl
                  refine one_ (i := 27) (N := some 88) mA28 rfl rfl (one_of HT_.out (by kernel_rfl)) (by decide) (fun K hK => ?_); refine goes_ Tryd.func35 (by kernel_rfl) rfl #[.int .i64 ((rd_T49 l0 x7_2).f4), .int .i64 ((rd_T49 l0 x5_1).f1)] (by rfl) rfl rfl (by (try simp only [List.map_toArray, List.map_cons, List.map_nil]); first | done | rfl | (simp only [List.length_drop, List.length_take]; rfl)) ?_
                  with_reducible refine (serial_Ped.calls ((rd_T49 l0 x7_2).f4) ((rd_T49 l0 x5_1).f1) t139 _ A77.out).mono ?_
                  rintro e w' ⟨rfl, ⟨nd, rfl⟩⟩
                  refine ⟨_, rfl, ?_⟩; refine hK.out _ _ ⟨(blk_cell BK127.out 0).trans rfl, (blk_cell BK127.out 1).trans rfl, (blk_cell BK127.out 2).trans rfl, (blk_cell BK127.out 3).trans rfl, (blk_cell BK127.out 4).trans rfl, (blk_cell BK127.out 5).trans rfl, (blk_cell BK127.out 6).trans rfl, hHeld.2.2.2.2.2.2.2.1, ((HB.out.cell (World.block_lt_of_cell? w _ hw138_0)).trans hw138_0), ((HB.out.cell (World.block_lt_of_cell? w _ hw138_1)).trans hw138_1), ((HB.out.cell (World.block_lt_of_cell? w _ hw138_2)).trans hw138_2), ((HB.out.cell (World.block_lt_of_cell? w _ hw138_3)).trans hw138_3), ((HB.out.cell (World.block_lt_of_cell? w _ hw138_4)).trans hw138_4), ((HB.out.cell (World.block_lt_of_cell? w _ hw138_5)).trans hw138_5), ((HB.out.cell (World.block_lt_of_cell? w _ hw138_6)).trans hw138_6)⟩ (fun hHeld => ?_); clear hK K; refine norm_ (a' := ?_) ?_ ?_; rotate_left
                  ·show Act.put _ (some 88) _ = _
                   simp only [Act.put, sA_, sB_, sC_, i64_w, i32_w]; rfl
                  refine pure_ (i := 28) (N := some 89) (v := ?_) (a' := ?_) mA29 rfl rfl (any_of HT_.out (by kernel_rfl)) (fun _ _ _ h => h) (Or.inl ⟨by rfl, ?_⟩) ?_ ?_; rotate_left
                  ·intro w'; go_simp; with_reducible rfl
                  rotate_left
                  ·simp only [Act.put, sA_, sB_, sC_, i64_w, i32_w]; rfl
                  refine pure_ (i := 29) (N := some 90) (v := ?_) (a' := ?_) mA30 rfl rfl (any_of HT_.out (by kernel_rfl)) (fun _ _ _ h => h) (Or.inl ⟨by rfl, ?_⟩) ?_ ?_; rotate_left
                  ·intro w'; go_simp; with_reducible rfl
                  rotate_left
                  ·simp only [Act.put, sA_, sB_, sC_, i64_w, i32_w]; rfl
                  refine done_ (done_of HT_.out (by kernel_rfl)) ?_
                  try go_wp2
                  go_ret
                  exact ⟨_, by first | rfl | (simp [errW_none, errW_some] <;> rfl) | (simp [*, errW_none, errW_some] <;> rfl), by first | exact Kd.R_nil _ _ _ _ _ | exact Kd.N_nil _ _ _ _ _ | exact Kd.V_nil _ _ _ _ _ | exact Kd.Q_nil _ _ _ _ _ | exact Kd.S_nil _ _ _ _ _, by repeat (first | (with_reducible first | exact HB.out | apply below_alloc | apply pw_below_drewN | apply below_drew1 | refine below_set ?_ GE127.out) | exact HB.out)⟩
                ·rw [if_neg c76] at H; exact absurd H (by simp)
               ·rw [if_neg c75] at H
                have c75b0 : (((rd_T49 l0 x5_1).f1) == (rd x3_1 x7_2)) = false := beq_eq_false_iff_ne.mpr c75
                have c75b1 : (((rd_T49 l0 x5_1).f1) != (rd x3_1 x7_2)) = true := bne_iff_ne.mpr c75
                obtain rfl := Option.some.inj H
                have hcz95_0 : wr.cell? ⟨gb127, 0, none⟩ = some (.int .i64 ((rd_T49 l0 x5_1).f0)) := (blk_cell BK127.out 0).trans rfl
                have hcz95_1 : wr.cell? ⟨gb127, 1, none⟩ = some (.int .i64 ((rd_T49 l0 x5_1).f1)) := (blk_cell BK127.out 1).trans rfl
                have hcz95_2 : wr.cell? ⟨gb127, 2, none⟩ = some (.int .i64 ((rd_T49 l0 x5_1).f2)) := (blk_cell BK127.out 2).trans rfl
                have hcz95_3 : wr.cell? ⟨gb127, 3, none⟩ = some (.int .i64 ((rd_T49 l0 x5_1).f3)) := (blk_cell BK127.out 3).trans rfl
                have hcz95_4 : wr.cell? ⟨gb127, 4, none⟩ = some (.int .i64 ((rd_T49 l0 x5_1).f4)) := (blk_cell BK127.out 4).trans rfl
                have hcz95_5 : wr.cell? ⟨gb127, 5, none⟩ = some (.int .i64 ((rd_T49 l0 x5_1).f5)) := (blk_cell BK127.out 5).trans rfl
                have hcz95_6 : wr.cell? ⟨gb127, 6, none⟩ = some (.int .i64 ((rd_T49 l0 x5_1).f6)) := (blk_cell BK127.out 6).trans rfl
                have hfz95_0 := blk_frozen BK127.out 0
                have hfz95_1 := blk_frozen BK127.out 1
                have hfz95_2 := blk_frozen BK127.out 2
                have hfz95_3 := blk_frozen BK127.out 3
                have hfz95_4 := blk_frozen BK127.out 4
                have hfz95_5 := blk_frozen BK127.out 5
                have hfz95_6 := blk_frozen BK127.out 6
                try go_wp2
                have n0_ := Aside0.mk (Kd.R_drew HO_3.out)
                have n1_ := Aside0.mk (Kd.R_drew HO_4.out)
                have n2_ := Aside0.mk (blk_drew BK127.out)
                have n3_ := Aside0.mk (below_drew1 HB.out)
                clear HO_3; clear HO_4; clear BK127; clear HB
                have HO_3 := n0_
                have HO_4 := n1_
                have BK127 := n2_
                have HB := n3_
                clear n0_ n1_ n2_ n3_
                obtain ⟨Ao97, co97, eo97⟩ := Kd.R_slice HO_3.out
                (first | subst eo97 | (injection eo97 with f1_ f2_ f3_; have f4_ := f1_.symm; have f5_ := f3_.symm; clear f1_ f2_ f3_; subst f4_; subst f5_))
                have p137 : 0 ≤ (x7_2 : Int) := of_decide_eq_true (by first | (with_reducible assumption) | assumption)
                have q137 : x7_2 < (x3_1.length : Int) := of_decide_eq_true (by first | (with_reducible assumption) | assumption)
                obtain ⟨ad137, e137, hx137_0⟩ := Kd.at_int (Kd.R_reads' HO_3.out).2.2 x7_2 p137 q137
                cases e137
                replace p137 := eq_true p137
                replace q137 := eq_true q137
                refine start_ (n := 30) (S := fun w' => w'.cell? ⟨gb127, 0, none⟩ = some (.int .i64 ((rd_T49 l0 x5_1).f0)) ∧ w'.cell? ⟨gb127, 1, none⟩ = some (.int .i64 ((rd_T49 l0 x5_1).f1)) ∧ w'.cell? ⟨gb127, 2, none⟩ = some (.int .i64 ((rd_T49 l0 x5_1).f2)) ∧ w'.cell? ⟨gb127, 3, none⟩ = some (.int .i64 ((rd_T49 l0 x5_1).f3)) ∧ w'.cell? ⟨gb127, 4, none⟩ = some (.int .i64 ((rd_T49 l0 x5_1).f4)) ∧ w'.cell? ⟨gb127, 5, none⟩ = some (.int .i64 ((rd_T49 l0 x5_1).f5)) ∧ w'.cell? ⟨gb127, 6, none⟩ = some (.int .i64 ((rd_T49 l0 x5_1).f6)) ∧ w'.cell? (ad137.add (x7_2).toNat) = some (.int .i64 (rd x3_1 x7_2))) (ds := []) mA0 (by kernel_rfl) rfl rfl ⟨(blk_cell BK127.out 0).trans rfl, (blk_cell BK127.out 1).trans rfl, (blk_cell BK127.out 2).trans rfl, (blk_cell BK127.out 3).trans rfl, (blk_cell BK127.out 4).trans rfl, (blk_cell BK127.out 5).trans rfl, (blk_cell BK127.out 6).trans rfl, hx137_0⟩ (fun hHeld => ?_); refine with_tabW plunderlaw6_shaped.tab14 plunderlaw6_shaped.bits14 (fun HT_ HW_ => ?_)
                generalize wr.drew = w96 at HO_3 HO_4 BK127 HB hx137_0 hHeld ⊢
                refine pure_ (i := 0) (N := some 61) (v := ?_) (a' := ?_) mA1 rfl rfl (any_of HT_.out (by kernel_rfl)) (fun _ _ _ h => h) (Or.inl ⟨by rfl, ?_⟩) ?_ ?_; rotate_left
                ·intro w'; go_simp; with_reducible rfl
                rotate_left
                ·simp only [Act.put, sA_, sB_, sC_, i64_w, i32_w]; rfl
                refine pure_ (i := 1) (N := some 62) (v := ?_) (a' := ?_) mA2 rfl rfl (any_of HT_.out (by kernel_rfl)) (fun _ _ _ h => h) (Or.inl ⟨by rfl, ?_⟩) ?_ ?_; rotate_left
                ·intro w'; go_simp; with_reducible rfl
                rotate_left
                ·simp only [Act.put, sA_, sB_, sC_, i64_w, i32_w]; rfl
                refine pure_ (i := 2) (N := some 63) (v := ?_) (a' := ?_) mA3 rfl rfl (any_of HT_.out (by kernel_rfl)) (fun _ _ _ h => h) (Or.inl ⟨by rfl, ?_⟩) ?_ ?_; rotate_left
                ·intro w'; go_simp; with_reducible rfl
                rotate_left
                ·simp only [Act.put, sA_, sB_, sC_, i64_w, i32_w]; rfl
                refine pure_ (i := 3) (N := some 64) (v := ?_) (a' := ?_) mA4 rfl rfl (any_of HT_.out (by kernel_rfl)) (fun _ _ _ h => h) (Or.inl ⟨by rfl, ?_⟩) ?_ ?_; rotate_left
                ·intro w'; go_simp; with_reducible rfl
                rotate_left
                ·simp only [Act.put, sA_, sB_, sC_, i64_w, i32_w]; rfl
                refine pure_ (i := 4) (N := some 65) (v := ?_) (a' := ?_) mA5 rfl rfl (any_of HT_.out (by kernel_rfl)) (fun _ _ _ h => h) (Or.inl ⟨by rfl, ?_⟩) ?_ ?_; rotate_left
                ·intro w'; go_simp; with_reducible rfl
                rotate_left
                ·simp only [Act.put, sA_, sB_, sC_, i64_w, i32_w]; rfl
                refine take_ (i := 5) (N := some 66) (v := ?_) (a' := ?_) mA6 rfl rfl (take_ofW HT_.out HW_.out (by kernel_rfl)) (fun _ _ _ h => h) (Or.inl ⟨by rfl, ?_⟩) hHeld ?_ ?_; rotate_left
                ·rintro w' ⟨s0, s1, s2, s3, s4, s5, s6, s7⟩
                 go_simp; with_reducible rfl
                rotate_left
                ·simp only [Act.put, sA_, sB_, sC_, i64_w, i32_w]; rfl
                refine pure_ (i := 6) (N := some 67) (v := ?_) (a' := ?_) mA7 rfl rfl (any_of HT_.out (by kernel_rfl)) (fun _ _ _ h => h) (Or.inl ⟨by rfl, ?_⟩) ?_ ?_; rotate_left
                ·intro w'; go_simp; with_reducible rfl
                rotate_left
                ·simp only [Act.put, sA_, sB_, sC_, i64_w, i32_w]; rfl
                refine pure_ (i := 7) (N := some 68) (v := ?_) (a' := ?_) mA8 rfl rfl (any_of HT_.out (by kernel_rfl)) (fun _ _ _ h => h) (Or.inl ⟨by rfl, ?_⟩) ?_ ?_; rotate_left
                ·intro w'; go_simp; with_reducible rfl
                rotate_left
                ·simp only [Act.put, sA_, sB_, sC_, i64_w, i32_w]; rfl
                refine pure_ (i := 8) (N := some 69) (v := ?_) (a' := ?_) mA9 rfl rfl (any_of HT_.out (by kernel_rfl)) (fun _ _ _ h => h) (Or.inl ⟨by rfl, ?_⟩) ?_ ?_; rotate_left
                ·intro w'; go_simp; with_reducible rfl
                rotate_left
                ·simp only [Act.put, sA_, sB_, sC_, i64_w, i32_w]; rfl
                refine pure_ (i := 9) (N := some 70) (v := ?_) (a' := ?_) mA10 rfl rfl (any_of HT_.out (by kernel_rfl)) (fun _ _ _ h => h) (Or.inl ⟨by rfl, ?_⟩) ?_ ?_; rotate_left
                ·intro w'; go_simp; with_reducible rfl
                rotate_left
                ·simp only [Act.put, sA_, sB_, sC_, i64_w, i32_w]; rfl
                refine pure_ (i := 11) (N := some 72) (v := ?_) (a' := ?_) mA31 rfl rfl (any_of HT_.out (by kernel_rfl)) (fun _ _ _ h => h) (Or.inl ⟨by rfl, ?_⟩) ?_ ?_; rotate_left
                ·intro w'; go_simp; with_reducible rfl
                rotate_left
                ·simp only [Act.put, sA_, sB_, sC_, i64_w, i32_w]; rfl
                refine pure_ (i := 12) (N := some 73) (v := ?_) (a' := ?_) mA32 rfl rfl (any_of HT_.out (by kernel_rfl)) (fun _ _ _ h => h) (Or.inl ⟨by rfl, ?_⟩) ?_ ?_; rotate_left
                ·intro w'; go_simp; with_reducible rfl
                rotate_left
                ·simp only [Act.put, sA_, sB_, sC_, i64_w, i32_w]; rfl
                refine pure_ (i := 13) (N := some 74) (v := ?_) (a' := ?_) mA33 rfl rfl (any_of HT_.out (by kernel_rfl)) (fun _ _ _ h => h) (Or.inl ⟨by rfl, ?_⟩) ?_ ?_; rotate_left
                ·intro w'; go_simp; with_reducible rfl
                rotate_left
                ·simp only [Act.put, sA_, sB_, sC_, i64_w, i32_w]; rfl
                refine take_ (i := 10) (N := some 71) (v := ?_) (a' := ?_) mA14 rfl rfl (take_ofW HT_.out HW_.out (by kernel_rfl)) (fun _ _ _ h => h) (Or.inl ⟨by rfl, ?_⟩) hHeld ?_ ?_; rotate_left
                ·rintro w' ⟨s0, s1, s2, s3, s4, s5, s6, s7⟩
                 go_simp; with_reducible rfl
                rotate_left
                ·simp only [Act.put, sA_, sB_, sC_, i64_w, i32_w]; rfl
                refine take_ (i := 14) (N := some 75) (v := ?_) (a' := ?_) mA15 rfl rfl (take_ofW HT_.out HW_.out (by kernel_rfl)) (fun _ _ _ h => h) (Or.inl ⟨by rfl, ?_⟩) hHeld ?_ ?_; rotate_left
                ·rintro w' ⟨s0, s1, s2, s3, s4, s5, s6, s7⟩
                 go_simp; with_reducible rfl
                rotate_left
                ·simp only [Act.put, sA_, sB_, sC_, i64_w, i32_w]; rfl
                refine pure_ (i := 15) (N := some 76) (v := ?_) (a' := ?_) mA16 rfl rfl (any_of HT_.out (by kernel_rfl)) (fun _ _ _ h => h) (Or.inl ⟨by rfl, ?_⟩) ?_ ?_; rotate_left
                ·intro w'; go_simp; with_reducible rfl
                rotate_left
                ·simp only [Act.put, sA_, sB_, sC_, i64_w, i32_w]; rfl
                refine pure_ (i := 16) (N := some 77) (v := ?_) (a' := ?_) mA17 rfl rfl (any_of HT_.out (by kernel_rfl)) (fun _ _ _ h => h) (Or.inl ⟨by rfl, ?_⟩) ?_ ?_; rotate_left
                ·intro w'; go_simp; with_reducible rfl
                rotate_left
                ·simp only [Act.put, sA_, sB_, sC_, i64_w, i32_w]; rfl
                refine pure_ (i := 17) (N := some 78) (v := ?_) (a' := ?_) mA18 rfl rfl (any_of HT_.out (by kernel_rfl)) (fun _ _ _ h => h) (Or.inl ⟨by rfl, ?_⟩) ?_ ?_; rotate_left
                ·intro w'; go_simp; with_reducible rfl
                rotate_left
                ·simp only [Act.put, sA_, sB_, sC_, i64_w, i32_w]; rfl
                refine pure_ (i := 18) (N := some 79) (v := undef) (a' := ?_) mA19 rfl rfl (any_of HT_.out (by kernel_rfl)) (fun _ _ _ h => h) (Or.inr ⟨by rfl, rfl⟩) ?_ ?_; rotate_left
                ·simp only [Act.put, sA_, sB_, sC_, i64_w, i32_w]; rfl
                refine pure_ (i := 19) (N := some 80) (v := undef) (a' := ?_) mA20 rfl rfl (any_of HT_.out (by kernel_rfl)) (fun _ _ _ h => h) (Or.inr ⟨by rfl, rfl⟩) ?_ ?_; rotate_left
                ·simp only [Act.put, sA_, sB_, sC_, i64_w, i32_w]; rfl
                refine pure_ (i := 20) (N := some 81) (v := undef) (a' := ?_) mA21 rfl rfl (any_of HT_.out (by kernel_rfl)) (fun _ _ _ h => h) (Or.inr ⟨by rfl, rfl⟩) ?_ ?_; rotate_left
                ·simp only [Act.put, sA_, sB_, sC_, i64_w, i32_w]; rfl
                refine pure_ (i := 21) (N := some 82) (v := undef) (a' := ?_) mA22 rfl rfl (any_of HT_.out (by kernel_rfl)) (fun _ _ _ h => h) (Or.inr ⟨by rfl, rfl⟩) ?_ ?_; rotate_left
                ·simp only [Act.put, sA_, sB_, sC_, i64_w, i32_w]; rfl
                refine pure_ (i := 22) (N := some 83) (v := undef) (a' := ?_) mA23 rfl rfl (any_of HT_.out (by kernel_rfl)) (fun _ _ _ h => h) (Or.inr ⟨by rfl, rfl⟩) ?_ ?_; rotate_left
                ·simp only [Act.put, sA_, sB_, sC_, i64_w, i32_w]; rfl
                refine pure_ (i := 23) (N := some 84) (v := undef) (a' := ?_) mA24 rfl rfl (any_of HT_.out (by kernel_rfl)) (fun _ _ _ h => h) (Or.inr ⟨by rfl, rfl⟩) ?_ ?_; rotate_left
                ·simp only [Act.put, sA_, sB_, sC_, i64_w, i32_w]; rfl
                refine pure_ (i := 24) (N := some 85) (v := undef) (a' := ?_) mA25 rfl rfl (any_of HT_.out (by kernel_rfl)) (fun _ _ _ h => h) (Or.inr ⟨by rfl, rfl⟩) ?_ ?_; rotate_left
                ·simp only [Act.put, sA_, sB_, sC_, i64_w, i32_w]; rfl
                refine pure_ (i := 25) (N := some 86) (v := undef) (a' := ?_) mA26 rfl rfl (any_of HT_.out (by kernel_rfl)) (fun _ _ _ h => h) (Or.inr ⟨by rfl, rfl⟩) ?_ ?_; rotate_left
                ·simp only [Act.put, sA_, sB_, sC_, i64_w, i32_w]; rfl
                refine pure_ (i := 26) (N := some 87) (v := undef) (a' := ?_) mA27 rfl rfl (any_of HT_.out (by kernel_rfl)) (fun _ _ _ h => h) (Or.inr ⟨by rfl, rfl⟩) ?_ ?_; rotate_left
                ·simp only [Act.put, sA_, sB_, sC_, i64_w, i32_w]; rfl
                refine pure_ (i := 27) (N := some 88) (v := undef) (a' := ?_) mA28 rfl rfl (any_of HT_.out (by kernel_rfl)) (fun _ _ _ h => h) (Or.inr ⟨by rfl, rfl⟩) ?_ ?_; rotate_left
                ·simp only [Act.put, sA_, sB_, sC_, i64_w, i32_w]; rfl
                refine pure_ (i := 28) (N := some 89) (v := undef) (a' := ?_) mA29 rfl rfl (any_of HT_.out (by kernel_rfl)) (fun _ _ _ h => h) (Or.inr ⟨by rfl, rfl⟩) ?_ ?_; rotate_left
                ·simp only [Act.put, sA_, sB_, sC_, i64_w, i32_w]; rfl
                refine pure_ (i := 29) (N := some 90) (v := ?_) (a' := ?_) mA30 rfl rfl (any_of HT_.out (by kernel_rfl)) (fun _ _ _ h => h) (Or.inl ⟨by rfl, ?_⟩) ?_ ?_; rotate_left
                ·intro w'; go_simp; with_reducible rfl
                rotate_left
                ·simp only [Act.put, sA_, sB_, sC_, i64_w, i32_w]; rfl
                refine done_ (done_of HT_.out (by kernel_rfl)) ?_
                try go_wp2
                go_ret
                exact ⟨_, by first | rfl | (simp [errW_none, errW_some] <;> rfl) | (simp [*, errW_none, errW_some] <;> rfl), by first | exact Kd.R_nil _ _ _ _ _ | exact Kd.N_nil _ _ _ _ _ | exact Kd.V_nil _ _ _ _ _ | exact Kd.Q_nil _ _ _ _ _ | exact Kd.S_nil _ _ _ _ _, by repeat (first | (with_reducible first | exact HB.out | apply below_alloc | apply pw_below_drewN | apply below_drew1 | refine below_set ?_ GE127.out) | exact HB.out)⟩
              ·rw [if_neg c74] at H; exact absurd H (by simp)
             ·rw [if_neg c73] at H; exact absurd H (by simp)
            ·rw [if_neg c72] at H
             have c72b0 : (x7_2 == ((rd_T49 l0 x5_1).f0)) = false := beq_eq_false_iff_ne.mpr c72
             have c72b1 : (x7_2 != ((rd_T49 l0 x5_1).f0)) = true := bne_iff_ne.mpr c72
             obtain rfl := Option.some.inj H
             have hcz98_0 : wr.cell? ⟨gb127, 0, none⟩ = some (.int .i64 ((rd_T49 l0 x5_1).f0)) := (blk_cell BK127.out 0).trans rfl
             have hcz98_1 : wr.cell? ⟨gb127, 1, none⟩ = some (.int .i64 ((rd_T49 l0 x5_1).f1)) := (blk_cell BK127.out 1).trans rfl
             have hcz98_2 : wr.cell? ⟨gb127, 2, none⟩ = some (.int .i64 ((rd_T49 l0 x5_1).f2)) := (blk_cell BK127.out 2).trans rfl
             have hcz98_3 : wr.cell? ⟨gb127, 3, none⟩ = some (.int .i64 ((rd_T49 l0 x5_1).f3)) := (blk_cell BK127.out 3).trans rfl
             have hcz98_4 : wr.cell? ⟨gb127, 4, none⟩ = some (.int .i64 ((rd_T49 l0 x5_1).f4)) := (blk_cell BK127.out 4).trans rfl
             have hcz98_5 : wr.cell? ⟨gb127, 5, none⟩ = some (.int .i64 ((rd_T49 l0 x5_1).f5)) := (blk_cell BK127.out 5).trans rfl
             have hcz98_6 : wr.cell? ⟨gb127, 6, none⟩ = some (.int .i64 ((rd_T49 l0 x5_1).f6)) := (blk_cell BK127.out 6).trans rfl
             have hfz98_0 := blk_frozen BK127.out 0
             have hfz98_1 := blk_frozen BK127.out 1
             have hfz98_2 := blk_frozen BK127.out 2
             have hfz98_3 := blk_frozen BK127.out 3
             have hfz98_4 := blk_frozen BK127.out 4
             have hfz98_5 := blk_frozen BK127.out 5
             have hfz98_6 := blk_frozen BK127.out 6
             try go_wp2
             have n0_ := Aside0.mk (Kd.R_drew HO_3.out)
             have n1_ := Aside0.mk (Kd.R_drew HO_4.out)
             have n2_ := Aside0.mk (blk_drew BK127.out)
             have n3_ := Aside0.mk (below_drew1 HB.out)
             clear HO_3; clear HO_4; clear BK127; clear HB
             have HO_3 := n0_
             have HO_4 := n1_
             have BK127 := n2_
             have HB := n3_
             clear n0_ n1_ n2_ n3_; refine start_ (n := 30) (S := fun w' => w'.cell? ⟨gb127, 0, none⟩ = some (.int .i64 ((rd_T49 l0 x5_1).f0)) ∧ w'.cell? ⟨gb127, 1, none⟩ = some (.int .i64 ((rd_T49 l0 x5_1).f1)) ∧ w'.cell? ⟨gb127, 2, none⟩ = some (.int .i64 ((rd_T49 l0 x5_1).f2)) ∧ w'.cell? ⟨gb127, 3, none⟩ = some (.int .i64 ((rd_T49 l0 x5_1).f3)) ∧ w'.cell? ⟨gb127, 4, none⟩ = some (.int .i64 ((rd_T49 l0 x5_1).f4)) ∧ w'.cell? ⟨gb127, 5, none⟩ = some (.int .i64 ((rd_T49 l0 x5_1).f5)) ∧ w'.cell? ⟨gb127, 6, none⟩ = some (.int .i64 ((rd_T49 l0 x5_1).f6))) (ds := []) mA0 (by kernel_rfl) rfl rfl ⟨(blk_cell BK127.out 0).trans rfl, (blk_cell BK127.out 1).trans rfl, (blk_cell BK127.out 2).trans rfl, (blk_cell BK127.out 3).trans rfl, (blk_cell BK127.out 4).trans rfl, (blk_cell BK127.out 5).trans rfl, (blk_cell BK127.out 6).trans rfl⟩ (fun hHeld => ?_); refine with_tabW plunderlaw6_shaped.tab14 plunderlaw6_shaped.bits14 (fun HT_ HW_ => ?_)
             generalize wr.drew = w99 at HO_3 HO_4 BK127 HB hHeld ⊢
             refine pure_ (i := 0) (N := some 61) (v := ?_) (a' := ?_) mA1 rfl rfl (any_of HT_.out (by kernel_rfl)) (fun _ _ _ h => h) (Or.inl ⟨by rfl, ?_⟩) ?_ ?_; rotate_left
             ·intro w'; go_simp; with_reducible rfl
             rotate_left
             ·simp only [Act.put, sA_, sB_, sC_, i64_w, i32_w]; rfl
             refine pure_ (i := 1) (N := some 62) (v := ?_) (a' := ?_) mA2 rfl rfl (any_of HT_.out (by kernel_rfl)) (fun _ _ _ h => h) (Or.inl ⟨by rfl, ?_⟩) ?_ ?_; rotate_left
             ·intro w'; go_simp; with_reducible rfl
             rotate_left
             ·simp only [Act.put, sA_, sB_, sC_, i64_w, i32_w]; rfl
             refine pure_ (i := 2) (N := some 63) (v := ?_) (a' := ?_) mA3 rfl rfl (any_of HT_.out (by kernel_rfl)) (fun _ _ _ h => h) (Or.inl ⟨by rfl, ?_⟩) ?_ ?_; rotate_left
             ·intro w'; go_simp; with_reducible rfl
             rotate_left
             ·simp only [Act.put, sA_, sB_, sC_, i64_w, i32_w]; rfl
             refine pure_ (i := 3) (N := some 64) (v := ?_) (a' := ?_) mA4 rfl rfl (any_of HT_.out (by kernel_rfl)) (fun _ _ _ h => h) (Or.inl ⟨by rfl, ?_⟩) ?_ ?_; rotate_left
             ·intro w'; go_simp; with_reducible rfl
             rotate_left
             ·simp only [Act.put, sA_, sB_, sC_, i64_w, i32_w]; rfl
             refine pure_ (i := 4) (N := some 65) (v := ?_) (a' := ?_) mA5 rfl rfl (any_of HT_.out (by kernel_rfl)) (fun _ _ _ h => h) (Or.inl ⟨by rfl, ?_⟩) ?_ ?_; rotate_left
             ·intro w'; go_simp; with_reducible rfl
             rotate_left
             ·simp only [Act.put, sA_, sB_, sC_, i64_w, i32_w]; rfl
             refine take_ (i := 5) (N := some 66) (v := ?_) (a' := ?_) mA6 rfl rfl (take_ofW HT_.out HW_.out (by kernel_rfl)) (fun _ _ _ h => h) (Or.inl ⟨by rfl, ?_⟩) hHeld ?_ ?_; rotate_left
             ·rintro w' ⟨s0, s1, s2, s3, s4, s5, s6⟩
              go_simp; with_reducible rfl
             rotate_left
             ·simp only [Act.put, sA_, sB_, sC_, i64_w, i32_w]; rfl
             refine pure_ (i := 6) (N := some 67) (v := ?_) (a' := ?_) mA7 rfl rfl (any_of HT_.out (by kernel_rfl)) (fun _ _ _ h => h) (Or.inl ⟨by rfl, ?_⟩) ?_ ?_; rotate_left
             ·intro w'; go_simp; with_reducible rfl
             rotate_left
             ·simp only [Act.put, sA_, sB_, sC_, i64_w, i32_w]; rfl
             refine pure_ (i := 7) (N := some 68) (v := ?_) (a' := ?_) mA8 rfl rfl (any_of HT_.out (by kernel_rfl)) (fun _ _ _ h => h) (Or.inl ⟨by rfl, ?_⟩) ?_ ?_; rotate_left
             ·intro w'; go_simp; with_reducible rfl
             rotate_left
             ·simp only [Act.put, sA_, sB_, sC_, i64_w, i32_w]; rfl
             refine pure_ (i := 8) (N := some 69) (v := ?_) (a' := ?_) mA9 rfl rfl (any_of HT_.out (by kernel_rfl)) (fun _ _ _ h => h) (Or.inl ⟨by rfl, ?_⟩) ?_ ?_; rotate_left
             ·intro w'; go_simp; with_reducible rfl
             rotate_left
             ·simp only [Act.put, sA_, sB_, sC_, i64_w, i32_w]; rfl
             refine pure_ (i := 9) (N := some 70) (v := undef) (a' := ?_) mA10 rfl rfl (any_of HT_.out (by kernel_rfl)) (fun _ _ _ h => h) (Or.inr ⟨by rfl, rfl⟩) ?_ ?_; rotate_left
             ·simp only [Act.put, sA_, sB_, sC_, i64_w, i32_w]; rfl
             refine pure_ (i := 10) (N := some 71) (v := undef) (a' := ?_) mA11 rfl rfl (any_of HT_.out (by kernel_rfl)) (fun _ _ _ h => h) (Or.inr ⟨by rfl, rfl⟩) ?_ ?_; rotate_left
             ·simp only [Act.put, sA_, sB_, sC_, i64_w, i32_w]; rfl
             refine pure_ (i := 11) (N := some 72) (v := undef) (a' := ?_) mA12 rfl rfl (any_of HT_.out (by kernel_rfl)) (fun _ _ _ h => h) (Or.inr ⟨by rfl, rfl⟩) ?_ ?_; rotate_left
             ·simp only [Act.put, sA_, sB_, sC_, i64_w, i32_w]; rfl
             refine pure_ (i := 12) (N := some 73) (v := undef) (a' := ?_) mA13 rfl rfl (any_of HT_.out (by kernel_rfl)) (fun _ _ _ h => h) (Or.inr ⟨by rfl, rfl⟩) ?_ ?_; rotate_left
             ·simp only [Act.put, sA_, sB_, sC_, i64_w, i32_w]; rfl
             refine pure_ (i := 13) (N := some 74) (v := undef) (a' := ?_) mA14 rfl rfl (any_of HT_.out (by kernel_rfl)) (fun _ _ _ h => h) (Or.inr ⟨by rfl, rfl⟩) ?_ ?_; rotate_left
             ·simp only [Act.put, sA_, sB_, sC_, i64_w, i32_w]; rfl
             refine pure_ (i := 14) (N := some 75) (v := undef) (a' := ?_) mA15 rfl rfl (any_of HT_.out (by kernel_rfl)) (fun _ _ _ h => h) (Or.inr ⟨by rfl, rfl⟩) ?_ ?_; rotate_left
             ·simp only [Act.put, sA_, sB_, sC_, i64_w, i32_w]; rfl
             refine pure_ (i := 15) (N := some 76) (v := undef) (a' := ?_) mA16 rfl rfl (any_of HT_.out (by kernel_rfl)) (fun _ _ _ h => h) (Or.inr ⟨by rfl, rfl⟩) ?_ ?_; rotate_left
             ·simp only [Act.put, sA_, sB_, sC_, i64_w, i32_w]; rfl
             refine pure_ (i := 16) (N := some 77) (v := ?_) (a' := ?_) mA17 rfl rfl (any_of HT_.out (by kernel_rfl)) (fun _ _ _ h => h) (Or.inl ⟨by rfl, ?_⟩) ?_ ?_; rotate_left
             ·intro w'; go_simp; with_reducible rfl
             rotate_left
             ·simp only [Act.put, sA_, sB_, sC_, i64_w, i32_w]; rfl
             refine pure_ (i := 17) (N := some 78) (v := ?_) (a' := ?_) mA18 rfl rfl (any_of HT_.out (by kernel_rfl)) (fun _ _ _ h => h) (Or.inl ⟨by rfl, ?_⟩) ?_ ?_; rotate_left
             ·intro w'; go_simp; with_reducible rfl
             rotate_left
             ·simp only [Act.put, sA_, sB_, sC_, i64_w, i32_w]; rfl
             refine pure_ (i := 18) (N := some 79) (v := undef) (a' := ?_) mA19 rfl rfl (any_of HT_.out (by kernel_rfl)) (fun _ _ _ h => h) (Or.inr ⟨by rfl, rfl⟩) ?_ ?_; rotate_left
             ·simp only [Act.put, sA_, sB_, sC_, i64_w, i32_w]; rfl
             refine pure_ (i := 19) (N := some 80) (v := undef) (a' := ?_) mA20 rfl rfl (any_of HT_.out (by kernel_rfl)) (fun _ _ _ h => h) (Or.inr ⟨by rfl, rfl⟩) ?_ ?_; rotate_left
             ·simp only [Act.put, sA_, sB_, sC_, i64_w, i32_w]; rfl
             refine pure_ (i := 20) (N := some 81) (v := undef) (a' := ?_) mA21 rfl rfl (any_of HT_.out (by kernel_rfl)) (fun _ _ _ h => h) (Or.inr ⟨by rfl, rfl⟩) ?_ ?_; rotate_left
             ·simp only [Act.put, sA_, sB_, sC_, i64_w, i32_w]; rfl
             refine pure_ (i := 21) (N := some 82) (v := undef) (a' := ?_) mA22 rfl rfl (any_of HT_.out (by kernel_rfl)) (fun _ _ _ h => h) (Or.inr ⟨by rfl, rfl⟩) ?_ ?_; rotate_left
             ·simp only [Act.put, sA_, sB_, sC_, i64_w, i32_w]; rfl
             refine pure_ (i := 22) (N := some 83) (v := undef) (a' := ?_) mA23 rfl rfl (any_of HT_.out (by kernel_rfl)) (fun _ _ _ h => h) (Or.inr ⟨by rfl, rfl⟩) ?_ ?_; rotate_left
             ·simp only [Act.put, sA_, sB_, sC_, i64_w, i32_w]; rfl
             refine pure_ (i := 23) (N := some 84) (v := undef) (a' := ?_) mA24 rfl rfl (any_of HT_.out (by kernel_rfl)) (fun _ _ _ h => h) (Or.inr ⟨by rfl, rfl⟩) ?_ ?_; rotate_left
             ·simp only [Act.put, sA_, sB_, sC_, i64_w, i32_w]; rfl
             refine pure_ (i := 24) (N := some 85) (v := undef) (a' := ?_) mA25 rfl rfl (any_of HT_.out (by kernel_rfl)) (fun _ _ _ h => h) (Or.inr ⟨by rfl, rfl⟩) ?_ ?_; rotate_left
             ·simp only [Act.put, sA_, sB_, sC_, i64_w, i32_w]; rfl
             refine pure_ (i := 25) (N := some 86) (v := undef) (a' := ?_) mA26 rfl rfl (any_of HT_.out (by kernel_rfl)) (fun _ _ _ h => h) (Or.inr ⟨by rfl, rfl⟩) ?_ ?_; rotate_left
             ·simp only [Act.put, sA_, sB_, sC_, i64_w, i32_w]; rfl
             refine pure_ (i := 26) (N := some 87) (v := undef) (a' := ?_) mA27 rfl rfl (any_of HT_.out (by kernel_rfl)) (fun _ _ _ h => h) (Or.inr ⟨by rfl, rfl⟩) ?_ ?_; rotate_left
             ·simp only [Act.put, sA_, sB_, sC_, i64_w, i32_w]; rfl
             refine pure_ (i := 27) (N := some 88) (v := undef) (a' := ?_) mA28 rfl rfl (any_of HT_.out (by kernel_rfl)) (fun _ _ _ h => h) (Or.inr ⟨by rfl, rfl⟩) ?_ ?_; rotate_left
             ·simp only [Act.put, sA_, sB_, sC_, i64_w, i32_w]; rfl
             refine pure_ (i := 28) (N := some 89) (v := undef) (a' := ?_) mA29 rfl rfl (any_of HT_.out (by kernel_rfl)) (fun _ _ _ h => h) (Or.inr ⟨by rfl, rfl⟩) ?_ ?_; rotate_left
             ·simp only [Act.put, sA_, sB_, sC_, i64_w, i32_w]; rfl
             refine pure_ (i := 29) (N := some 90) (v := ?_) (a' := ?_) mA30 rfl rfl (any_of HT_.out (by kernel_rfl)) (fun _ _ _ h => h) (Or.inl ⟨by rfl, ?_⟩) ?_ ?_; rotate_left
             ·intro w'; go_simp; with_reducible rfl
             rotate_left
             ·simp only [Act.put, sA_, sB_, sC_, i64_w, i32_w]; rfl
             refine done_ (done_of HT_.out (by kernel_rfl)) ?_
             try go_wp2
             go_ret
             exact ⟨_, by first | rfl | (simp [errW_none, errW_some] <;> rfl) | (simp [*, errW_none, errW_some] <;> rfl), by first | exact Kd.R_nil _ _ _ _ _ | exact Kd.N_nil _ _ _ _ _ | exact Kd.V_nil _ _ _ _ _ | exact Kd.Q_nil _ _ _ _ _ | exact Kd.S_nil _ _ _ _ _, by repeat (first | (with_reducible first | exact HB.out | apply below_alloc | apply pw_below_drewN | apply below_drew1 | refine below_set ?_ GE127.out) | exact HB.out)⟩
      ·rw [if_neg c9] at H; exact absurd H (by simp)
     ·rw [if_neg c8] at H
      have c8b0 : decide (x5_1 < (l0.length : Int)) = false := decide_eq_false c8
      clear c8
      obtain rfl := Option.some.inj H
      go_wp2
      go_ret
      exact ⟨_, by first | rfl | (simp [errW_none, errW_some] <;> rfl) | (simp [*, errW_none, errW_some] <;> rfl), by (with_reducible repeat (first | apply Kd.R_alloc | apply Kd.R_drewN | apply Kd.R_drew)); exact Kd.R_mono HO_4.out (fun _ hk => trivial), by repeat (first | (with_reducible first | exact HB.out | apply below_alloc | apply pw_below_drewN | apply below_drew1) | exact HB.out)⟩
  ·rw [if_neg c3] at H; exact absurd H (by simp)
 ·rw [if_neg c2] at H; exact absurd H (by simp)

end Go.Proofs.YtcioegimmjppcaaDoor.P
