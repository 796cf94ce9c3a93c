/- Written by a program: plain Lean functions that answer as Go functions of this seat do, and the proofs that the calls come to these answers. -/
import Derived.Test.YtcioegimmjppcaaDoorZJP
import Derived.Test.YtcioegimmjppcaaDoorZPx5
import Derived.Test.YtcioegimmjppcaaDoorZPx8
import Derived.Test.YtcioegimmjppcaaDoorZJD
namespace Go.Proofs.YtcioegimmjppcaaDoor.P
open Go.RowKit Go.Proofs.YtcioegimmjppcaaDoorW.PrintWords Go.Proofs.YtcioegimmjppcaaDoorW.PrintLast Go.Proofs.YtcioegimmjppcaaDoorW.PrintMore
attribute [local go_sem] max2_int min2_int max_two min_two max_three min_three max_four min_four   -- for this text's walks alone
set_option linter.unusedVariables false
set_option linter.unusedSimpArgs false

attribute [local go_sem high] eqA28
/-! ### plunderlaw6_SerialSum: function 11 -/
mutual
def plunderlaw6_SerialSum.j0 : Nat → Int → Int → Bool → Option (Bool)
  | 0, _, _, _ => none
  | k + 1, x0, x1, x13 => if x13 = true then ((plunderlaw6_lives.f k x0).bind fun t316 => (some t316)) else ((plunderlaw6_sum.f).bind fun t317 => ((serial_Eval.f k t317 (([x0] : List Int)) x1).bind fun bt323 => (if x0 < 0 then (plunderlaw6_SerialSum.j1 k x0 x1 bt323.2.2.2.2.2 true bt323.1 bt323.2.1 bt323.2.2.1 bt323.2.2.2.1 bt323.2.2.2.2.1) else (plunderlaw6_SerialSum.j1 k x0 x1 bt323.2.2.2.2.2 (decide (x0 > 4095)) bt323.1 bt323.2.1 bt323.2.2.1 bt323.2.2.2.1 bt323.2.2.2.2.1))))
def plunderlaw6_SerialSum.j1 : Nat → Int → Int → Int → Bool → Int → Int → Int → Int → Int → Option (Bool)
  | 0, _, _, _, _, _, _, _, _, _ => none
  | k + 1, x0, x1, x6, x29, x330000, x330001, x330002, x330003, x330004 => if x29 = true then (if x1 < 16384 then (if x6 = 62 then (some (x330000 == 0 && (x330001 == 0 && (x330002 == 0 && (x330003 == 0 && (x330004 == 0)))))) else (some false)) else (if x6 = 63 then (some (x330000 == 0 && (x330001 == 0 && (x330002 == 0 && (x330003 == 0 && (x330004 == 0)))))) else (some false))) else (if x1 < (wrap64 ((wrap64 (8 * x0)) + 2)) then (if x6 = 62 then (some (x330000 == 0 && (x330001 == 0 && (x330002 == 0 && (x330003 == 0 && (x330004 == 0)))))) else (some false)) else (if x6 = 0 then (some (x330000 == (wrap64 (Int.tdiv (wrap64 (x0 * (wrap64 (x0 + 1)))) 2)) && (x330001 == (wrap64 ((wrap64 (8 * x0)) + 2)) && (x330002 == (wrap64 (x0 + 1)) && (x330003 == (wrap64 (x0 + 1)) && (x330004 == (wrap64 ((wrap64 (8 * x0)) + 2)))))))) else (some false)))
end
def plunderlaw6_SerialSum.f (k : Nat) (a0 : Int) (a1 : Int) : Option (Bool) := if a1 < 0 then (plunderlaw6_SerialSum.j0 k a0 a1 true) else (plunderlaw6_SerialSum.j0 k a0 a1 (decide (a1 > 4194304)))
theorem plunderlaw6_SerialSum.mono_l : ∀ k, (∀ y0 y1 y2, LeO (plunderlaw6_SerialSum.j0 k y0 y1 y2) (plunderlaw6_SerialSum.j0 (k + 1) y0 y1 y2)) ∧ (∀ y0 y1 y2 y3 y4 y5 y6 y7 y8, LeO (plunderlaw6_SerialSum.j1 k y0 y1 y2 y3 y4 y5 y6 y7 y8) (plunderlaw6_SerialSum.j1 (k + 1) y0 y1 y2 y3 y4 y5 y6 y7 y8))
  | 0 => ⟨fun _ _ _ r h => by simp [plunderlaw6_SerialSum.j0] at h, fun _ _ _ _ _ _ _ _ _ r h => by simp [plunderlaw6_SerialSum.j1] at h⟩
  | k + 1 => by
    obtain ⟨ih0, ih1⟩ := plunderlaw6_SerialSum.mono_l k
    refine ⟨?_, ?_⟩
    · intro y0 y1 y2
      unfold plunderlaw6_SerialSum.j0
      repeat' first
      | (with_reducible exact ih0 _ _ _)
      | (with_reducible exact ih1 _ _ _ _ _ _ _ _ _)
      | (with_reducible exact plunderlaw6_lives.mono _ _)
      | (with_reducible exact serial_Eval.mono _ _ _ _)
      | (with_reducible exact LeO.refl _)
      | (with_reducible exact LeO.none _)
      | (with_reducible refine LeO.ite ?_ ?_)
      | (with_reducible refine LeO.bind ?_ (fun _ => ?_))
      | exact ih0 _ _ _
      | exact ih1 _ _ _ _ _ _ _ _ _
      | exact plunderlaw6_lives.mono _ _
      | exact serial_Eval.mono _ _ _ _
      | exact LeO.none _
      | refine LeO.ite ?_ ?_
      | refine LeO.bind ?_ (fun _ => ?_)
    · intro y0 y1 y2 y3 y4 y5 y6 y7 y8
      unfold plunderlaw6_SerialSum.j1
      repeat' first
      | (with_reducible exact ih0 _ _ _)
      | (with_reducible exact ih1 _ _ _ _ _ _ _ _ _)
      | (with_reducible exact plunderlaw6_lives.mono _ _)
      | (with_reducible exact serial_Eval.mono _ _ _ _)
      | (with_reducible exact LeO.refl _)
      | (with_reducible exact LeO.none _)
      | (with_reducible refine LeO.ite ?_ ?_)
      | (with_reducible refine LeO.bind ?_ (fun _ => ?_))
      | exact ih0 _ _ _
      | exact ih1 _ _ _ _ _ _ _ _ _
      | exact plunderlaw6_lives.mono _ _
      | exact serial_Eval.mono _ _ _ _
      | exact LeO.none _
      | refine LeO.ite ?_ ?_
      | refine LeO.bind ?_ (fun _ => ?_)
theorem plunderlaw6_SerialSum.mono : ∀ a0 a1 k, LeO (plunderlaw6_SerialSum.f k a0 a1) (plunderlaw6_SerialSum.f (k + 1) a0 a1) := by
  intro a0 a1 k
  obtain ⟨ih0, ih1⟩ := plunderlaw6_SerialSum.mono_l k
  unfold plunderlaw6_SerialSum.f
  repeat' first
      | (with_reducible exact ih0 _ _ _)
      | (with_reducible exact ih1 _ _ _ _ _ _ _ _ _)
      | (with_reducible exact plunderlaw6_lives.mono _ _)
      | (with_reducible exact serial_Eval.mono _ _ _ _)
      | (with_reducible exact LeO.refl _)
      | (with_reducible exact LeO.none _)
      | (with_reducible refine LeO.ite ?_ ?_)
      | (with_reducible refine LeO.bind ?_ (fun _ => ?_))
      | exact ih0 _ _ _
      | exact ih1 _ _ _ _ _ _ _ _ _
      | exact plunderlaw6_lives.mono _ _
      | exact serial_Eval.mono _ _ _ _
      | exact LeO.none _
      | refine LeO.ite ?_ ?_
      | refine LeO.bind ?_ (fun _ => ?_)
set_option maxHeartbeats 8000000 in
set_option maxRecDepth 100000 in
theorem plunderlaw6_SerialSum.calls (k : Nat) (a0 : Int) (a1 : Int) (r : Bool) (w : World) (hTab : Tab w) (h : plunderlaw6_SerialSum.f k a0 a1 = some r) :
    Calls Tryd.prog 11 #[.int .i64 a0, .int .i64 a1] w fun e w' => e = .returned (.bool r) ∧ Below w.heap.size w w' := by
  have HTab := Aside0.mk hTab
  clear hTab
  have hu28 := Tryd.underlying28
  have HB := Aside0.mk (Below.refl w.heap.size w)
  have H : (if a1 < 0 then (plunderlaw6_SerialSum.j0 k a0 a1 true) else (plunderlaw6_SerialSum.j0 k a0 a1 (decide (a1 > 4194304)))) = some r := h
  clear h
  have HC3 := Aside0.mk H
  clear H
  go_enter Tryd.func11, Tryd.ntmps11
  go_upto_region 1 with (fail)
  go_cut [13] (fun v13 wc => ∃ (kq : Nat) (x13_2 : Bool), v13 = .bool x13_2 ∧ Aside0 (plunderlaw6_SerialSum.j0 kq a0 a1 x13_2 = some r) ∧ Aside0 (kq ≤ k) ∧ Aside0 (Below w.heap.size w wc))
  case first =>
    have H := HC3.out
    clear HC3
    by_cases c4 : a1 < 0
    · rw [if_pos c4] at H
      have c4b0 : decide (a1 < 0) = true := decide_eq_true c4
      clear c4
      (first | rw [c4b0] | (simp only [i64_w, i32_w]; rw [c4b0]) | skip)
      have H' := Aside0.mk H
      clear H
      go_wp2
      go_meet
      case rel => exact ⟨_, (true), (by first | rfl | (simp; done) | (simp [*]; done)), H', ⟨by first | omega | exact Nat.le_refl _⟩, ⟨by repeat (first | (with_reducible first | exact HB.out | apply below_alloc | apply pw_below_drewN | apply below_drew1) | exact HB.out)⟩⟩
    · rw [if_neg c4] at H
      have c4b0 : decide (a1 < 0) = false := decide_eq_false c4
      clear c4
      (first | rw [c4b0] | (simp only [i64_w, i32_w]; rw [c4b0]) | skip)
      have H' := Aside0.mk H
      clear H
      go_wp2
      go_meet
      case rel => exact ⟨_, (decide (a1 > 4194304)), (by first | rfl | (simp; done) | (simp [*]; done)), H', ⟨by first | omega | exact Nat.le_refl _⟩, ⟨by repeat (first | (with_reducible first | exact HB.out | apply below_alloc | apply pw_below_drewN | apply below_drew1) | exact HB.out)⟩⟩
  case rest =>
    clear HC3
    try clear c1
    try clear p2
    try clear c4
    try clear c4b0
    obtain ⟨kq, x13_2, rfl, HA, HJ2, HB⟩ := hcut
    cases kq with
    | zero => exact absurd HA.out (by simp [plunderlaw6_SerialSum.j0])
    | succ kj2 =>
      have H := HA.out
      clear HA
      simp only [plunderlaw6_SerialSum.j0] at H
      by_cases c5 : x13_2 = true
      · subst c5
        have H1 : ((plunderlaw6_lives.f kj2 a0).bind fun t316 => (some t316)) = some r := by rw [if_pos rfl] at H; exact H
        clear H
        have H := H1
        clear H1
        replace H := Option.bind_eq_some_iff.mp H
        obtain ⟨t316, A60, H⟩ := H
        replace H : (some t316) = some r := H
        have A6 := Aside0.mk A60
        clear A60
        obtain rfl := Option.some.inj H
        go_wp2_with (first | ((with_reducible refine gate_callee (f := 24) rfl ?_); refine goesL_ (some 15) rfl rfl Tryd.func24 (by kernel_rfl) rfl #[.int .i64 a0] rfl (by (try simp only [List.map_toArray, List.map_cons, List.map_nil]); first | done | rfl | (simp only [List.length_drop, List.length_take]; rfl)) ?_; (with_reducible refine (plunderlaw6_lives.calls kj2 a0 t316 _ (HTab.out.below (by repeat (first | (with_reducible first | exact HB.out | apply below_alloc | apply pw_below_drewN | apply below_drew1) | exact HB.out))) A6.out).mono ?_); rintro e w7 ⟨rfl, hb⟩; refine ⟨_, rfl, ?_⟩; have n0_ := Aside0.mk (below_step (by repeat (first | (with_reducible first | exact HB.out | apply below_alloc | apply pw_below_drewN | apply below_drew1) | exact HB.out)) hb); clear HB; have HB := n0_; clear n0_; (try clear hb); (try clear hb2); (try clear hk); (try clear hi)))
        go_ret
        exact ⟨by first | rfl | (simp [errW_none, errW_some] <;> rfl) | (simp [*, errW_none, errW_some] <;> rfl), by repeat (first | (with_reducible first | exact HB.out | apply below_alloc | apply pw_below_drewN | apply below_drew1) | exact HB.out)⟩
      · replace c5 := Bool.eq_false_iff.mpr c5
        subst c5
        have H1 : ((plunderlaw6_sum.f).bind fun t317 => ((serial_Eval.f kj2 t317 (([a0] : List Int)) a1).bind fun bt323 => (if a0 < 0 then (plunderlaw6_SerialSum.j1 kj2 a0 a1 bt323.2.2.2.2.2 true bt323.1 bt323.2.1 bt323.2.2.1 bt323.2.2.2.1 bt323.2.2.2.2.1) else (plunderlaw6_SerialSum.j1 kj2 a0 a1 bt323.2.2.2.2.2 (decide (a0 > 4095)) bt323.1 bt323.2.1 bt323.2.2.1 bt323.2.2.2.1 bt323.2.2.2.2.1)))) = some r := by rw [if_neg (show ¬ (false = true) by decide)] at H; exact H
        clear H
        have H := H1
        clear H1
        replace H := Option.bind_eq_some_iff.mp H
        obtain ⟨t317, A80, H⟩ := H
        replace H : ((serial_Eval.f kj2 t317 (([a0] : List Int)) a1).bind fun bt323 => (if a0 < 0 then (plunderlaw6_SerialSum.j1 kj2 a0 a1 bt323.2.2.2.2.2 true bt323.1 bt323.2.1 bt323.2.2.1 bt323.2.2.2.1 bt323.2.2.2.2.1) else (plunderlaw6_SerialSum.j1 kj2 a0 a1 bt323.2.2.2.2.2 (decide (a0 > 4095)) bt323.1 bt323.2.1 bt323.2.2.1 bt323.2.2.2.1 bt323.2.2.2.2.1))) = some r := H
        have A8 := Aside0.mk A80
        clear A80
        obtain ⟨y320, hy320⟩ : ∃ y_ : List Int, y_ = (([a0] : List Int)) := ⟨_, rfl⟩
        replace H : ((serial_Eval.f kj2 t317 y320 a1).bind fun bt323 => (if a0 < 0 then (plunderlaw6_SerialSum.j1 kj2 a0 a1 bt323.2.2.2.2.2 true bt323.1 bt323.2.1 bt323.2.2.1 bt323.2.2.2.1 bt323.2.2.2.2.1) else (plunderlaw6_SerialSum.j1 kj2 a0 a1 bt323.2.2.2.2.2 (decide (a0 > 4095)) bt323.1 bt323.2.1 bt323.2.2.1 bt323.2.2.2.1 bt323.2.2.2.2.1))) = some r := by first | (rw [hy320]; with_reducible exact H) | (have H2_ := (Option.bind_some _ _).symm.trans H; rw [hy320]; with_reducible exact H2_) | (have H2_ := (Option.bind_some _ _).symm.trans H; with_reducible exact H2_) | with_reducible exact H | (rw [hy320]; exact H) | exact H
        have Ny320 := Aside0.mk hy320
        clear hy320
        replace H := Option.bind_eq_some_iff.mp H
        obtain ⟨⟨t323, t324, t325, t326, t327, t328⟩, A90, H⟩ := H
        replace H : (if a0 < 0 then (plunderlaw6_SerialSum.j1 kj2 a0 a1 t328 true t323 t324 t325 t326 t327) else (plunderlaw6_SerialSum.j1 kj2 a0 a1 t328 (decide (a0 > 4095)) t323 t324 t325 t326 t327)) = some r := H
        have A9 := Aside0.mk A90
        clear A90
        have HC10 := Aside0.mk H
        clear H
        go_upto_region 4 with (first | ((with_reducible refine gate_callee (f := 29) rfl ?_); refine goesL_ (some 17) rfl rfl Tryd.func29 (by kernel_rfl) rfl #[] rfl (by (try simp only [List.map_toArray, List.map_cons, List.map_nil]); first | done | rfl | (simp only [List.length_drop, List.length_take]; rfl)) ?_; (with_reducible refine (plunderlaw6_sum.calls  t317 _ A8.out).mono ?_); rintro e w11 ⟨v318, rfl, ho0, hb⟩; refine ⟨_, rfl, ?_⟩; have n0_ := Aside0.mk (Kd.N_lower (Kd.N_mono (ok' := fun k_ => True) ho0 (fun k_ hk_ => trivial)) (below_size (by repeat (first | (with_reducible first | exact HB.out | apply below_alloc | apply pw_below_drewN | apply below_drew1) | exact HB.out)))); have n1_ := Aside0.mk (below_step (by repeat (first | (with_reducible first | exact HB.out | apply below_alloc | apply pw_below_drewN | apply below_drew1) | exact HB.out)) hb); clear HB; have HO319 := n0_; have HB := n1_; clear n0_ n1_; (try clear hb); (try clear hb2); (try clear hk); (try clear hi); (try clear ho0)) | ((with_reducible refine gate_dst (N := 19) rfl ?_); refine Kd.R_lit (Kd.int .i64) _ 2 ?hg (N := 19) ?hd (xs := ([a0] : List Int)) (inner := [.int .i64 a0]) (ok := fun _ => True) (okp := fun _ => True) ?hr ?hp (fun _ hk => hk) trivial (Below.refl _ _) (Nat.le_refl _) (by simp) ?_; (case hd => rfl); (case hg => rfl); (case hr => first | (go_simp; done) | (go_simp; rfl)); (case hp => exact (Reps.one (show Kd.M (Kd.int .i64) _ _ _ a0 [.int .i64 a0] from rfl) (Reps.none _ _))); intro v321 w12 ho13 hb hg_ hnew_; clear hg_ hnew_; (first | rw [← Ny320.out] at ho13 | (simp only [Int.reduceToNat] at ho13; rw [← Ny320.out] at ho13)); have n0_ := Aside0.mk (Kd.N_elder' (by (with_reducible repeat (first | apply Kd.N_alloc | apply Kd.N_drewN | apply Kd.N_drew)); exact HO319.out) (Kd.R_base ho13) hb); have n1_ := Aside0.mk (Kd.R_lower ho13 (below_size (by repeat (first | (with_reducible first | exact HB.out | apply below_alloc | apply pw_below_drewN | apply below_drew1) | exact HB.out)))); have n2_ := Aside0.mk (below_step (by repeat (first | (with_reducible first | exact HB.out | apply below_alloc | apply pw_below_drewN | apply below_drew1) | exact HB.out)) hb); clear HO319; clear HB; have HO319 := n0_; have HO322 := n1_; have HB := n2_; clear n0_ n1_ n2_; clear hb ho13; obtain ⟨Ao14, co14, eo14⟩ := Kd.N_slice HO319.out; subst eo14; obtain ⟨Ao15, co15, eo15⟩ := Kd.R_slice HO322.out; subst eo15) | ((with_reducible refine gate_callee (f := 14) rfl ?_); refine goesL_ (some 21) rfl rfl Tryd.func14 (by kernel_rfl) rfl #[.agg #[.slice Ao14 t317.length co14], .slice Ao15 y320.length co15, .int .i64 a1] rfl (by (try simp only [List.map_toArray, List.map_cons, List.map_nil]); first | done | rfl | (simp only [List.length_drop, List.length_take]; rfl)) ?_; (with_reducible refine (serial_Eval.calls kj2 _ _ t317 _ _ y320 a1 t323 t324 t325 t326 t327 t328 _ (HTab.out.below (by repeat (first | (with_reducible first | exact HB.out | apply below_alloc | apply pw_below_drewN | apply below_drew1) | exact HB.out))) ?side1 ?side2 ?side3 ?side4 A9.out).mono ?_); (case side1 => repeat (first | exact (Kd.N_reads' HO319.out).2.2 | (with_reducible refine Kd.C_alloc ?_ _) | (with_reducible refine Kd.C_drewN ?_ _) | (with_reducible refine Kd.C_drew ?_))); (case side2 => exact (Kd.N_reads' HO319.out).2.1); (case side3 => repeat (first | exact (Kd.R_reads' HO322.out).2.2 | (with_reducible refine Kd.C_alloc ?_ _) | (with_reducible refine Kd.C_drewN ?_ _) | (with_reducible refine Kd.C_drew ?_))); (case side4 => exact (Kd.R_reads' HO322.out).2.1); rintro e w16 ⟨rfl, hb⟩; refine ⟨_, rfl, ?_⟩; have n0_ := Aside0.mk (Kd.N_below (by (with_reducible repeat (first | apply Kd.N_alloc | apply Kd.N_drewN | apply Kd.N_drew)); exact HO319.out) hb); have n1_ := Aside0.mk (Kd.R_below (by (with_reducible repeat (first | apply Kd.R_alloc | apply Kd.R_drewN | apply Kd.R_drew)); exact HO322.out) hb); have n2_ := Aside0.mk (below_step (by repeat (first | (with_reducible first | exact HB.out | apply below_alloc | apply pw_below_drewN | apply below_drew1) | exact HB.out)) hb); clear HO319; clear HO322; clear HB; have HO319 := n0_; have HO322 := n1_; have HB := n2_; clear n0_ n1_ n2_; (try clear hb); (try clear hb2); (try clear hk); (try clear hi)) | ((with_reducible refine gate_dst (N := 5) rfl ?_); refine box_event ?hg (N := 5) ?hd (cs := #[.int .i64 0, .int .i64 0, .int .i64 0, .int .i64 0, .int .i64 0]) (t := 28) ?hr ?_; (case hd => rfl); (case hg => rfl); (case hr => first | (go_simp; done) | (go_simp; rfl)); intro gb329 hg w17 hbox hb; have n0_ := Aside0.mk (Kd.N_below (Kd.N_elderB (by (with_reducible repeat (first | apply Kd.N_alloc | apply Kd.N_drewN | apply Kd.N_drew)); exact HO319.out) gb329 (Nat.le_of_eq hg.symm)) hb); have n1_ := Aside0.mk (Kd.R_below (by (with_reducible repeat (first | apply Kd.R_alloc | apply Kd.R_drewN | apply Kd.R_drew)); exact HO322.out) hb); have n2_ := Aside0.mk (below_step (by repeat (first | (with_reducible first | exact HB.out | apply below_alloc | apply pw_below_drewN | apply below_drew1) | exact HB.out)) hb); have n3_ := Aside0.mk (hbox); have n4_ := Aside0.mk ((by rw [hg]; exact (below_size (by repeat (first | (with_reducible first | exact HB.out | apply below_alloc | apply pw_below_drewN | apply below_drew1) | exact HB.out))) : w.heap.size ≤ gb329)); have n5_ := Aside0.mk ((by rw [hg]; exact (below_size (by repeat (first | (with_reducible first | exact HB.out | apply below_alloc | apply pw_below_drewN | apply below_drew1) | exact HB.out))) : w.heap.size ≤ gb329)); clear HO319; clear HO322; clear HB; have HO319 := n0_; have HO322 := n1_; have HB := n2_; have BK329 := n3_; have GW329 := n4_; have GE329 := n5_; clear n0_ n1_ n2_ n3_ n4_ n5_; clear hb hbox hg; have hcz18_0 : w17.cell? ⟨gb329, 0, none⟩ = some (.int .i64 0) := (blk_cell BK329.out 0).trans rfl; have hcz18_1 : w17.cell? ⟨gb329, 1, none⟩ = some (.int .i64 0) := (blk_cell BK329.out 1).trans rfl; have hcz18_2 : w17.cell? ⟨gb329, 2, none⟩ = some (.int .i64 0) := (blk_cell BK329.out 2).trans rfl; have hcz18_3 : w17.cell? ⟨gb329, 3, none⟩ = some (.int .i64 0) := (blk_cell BK329.out 3).trans rfl; have hcz18_4 : w17.cell? ⟨gb329, 4, none⟩ = some (.int .i64 0) := (blk_cell BK329.out 4).trans rfl; have hfz18_0 := blk_frozen BK329.out 0; have hfz18_1 := blk_frozen BK329.out 1; have hfz18_2 := blk_frozen BK329.out 2; have hfz18_3 := blk_frozen BK329.out 3; have hfz18_4 := blk_frozen BK329.out 4))
        (try simp only [Act.put, List.setIfInBounds_toArray, List.set_cons_zero, List.set_cons_succ])
        go_cut [29] (fun v29 wc => ∃ (kq : Nat) (x29_9 : Bool), v29 = .bool x29_9 ∧ Aside0 (plunderlaw6_SerialSum.j1 kq a0 a1 t328 x29_9 t323 t324 t325 t326 t327 = some r) ∧ Aside0 (kq ≤ kj2) ∧ Aside0 (wc.heap[gb329]? = some (.cells #[.int .i64 t323, .int .i64 t324, .int .i64 t325, .int .i64 t326, .int .i64 t327] 28 (0, 0))) ∧ Aside0 (Below w.heap.size w wc))
        case first =>
          have H := HC10.out
          clear HC10
          by_cases c19 : a0 < 0
          · rw [if_pos c19] at H
            have c19b0 : decide (a0 < 0) = true := decide_eq_true c19
            clear c19
            (first | rw [c19b0] | (simp only [i64_w, i32_w]; rw [c19b0]) | skip)
            have H' := Aside0.mk H
            clear H
            go_wp2
            go_meet
            case rel => exact ⟨_, (true), (by first | rfl | (simp; done) | (simp [*]; done)), H', ⟨by have := HJ2.out; first | omega | exact Nat.le_refl _⟩, ⟨by (with_reducible repeat (first | refine blk_drewN ?_ _ | refine blk_drew ?_ | refine blk_alloc ?_ _)); refine blk_put (cs := #[.int .i64 t323, .int .i64 t324, .int .i64 t325, .int .i64 t326, .int .i64 0]) ?_ 4 _ rfl; (with_reducible repeat (first | refine blk_drewN ?_ _ | refine blk_drew ?_ | refine blk_alloc ?_ _)); refine blk_put (cs := #[.int .i64 t323, .int .i64 t324, .int .i64 t325, .int .i64 0, .int .i64 0]) ?_ 3 _ rfl; (with_reducible repeat (first | refine blk_drewN ?_ _ | refine blk_drew ?_ | refine blk_alloc ?_ _)); refine blk_put (cs := #[.int .i64 t323, .int .i64 t324, .int .i64 0, .int .i64 0, .int .i64 0]) ?_ 2 _ rfl; (with_reducible repeat (first | refine blk_drewN ?_ _ | refine blk_drew ?_ | refine blk_alloc ?_ _)); refine blk_put (cs := #[.int .i64 t323, .int .i64 0, .int .i64 0, .int .i64 0, .int .i64 0]) ?_ 1 _ rfl; (with_reducible repeat (first | refine blk_drewN ?_ _ | refine blk_drew ?_ | refine blk_alloc ?_ _)); refine blk_put (cs := #[.int .i64 0, .int .i64 0, .int .i64 0, .int .i64 0, .int .i64 0]) ?_ 0 _ rfl; (with_reducible repeat (first | refine blk_drewN ?_ _ | refine blk_drew ?_ | refine blk_alloc ?_ _)); exact BK329.out⟩, ⟨by repeat (first | (with_reducible first | exact HB.out | apply below_alloc | apply pw_below_drewN | apply below_drew1 | refine below_set ?_ GE329.out) | exact HB.out)⟩⟩
          · rw [if_neg c19] at H
            have c19b0 : decide (a0 < 0) = false := decide_eq_false c19
            clear c19
            (first | rw [c19b0] | (simp only [i64_w, i32_w]; rw [c19b0]) | skip)
            have H' := Aside0.mk H
            clear H
            go_wp2
            go_meet
            case rel => exact ⟨_, (decide (a0 > 4095)), (by first | rfl | (simp; done) | (simp [*]; done)), H', ⟨by have := HJ2.out; first | omega | exact Nat.le_refl _⟩, ⟨by (with_reducible repeat (first | refine blk_drewN ?_ _ | refine blk_drew ?_ | refine blk_alloc ?_ _)); refine blk_put (cs := #[.int .i64 t323, .int .i64 t324, .int .i64 t325, .int .i64 t326, .int .i64 0]) ?_ 4 _ rfl; (with_reducible repeat (first | refine blk_drewN ?_ _ | refine blk_drew ?_ | refine blk_alloc ?_ _)); refine blk_put (cs := #[.int .i64 t323, .int .i64 t324, .int .i64 t325, .int .i64 0, .int .i64 0]) ?_ 3 _ rfl; (with_reducible repeat (first | refine blk_drewN ?_ _ | refine blk_drew ?_ | refine blk_alloc ?_ _)); refine blk_put (cs := #[.int .i64 t323, .int .i64 t324, .int .i64 0, .int .i64 0, .int .i64 0]) ?_ 2 _ rfl; (with_reducible repeat (first | refine blk_drewN ?_ _ | refine blk_drew ?_ | refine blk_alloc ?_ _)); refine blk_put (cs := #[.int .i64 t323, .int .i64 0, .int .i64 0, .int .i64 0, .int .i64 0]) ?_ 1 _ rfl; (with_reducible repeat (first | refine blk_drewN ?_ _ | refine blk_drew ?_ | refine blk_alloc ?_ _)); refine blk_put (cs := #[.int .i64 0, .int .i64 0, .int .i64 0, .int .i64 0, .int .i64 0]) ?_ 0 _ rfl; (with_reducible repeat (first | refine blk_drewN ?_ _ | refine blk_drew ?_ | refine blk_alloc ?_ _)); exact BK329.out⟩, ⟨by repeat (first | (with_reducible first | exact HB.out | apply below_alloc | apply pw_below_drewN | apply below_drew1 | refine below_set ?_ GE329.out) | exact HB.out)⟩⟩
        case rest =>
          clear HC10
          try clear c1
          try clear c2
          try clear p2
          try clear c4
          try clear c4b0
          try clear c5
          try clear c11
          try clear c14
          try clear c19
          try clear c19b0
          try clear hcz18_0
          try clear hcz18_1
          try clear hcz18_2
          try clear hcz18_3
          try clear hcz18_4
          try clear hfz18_0
          try clear hfz18_1
          try clear hfz18_2
          try clear hfz18_3
          try clear hfz18_4
          try clear p2
          obtain ⟨kq, x29_9, rfl, HA, HJ9, BK329, HB⟩ := hcut
          cases kq with
          | zero => exact absurd HA.out (by simp [plunderlaw6_SerialSum.j1])
          | succ kj9 =>
            have H := HA.out
            clear HA
            simp only [plunderlaw6_SerialSum.j1] at H
            by_cases c20 : x29_9 = true
            · subst c20
              have H1 : (if a1 < 16384 then (if t328 = 62 then (some (t323 == 0 && (t324 == 0 && (t325 == 0 && (t326 == 0 && (t327 == 0)))))) else (some false)) else (if t328 = 63 then (some (t323 == 0 && (t324 == 0 && (t325 == 0 && (t326 == 0 && (t327 == 0)))))) else (some false))) = some r := by rw [if_pos rfl] at H; exact H
              clear H
              have H := H1
              clear H1
              by_cases c21 : a1 < 16384
              · rw [if_pos c21] at H
                have c21b0 : decide (a1 < 16384) = true := decide_eq_true c21
                clear c21
                by_cases c22 : t328 = 62
                · rw [if_pos c22] at H
                  have c22b0 : (t328 == 62) = true := beq_iff_eq.mpr c22
                  have c22b1 : (t328 != 62) = false := bne_eq_false_iff_eq.mpr c22
                  clear c22
                  obtain rfl := Option.some.inj H
                  have hcz23_0 : wc.cell? ⟨gb329, 0, none⟩ = some (.int .i64 t323) := (blk_cell BK329.out 0).trans rfl
                  have hcz23_1 : wc.cell? ⟨gb329, 1, none⟩ = some (.int .i64 t324) := (blk_cell BK329.out 1).trans rfl
                  have hcz23_2 : wc.cell? ⟨gb329, 2, none⟩ = some (.int .i64 t325) := (blk_cell BK329.out 2).trans rfl
                  have hcz23_3 : wc.cell? ⟨gb329, 3, none⟩ = some (.int .i64 t326) := (blk_cell BK329.out 3).trans rfl
                  have hcz23_4 : wc.cell? ⟨gb329, 4, none⟩ = some (.int .i64 t327) := (blk_cell BK329.out 4).trans rfl
                  have hfz23_0 := blk_frozen BK329.out 0
                  have hfz23_1 := blk_frozen BK329.out 1
                  have hfz23_2 := blk_frozen BK329.out 2
                  have hfz23_3 := blk_frozen BK329.out 3
                  have hfz23_4 := blk_frozen BK329.out 4
                  go_wp2
                  go_ret
                  exact ⟨by first | rfl | (simp [errW_none, errW_some] <;> rfl) | (simp [*, errW_none, errW_some] <;> rfl), by repeat (first | (with_reducible first | exact HB.out | apply below_alloc | apply pw_below_drewN | apply below_drew1 | refine below_set ?_ GE329.out) | exact HB.out)⟩
                · rw [if_neg c22] at H
                  have c22b0 : (t328 == 62) = false := beq_eq_false_iff_ne.mpr c22
                  have c22b1 : (t328 != 62) = true := bne_iff_ne.mpr c22
                  obtain rfl := Option.some.inj H
                  go_wp2
                  go_ret
                  exact ⟨by first | rfl | (simp [errW_none, errW_some] <;> rfl) | (simp [*, errW_none, errW_some] <;> rfl), by repeat (first | (with_reducible first | exact HB.out | apply below_alloc | apply pw_below_drewN | apply below_drew1 | refine below_set ?_ GE329.out) | exact HB.out)⟩
              · rw [if_neg c21] at H
                have c21b0 : decide (a1 < 16384) = false := decide_eq_false c21
                clear c21
                by_cases c24 : t328 = 63
                · rw [if_pos c24] at H
                  have c24b0 : (t328 == 63) = true := beq_iff_eq.mpr c24
                  have c24b1 : (t328 != 63) = false := bne_eq_false_iff_eq.mpr c24
                  clear c24
                  obtain rfl := Option.some.inj H
                  have hcz25_0 : wc.cell? ⟨gb329, 0, none⟩ = some (.int .i64 t323) := (blk_cell BK329.out 0).trans rfl
                  have hcz25_1 : wc.cell? ⟨gb329, 1, none⟩ = some (.int .i64 t324) := (blk_cell BK329.out 1).trans rfl
                  have hcz25_2 : wc.cell? ⟨gb329, 2, none⟩ = some (.int .i64 t325) := (blk_cell BK329.out 2).trans rfl
                  have hcz25_3 : wc.cell? ⟨gb329, 3, none⟩ = some (.int .i64 t326) := (blk_cell BK329.out 3).trans rfl
                  have hcz25_4 : wc.cell? ⟨gb329, 4, none⟩ = some (.int .i64 t327) := (blk_cell BK329.out 4).trans rfl
                  have hfz25_0 := blk_frozen BK329.out 0
                  have hfz25_1 := blk_frozen BK329.out 1
                  have hfz25_2 := blk_frozen BK329.out 2
                  have hfz25_3 := blk_frozen BK329.out 3
                  have hfz25_4 := blk_frozen BK329.out 4
                  go_wp2
                  go_ret
                  exact ⟨by first | rfl | (simp [errW_none, errW_some] <;> rfl) | (simp [*, errW_none, errW_some] <;> rfl), by repeat (first | (with_reducible first | exact HB.out | apply below_alloc | apply pw_below_drewN | apply below_drew1 | refine below_set ?_ GE329.out) | exact HB.out)⟩
                · rw [if_neg c24] at H
                  have c24b0 : (t328 == 63) = false := beq_eq_false_iff_ne.mpr c24
                  have c24b1 : (t328 != 63) = true := bne_iff_ne.mpr c24
                  obtain rfl := Option.some.inj H
                  go_wp2
                  go_ret
                  exact ⟨by first | rfl | (simp [errW_none, errW_some] <;> rfl) | (simp [*, errW_none, errW_some] <;> rfl), by repeat (first | (with_reducible first | exact HB.out | apply below_alloc | apply pw_below_drewN | apply below_drew1 | refine below_set ?_ GE329.out) | exact HB.out)⟩
            · replace c20 := Bool.eq_false_iff.mpr c20
              subst c20
              have H1 : (if a1 < (wrap64 ((wrap64 (8 * a0)) + 2)) then (if t328 = 62 then (some (t323 == 0 && (t324 == 0 && (t325 == 0 && (t326 == 0 && (t327 == 0)))))) else (some false)) else (if t328 = 0 then (some (t323 == (wrap64 (Int.tdiv (wrap64 (a0 * (wrap64 (a0 + 1)))) 2)) && (t324 == (wrap64 ((wrap64 (8 * a0)) + 2)) && (t325 == (wrap64 (a0 + 1)) && (t326 == (wrap64 (a0 + 1)) && (t327 == (wrap64 ((wrap64 (8 * a0)) + 2)))))))) else (some false))) = some r := by rw [if_neg (show ¬ (false = true) by decide)] at H; exact H
              clear H
              have H := H1
              clear H1
              by_cases c26 : a1 < (wrap64 ((wrap64 (8 * a0)) + 2))
              · rw [if_pos c26] at H
                have c26b0 : decide (a1 < (wrap64 ((wrap64 (8 * a0)) + 2))) = true := decide_eq_true c26
                clear c26
                by_cases c27 : t328 = 62
                · rw [if_pos c27] at H
                  have c27b0 : (t328 == 62) = true := beq_iff_eq.mpr c27
                  have c27b1 : (t328 != 62) = false := bne_eq_false_iff_eq.mpr c27
                  clear c27
                  obtain rfl := Option.some.inj H
                  have hcz28_0 : wc.cell? ⟨gb329, 0, none⟩ = some (.int .i64 t323) := (blk_cell BK329.out 0).trans rfl
                  have hcz28_1 : wc.cell? ⟨gb329, 1, none⟩ = some (.int .i64 t324) := (blk_cell BK329.out 1).trans rfl
                  have hcz28_2 : wc.cell? ⟨gb329, 2, none⟩ = some (.int .i64 t325) := (blk_cell BK329.out 2).trans rfl
                  have hcz28_3 : wc.cell? ⟨gb329, 3, none⟩ = some (.int .i64 t326) := (blk_cell BK329.out 3).trans rfl
                  have hcz28_4 : wc.cell? ⟨gb329, 4, none⟩ = some (.int .i64 t327) := (blk_cell BK329.out 4).trans rfl
                  have hfz28_0 := blk_frozen BK329.out 0
                  have hfz28_1 := blk_frozen BK329.out 1
                  have hfz28_2 := blk_frozen BK329.out 2
                  have hfz28_3 := blk_frozen BK329.out 3
                  have hfz28_4 := blk_frozen BK329.out 4
                  go_wp2
                  go_ret
                  exact ⟨by first | rfl | (simp [errW_none, errW_some] <;> rfl) | (simp [*, errW_none, errW_some] <;> rfl), by repeat (first | (with_reducible first | exact HB.out | apply below_alloc | apply pw_below_drewN | apply below_drew1 | refine below_set ?_ GE329.out) | exact HB.out)⟩
                · rw [if_neg c27] at H
                  have c27b0 : (t328 == 62) = false := beq_eq_false_iff_ne.mpr c27
                  have c27b1 : (t328 != 62) = true := bne_iff_ne.mpr c27
                  obtain rfl := Option.some.inj H
                  go_wp2
                  go_ret
                  exact ⟨by first | rfl | (simp [errW_none, errW_some] <;> rfl) | (simp [*, errW_none, errW_some] <;> rfl), by repeat (first | (with_reducible first | exact HB.out | apply below_alloc | apply pw_below_drewN | apply below_drew1 | refine below_set ?_ GE329.out) | exact HB.out)⟩
              · rw [if_neg c26] at H
                have c26b0 : decide (a1 < (wrap64 ((wrap64 (8 * a0)) + 2))) = false := decide_eq_false c26
                clear c26
                by_cases c29 : t328 = 0
                · rw [if_pos c29] at H
                  have c29b0 : (t328 == 0) = true := beq_iff_eq.mpr c29
                  have c29b1 : (t328 != 0) = false := bne_eq_false_iff_eq.mpr c29
                  clear c29
                  obtain rfl := Option.some.inj H
                  have hcz30_0 : wc.cell? ⟨gb329, 0, none⟩ = some (.int .i64 t323) := (blk_cell BK329.out 0).trans rfl
                  have hcz30_1 : wc.cell? ⟨gb329, 1, none⟩ = some (.int .i64 t324) := (blk_cell BK329.out 1).trans rfl
                  have hcz30_2 : wc.cell? ⟨gb329, 2, none⟩ = some (.int .i64 t325) := (blk_cell BK329.out 2).trans rfl
                  have hcz30_3 : wc.cell? ⟨gb329, 3, none⟩ = some (.int .i64 t326) := (blk_cell BK329.out 3).trans rfl
                  have hcz30_4 : wc.cell? ⟨gb329, 4, none⟩ = some (.int .i64 t327) := (blk_cell BK329.out 4).trans rfl
                  have hfz30_0 := blk_frozen BK329.out 0
                  have hfz30_1 := blk_frozen BK329.out 1
                  have hfz30_2 := blk_frozen BK329.out 2
                  have hfz30_3 := blk_frozen BK329.out 3
                  have hfz30_4 := blk_frozen BK329.out 4
                  go_wp2
                  go_ret
                  exact ⟨by first | rfl | (simp [errW_none, errW_some] <;> rfl) | (simp [*, errW_none, errW_some] <;> rfl), by repeat (first | (with_reducible first | exact HB.out | apply below_alloc | apply pw_below_drewN | apply below_drew1 | refine below_set ?_ GE329.out) | exact HB.out)⟩
                · rw [if_neg c29] at H
                  have c29b0 : (t328 == 0) = false := beq_eq_false_iff_ne.mpr c29
                  have c29b1 : (t328 != 0) = true := bne_iff_ne.mpr c29
                  obtain rfl := Option.some.inj H
                  go_wp2
                  go_ret
                  exact ⟨by first | rfl | (simp [errW_none, errW_some] <;> rfl) | (simp [*, errW_none, errW_some] <;> rfl), by repeat (first | (with_reducible first | exact HB.out | apply below_alloc | apply pw_below_drewN | apply below_drew1 | refine below_set ?_ GE329.out) | exact HB.out)⟩

/-- THE ONE PURE STATEMENT of plunderlaw6_SerialSum: yours. -/
def plunderlaw6_SerialSum.Pure : Prop := ∀ (a0 : Int) (a1 : Int), (Lit.int .i64 a0).wf = true → (Lit.int .i64 a1).wf = true → ∃ k, plunderlaw6_SerialSum.f k a0 a1 = some true
theorem plunderlaw6_SerialSum.walk (P : plunderlaw6_SerialSum.Pure) (a0 : Int) (a1 : Int) (w : World) (hTab : Tab w) (w0 : (Lit.int .i64 a0).wf = true) (w1 : (Lit.int .i64 a1).wf = true) :
    Calls Tryd.prog 11 #[.int .i64 a0, .int .i64 a1] w fun e w' => e = .returned (.bool true) ∧ Below w.heap.size w w' := by
  obtain ⟨k, h⟩ := P a0 a1 w0 w1
  refine (plunderlaw6_SerialSum.calls k a0 a1 true w hTab h).mono ?_
  rintro e w' ⟨rfl, hd⟩
  exact ⟨rfl, hd⟩

end Go.Proofs.YtcioegimmjppcaaDoor.P
