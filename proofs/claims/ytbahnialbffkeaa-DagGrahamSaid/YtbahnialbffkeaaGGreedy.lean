/- dag.Greedy: the walk of the program's function (machine side): where the plain function dag_Greedy.f answers, the call answers so. -/
import Derived.Test.YtbahnialbffkeaaGPx2
import Derived.Test.YtbahnialbffkeaaGJA
import Derived.Test.YtbahnialbffkeaaGGreedyF
namespace Go.Proofs.Ytbahnialbffkeaa.P
open Go.RowKit Go.Proofs.YtbahnialbffkeaaW.PrintWords Go.Proofs.YtbahnialbffkeaaW.PrintLast Go.Proofs.YtbahnialbffkeaaW.PrintMore
attribute [local go_sem] max2_int min2_int max_two min_two max_three min_three max_four min_four   -- for this text's walks alone
set_option linter.unusedVariables false
set_option linter.unusedSimpArgs false

def dag_Greedy.T12 : Bool × List (List Nat × List Nat) := (true, [([], []), ([], []), ([1], [1]), ([], []), ([], []), ([4], [4]), ([3, 5], [3, 5]), ([6], [6]), ([], []), ([8], [8]), ([9], [9]), ([7, 10], [7, 10]), ([0, 2, 0, 1, 2, 3, 4, 5, 6, 7, 8, 9, 10, 11], [0, 2]), ([12, 11, 11, 0, 1, 2, 3, 4, 5, 6, 7, 8, 9, 10, 11], [11, 12])])
def dag_Greedy.B12 : List Nat := [0, 0, 2, 0, 0, 16, 56, 120, 0, 256, 768, 2040, 4095, 8191]
theorem dag_Greedy.tab12 : rtab .any (opsOf Try.f31 12) = dag_Greedy.T12 := by kernel_rfl
theorem dag_Greedy.bits12 : waitsOk dag_Greedy.T12.2 dag_Greedy.B12 = true := by kernel_rfl
set_option maxHeartbeats 8000000 in
set_option maxRecDepth 100000 in
theorem dag_Greedy.calls (k : Nat) (a0_0 : Int) (A0_1 : Option Addr) (c0_1 : Nat) (l0_1 : List (S50)) (a1 : Int) (r1 : List Int) (r2 : Int) (w : World) (hr0_1 : Kd.C k50 w A0_1 l0_1.length l0_1) (hc0_1 : l0_1.length ≤ c0_1) (h : dag_Greedy.f k a0_0 l0_1 a1 = some (r1, r2)) :
    Calls Try.prog 31 #[.agg #[.int .i64 a0_0, .slice A0_1 l0_1.length c0_1], .int .i64 a1] w fun e w' => ∃ v0_ : Value, e = .returned (.tuple #[v0_, .int .i64 r2]) ∧ Kd.R (Kd.int .i64) 3 w' w.heap.size (fun _ => True) v0_ r1 ∧ Below w.heap.size w w' := by
  have hu26 := Try.underlying26
  have hu50 := Try.underlying50
  have HR0_1 := Aside0.mk hr0_1
  have HC0_1 := Aside0.mk hc0_1
  clear hr0_1 hc0_1
  have HB := Aside0.mk (Below.refl w.heap.size w)
  have H : ((dag_Check.f k a0_0 l0_1).bind fun t123 => (if t123 = 0 then (if a1 < 1 then (dag_Greedy.j0 k a1 true a0_0 l0_1) else (dag_Greedy.j0 k a1 (decide (a1 > 64)) a0_0 l0_1)) else (some (([] : List Int), t123)))) = some (r1, r2) := h
  clear h
  replace H := Option.bind_eq_some_iff.mp H
  obtain ⟨t123, A30, H⟩ := H
  replace H : (if t123 = 0 then (if a1 < 1 then (dag_Greedy.j0 k a1 true a0_0 l0_1) else (dag_Greedy.j0 k a1 (decide (a1 > 64)) a0_0 l0_1)) else (some (([] : List Int), t123))) = some (r1, r2) := H
  have A3 := Aside0.mk A30
  clear A30
  by_cases c4 : t123 = 0
  · rw [if_pos c4] at H
    have c4b0 : (t123 == 0) = true := beq_iff_eq.mpr c4
    have c4b1 : (t123 != 0) = false := bne_eq_false_iff_eq.mpr c4
    clear c4
    have HC5 := Aside0.mk H
    clear H
    go_enter Try.func31, Try.ntmps31
    go_upto_region 4 with (first | ((with_reducible refine gate_dst (N := 2) rfl ?_); (try (refine gate_guard (by rfl) ?_; dsimp only)); refine box_event ?hg (N := 2) ?hd (cs := #[.int .i64 a0_0, .slice A0_1 l0_1.length c0_1]) (t := 26) ?hr ?_; (case hd => rfl); (case hg => rfl); (case hr => first | (go_simp; done) | (go_simp; rfl)); intro gb122 hg w6 hbox hb; have n0_ := Aside0.mk (below_step (by repeat (first | (with_reducible first | exact HB.out | apply below_alloc | apply pw_below_drewN | apply below_drew1) | exact HB.out)) hb); have n1_ := Aside0.mk (hbox); have n2_ := Aside0.mk ((by rw [hg]; exact (below_size (by repeat (first | (with_reducible first | exact HB.out | apply below_alloc | apply pw_below_drewN | apply below_drew1) | exact HB.out))) : w.heap.size ≤ gb122)); have n3_ := Aside0.mk ((by rw [hg]; exact (below_size (by repeat (first | (with_reducible first | exact HB.out | apply below_alloc | apply pw_below_drewN | apply below_drew1) | exact HB.out))) : w.heap.size ≤ gb122)); clear HB; have HB := n0_; have BK122 := n1_; have GW122 := n2_; have GE122 := n3_; clear n0_ n1_ n2_ n3_; clear hb hbox hg; have hcz7_0 : w6.cell? ⟨gb122, 0, none⟩ = some (.int .i64 a0_0) := (blk_cell BK122.out 0).trans rfl; have hcz7_1 : w6.cell? ⟨gb122, 1, none⟩ = some (.slice A0_1 l0_1.length c0_1) := (blk_cell BK122.out 1).trans rfl; have hfz7_0 := blk_frozen BK122.out 0; have hfz7_1 := blk_frozen BK122.out 1) | ((with_reducible refine gate_callee (f := 18) rfl ?_); refine goesL_ (some 21) rfl rfl Try.func18 (by kernel_rfl) rfl #[.agg #[.int .i64 a0_0, .slice A0_1 l0_1.length c0_1]] rfl (by (try simp only [List.map_toArray, List.map_cons, List.map_nil]); first | done | rfl | (simp only [List.length_drop, List.length_take]; rfl)) ?_; (with_reducible refine (dag_Check.calls k a0_0 _ _ l0_1 t123 _ ?side1 ?side2 A3.out).mono ?_); (case side1 => repeat (first | exact (Kd.C_below HR0_1.out HB.out) | (with_reducible refine Kd.C_alloc ?_ _) | (with_reducible refine Kd.C_drewN ?_ _) | (with_reducible refine Kd.C_drew ?_))); (case side2 => exact HC0_1.out); rintro e w8 ⟨rfl, hb⟩; refine ⟨_, rfl, ?_⟩; have n0_ := Aside0.mk (blk_below (g := gb122) (o := .cells #[.int .i64 a0_0, .slice A0_1 l0_1.length c0_1] 26 (0, 0)) (by (with_reducible repeat (first | refine blk_drewN ?_ _ | refine blk_drew ?_ | refine blk_alloc ?_ _)); exact BK122.out) hb); have n1_ := Aside0.mk (below_step (by repeat (first | (with_reducible first | exact HB.out | apply below_alloc | apply pw_below_drewN | apply below_drew1 | refine below_set ?_ GE122.out) | exact HB.out)) hb); clear BK122; clear HB; have BK122 := n0_; have HB := n1_; clear n0_ n1_; (try clear hb); (try clear hb2); (try clear hk); (try clear hi)))
    (try simp only [Act.put, List.setIfInBounds_toArray, List.set_cons_zero, List.set_cons_succ])
    go_cut [30] (fun v28 wc => ∃ (kq : Nat) (x28_4 : Bool), v28 = .bool x28_4 ∧ Aside0 (dag_Greedy.j0 kq a1 x28_4 a0_0 l0_1 = some (r1, r2)) ∧ Aside0 (kq ≤ k) ∧ Aside0 (wc.heap[gb122]? = some (.cells #[.int .i64 a0_0, (.slice A0_1 l0_1.length c0_1)] 26 (0, 0))) ∧ Aside0 (Below w.heap.size w wc))
    case first =>
      have H := HC5.out
      clear HC5
      by_cases c9 : a1 < 1
      · rw [if_pos c9] at H
        have c9b0 : decide (a1 < 1) = true := decide_eq_true c9
        clear c9
        (first | rw [c9b0] | (simp only [i64_w, i32_w]; rw [c9b0]) | skip)
        have H' := Aside0.mk H
        clear H
        go_wp2
        go_meet
        case rel => exact ⟨_, (true), (by first | rfl | (simp; done) | (simp [*]; done)), H', ⟨by first | omega | exact Nat.le_refl _⟩, ⟨by (with_reducible repeat (first | refine blk_drewN ?_ _ | refine blk_drew ?_ | refine blk_alloc ?_ _)); exact BK122.out⟩, ⟨by repeat (first | (with_reducible first | exact HB.out | apply below_alloc | apply pw_below_drewN | apply below_drew1 | refine below_set ?_ GE122.out) | exact HB.out)⟩⟩
      · rw [if_neg c9] at H
        have c9b0 : decide (a1 < 1) = false := decide_eq_false c9
        clear c9
        (first | rw [c9b0] | (simp only [i64_w, i32_w]; rw [c9b0]) | skip)
        have H' := Aside0.mk H
        clear H
        go_wp2
        go_meet
        case rel => exact ⟨_, (decide (a1 > 64)), (by first | rfl | (simp; done) | (simp [*]; done)), H', ⟨by first | omega | exact Nat.le_refl _⟩, ⟨by (with_reducible repeat (first | refine blk_drewN ?_ _ | refine blk_drew ?_ | refine blk_alloc ?_ _)); exact BK122.out⟩, ⟨by repeat (first | (with_reducible first | exact HB.out | apply below_alloc | apply pw_below_drewN | apply below_drew1 | refine below_set ?_ GE122.out) | exact HB.out)⟩⟩
    case rest =>
      clear HC5
      try clear p2
      try clear c4
      try clear c4b0
      try clear c4b1
      try clear c5
      try clear c9
      try clear c9b0
      try clear hcz7_0
      try clear hcz7_1
      try clear hfz7_0
      try clear hfz7_1
      obtain ⟨kq, x28_4, rfl, HA, HJ4, BK122, HB⟩ := hcut
      cases kq with
      | zero => exact absurd HA.out (by simp [dag_Greedy.j0])
      | succ kj4 =>
        have H := HA.out
        clear HA
        simp only [dag_Greedy.j0] at H
        by_cases c10 : x28_4 = true
        · subst c10
          have H1 : (some (([] : List Int), 3)) = some (r1, r2) := by rw [if_pos rfl] at H; exact H
          clear H
          have H := H1
          clear H1
          simp only [Option.some.injEq, Prod.mk.injEq] at H
          obtain ⟨rfl, rfl⟩ := H
          go_wp2
          go_ret2
          exact ⟨_, by first | rfl | (simp [errW_none, errW_some] <;> rfl) | (simp [*, errW_none, errW_some] <;> rfl), by first | exact Kd.R_nil _ _ _ _ _ | exact Kd.N_nil _ _ _ _ _ | exact Kd.V_nil _ _ _ _ _ | exact Kd.Q_nil _ _ _ _ _ | exact Kd.S_nil _ _ _ _ _, by repeat (first | (with_reducible first | exact HB.out | apply below_alloc | apply pw_below_drewN | apply below_drew1 | refine below_set ?_ GE122.out) | exact HB.out)⟩
        · replace c10 := Bool.eq_false_iff.mpr c10
          subst c10
          have H1 : (if 0 ≤ a0_0 then (if (a0_0 : Int).toNat ≤ 35184372088832 then (if (a0_0 : Int).toNat ≤ 11728124029610 then (dag_Greedy.l0 kj4 a1 (List.replicate (a0_0 : Int).toNat 0) (List.replicate (a0_0 : Int).toNat []) 0 a0_0 l0_1) else (none)) else (none)) else (none)) = some (r1, r2) := by rw [if_neg (show ¬ (false = true) by decide)] at H; exact H
          clear H
          have H := H1
          clear H1
          by_cases c11 : 0 ≤ a0_0
          · rw [if_pos c11] at H
            have c11b0 := eq_true c11
            have c11b1 : decide (0 ≤ a0_0) = true := decide_eq_true c11
            clear c11
            by_cases c12 : (a0_0 : Int).toNat ≤ 35184372088832
            · rw [if_pos c12] at H
              have c12b0 := eq_true c12
              have c12b1 : decide ((a0_0 : Int).toNat ≤ 35184372088832) = true := decide_eq_true c12
              clear c12
              obtain ⟨y124, hy124⟩ : ∃ y_ : List Int, y_ = (List.replicate (a0_0 : Int).toNat 0) := ⟨_, rfl⟩
              replace H : (if (a0_0 : Int).toNat ≤ 11728124029610 then (dag_Greedy.l0 kj4 a1 y124 (List.replicate (a0_0 : Int).toNat []) 0 a0_0 l0_1) else (none)) = some (r1, r2) := by first | (rw [hy124]; with_reducible exact H) | (have H2_ := (Option.bind_some _ _).symm.trans H; rw [hy124]; with_reducible exact H2_) | (have H2_ := (Option.bind_some _ _).symm.trans H; with_reducible exact H2_) | with_reducible exact H | (rw [hy124]; exact H) | exact H
              have Ny124 := Aside0.mk hy124
              clear hy124
              by_cases c13 : (a0_0 : Int).toNat ≤ 11728124029610
              · rw [if_pos c13] at H
                have c13b0 := eq_true c13
                have c13b1 : decide ((a0_0 : Int).toNat ≤ 11728124029610) = true := decide_eq_true c13
                clear c13
                obtain ⟨y127, hy127⟩ : ∃ y_ : List (List Int), y_ = (List.replicate (a0_0 : Int).toNat []) := ⟨_, rfl⟩
                replace H : (dag_Greedy.l0 kj4 a1 y124 y127 0 a0_0 l0_1) = some (r1, r2) := by first | (rw [hy127]; with_reducible exact H) | (have H2_ := (Option.bind_some _ _).symm.trans H; rw [hy127]; with_reducible exact H2_) | (have H2_ := (Option.bind_some _ _).symm.trans H; with_reducible exact H2_) | with_reducible exact H | (rw [hy127]; exact H) | exact H
                have Ny127 := Aside0.mk hy127
                clear hy127
                have H' := Aside0.mk H
                clear H
                have hcz14_0 : wc.cell? ⟨gb122, 0, none⟩ = some (.int .i64 a0_0) := (blk_cell BK122.out 0).trans rfl
                have hcz14_1 : wc.cell? ⟨gb122, 1, none⟩ = some (.slice A0_1 l0_1.length c0_1) := (blk_cell BK122.out 1).trans rfl
                have hfz14_0 := blk_frozen BK122.out 0
                have hfz14_1 := blk_frozen BK122.out 1
                go_wp2_with (first | ((with_reducible refine gate_dst (N := 33) rfl ?_); (try (refine gate_guard (by rfl) ?_; dsimp only)); refine Kd.R_make (Kd.int .i64) _ 3 rfl (N := 33) rfl 33 _ _ rfl a0_0 rfl rfl Try.underlying33 (.int .i64 0) 8 info3 rfl (by decide) (by omega) 0 (ok := fun _ => True) (okp := fun _ => True) rfl (fun _ hk => hk) trivial (of_decide_eq_true (by first | (with_reducible assumption) | assumption)) (Nat.le_trans (Nat.mul_le_mul_right _ (of_decide_eq_true (by first | (with_reducible assumption) | assumption) : a0_0.toNat ≤ 35184372088832)) (by omega)) (Below.refl _ _) (Nat.le_refl _) ?_; intro v125 w15 ho16 hb hg_ hnew_; clear hg_ hnew_; (first | rw [← Ny124.out] at ho16 | (simp only [Int.reduceToNat] at ho16; rw [← Ny124.out] at ho16)); have n0_ := Aside0.mk (Kd.R_lower ho16 (below_size (by repeat (first | (with_reducible first | exact HB.out | apply below_alloc | apply pw_below_drewN | apply below_drew1 | refine below_set ?_ GE122.out) | exact HB.out)))); have n1_ := Aside0.mk (blk_below (g := gb122) (o := .cells #[.int .i64 a0_0, .slice A0_1 l0_1.length c0_1] 26 (0, 0)) (by (with_reducible repeat (first | refine blk_drewN ?_ _ | refine blk_drew ?_ | refine blk_alloc ?_ _)); exact BK122.out) hb); have n2_ := Aside0.mk (below_step (by repeat (first | (with_reducible first | exact HB.out | apply below_alloc | apply pw_below_drewN | apply below_drew1 | refine below_set ?_ GE122.out) | exact HB.out)) hb); clear BK122; clear HB; have HO126 := n0_; have BK122 := n1_; have HB := n2_; clear n0_ n1_ n2_; clear hb ho16; have hcz17_0 : w15.cell? ⟨gb122, 0, none⟩ = some (.int .i64 a0_0) := (blk_cell BK122.out 0).trans rfl; have hcz17_1 : w15.cell? ⟨gb122, 1, none⟩ = some (.slice A0_1 l0_1.length c0_1) := (blk_cell BK122.out 1).trans rfl; have hfz17_0 := blk_frozen BK122.out 0; have hfz17_1 := blk_frozen BK122.out 1) | ((with_reducible refine gate_dst (N := 36) rfl ?_); (try (refine gate_guard (by rfl) ?_; dsimp only)); refine Kd.S_make (Kd.slice 3 (Kd.int .i64)) _ 33 rfl (N := 36) rfl 57 _ _ rfl a0_0 rfl rfl Try.underlying57 (.slice none 0 0) 24 info33 rfl (by decide) (by omega) [] (ok := fun _ => True) (okp := fun _ => True) ⟨_, rfl, Kd.R_nil _ _ _ _ _⟩ (fun _ hk => hk) trivial (of_decide_eq_true (by first | (with_reducible assumption) | assumption)) (Nat.le_trans (Nat.mul_le_mul_right _ (of_decide_eq_true (by first | (with_reducible assumption) | assumption) : a0_0.toNat ≤ 11728124029610)) (by omega)) (Below.refl _ _) (Nat.le_refl _) ?_; intro v128 w18 ho19 hb hg_ hnew_; clear hg_ hnew_; (first | rw [← Ny127.out] at ho19 | (simp only [Int.reduceToNat] at ho19; rw [← Ny127.out] at ho19)); have n0_ := Aside0.mk (Kd.R_below (by (with_reducible repeat (first | apply Kd.R_alloc | apply Kd.R_drewN | apply Kd.R_drew)); exact HO126.out) hb); have n1_ := Aside0.mk (Kd.S_lower (Kd.S_new' ho19 (Kd.R_lt (by (with_reducible repeat (first | apply Kd.R_alloc | apply Kd.R_drewN | apply Kd.R_drew)); exact HO126.out))) (below_size (by repeat (first | (with_reducible first | exact HB.out | apply below_alloc | apply pw_below_drewN | apply below_drew1 | refine below_set ?_ GE122.out) | exact HB.out)))); have n2_ := Aside0.mk (blk_below (g := gb122) (o := .cells #[.int .i64 a0_0, .slice A0_1 l0_1.length c0_1] 26 (0, 0)) (by (with_reducible repeat (first | refine blk_drewN ?_ _ | refine blk_drew ?_ | refine blk_alloc ?_ _)); exact BK122.out) hb); have n3_ := Aside0.mk (below_step (by repeat (first | (with_reducible first | exact HB.out | apply below_alloc | apply pw_below_drewN | apply below_drew1 | refine below_set ?_ GE122.out) | exact HB.out)) hb); clear HO126; clear BK122; clear HB; have HO126 := n0_; have HO129 := n1_; have BK122 := n2_; have HB := n3_; clear n0_ n1_ n2_ n3_; clear hb ho19; have hcz20_0 : w18.cell? ⟨gb122, 0, none⟩ = some (.int .i64 a0_0) := (blk_cell BK122.out 0).trans rfl; have hcz20_1 : w18.cell? ⟨gb122, 1, none⟩ = some (.slice A0_1 l0_1.length c0_1) := (blk_cell BK122.out 1).trans rfl; have hfz20_0 := blk_frozen BK122.out 0; have hfz20_1 := blk_frozen BK122.out 1))
                go_loopg [40] kj4 (fun kq v38 w' => ∃ (x7_2 : List Int) (x8_2 : List (List Int)) (x38_2 : Int), v38 = .int .i64 x38_2 ∧ Aside0 (dag_Greedy.l0 kq a1 x7_2 x8_2 x38_2 a0_0 l0_1 = some (r1, r2)) ∧ Aside0 (kq ≤ kj4) ∧ Aside0 (Kd.R (Kd.int .i64) 3 w' w.heap.size (fun _ => True) v125 x7_2) ∧ Aside0 (Kd.S (Kd.slice 3 (Kd.int .i64)) 33 w' w.heap.size (fun k_ => some k_ ≠ (v125 : Value).ownBlock) v128 x8_2) ∧ Aside0 (w'.heap[gb122]? = some (.cells #[.int .i64 a0_0, (.slice A0_1 l0_1.length c0_1)] 26 (0, 0))) ∧ Aside0 (Below w.heap.size w w'))
                case atStart => exact ⟨(y124), (y127), (0), (by first | rfl | (simp; done) | (simp [*]; done)), H', ⟨Nat.le_refl _⟩, ⟨by (with_reducible repeat (first | apply Kd.R_alloc | apply Kd.R_drewN | apply Kd.R_drew)); exact HO126.out⟩, ⟨by (with_reducible repeat (first | apply Kd.S_alloc | apply Kd.S_drewN | apply Kd.S_drew)); exact Kd.S_mono HO129.out (fun _ hk => (by first | exact hk.2 | exact hk.1.2 | exact hk.1.1 | exact hk.1 | exact hk | exact own_len hk.1.2 | exact own_len hk.1.1 | exact own_len hk.1 | exact own_len hk.2 | exact own_len hk))⟩, ⟨by (with_reducible repeat (first | refine blk_drewN ?_ _ | refine blk_drew ?_ | refine blk_alloc ?_ _)); exact BK122.out⟩, ⟨by repeat (first | (with_reducible first | exact HB.out | apply below_alloc | apply pw_below_drewN | apply below_drew1 | refine below_set ?_ GE122.out) | exact HB.out)⟩⟩
                case round =>
                  clear H'
                  try clear c1
                  try clear p2
                  try clear c4
                  try clear c4b0
                  try clear c4b1
                  try clear c5
                  try clear c9
                  try clear c9b0
                  try clear c10
                  try clear c11
                  try clear c11b0
                  try clear c11b1
                  try clear c12
                  try clear c12b0
                  try clear c12b1
                  try clear c13
                  try clear c13b0
                  try clear c13b1
                  try clear hcz14_0
                  try clear hcz14_1
                  try clear hcz17_0
                  try clear hcz17_1
                  try clear hcz20_0
                  try clear hcz20_1
                  try clear hcz7_0
                  try clear hcz7_1
                  try clear hfz14_0
                  try clear hfz14_1
                  try clear hfz17_0
                  try clear hfz17_1
                  try clear hfz20_0
                  try clear hfz20_1
                  try clear hfz7_0
                  try clear hfz7_1
                  try clear p2
                  obtain ⟨x7_2, x8_2, x38_2, rfl, HA, HK2, HO_7, HO_8, BK122, HB⟩ := hrel
                  cases gk with
                  | zero => exact absurd HA.out (by simp [dag_Greedy.l0])
                  | succ k2 =>
                    have H := HA.out
                    clear HA
                    simp only [dag_Greedy.l0] at H
                    by_cases c21 : x38_2 < (l0_1.length : Int)
                    · rw [if_pos c21] at H
                      have c21b0 : decide (x38_2 < (l0_1.length : Int)) = true := decide_eq_true c21
                      clear c21
                      by_cases c22 : 0 ≤ x38_2
                      · rw [if_pos c22] at H
                        have c22b0 : decide (0 ≤ x38_2) = true := decide_eq_true c22
                        clear c22
                        by_cases c23 : x38_2 < (l0_1.length : Int)
                        · rw [if_pos c23] at H
                          have c23b0 : decide (x38_2 < (l0_1.length : Int)) = true := decide_eq_true c23
                          clear c23
                          by_cases c24 : 0 ≤ ((rd_T50 l0_1 x38_2).f1)
                          · rw [if_pos c24] at H
                            have c24b0 : decide (0 ≤ ((rd_T50 l0_1 x38_2).f1)) = true := decide_eq_true c24
                            clear c24
                            by_cases c25 : ((rd_T50 l0_1 x38_2).f1) < (x7_2.length : Int)
                            · rw [if_pos c25] at H
                              have c25b0 : decide (((rd_T50 l0_1 x38_2).f1) < (x7_2.length : Int)) = true := decide_eq_true c25
                              clear c25
                              obtain ⟨y133, hy133⟩ : ∃ y_ : List Int, y_ = (x7_2.set (((rd_T50 l0_1 x38_2).f1) : Int).toNat (wrap64 ((rd x7_2 ((rd_T50 l0_1 x38_2).f1)) + 1))) := ⟨_, rfl⟩
                              replace H : (if 0 ≤ ((rd_T50 l0_1 x38_2).f0) then (if ((rd_T50 l0_1 x38_2).f0) < (x8_2.length : Int) then (if (rd_L5 x8_2 ((rd_T50 l0_1 x38_2).f0)).length < 17592186044416 then (dag_Greedy.l0 k2 a1 y133 (x8_2.set (((rd_T50 l0_1 x38_2).f0) : Int).toNat ((rd_L5 x8_2 ((rd_T50 l0_1 x38_2).f0)) ++ [(rd_T50 l0_1 x38_2).f1])) (wrap64 (x38_2 + 1)) a0_0 l0_1) else (none)) else (none)) else (none)) = some (r1, r2) := by first | (rw [hy133]; with_reducible exact H) | (have H2_ := (Option.bind_some _ _).symm.trans H; rw [hy133]; with_reducible exact H2_) | (have H2_ := (Option.bind_some _ _).symm.trans H; with_reducible exact H2_) | with_reducible exact H | (rw [hy133]; exact H) | exact H
                              have Ny133 := Aside0.mk hy133
                              clear hy133
                              by_cases c27 : 0 ≤ ((rd_T50 l0_1 x38_2).f0)
                              · rw [if_pos c27] at H
                                have c27b0 : decide (0 ≤ ((rd_T50 l0_1 x38_2).f0)) = true := decide_eq_true c27
                                clear c27
                                by_cases c28 : ((rd_T50 l0_1 x38_2).f0) < (x8_2.length : Int)
                                · rw [if_pos c28] at H
                                  have c28b0 : decide (((rd_T50 l0_1 x38_2).f0) < (x8_2.length : Int)) = true := decide_eq_true c28
                                  clear c28
                                  by_cases c29 : (rd_L5 x8_2 ((rd_T50 l0_1 x38_2).f0)).length < 17592186044416
                                  · rw [if_pos c29] at H
                                    have LMc29 := Aside0.mk c29
                                    clear c29
                                    obtain ⟨y135, hy135⟩ : ∃ y_ : List Int, y_ = ((rd_L5 x8_2 ((rd_T50 l0_1 x38_2).f0)) ++ [(rd_T50 l0_1 x38_2).f1]) := ⟨_, rfl⟩
                                    replace H : (dag_Greedy.l0 k2 a1 y133 (x8_2.set (((rd_T50 l0_1 x38_2).f0) : Int).toNat y135) (wrap64 (x38_2 + 1)) a0_0 l0_1) = some (r1, r2) := by first | (rw [hy135]; with_reducible exact H) | (have H2_ := (Option.bind_some _ _).symm.trans H; rw [hy135]; with_reducible exact H2_) | (have H2_ := (Option.bind_some _ _).symm.trans H; with_reducible exact H2_) | with_reducible exact H | (rw [hy135]; exact H) | exact H
                                    have Ny135 := Aside0.mk hy135
                                    clear hy135
                                    obtain ⟨y138, hy138⟩ : ∃ y_ : List (List Int), y_ = (x8_2.set (((rd_T50 l0_1 x38_2).f0) : Int).toNat y135) := ⟨_, rfl⟩
                                    replace H : (dag_Greedy.l0 k2 a1 y133 y138 (wrap64 (x38_2 + 1)) a0_0 l0_1) = some (r1, r2) := by first | (rw [hy138]; with_reducible exact H) | (have H2_ := (Option.bind_some _ _).symm.trans H; rw [hy138]; with_reducible exact H2_) | (have H2_ := (Option.bind_some _ _).symm.trans H; with_reducible exact H2_) | with_reducible exact H | (rw [hy138]; exact H) | exact H
                                    have Ny138 := Aside0.mk hy138
                                    clear hy138
                                    have H' := Aside0.mk H
                                    clear H
                                    have p130 : 0 ≤ (x38_2 : Int) := of_decide_eq_true (by first | (with_reducible assumption) | assumption)
                                    have q130 : x38_2 < (l0_1.length : Int) := of_decide_eq_true (by first | (with_reducible assumption) | assumption)
                                    obtain ⟨ad130, e130, hx130_0, hx130_1⟩ := at_T50 HR0_1.out x38_2 p130 q130
                                    cases e130
                                    replace hx130_0 := (HB.out.cell (World.block_lt_of_cell? w _ hx130_0)).trans hx130_0
                                    replace hx130_1 := (HB.out.cell (World.block_lt_of_cell? w _ hx130_1)).trans hx130_1
                                    replace p130 := eq_true p130
                                    replace q130 := eq_true q130
                                    try go_wp2_with (first | ((with_reducible refine gate_dst (N := 10) rfl ?_); (try (refine gate_guard (by rfl) ?_; dsimp only)); refine box_event ?hg (N := 10) ?hd (cs := #[.int .i64 0, .int .i64 0]) (t := 50) ?hr ?_; (case hd => rfl); (case hg => rfl); (case hr => first | (go_simp; done) | (go_simp; rfl)); intro gb131 hg w31 hbox hb; have n0_ := Aside0.mk (Kd.R_below (by (with_reducible repeat (first | apply Kd.R_alloc | apply Kd.R_drewN | apply Kd.R_drew)); exact HO_7.out) hb); have n1_ := Aside0.mk (Kd.S_below (by (with_reducible repeat (first | apply Kd.S_alloc | apply Kd.S_drewN | apply Kd.S_drew)); exact HO_8.out) hb); have n2_ := Aside0.mk (blk_below (g := gb122) (o := .cells #[.int .i64 a0_0, .slice (some ad130) l0_1.length c0_1] 26 (0, 0)) (by (with_reducible repeat (first | refine blk_drewN ?_ _ | refine blk_drew ?_ | refine blk_alloc ?_ _)); exact BK122.out) hb); have n3_ := Aside0.mk (below_step (by repeat (first | (with_reducible first | exact HB.out | apply below_alloc | apply pw_below_drewN | apply below_drew1 | refine below_set ?_ GE122.out) | exact HB.out)) hb); have n4_ := Aside0.mk (hbox); have n5_ := Aside0.mk ((by rw [hg]; exact (below_size (by repeat (first | (with_reducible first | exact HB.out | apply below_alloc | apply pw_below_drewN | apply below_drew1 | refine below_set ?_ GE122.out) | exact HB.out))) : w.heap.size ≤ gb131)); have n6_ := Aside0.mk ((by rw [hg]; exact (below_size (by repeat (first | (with_reducible first | exact HB.out | apply below_alloc | apply pw_below_drewN | apply below_drew1 | refine below_set ?_ GE122.out) | exact HB.out))) : w.heap.size ≤ gb131)); have n7_ := Aside0.mk ((by rw [hg]; exact Nat.ne_of_lt (blk_lt (g := gb122) (o := .cells #[.int .i64 a0_0, .slice (some ad130) l0_1.length c0_1] 26 (0, 0)) (by (with_reducible repeat (first | refine blk_drewN ?_ _ | refine blk_drew ?_ | refine blk_alloc ?_ _)); exact BK122.out)) : gb122 ≠ gb131)); have n8_ := Aside0.mk ((by rw [hg]; exact Nat.ne_of_gt (blk_lt (g := gb122) (o := .cells #[.int .i64 a0_0, .slice (some ad130) l0_1.length c0_1] 26 (0, 0)) (by (with_reducible repeat (first | refine blk_drewN ?_ _ | refine blk_drew ?_ | refine blk_alloc ?_ _)); exact BK122.out)) : gb131 ≠ gb122)); clear HO_7; clear HO_8; clear BK122; clear HB; have HO_7 := n0_; have HO_8 := n1_; have BK122 := n2_; have HB := n3_; have BK131 := n4_; have GW131 := n5_; have GE131 := n6_; have NB122_131 := n7_; have NB131_122 := n8_; clear n0_ n1_ n2_ n3_ n4_ n5_ n6_ n7_ n8_; clear hb hbox hg; have hnb32 := NB131_122.out; have hnc32 := NB122_131.out; have hcz33_0 : w31.cell? ⟨gb131, 0, none⟩ = some (.int .i64 0) := (blk_cell BK131.out 0).trans rfl; have hcz33_1 : w31.cell? ⟨gb131, 1, none⟩ = some (.int .i64 0) := (blk_cell BK131.out 1).trans rfl; have hfz33_0 := blk_frozen BK131.out 0; have hfz33_1 := blk_frozen BK131.out 1) | ((with_reducible refine gate_store (t := 50) (p := 10) rfl ?_); refine store_event (t := 50) (p := 10) (v := ?vo_w34) (w1 := ((w31.setCell ⟨gb131, 0, none⟩ (.int .i64 ((rd_T50 l0_1 x38_2).f0))).setCell ⟨gb131, 1, none⟩ (.int .i64 ((rd_T50 l0_1 x38_2).f1)))) ?hg ?ho ?hn ?hr ?_; (case ho => rfl); (case hg => rfl); (case hn => rfl); (case hr => first | (go_simp; done) | (go_simp; rfl)); intro w34 hw; have n0_ : Aside0 (Kd.R (Kd.int .i64) 3 w34 w.heap.size (fun _ => True) v125 x7_2) := ⟨(by rw [hw]; exact (by (with_reducible repeat (first | apply Kd.R_alloc | apply Kd.R_drewN | apply Kd.R_drew)); exact Kd.R_mono (Kd.R_far (p := ⟨gb131, 1, none⟩) (Kd.R_far (p := ⟨gb131, 0, none⟩) (Kd.R_types HO_7.out BK131.out (by decide)) (fun _ hk => hk.2) (.int .i64 ((rd_T50 l0_1 x38_2).f0))) (fun _ hk => hk.2) (.int .i64 ((rd_T50 l0_1 x38_2).f1))) (fun _ hk => trivial)))⟩; have n1_ : Aside0 (Kd.S (Kd.slice 3 (Kd.int .i64)) 33 w34 w.heap.size (fun k_ => some k_ ≠ (v125 : Value).ownBlock) v128 x8_2) := ⟨(by rw [hw]; exact (by (with_reducible repeat (first | apply Kd.S_alloc | apply Kd.S_drewN | apply Kd.S_drew)); exact Kd.S_mono (Kd.S_far (p := ⟨gb131, 1, none⟩) (Kd.S_far (p := ⟨gb131, 0, none⟩) (Kd.S_types HO_8.out BK131.out (by decide)) (fun _ hk => hk.2) (.int .i64 ((rd_T50 l0_1 x38_2).f0))) (fun _ hk => hk.2) (.int .i64 ((rd_T50 l0_1 x38_2).f1))) (fun _ hk => (by first | exact hk.1 | exact hk.1.2 | exact hk.1.1 | exact hk.2 | exact hk | exact own_len hk.1.2 | exact own_len hk.1.1 | exact own_len hk.1 | exact own_len hk.2 | exact own_len hk))))⟩; have n2_ : Aside0 (w34.heap[gb122]? = some (.cells #[.int .i64 a0_0, .slice (some ad130) l0_1.length c0_1] 26 (0, 0))) := ⟨(by rw [hw]; exact (by (with_reducible repeat (first | refine blk_drewN ?_ _ | refine blk_drew ?_ | refine blk_alloc ?_ _)); refine blk_far ?_ NB122_131.out _; (with_reducible repeat (first | refine blk_drewN ?_ _ | refine blk_drew ?_ | refine blk_alloc ?_ _)); refine blk_far ?_ NB122_131.out _; (with_reducible repeat (first | refine blk_drewN ?_ _ | refine blk_drew ?_ | refine blk_alloc ?_ _)); exact BK122.out))⟩; have n3_ : Aside0 (w34.heap[gb131]? = some (.cells #[.int .i64 ((rd_T50 l0_1 x38_2).f0), .int .i64 ((rd_T50 l0_1 x38_2).f1)] 50 (0, 0))) := ⟨(by rw [hw]; exact (by (with_reducible repeat (first | refine blk_drewN ?_ _ | refine blk_drew ?_ | refine blk_alloc ?_ _)); refine blk_put (cs := #[.int .i64 ((rd_T50 l0_1 x38_2).f0), .int .i64 0]) ?_ 1 _ rfl; (with_reducible repeat (first | refine blk_drewN ?_ _ | refine blk_drew ?_ | refine blk_alloc ?_ _)); refine blk_put (cs := #[.int .i64 0, .int .i64 0]) ?_ 0 _ rfl; (with_reducible repeat (first | refine blk_drewN ?_ _ | refine blk_drew ?_ | refine blk_alloc ?_ _)); exact BK131.out))⟩; have n4_ : Aside0 (Below w.heap.size w w34) := ⟨(by rw [hw]; exact (by repeat (first | (with_reducible first | exact HB.out | apply below_alloc | apply pw_below_drewN | apply below_drew1 | refine below_set ?_ GE122.out | refine below_set ?_ GE131.out) | exact HB.out)))⟩; clear hw; clear HO_7; clear HO_8; clear BK122; clear BK131; clear HB; have HO_7 := n0_; have HO_8 := n1_; have BK122 := n2_; have BK131 := n3_; have HB := n4_; clear n0_ n1_ n2_ n3_ n4_; have hcz35_0 : w34.cell? ⟨gb131, 0, none⟩ = some (.int .i64 ((rd_T50 l0_1 x38_2).f0)) := (blk_cell BK131.out 0).trans rfl; have hcz35_1 : w34.cell? ⟨gb131, 1, none⟩ = some (.int .i64 ((rd_T50 l0_1 x38_2).f1)) := (blk_cell BK131.out 1).trans rfl; have hfz35_0 := blk_frozen BK131.out 0; have hfz35_1 := blk_frozen BK131.out 1; obtain ⟨Ao36, co36, eo36⟩ := Kd.R_slice HO_7.out; subst eo36; have p132 : 0 ≤ (((rd_T50 l0_1 x38_2).f1) : Int) := of_decide_eq_true (by first | (with_reducible assumption) | assumption); have q132 : ((rd_T50 l0_1 x38_2).f1) < (x7_2.length : Int) := of_decide_eq_true (by first | (with_reducible assumption) | assumption); obtain ⟨ad132, e132, hx132_0⟩ := Kd.at_int (Kd.R_reads' HO_7.out).2.2 ((rd_T50 l0_1 x38_2).f1) p132 q132; cases e132; replace p132 := eq_true p132; replace q132 := eq_true q132; have p26 : 0 ≤ (((rd_T50 l0_1 x38_2).f1) : Int) := of_decide_eq_true (by first | (with_reducible assumption) | assumption); have q26 : (((rd_T50 l0_1 x38_2).f1) : Int) < ((x7_2.length : Int) : Int) := of_decide_eq_true (by first | (with_reducible assumption) | assumption); obtain ⟨go26, co26, eo26, gb26, gl26, cl26, HG26⟩ := Kd.R_form HO_7.out (by omega); (first | cases eo26 | (injection eo26 with ea_ en_ ec_; (first | subst ea_ | (injection ea_ with ea_; subst ea_)); subst ec_; clear en_)); have GB26 := Aside0.mk gb26; have GG26 := Aside0.mk HG26; clear gb26 gl26 HG26; (first | simp only [add_plain] at hx132_0 | skip); obtain ⟨hx26_0, hf26_0⟩ := Kd.R_celln 0 HO_7.out (((rd_T50 l0_1 x38_2).f1) : Int) p26 q26; replace p26 := eq_true p26; replace q26 := eq_true q26; obtain ⟨hy37_, hz37_⟩ := Kd.R_celln 0 HO_7.out (((rd_T50 l0_1 x38_2).f1) : Int) (of_decide_eq_true (by first | (with_reducible assumption) | assumption)) (of_decide_eq_true (by first | (with_reducible assumption) | assumption)); have HP37 := Kd.R_putg HO_7.out (((rd_T50 l0_1 x38_2).f1) : Int) (wrap64 ((rd x7_2 ((rd_T50 l0_1 x38_2).f1)) + 1))) | ((with_reducible refine gate_store (t := 3) (p := 50) rfl ?_); refine store_event (t := 3) (p := 50) (v := ?vo_w38) (w1 := (w34.setCell ⟨go26, (((rd_T50 l0_1 x38_2).f1) : Int).toNat, none⟩ (.int .i64 (wrap64 ((rd x7_2 ((rd_T50 l0_1 x38_2).f1)) + 1))))) ?hg ?ho ?hn ?hr ?_; (case ho => rfl); (case hg => rfl); (case hn => rfl); (case hr => first | (go_simp; done) | (go_simp; rfl)); intro w38 hw; have hg : w34.grownBy w38 (some go26) := (by rw [hw]; exact HP37.2); have hp_ : Kd.R (Kd.int .i64) 3 w38 w.heap.size (fun _ => True) (.slice (some ⟨go26, 0, none⟩) x7_2.length co36) y133 := (by rw [hw, Ny133.out]; exact HP37.1); clear HP37; have n0_ := Aside0.mk (hp_); have n1_ := Aside0.mk (Kd.S_after (v := (.slice (some ⟨go26, 0, none⟩) x7_2.length co36)) (v1 := (.slice (some ⟨go26, 0, none⟩) x7_2.length co36)) (ok := (fun _ => True)) (by (with_reducible repeat (first | apply Kd.S_alloc | apply Kd.S_drewN | apply Kd.S_drew)); exact Kd.S_mono HO_8.out (fun _ hk => ⟨trivial, (by first | exact hk | exact hk.1.2 | exact hk.1.1 | exact hk.1 | exact hk.2 | exact own_len hk.1.2 | exact own_len hk.1.1 | exact own_len hk.1 | exact own_len hk.2 | exact own_len hk)⟩)) hg (.inl rfl)); have n2_ := Aside0.mk (blk_grown (g := gb122) (o := .cells #[.int .i64 a0_0, .slice (some ad130) l0_1.length c0_1] 26 (0, 0)) (by (with_reducible repeat (first | refine blk_drewN ?_ _ | refine blk_drew ?_ | refine blk_alloc ?_ _)); exact BK122.out) hg (Kd.R_ne HO_7.out BK122.out (by decide))); have n3_ := Aside0.mk (blk_grown (g := gb131) (o := .cells #[.int .i64 ((rd_T50 l0_1 x38_2).f0), .int .i64 ((rd_T50 l0_1 x38_2).f1)] 50 (0, 0)) (by (with_reducible repeat (first | refine blk_drewN ?_ _ | refine blk_drew ?_ | refine blk_alloc ?_ _)); exact BK131.out) hg (Kd.R_ne HO_7.out BK131.out (by decide))); have n4_ := Aside0.mk ((by rw [hw]; exact below_set (HB.out) GB26.out : Below w.heap.size w w38)); clear HO_7; clear HO_8; clear BK122; clear BK131; clear HB; have HO_7 := n0_; have HO_8 := n1_; have BK122 := n2_; have BK131 := n3_; have HB := n4_; clear n0_ n1_ n2_ n3_ n4_; clear hg hw hp_))
                                    have n0_ := Aside0.mk (Kd.R_drew HO_7.out)
                                    have n1_ := Aside0.mk (Kd.S_drew HO_8.out)
                                    have n2_ := Aside0.mk (blk_drew BK122.out)
                                    have n3_ := Aside0.mk (blk_drew BK131.out)
                                    have n4_ := Aside0.mk (below_drew1 HB.out)
                                    clear HO_7
                                    clear HO_8
                                    clear BK122
                                    clear BK131
                                    clear HB
                                    have HO_7 := n0_
                                    have HO_8 := n1_
                                    have BK122 := n2_
                                    have BK131 := n3_
                                    have HB := n4_
                                    clear n0_ n1_ n2_ n3_ n4_
                                    obtain ⟨Ao40, co40, eo40⟩ := Kd.S_slice HO_8.out
                                    (first | subst eo40 | (injection eo40 with f1_ f2_ f3_; have f4_ := f1_.symm; have f5_ := f3_.symm; clear f1_ f2_ f3_; subst f4_; subst f5_))
                                    have p134 : 0 ≤ (((rd_T50 l0_1 x38_2).f0) : Int) := of_decide_eq_true (by first | (with_reducible assumption) | assumption)
                                    have q134 : ((rd_T50 l0_1 x38_2).f0) < (x8_2.length : Int) := of_decide_eq_true (by first | (with_reducible assumption) | assumption)
                                    obtain ⟨ad134, A134_0, c134_0, e134, hx134_0, hl134_0, hi134_0⟩ := at_L5 (Kd.S_reads' HO_8.out).2.2 ((rd_T50 l0_1 x38_2).f0) p134 q134
                                    cases e134
                                    obtain ⟨ce134, hce134, hMe134, hcc134⟩ := Kd.S_get HO_8.out [] ((rd_T50 l0_1 x38_2).f0) p134 (by first | exact q134 | exact of_decide_eq_true (by first | (with_reducible assumption) | assumption) | (have e_ := (Kd.S_reads' HO_8.out).1; omega))
                                    obtain ⟨ve134_0, rfl, ge134_0⟩ := hMe134
                                    have hv134_0 := hcc134 0 _ rfl
                                    rw [Nat.add_zero, show ((Kd.slice 3 (Kd.int .i64))).sz = 1 from rfl, Nat.mul_one] at hv134_0
                                    replace hv134_0 := Option.some.inj (hv134_0.symm.trans hx134_0)
                                    rw [hv134_0] at ge134_0
                                    have HL134_0 := Aside0.mk (show Kd.R (Kd.int .i64) 3 _ _ _ _ (rd_L5 x8_2 ((rd_T50 l0_1 x38_2).f0)) from ge134_0)
                                    clear hv134_0 ge134_0
                                    have HX134_0 := Aside0.mk hx134_0
                                    clear hcc134 hce134
                                    have HR134_0 := Aside0.mk hi134_0
                                    have HC134_0 := Aside0.mk hl134_0
                                    clear hi134_0 hl134_0
                                    replace p134 := eq_true p134
                                    replace q134 := eq_true q134
                                    have n_ := Aside0.mk (Kd.S_mono (ok' := (fun k_ => some k_ ≠ (.slice (some ⟨go26, 0, none⟩) x7_2.length co36 : Value).ownBlock)) HO_8.out (fun k_ hk => (by first | exact hk.2 | exact hk.1.2 | exact hk.1.1 | exact hk.1 | exact hk | exact own_len hk.1.2 | exact own_len hk.1.1 | exact own_len hk.1 | exact own_len hk.2 | exact own_len hk)))
                                    clear HO_8
                                    have HO_8 := n_
                                    clear n_
                                    obtain ⟨go41, co41, eo41, gb41, gl41, cl41, HG41⟩ := Kd.S_form HO_8.out (by have h_ : (((rd_T50 l0_1 x38_2).f0) : Int) < ((x8_2.length : Int) : Int) := of_decide_eq_true (by first | (with_reducible assumption) | assumption); have h2_ : 0 ≤ (((rd_T50 l0_1 x38_2).f0) : Int) := (of_decide_eq_true (by first | (with_reducible assumption) | assumption)); omega)
                                    (first | cases eo41 | (injection eo41 with ea_ en_ ec_; (first | subst ea_ | (injection ea_ with ea_; subst ea_)); subst ec_; clear en_))
                                    have GB41 := Aside0.mk gb41
                                    have GG41 := Aside0.mk HG41
                                    clear gb41 gl41 HG41
                                    (first | simp only [add_plain] at hx134_0 | skip)
                                    obtain ⟨oki41, ce41, hcl41, hM41, hcc41, _, _, hH41⟩ := Kd.S_elem HO_8.out [] (((rd_T50 l0_1 x38_2).f0) : Int) (of_decide_eq_true (by first | (with_reducible assumption) | assumption)) (by have h_ : (((rd_T50 l0_1 x38_2).f0) : Int) < ((x8_2.length : Int) : Int) := of_decide_eq_true (by first | (with_reducible assumption) | assumption); first | exact h_ | (have e_ := (Kd.S_reads' HO_8.out).1; omega) | simpa using h_)
                                    obtain ⟨ve41_0, rfl, ge41_0⟩ := hM41
                                    have hv41 := hcc41 0 _ rfl
                                    have hX41 := HX134_0.out
                                    (try simp only [add_plain] at hX41)
                                    (try simp only [Nat.add_zero] at hv41)
                                    (try rw [show ((Kd.slice 3 (Kd.int .i64))).sz = 1 from rfl, Nat.mul_one] at hv41)
                                    replace hv41 := Option.some.inj (hv41.symm.trans hX41)
                                    subst hv41
                                    clear hX41 hcc41 hcl41
                                    have UU41 := Aside0.mk (show Kd.R (Kd.int .i64) 3 _ w.heap.size oki41 (.slice A134_0 (rd_L5 x8_2 ((rd_T50 l0_1 x38_2).f0)).length c134_0) (rd_L5 x8_2 ((rd_T50 l0_1 x38_2).f0)) from ge41_0)
                                    have HH41 := Aside0.mk hH41
                                    have HN41 := Aside0.mk (Kd.S_reads' HO_8.out).1
                                    clear hH41 ge41_0
                                    refine start_ (n := 14) (S := fun w' => w'.cell? ⟨gb131, 0, none⟩ = some (.int .i64 ((rd_T50 l0_1 x38_2).f0)) ∧ w'.cell? ⟨gb131, 1, none⟩ = some (.int .i64 ((rd_T50 l0_1 x38_2).f1)) ∧ w'.cell? ⟨go41, (((rd_T50 l0_1 x38_2).f0)).toNat, none⟩ = some (.slice A134_0 (rd_L5 x8_2 ((rd_T50 l0_1 x38_2).f0)).length c134_0)) (ds := [13]) #[false, false, false, false, false, false, false, false, false, false, false, false, false, false] (by kernel_rfl) rfl rfl ⟨(blk_cell BK131.out 0).trans rfl, (blk_cell BK131.out 1).trans rfl, hx134_0⟩ (fun hHeld => ?_); refine with_tabW dag_Greedy.tab12 dag_Greedy.bits12 (fun HT_ HW_ => ?_)
                                    generalize w38.drew = w39 at HO_7 HO_8 BK122 BK131 HB GG41 HH41 HL134_0 HR134_0 HX134_0 UU41 hx134_0 hHeld ⊢
                                    refine pure_ (i := 0) (N := some 51) (v := ?_) (a' := ?_) #[true, false, false, false, false, false, false, false, false, false, false, false, false, false] rfl rfl (any_of HT_.out (by kernel_rfl)) (fun _ _ _ h => h) (Or.inl ⟨by rfl, ?_⟩) ?_ ?_
                                    rotate_left
                                    · intro w'
                                      go_simp
                                      with_reducible rfl
                                    rotate_left
                                    · simp only [Act.put, List.setIfInBounds_toArray, List.set_cons_zero, List.set_cons_succ, i64_w, i32_w]
                                      rfl
                                    refine pure_ (i := 1) (N := some 52) (v := ?_) (a' := ?_) #[true, true, false, false, false, false, false, false, false, false, false, false, false, false] rfl rfl (any_of HT_.out (by kernel_rfl)) (fun _ _ _ h => h) (Or.inl ⟨by rfl, ?_⟩) ?_ ?_
                                    rotate_left
                                    · intro w'
                                      go_simp
                                      with_reducible rfl
                                    rotate_left
                                    · simp only [Act.put, List.setIfInBounds_toArray, List.set_cons_zero, List.set_cons_succ, i64_w, i32_w]
                                      rfl
                                    refine pure_ (i := 3) (N := some 54) (v := ?_) (a' := ?_) #[true, true, false, true, false, false, false, false, false, false, false, false, false, false] rfl rfl (any_of HT_.out (by kernel_rfl)) (fun _ _ _ h => h) (Or.inl ⟨by rfl, ?_⟩) ?_ ?_
                                    rotate_left
                                    · intro w'
                                      go_simp
                                      with_reducible rfl
                                    rotate_left
                                    · simp only [Act.put, List.setIfInBounds_toArray, List.set_cons_zero, List.set_cons_succ, i64_w, i32_w]
                                      rfl
                                    refine pure_ (i := 4) (N := some 55) (v := ?_) (a' := ?_) #[true, true, false, true, true, false, false, false, false, false, false, false, false, false] rfl rfl (any_of HT_.out (by kernel_rfl)) (fun _ _ _ h => h) (Or.inl ⟨by rfl, ?_⟩) ?_ ?_
                                    rotate_left
                                    · intro w'
                                      go_simp
                                      with_reducible rfl
                                    rotate_left
                                    · simp only [Act.put, List.setIfInBounds_toArray, List.set_cons_zero, List.set_cons_succ, i64_w, i32_w]
                                      rfl
                                    refine pure_ (i := 8) (N := some 59) (v := ?_) (a' := ?_) #[true, true, false, true, true, false, false, false, true, false, false, false, false, false] rfl rfl (any_of HT_.out (by kernel_rfl)) (fun _ _ _ h => h) (Or.inl ⟨by rfl, ?_⟩) ?_ ?_
                                    rotate_left
                                    · intro w'
                                      go_simp
                                      with_reducible rfl
                                    rotate_left
                                    · simp only [Act.put, List.setIfInBounds_toArray, List.set_cons_zero, List.set_cons_succ, i64_w, i32_w]
                                      rfl
                                    refine take_ (i := 2) (N := some 53) (v := ?_) (a' := ?_) #[true, true, true, true, true, false, false, false, true, false, false, false, false, false] rfl rfl (take_ofW HT_.out HW_.out (by kernel_rfl)) (fun _ _ _ h => h) (Or.inl ⟨by rfl, ?_⟩) hHeld ?_ ?_
                                    rotate_left
                                    · rintro w' ⟨s0, s1, s2⟩
                                      go_simp
                                      with_reducible rfl
                                    rotate_left
                                    · simp only [Act.put, List.setIfInBounds_toArray, List.set_cons_zero, List.set_cons_succ, i64_w, i32_w]
                                      rfl
                                    refine take_ (i := 5) (N := some 56) (v := ?_) (a' := ?_) #[true, true, true, true, true, true, false, false, true, false, false, false, false, false] rfl rfl (take_ofW HT_.out HW_.out (by kernel_rfl)) (fun _ _ _ h => h) (Or.inl ⟨by rfl, ?_⟩) hHeld ?_ ?_
                                    rotate_left
                                    · rintro w' ⟨s0, s1, s2⟩
                                      go_simp
                                      with_reducible rfl
                                    rotate_left
                                    · simp only [Act.put, List.setIfInBounds_toArray, List.set_cons_zero, List.set_cons_succ, i64_w, i32_w]
                                      rfl
                                    refine pure_ (i := 6) (N := some 57) (v := ?_) (a' := ?_) #[true, true, true, true, true, true, true, false, true, false, false, false, false, false] rfl rfl (any_of HT_.out (by kernel_rfl)) (fun _ _ _ h => h) (Or.inl ⟨by rfl, ?_⟩) ?_ ?_
                                    rotate_left
                                    · intro w'
                                      go_simp
                                      with_reducible rfl
                                    rotate_left
                                    · simp only [Act.put, List.setIfInBounds_toArray, List.set_cons_zero, List.set_cons_succ, i64_w, i32_w]
                                      rfl
                                    refine take_ (i := 7) (N := some 58) (v := ?_) (a' := ?_) #[true, true, true, true, true, true, true, true, true, false, false, false, false, false] rfl rfl (take_ofW HT_.out HW_.out (by kernel_rfl)) (fun _ _ _ h => h) (Or.inl ⟨by rfl, ?_⟩) hHeld ?_ ?_
                                    rotate_left
                                    · rintro w' ⟨s0, s1, s2⟩
                                      go_simp
                                      with_reducible rfl
                                    rotate_left
                                    · simp only [Act.put, List.setIfInBounds_toArray, List.set_cons_zero, List.set_cons_succ, i64_w, i32_w]
                                      rfl
                                    refine take_ (i := 9) (N := some 60) (v := ?_) (a' := ?_) #[true, true, true, true, true, true, true, true, true, true, false, false, false, false] rfl rfl (take_ofW HT_.out HW_.out (by kernel_rfl)) (fun _ _ _ h => h) (Or.inl ⟨by rfl, ?_⟩) hHeld ?_ ?_
                                    rotate_left
                                    · rintro w' ⟨s0, s1, s2⟩
                                      go_simp
                                      with_reducible rfl
                                    rotate_left
                                    · simp only [Act.put, List.setIfInBounds_toArray, List.set_cons_zero, List.set_cons_succ, i64_w, i32_w]
                                      rfl
                                    refine one_ (i := 10) (N := some 61) #[true, true, true, true, true, true, true, true, true, true, true, false, false, false] rfl rfl (one_of HT_.out (by kernel_rfl)) (by decide) (fun K hK => ?_)
                                    refine value_ (w1 := ?_) (v := ?_) (by rfl) rfl ?_ ?_
                                    rotate_left 2
                                    · go_simp
                                      constructor
                                      · rfl
                                      · rfl
                                    refine hK.out _ _ ⟨(blk_cell (blk_alloc BK131.out _) 0).trans rfl, (blk_cell (blk_alloc BK131.out _) 1).trans rfl, (World.cell?_alloc_lt _ _ _ (World.block_lt_of_cell? _ _ (hHeld.2.2))).trans (hHeld.2.2)⟩ (fun hHeld => ?_)
                                    clear hK K
                                    refine norm_ (a' := ?_) ?_ ?_
                                    rotate_left
                                    · show Act.put _ (some 61) _ = _
                                      simp only [Act.put, List.setIfInBounds_toArray, List.set_cons_zero, List.set_cons_succ, i64_w, i32_w]
                                      rfl
                                    refine one_ (i := 11) (N := some 62) #[true, true, true, true, true, true, true, true, true, true, true, true, false, false] rfl rfl (one_of HT_.out (by kernel_rfl)) (by decide) (fun K hK => ?_)
                                    refine Kd.R_append_step (Kd.int .i64) (w0 := w) w.heap.size (by rfl) (.tmp 58) (.tmp 61) 33 3 (.int .i64 0) 8 rfl Try.underlying33 info3 rfl (by decide) (by omega) (.slice A134_0 (rd_L5 x8_2 ((rd_T50 l0_1 x38_2).f0)).length c134_0) (rd_L5 x8_2 ((rd_T50 l0_1 x38_2).f0)) ((rd_T50 l0_1 x38_2).f1) [.int .i64 ((rd_T50 l0_1 x38_2).f1)] (fun k_ => oki41 k_ ∨ ((fun k_ => some k_ ≠ (.slice (some ⟨go26, 0, none⟩) x7_2.length co36 : Value).ownBlock)) k_ ∧ w39.heap.size ≤ k_) (fun _ => False) rfl rfl ?aP (fun _ hk => hk.elim) ?aF ?aO ?aB ?aS ?aL ?_
                                    (case aP => exact rfl)
                                    (case aB => exact (by repeat (first | (with_reducible first | exact HB.out | apply below_alloc | apply pw_below_drewN | apply below_drew1 | refine below_set ?_ GE122.out | refine below_set ?_ GE131.out) | exact HB.out)))
                                    (case aF => exact (fun k_ hk => .inr ⟨Kd.fresh' (Kd.R_lt (by (with_reducible repeat (first | apply Kd.R_alloc | apply Kd.R_drewN | apply Kd.R_drew)); exact HO_7.out)) k_ hk, hk⟩))
                                    (case aO => exact (by (with_reducible repeat (first | apply Kd.R_alloc | apply Kd.R_drewN | apply Kd.R_drew)); exact Kd.R_mono UU41.out (fun _ hk => .inl hk)))
                                    (case aS => exact (below_size (by repeat (first | (with_reducible first | exact HB.out | apply below_alloc | apply pw_below_drewN | apply below_drew1 | refine below_set ?_ GE122.out | refine below_set ?_ GE131.out) | exact HB.out))))
                                    (case aL => have := LMc29.out; omega)
                                    intro v136 w42 ho hb hg hat
                                    (first | have HS2_ := cell_grown hg (hHeld.2.2) (by first | (rw [add_block]; exact (fun e_ => ((HL134_0.out.1 _ e_.symm).2) rfl)) | (show some (Addr.add _ _).block ≠ _; rw [add_block]; exact (fun e_ => ((HL134_0.out.1 _ e_.symm).2) rfl)) | exact (fun e_ => ((HL134_0.out.1 _ e_.symm).2) rfl)) | have HS2_ := cell_grown hg (cell_unalloc (hHeld.2.2) (by first | (rw [add_block]; exact Kd.S_lt HO_8.out _ rfl) | (show (Addr.add _ _).block < _; rw [add_block]; exact Kd.S_lt HO_8.out _ rfl) | exact Kd.S_lt HO_8.out _ rfl)) (by first | (rw [add_block]; exact (fun e_ => ((HL134_0.out.1 _ e_.symm).2) rfl)) | (show some (Addr.add _ _).block ≠ _; rw [add_block]; exact (fun e_ => ((HL134_0.out.1 _ e_.symm).2) rfl)) | exact (fun e_ => ((HL134_0.out.1 _ e_.symm).2) rfl)))
                                    rw [← Ny135.out] at ho
                                    have n0_ := Aside0.mk (Kd.R_grown2 (by (with_reducible repeat (first | apply Kd.R_alloc | apply Kd.R_drewN | apply Kd.R_drew)); exact HO_7.out) rfl hg (fun k_ e_ => (HL134_0.out.1 k_ e_).1.2))
                                    have n1_ := Aside0.mk (blk_grown (g := gb122) (o := .cells #[.int .i64 a0_0, .slice (some ad130) l0_1.length c0_1] 26 (0, 0)) (by (with_reducible repeat (first | refine blk_drewN ?_ _ | refine blk_drew ?_ | refine blk_alloc ?_ _)); exact BK122.out) hg (Kd.R_ne HL134_0.out BK122.out (by decide)))
                                    have n2_ := Aside0.mk (blk_grown (g := gb131) (o := .cells #[.int .i64 ((rd_T50 l0_1 x38_2).f0), .int .i64 ((rd_T50 l0_1 x38_2).f1)] 50 (0, 0)) (by (with_reducible repeat (first | refine blk_drewN ?_ _ | refine blk_drew ?_ | refine blk_alloc ?_ _)); exact BK131.out) hg (Kd.R_ne HL134_0.out BK131.out (by decide)))
                                    have n3_ := Aside0.mk (hb)
                                    have n4_ := Aside0.mk (Kd.H_grown (Kd.H_widen (by repeat (first | exact HH41.out | refine Kd.H_alloc ?_ _ | refine Kd.H_drewN ?_ _ | refine Kd.H_drew ?_))) hg (fun k_ e_ => .inl (UU41.out.1 k_ e_)))
                                    have n5_ := Aside0.mk (ho)
                                    clear HO_7
                                    clear BK122
                                    clear BK131
                                    clear HB
                                    clear HH41
                                    clear HO_8
                                    clear UU41
                                    clear HL134_0
                                    have HO_7 := n0_
                                    have BK122 := n1_
                                    have BK131 := n2_
                                    have HB := n3_
                                    have HH41 := n4_
                                    have HO137 := n5_
                                    clear n0_ n1_ n2_ n3_ n4_ n5_
                                    clear ho hb hg hat
                                    have p30 : 0 ≤ (((rd_T50 l0_1 x38_2).f0) : Int) := of_decide_eq_true (by first | (with_reducible assumption) | assumption)
                                    have q30 : (((rd_T50 l0_1 x38_2).f0) : Int) < ((x8_2.length : Int) : Int) := of_decide_eq_true (by first | (with_reducible assumption) | assumption)
                                    replace p30 := eq_true p30
                                    replace q30 := eq_true q30
                                    obtain ⟨Ao45, co45, eo45⟩ := Kd.R_slice HO137.out
                                    (first | subst eo45 | (injection eo45 with f1_ f2_ f3_; have f4_ := f1_.symm; have f5_ := f3_.symm; clear f1_ f2_ f3_; subst f4_; subst f5_))
                                    obtain ⟨_, _, hraw43, _, _, hcc43, _⟩ := Kd.H_raw HH41.out (of_decide_eq_true (by first | (with_reducible assumption) | assumption)) (by have h_ : (((rd_T50 l0_1 x38_2).f0) : Int) < ((x8_2.length : Int) : Int) := of_decide_eq_true (by first | (with_reducible assumption) | assumption); first | exact h_ | (have e_ := (HN41.out); omega) | simpa using h_)
                                    obtain ⟨_, hfr43⟩ := Kd.H_at HH41.out (of_decide_eq_true (by first | (with_reducible assumption) | assumption)) (by have h_ : (((rd_T50 l0_1 x38_2).f0) : Int) < ((x8_2.length : Int) : Int) := of_decide_eq_true (by first | (with_reducible assumption) | assumption); first | exact h_ | (have e_ := (HN41.out); omega) | simpa using h_)
                                    have hx43_0 := hcc43 0 _ rfl
                                    have hf43_0 := hfr43 0
                                    (try simp only [Nat.add_zero] at hx43_0 hf43_0)
                                    (try rw [show ((Kd.slice 3 (Kd.int .i64))).sz = 1 from rfl, Nat.mul_one] at hx43_0)
                                    (try rw [show ((Kd.slice 3 (Kd.int .i64))).sz = 1 from rfl, Nat.mul_one] at hf43_0)
                                    have HP43 := Kd.S_seg0 HH41.out (of_decide_eq_true (by first | (with_reducible assumption) | assumption)) (by have h_ : (((rd_T50 l0_1 x38_2).f0) : Int) < ((x8_2.length : Int) : Int) := of_decide_eq_true (by first | (with_reducible assumption) | assumption); first | exact h_ | (have e_ := (HN41.out); omega) | simpa using h_) (seg := [.slice Ao45 y135.length co45]) (j := 0) (show 1 ≤ 1 from by decide) (x' := y135) (Kd.M_row HO137.out) (fun _ hk => hk)
                                    (try simp only [show ((Kd.slice 3 (Kd.int .i64))).sz = 1 from rfl, Nat.mul_one, Nat.add_zero] at HP43)
                                    clear hcc43 hfr43
                                    have HNB122_go41 := Aside0.mk (show gb122 ≠ go41 from by have h_ := Kd.R_ne hraw43 BK122.out (by decide); intro e_; exact h_ (by rw [e_]; rfl))
                                    have HNB131_go41 := Aside0.mk (show gb131 ≠ go41 from by have h_ := Kd.R_ne hraw43 BK131.out (by decide); intro e_; exact h_ (by rw [e_]; rfl))
                                    have HS43 := HP43.1
                                    rw [← Ny138.out] at HS43
                                    have HQ43 := Aside0.mk HS43
                                    obtain ⟨_, hgg43⟩ := Kd.R_typed hraw43 go41 rfl
                                    have GG43_ := Aside0.mk hgg43
                                    clear HP43 HS43 hgg43
                                    refine hK.out _ _ ⟨(blk_cell BK131.out 0).trans rfl, (blk_cell BK131.out 1).trans rfl, HS2_⟩ (fun hHeld => ?_)
                                    clear hK K
                                    refine norm_ (a' := ?_) ?_ ?_
                                    rotate_left
                                    · show Act.put _ (some 62) _ = _
                                      simp only [Act.put, List.setIfInBounds_toArray, List.set_cons_zero, List.set_cons_succ, i64_w, i32_w]
                                      rfl
                                    refine pure_ (i := 12) (N := some 63) (v := ?_) (a' := ?_) #[true, true, true, true, true, true, true, true, true, true, true, true, true, false] rfl rfl (any_of HT_.out (by kernel_rfl)) (fun _ _ _ h => h) (Or.inl ⟨by rfl, ?_⟩) ?_ ?_
                                    rotate_left
                                    · intro w'
                                      go_simp
                                      with_reducible rfl
                                    rotate_left
                                    · simp only [Act.put, List.setIfInBounds_toArray, List.set_cons_zero, List.set_cons_succ, i64_w, i32_w]
                                      rfl
                                    refine last_ (i := 13) (N := none) #[true, true, true, true, true, true, true, true, true, true, true, true, true, true] rfl rfl (one_of HT_.out (by kernel_rfl)) (by decide) (fun K hK => ?_)
                                    refine skip_ (w1 := ?_) (by rfl) rfl ?_ ?_
                                    rotate_left
                                    · go_simp
                                      rfl
                                    refine hK.out _ _ ?_
                                    clear hK K
                                    refine done_ (done_of HT_.out (by kernel_rfl)) ?_
                                    try go_wp2
                                    go_roundg k2
                                    case measure => have := HJ4.out; have := HK2.out; omega
                                    case rel => exact ⟨(y133), (y138), (wrap64 (x38_2 + 1)), (by first | rfl | (simp; done) | (simp [*]; done)), H', ⟨by have := HJ4.out; have := HK2.out; omega⟩, ⟨by (with_reducible repeat (first | apply Kd.R_alloc | apply Kd.R_drewN | apply Kd.R_drew)); exact Kd.R_mono (Kd.R_far (p := ⟨go41, (((rd_T50 l0_1 x38_2).f0) : Int).toNat, none⟩) (Kd.R_types HO_7.out GG43_.out (by decide)) (fun _ hk => hk.2) (.slice Ao45 y135.length co45)) (fun _ hk => trivial)⟩, ⟨by (with_reducible repeat (first | apply Kd.S_alloc | apply Kd.S_drewN | apply Kd.S_drew)); exact HQ43.out⟩, ⟨by (with_reducible repeat (first | refine blk_drewN ?_ _ | refine blk_drew ?_ | refine blk_alloc ?_ _)); refine blk_far ?_ HNB122_go41.out _; (with_reducible repeat (first | refine blk_drewN ?_ _ | refine blk_drew ?_ | refine blk_alloc ?_ _)); exact BK122.out⟩, ⟨by repeat (first | (with_reducible first | exact HB.out | apply below_alloc | apply pw_below_drewN | apply below_drew1 | refine below_set ?_ GB41.out | refine below_set ?_ GE122.out | refine below_set ?_ GE131.out) | exact HB.out)⟩⟩
                                  · rw [if_neg c29] at H
                                    exact absurd H (by simp)
                                · rw [if_neg c28] at H
                                  exact absurd H (by simp)
                              · rw [if_neg c27] at H
                                exact absurd H (by simp)
                            · rw [if_neg c25] at H
                              exact absurd H (by simp)
                          · rw [if_neg c24] at H
                            exact absurd H (by simp)
                        · rw [if_neg c23] at H
                          exact absurd H (by simp)
                      · rw [if_neg c22] at H
                        exact absurd H (by simp)
                    · rw [if_neg c21] at H
                      have c21b0 : decide (x38_2 < (l0_1.length : Int)) = false := decide_eq_false c21
                      clear c21
                      have HX := Aside0.mk H
                      clear H
                      obtain ⟨A46, co46, eo46⟩ := Kd.R_slice HO_7.out
                      subst eo46
                      obtain ⟨A47, co47, eo47⟩ := Kd.S_slice HO_8.out
                      subst eo47
                      go_wp2_with (first | ((with_reducible refine gate_dst (N := 66) rfl ?_); (try (refine gate_guard (by rfl) ?_; dsimp only)); refine box_event ?hg (N := 66) ?hd (cs := #[.slice none 0 0, LESS]) (t := 63) ?hr ?_; (case hd => rfl); (case hg => rfl); (case hr => first | (go_simp; done) | (go_simp; rfl)); intro gh hg w50 hbox hb; obtain ⟨M, HG⟩ : ∃ M, Aside0 (GI w M gh gb122 #[.int .i64 a0_0, .slice A0_1 l0_1.length c0_1] (.slice A46 x7_2.length co46) (.slice A47 x8_2.length co47) (.slice none 0 0) (.slice none 0 0) (.slice none 0 0) w50 x7_2 x8_2 [] [] []) := ⟨_, ⟨GI.start HB.out HO_7.out HO_8.out BK122.out hb hg hbox⟩⟩; clear hbox hb HB HO_7 HO_8 BK122; have hcz50_0 : w50.cell? ⟨gb122, 0, none⟩ = some (.int .i64 a0_0) := (blk_cell HG.out.dblk 0).trans rfl; clear hg))
                      go_loopg [69] k2 (fun kq v69 w' => ∃ (vH : Value) (Hp : List Int) (i : Int), v69 = .int .i64 i ∧ Aside0 (dag_Greedy.l1 kq a1 a0_0 x7_2 x8_2 Hp i = some (r1, r2)) ∧ Aside0 (kq ≤ k2) ∧ Aside0 (GI w M gh gb122 #[.int .i64 a0_0, .slice A0_1 l0_1.length c0_1] (.slice A46 x7_2.length co46) (.slice A47 x8_2.length co47) (.slice none 0 0) vH (.slice none 0 0) w' x7_2 x8_2 [] Hp []))
                      case atStart => exact ⟨_, [], 0, rfl, HX, ⟨Nat.le_refl _⟩, HG⟩
                      case round =>
                        clear HX HG
                        try clear hcz50_0
                        obtain ⟨vH, Hp, i, rfl, HA, HK3, HG⟩ := hrel
                        cases gk with
                        | zero => exact absurd HA.out (by simp [dag_Greedy.l1])
                        | succ k3 =>
                          have H := HA.out
                          clear HA
                          simp only [dag_Greedy.l1] at H
                          by_cases c50 : i < a0_0
                          · rw [if_pos c50] at H
                            have c50b : decide (i < a0_0) = true := decide_eq_true c50
                            by_cases c51 : 0 ≤ i ∧ i < (x7_2.length : Int)
                            · rw [if_pos c51] at H
                              obtain ⟨gw, cw, ew, -⟩ := Kd.R_form HG.out.rW (by omega)
                              obtain ⟨rfl, rfl⟩ : A46 = some ⟨gw, 0, none⟩ ∧ co46 = cw := by
                                injection ew with e1 e2 e3
                                exact ⟨e1, e3⟩
                              clear ew
                              have ca : wr.cell? ⟨gw, i.toNat, none⟩ = some (.int .i64 (rd x7_2 i)) := (Kd.R_celln 0 HG.out.rW i c51.1 c51.2).1
                              obtain ⟨t51, t52⟩ := c51
                              obtain ⟨rv, hrv⟩ : ∃ rv, rv = rd x7_2 i := ⟨_, rfl⟩
                              rw [← hrv] at ca H
                              clear hrv
                              by_cases c52 : rv = 0
                              · rw [if_pos c52] at H
                                subst c52
                                by_cases c53 : Hp.length < 1048576
                                · rw [if_pos c53] at H
                                  have HX := Aside0.mk H
                                  have HC := Aside0.mk c53
                                  clear H c53
                                  go_wp2_with (first | ((with_reducible refine gate_callee (f := 46) rfl ?_); refine goesL_ (some 79) rfl rfl Try.func46 (by kernel_rfl) rfl #[.pointer (some ⟨gh, 0, none⟩), .int .i64 i] rfl (by (try simp only [List.map_toArray, List.map_cons, List.map_nil]); first | done | rfl | (simp only [List.length_drop, List.length_take]; rfl)) ?_; refine (push_calls gh _ Hp i (fun k => some k = Value.ownBlock vH) w _ (by first | exact HG.out.below | exact (HG.out.drewN _).below) (Nat.le_trans HG.out.base HG.out.mg) (by first | exact HG.out.blk | exact (HG.out.drewN _).blk) (by first | exact HG.out.rH | exact (HG.out.drewN _).rH) (by have := HC.out; omega)).mono ?_; rintro e w60 ⟨v1, rfl, hblk, hR, hB, hK⟩; refine ⟨_, rfl, ?_⟩; have HG1 := Aside0.mk (HG.out.turnH (fun k hk => hk) hblk hR hB hK); clear HG hblk hR hB hK))
                                  go_roundg k3
                                  case measure => omega
                                  case rel => exact ⟨_, pushL Hp i, wrap64 (i + 1), rfl, HX, ⟨by have := HK3.out; omega⟩, by first | exact HG1 | exact ⟨HG1.out.drewN _⟩⟩
                                · rw [if_neg c53] at H
                                  exact absurd H (by simp)
                              · rw [if_neg c52] at H
                                have HX := Aside0.mk H
                                have c52b : (rv == 0) = false := beq_eq_false_iff_ne.mpr c52
                                clear H
                                go_wp2
                                go_roundg k3
                                case measure => omega
                                case rel => exact ⟨_, Hp, wrap64 (i + 1), rfl, HX, ⟨by have := HK3.out; omega⟩, by first | exact HG | exact ⟨HG.out.drewN _⟩⟩
                            · rw [if_neg c51] at H
                              exact absurd H (by simp)
                          · rw [if_neg c50] at H
                            have c50b : decide (i < a0_0) = false := decide_eq_false c50
                            clear c50
                            by_cases c54 : 0 ≤ a0_0 ∧ a0_0.toNat ≤ 35184372088832
                            · rw [if_pos c54] at H
                              have c55b : decide (0 ≤ a0_0) = true := decide_eq_true c54.1
                              have c55c := eq_true c54.1
                              have c56b : decide (a0_0.toNat ≤ 35184372088832) = true := decide_eq_true c54.2
                              have c56c := eq_true c54.2
                              clear c54
                              obtain ⟨yT, hyT⟩ : ∃ y_ : List Int, y_ = List.replicate a0_0.toNat 0 := ⟨_, rfl⟩
                              rw [← hyT] at H
                              have NyT := Aside0.mk hyT
                              have HX := Aside0.mk H
                              clear H hyT
                              have hcz51_0 : wr.cell? ⟨gb122, 0, none⟩ = some (.int .i64 a0_0) := (blk_cell HG.out.dblk 0).trans rfl
                              go_wp2_with (first | ((with_reducible refine gate_dst (N := 83) rfl ?_); (try (refine gate_guard (by rfl) ?_; dsimp only)); refine Kd.R_make (Kd.int .i64) _ 3 rfl (N := 83) rfl 33 _ _ rfl a0_0 rfl rfl Try.underlying33 (.int .i64 0) 8 info3 rfl (by decide) (by omega) 0 (ok := fun _ => True) (okp := fun _ => True) rfl (fun _ hk => hk) trivial (of_decide_eq_true (by first | (with_reducible assumption) | assumption)) (Nat.le_trans (Nat.mul_le_mul_right _ (of_decide_eq_true (by first | (with_reducible assumption) | assumption) : a0_0.toNat ≤ 35184372088832)) (by omega)) (Below.refl _ _) (Nat.le_refl _) ?_; intro vT w55 ho hb hg_ hnew_; clear hg_ hnew_; rw [← NyT.out] at ho; have HG1 := Aside0.mk (HG.out.makeT ho hb); clear HG ho hb; obtain ⟨AT, cT, eT⟩ := Kd.R_slice HG1.out.rT; subst eT))
                              go_loopg [14] k3 (fun kq v14 w' => ∃ (vH : Value) (W H T : List Int) (t : Int), v14 = .int .i64 t ∧ Aside0 (dag_Greedy.l2 kq a1 W x8_2 H T t = some (r1, r2)) ∧ Aside0 (kq ≤ k3) ∧ Aside0 (GI w M gh gb122 #[.int .i64 a0_0, .slice A0_1 l0_1.length c0_1] (.slice A46 x7_2.length co46) (.slice A47 x8_2.length co47) (.slice AT yT.length cT) vH (.slice none 0 0) w' W x8_2 T H []))
                              case atStart => exact ⟨_, x7_2, Hp, yT, 1, rfl, HX, ⟨Nat.le_refl _⟩, HG1⟩
                              case round =>
                                clear HX HG1
                                try clear hcz51_0
                                obtain ⟨vH, W, H, T, t, rfl, HA, HK4, HG⟩ := hrel
                                cases gk with
                                | zero => exact absurd HA.out (by simp [dag_Greedy.l2])
                                | succ k4 =>
                                  have HH := HA.out
                                  clear HA
                                  simp only [dag_Greedy.l2] at HH
                                  obtain ⟨AH, cH, eH⟩ := Kd.R_slice HG.out.rH
                                  subst eH
                                  have hch : wr.cell? ⟨gh, 0, none⟩ = some (.slice AH H.length cH) := (blk_cell HG.out.blk 0).trans rfl
                                  by_cases c60 : 0 < H.length
                                  · rw [if_pos c60] at HH
                                    have c60b : decide (0 < (H.length : Int)) = true := decide_eq_true (by omega)
                                    have c60c : decide (0 < H.length) = true := decide_eq_true c60
                                    have HX := Aside0.mk HH
                                    clear HH c60
                                    go_upto_block 6 with (fail)
                                    go_cut [15] (fun v15 wc => ∃ (kq : Nat) (vH : Value) (Hp N : List Int), Aside0 (dag_Greedy.l4 kq a1 W x8_2 Hp T t N 0 = some (r1, r2)) ∧ Aside0 (kq ≤ k4) ∧ Aside0 (GI w M gh gb122 #[.int .i64 a0_0, .slice A0_1 l0_1.length c0_1] (.slice A46 x7_2.length co46) (.slice A47 x8_2.length co47) (.slice AT yT.length cT) vH v15 wc W x8_2 T Hp N))
                                    case first =>
                                      go_wp2
                                      go_loopg [15] k4 (fun kq v15 w' => ∃ (vH : Value) (Hp N : List Int), Aside0 (dag_Greedy.l3 kq a1 W x8_2 Hp T t N = some (r1, r2)) ∧ Aside0 (kq ≤ k4) ∧ Aside0 (GI w M gh gb122 #[.int .i64 a0_0, .slice A0_1 l0_1.length c0_1] (.slice A46 x7_2.length co46) (.slice A47 x8_2.length co47) (.slice AT yT.length cT) vH v15 w' W x8_2 T Hp N))
                                      case atStart => exact ⟨_, H, [], HX, ⟨Nat.le_refl _⟩, HG⟩
                                      case round =>
                                        clear HX HG
                                        try clear hch
                                        try clear c60b
                                        try clear c60c
                                        obtain ⟨vH, Hp, N, HA, HK5, HG⟩ := hrel
                                        cases gk with
                                        | zero => exact absurd HA.out (by simp [dag_Greedy.l3])
                                        | succ k5 =>
                                          have HH := HA.out
                                          clear HA
                                          simp only [dag_Greedy.l3] at HH
                                          obtain ⟨AP, cP, eP⟩ := Kd.R_slice HG.out.rH
                                          subst eP
                                          obtain ⟨AN, cN, eN⟩ := Kd.R_slice HG.out.rN
                                          subst eN
                                          have hch : wr.cell? ⟨gh, 0, none⟩ = some (.slice AP Hp.length cP) := (blk_cell HG.out.blk 0).trans rfl
                                          by_cases c61 : (N.length : Int) < a1 ∧ 0 < Hp.length
                                          · rw [if_pos c61] at HH
                                            by_cases c62 : Hp.length ≤ 1048576 ∧ N.length < 17592186044416
                                            · rw [if_pos c62] at HH
                                              have c63 : decide ((N.length : Int) < a1) = true := decide_eq_true c61.1
                                              have c64 : decide (0 < (Hp.length : Int)) = true := decide_eq_true (by omega)
                                              have c64c : decide (0 < Hp.length) = true := decide_eq_true c61.2
                                              have HP := Aside0.mk c61.2
                                              have HC := Aside0.mk c62.1
                                              have LM := Aside0.mk c62.2
                                              obtain ⟨x, hx⟩ : ∃ x, x = Hp.getD 0 0 := ⟨_, rfl⟩
                                              rw [← hx] at HH
                                              have HXX := Aside0.mk hx
                                              have HX := Aside0.mk HH
                                              clear HH c61 c62 hx
                                              go_wp2_with (first | ((with_reducible refine gate_callee (f := 47) rfl ?_); refine goesL_ (some 106) rfl rfl Try.func47 (by kernel_rfl) rfl #[.pointer (some ⟨gh, 0, none⟩)] rfl (by (try simp only [List.map_toArray, List.map_cons, List.map_nil]); first | done | rfl | (simp only [List.length_drop, List.length_take]; rfl)) ?_; refine (pop_calls gh _ Hp (fun k => some k = Value.ownBlock (.slice AP Hp.length cP)) w _ (by first | exact HG.out.below | exact (HG.out.drewN _).below) (Nat.le_trans HG.out.base HG.out.mg) (by first | exact HG.out.blk | exact (HG.out.drewN _).blk) (by first | exact HG.out.rH | exact (HG.out.drewN _).rH) HC.out HP.out).mono ?_; rintro e w60 ⟨v1, he, hblk, hR, hB, hK⟩; rw [← HXX.out] at he; subst he; refine ⟨_, rfl, ?_⟩; have HG1 := Aside0.mk (HG.out.turnH (fun k hk => .inl hk) hblk hR hB hK); clear HG hblk hR hB hK hch) | ((with_reducible refine gate_builtin (b := .append) (xs := #[.tmp 104, .tmp 107]) rfl ?_); at_builtin; refine Kd.R_append (Kd.int .i64) (w0 := w) w.heap.size rfl (.tmp 104) (.tmp 107) 33 3 (.int .i64 0) 8 rfl Try.underlying33 info3 rfl (by decide) (by omega) (.slice AN N.length cN) N x [.int .i64 x] (fun k => some k = Value.ownBlock (.slice AN N.length cN) ∨ w60.heap.size ≤ k) (fun _ => False) rfl rfl ?aP (fun _ hk => hk.elim) ?aF ?aO ?aB ?aS ?aL ?_; (case aP => rfl); (case aB => first | exact HG1.out.below | exact (HG1.out.drewN _).below); (case aF => exact fun k hk => .inr hk); (case aO => first | exact Kd.R_mono HG1.out.rN (fun k hk => .inl hk) | exact Kd.R_mono (HG1.out.drewN _).rN (fun k hk => .inl hk)); (case aS => exact HG1.out.below.size); (case aL => have := LM.out; omega); intro v2 w70 ho hb hg hat; have HG2 := Aside0.mk (HG1.out.turnN (fun k hk => hk) ho hb (Kept.of_grown hg (Kept.refl _ _) (fun k hk => .inl hk.symm))); clear ho hb hg hat))
                                              go_roundg k5
                                              case measure => omega
                                              case rel => exact ⟨_, popL Hp, N ++ [x], HX, ⟨by have := HK5.out; omega⟩, by first | exact HG2 | exact ⟨HG2.out.drewN _⟩⟩
                                            · rw [if_neg c62] at HH
                                              exact absurd HH (by simp)
                                          · rw [if_neg c61] at HH
                                            have HX := Aside0.mk HH
                                            clear HH
                                            by_cases c63 : (N.length : Int) < a1
                                            · have c63b : decide ((N.length : Int) < a1) = true := decide_eq_true c63
                                              have c64 : decide (0 < (Hp.length : Int)) = false := decide_eq_false (fun h => c61 ⟨c63, by omega⟩)
                                              have c64c : decide (0 < Hp.length) = false := decide_eq_false (fun h => c61 ⟨c63, h⟩)
                                              clear c61 c63
                                              go_wp2
                                              go_meet
                                              case rel => exact ⟨k5, _, Hp, N, HX, ⟨by have := HK5.out; omega⟩, by first | exact HG | exact ⟨HG.out.drewN _⟩⟩
                                            · have c63b : decide ((N.length : Int) < a1) = false := decide_eq_false c63
                                              clear c61 c63
                                              go_wp2
                                              go_meet
                                              case rel => exact ⟨k5, _, Hp, N, HX, ⟨by have := HK5.out; omega⟩, by first | exact HG | exact ⟨HG.out.drewN _⟩⟩
                                    case rest =>
                                      clear HX HG
                                      try clear hch
                                      try clear c60b
                                      try clear c60c
                                      obtain ⟨kq, vH, Hp, N, HA, HK5, HG⟩ := hcut
                                      obtain ⟨AN, cN, eN⟩ := Kd.R_slice HG.out.rN
                                      subst eN
                                      go_wp2
                                      go_loopg [111] kq (fun kr v111 w' => ∃ (vH : Value) (W H T : List Int) (j : Int), v111 = .int .i64 j ∧ Aside0 (dag_Greedy.l4 kr a1 W x8_2 H T t N j = some (r1, r2)) ∧ Aside0 (kr ≤ kq) ∧ Aside0 (GI w M gh gb122 #[.int .i64 a0_0, .slice A0_1 l0_1.length c0_1] (.slice A46 x7_2.length co46) (.slice A47 x8_2.length co47) (.slice AT yT.length cT) vH (.slice AN N.length cN) w' W x8_2 T H N))
                                      case atStart => exact ⟨_, W, Hp, T, 0, rfl, HA, ⟨Nat.le_refl _⟩, HG⟩
                                      case round =>
                                        clear HA HG
                                        obtain ⟨vH, W, H, T, j, rfl, HA, HK6, HG⟩ := hrel
                                        cases gk with
                                        | zero => exact absurd HA.out (by simp [dag_Greedy.l4])
                                        | succ k6 =>
                                          have HH := HA.out
                                          clear HA
                                          simp only [dag_Greedy.l4] at HH
                                          by_cases c70 : j < (N.length : Int)
                                          · rw [if_pos c70] at HH
                                            have c70b : decide (j < (N.length : Int)) = true := decide_eq_true c70
                                            by_cases c71 : 0 ≤ j ∧ 0 ≤ rd N j ∧ rd N j < (T.length : Int) ∧ rd N j < (x8_2.length : Int)
                                            · rw [if_pos c71] at HH
                                              obtain ⟨gn, cn, en, -⟩ := Kd.R_form HG.out.rN (by omega)
                                              obtain ⟨rfl, rfl⟩ : AN = some ⟨gn, 0, none⟩ ∧ cN = cn := by
                                                injection en with e1 e2 e3
                                                exact ⟨e1, e3⟩
                                              clear en
                                              have ca := (Kd.R_celln 0 HG.out.rN j c71.1 c70).1
                                              have ca' : wr.cell? ⟨gn, j.toNat, none⟩ = some (.int .i64 (rd N j)) := ca
                                              clear ca
                                              obtain ⟨x, hx⟩ : ∃ x, x = rd N j := ⟨_, rfl⟩
                                              rw [← hx] at HH ca' c71
                                              clear hx
                                              obtain ⟨gt, ct, et, -⟩ := Kd.R_form HG.out.rT (by omega)
                                              obtain ⟨rfl, htl, rfl⟩ : AT = some ⟨gt, 0, none⟩ ∧ yT.length = T.length ∧ cT = ct := by
                                                injection et with e1 e2 e3
                                                exact ⟨e1, e2, e3⟩
                                              clear et
                                              obtain ⟨go, cS, eS, -, -, csS, hgo⟩ := Kd.S_form HG.out.sB (by omega)
                                              obtain ⟨rfl, rfl⟩ : A47 = some ⟨go, 0, none⟩ ∧ co47 = cS := by
                                                injection eS with e1 e2 e3
                                                exact ⟨e1, e3⟩
                                              clear eS
                                              have hne : ¬ (gt = go) := RI.ne_g HG.out.rT hgo (by decide) gt rfl
                                              have hne' : ¬ (go = gt) := fun e => hne e.symm
                                              clear hgo
                                              have hxT : x < (yT.length : Int) := by rw [htl]; exact c71.2.2.1
                                              obtain ⟨cb, fb⟩ := Kd.R_celln 0 HG.out.rT x c71.2.1 hxT
                                              obtain ⟨Ar, cr, hrow, HRB0⟩ := HG.out.row x c71.2.1 c71.2.2.2
                                              have HRB1 := Aside0.mk HRB0
                                              clear HRB0
                                              obtain ⟨t70, t71, t72, t73⟩ := c71
                                              clear htl
                                              obtain ⟨T1, hT1⟩ : ∃ T1, T1 = T.set x.toNat t := ⟨_, rfl⟩
                                              rw [← hT1] at HH
                                              have HT1 := Aside0.mk hT1
                                              have HX := Aside0.mk HH
                                              clear HH hT1
                                              go_wp2_with fail
                                              generalize hw1 : World.setCell _ _ _ = w1
                                              have HG1 := Aside0.mk (show GI w M gh gb122 #[.int .i64 a0_0, .slice A0_1 l0_1.length c0_1] (.slice A46 x7_2.length co46) (.slice (some ⟨go, 0, none⟩) x8_2.length co47) (.slice (some ⟨gt, 0, none⟩) yT.length cT) vH (.slice (some ⟨gn, 0, none⟩) N.length cN) w1 W x8_2 T1 H N from by rw [← hw1, HT1.out]; exact HG.out.setT x t)
                                              have HRB := Aside0.mk (show RB w1 w M (.slice A46 x7_2.length co46) (.slice Ar (rd_L5 x8_2 x).length cr) (rd_L5 x8_2 x) from by rw [← hw1]; exact GI.row_setT HG.out HRB1.out)
                                              clear hw1 HG HRB1 cb fb hrow ca'
                                              go_loopg [124] k6 (fun ks v124 w' => ∃ (vH : Value) (W H : List Int) (q : Int), v124 = .int .i64 q ∧ Aside0 (dag_Greedy.l5 ks a1 W x8_2 H T1 t N j x q = some (r1, r2)) ∧ Aside0 (ks ≤ k6) ∧ Aside0 (GI w M gh gb122 #[.int .i64 a0_0, .slice A0_1 l0_1.length c0_1] (.slice A46 x7_2.length co46) (.slice (some ⟨go, 0, none⟩) x8_2.length co47) (.slice (some ⟨gt, 0, none⟩) yT.length cT) vH (.slice (some ⟨gn, 0, none⟩) N.length cN) w' W x8_2 T1 H N) ∧ Aside0 (RB w' w M (.slice A46 x7_2.length co46) (.slice Ar (rd_L5 x8_2 x).length cr) (rd_L5 x8_2 x)))
                                              case atStart => exact ⟨_, W, H, 0, rfl, HX, ⟨Nat.le_refl _⟩, HG1, HRB⟩
                                              case round =>
                                                clear HX HG1 HRB
                                                obtain ⟨vH, W, H, q, rfl, HA, HK7, HG, HRB⟩ := hrel
                                                cases gk with
                                                | zero => exact absurd HA.out (by simp [dag_Greedy.l5])
                                                | succ k7 =>
                                                  have HH := HA.out
                                                  clear HA
                                                  simp only [dag_Greedy.l5] at HH
                                                  by_cases c80 : q < ((rd_L5 x8_2 x).length : Int)
                                                  · rw [if_pos c80] at HH
                                                    have c80b : decide (q < ((rd_L5 x8_2 x).length : Int)) = true := decide_eq_true c80
                                                    by_cases c81 : 0 ≤ q ∧ 0 ≤ rd (rd_L5 x8_2 x) q ∧ rd (rd_L5 x8_2 x) q < (W.length : Int)
                                                    · rw [if_pos c81] at HH
                                                      obtain ⟨gr, cr1, er, -⟩ := Kd.R_form HRB.out (by omega)
                                                      obtain ⟨rfl, rfl⟩ : Ar = some ⟨gr, 0, none⟩ ∧ cr = cr1 := by
                                                        injection er with e1 e2 e3
                                                        exact ⟨e1, e3⟩
                                                      clear er
                                                      have ca := (Kd.R_celln 0 HRB.out q c81.1 c80).1
                                                      have ca' : wr.cell? ⟨gr, q.toNat, none⟩ = some (.int .i64 (rd (rd_L5 x8_2 x) q)) := ca
                                                      clear ca
                                                      obtain ⟨y, hy⟩ : ∃ y, y = rd (rd_L5 x8_2 x) q := ⟨_, rfl⟩
                                                      rw [← hy] at HH ca' c81
                                                      clear hy
                                                      obtain ⟨gw, cw, ew, -⟩ := Kd.R_form HG.out.rW (by omega)
                                                      obtain ⟨rfl, hwl, rfl⟩ : A46 = some ⟨gw, 0, none⟩ ∧ x7_2.length = W.length ∧ co46 = cw := by
                                                        injection ew with e1 e2 e3
                                                        exact ⟨e1, e2, e3⟩
                                                      clear ew
                                                      have hyW : y < (x7_2.length : Int) := by rw [hwl]; exact c81.2.2
                                                      obtain ⟨cb, fb⟩ := Kd.R_celln 0 HG.out.rW y c81.2.1 hyW
                                                      have cb' : wr.cell? ⟨gw, y.toNat, none⟩ = some (.int .i64 (rd W y)) := cb
                                                      clear cb
                                                      obtain ⟨u, hu⟩ : ∃ u, u = rd W y := ⟨_, rfl⟩
                                                      rw [← hu] at HH cb'
                                                      clear hu hwl
                                                      obtain ⟨z, hz⟩ : ∃ z, wrap64 (u - 1) = z := ⟨_, rfl⟩
                                                      rw [hz] at HH
                                                      obtain ⟨t80, t81, t82⟩ := c81
                                                      by_cases c82 : z = 0
                                                      · rw [if_pos c82] at HH
                                                        subst c82
                                                        by_cases c83 : H.length < 1048576
                                                        · rw [if_pos c83] at HH
                                                          have HX := Aside0.mk HH
                                                          have HC := Aside0.mk c83
                                                          have HGs := Aside0.mk (HG.out.setW y 0)
                                                          have HRs := Aside0.mk (GI.row_setW HRB.out y.toNat (.int .i64 0))
                                                          clear HH c83
                                                          go_wp2_with (first | ((with_reducible refine gate_callee (f := 46) rfl ?_); refine goesL_ (some 141) rfl rfl Try.func46 (by kernel_rfl) rfl #[.pointer (some ⟨gh, 0, none⟩), .int .i64 y] rfl (by (try simp only [List.map_toArray, List.map_cons, List.map_nil]); first | done | rfl | (simp only [List.length_drop, List.length_take]; rfl)) ?_; refine (push_calls gh _ H y (fun k => some k = Value.ownBlock vH) w _ (by first | exact HGs.out.below | exact (HGs.out.drewN _).below) (Nat.le_trans HGs.out.base HGs.out.mg) (by first | exact HGs.out.blk | exact (HGs.out.drewN _).blk) (by first | exact HGs.out.rH | exact (HGs.out.drewN _).rH) (by have := HC.out; omega)).mono ?_; rintro e w60 ⟨v1, rfl, hblk, hR, hB, hK⟩; refine ⟨_, rfl, ?_⟩; have HG1 := Aside0.mk (HGs.out.turnH (fun k hk => hk) hblk hR hB hK); have HR1 := Aside0.mk (GI.row_turnH HGs.out HRs.out hK); clear HG HRB hblk hR hB hK HGs HRs))
                                                          go_roundg k7
                                                          case measure => omega
                                                          case rel => exact ⟨_, W.set y.toNat 0, pushL H y, wrap64 (q + 1), rfl, HX, ⟨by have := HK7.out; omega⟩, (by first | exact HG1 | exact ⟨HG1.out.drewN _⟩), (by first | exact HR1 | exact ⟨Kd.R_drewN HR1.out _⟩)⟩
                                                        · rw [if_neg c83] at HH
                                                          exact absurd HH (by simp)
                                                      · rw [if_neg c82] at HH
                                                        have c82b : (z == 0) = false := beq_eq_false_iff_ne.mpr c82
                                                        have HX := Aside0.mk HH
                                                        have HGs := Aside0.mk (HG.out.setW y z)
                                                        have HRs := Aside0.mk (GI.row_setW HRB.out y.toNat (.int .i64 z))
                                                        clear HH
                                                        go_wp2
                                                        go_roundg k7
                                                        case measure => omega
                                                        case rel => exact ⟨_, W.set y.toNat z, H, wrap64 (q + 1), rfl, HX, ⟨by have := HK7.out; omega⟩, (by first | exact HGs | exact ⟨HGs.out.drewN _⟩), (by first | exact HRs | exact ⟨Kd.R_drewN HRs.out _⟩)⟩
                                                    · rw [if_neg c81] at HH
                                                      exact absurd HH (by simp)
                                                  · rw [if_neg c80] at HH
                                                    have c80b : decide (q < ((rd_L5 x8_2 x).length : Int)) = false := decide_eq_false c80
                                                    have HX := Aside0.mk HH
                                                    clear HH c80
                                                    go_wp2
                                                    go_roundg k7
                                                    case measure => have := HK7.out; omega
                                                    case rel => exact ⟨_, W, H, T1, wrap64 (j + 1), rfl, HX, ⟨by have := HK7.out; have := HK6.out; omega⟩, by first | exact HG | exact ⟨HG.out.drewN _⟩⟩
                                            · rw [if_neg c71] at HH
                                              exact absurd HH (by simp)
                                          · rw [if_neg c70] at HH
                                            have c70b : decide (j < (N.length : Int)) = false := decide_eq_false c70
                                            have HX := Aside0.mk HH
                                            clear HH c70
                                            go_wp2
                                            go_roundg k6
                                            case measure => have := HK6.out; have := HK5.out; omega
                                            case rel => exact ⟨_, W, H, T, wrap64 (t + 1), rfl, HX, ⟨by have := HK6.out; have := HK5.out; have := HK4.out; omega⟩, by first | exact ⟨HG.out.dropN⟩ | exact ⟨(HG.out.drewN _).dropN⟩⟩
                                  · rw [if_neg c60] at HH
                                    have c60b : decide (0 < (H.length : Int)) = false := decide_eq_false (by omega)
                                    have c60c : decide (0 < H.length) = false := decide_eq_false c60
                                    clear c60
                                    simp only [Option.some.injEq, Prod.mk.injEq] at HH
                                    obtain ⟨rfl, rfl⟩ := HH
                                    go_wp2
                                    go_ret2
                                    exact ⟨_, rfl, Kd.R_mono HG.out.rT (fun _ _ => trivial), HG.out.below⟩
                            · rw [if_neg c54] at H
                              exact absurd H (by simp)
              · rw [if_neg c13] at H
                exact absurd H (by simp)
            · rw [if_neg c12] at H
              exact absurd H (by simp)
          · rw [if_neg c11] at H
            exact absurd H (by simp)
  · rw [if_neg c4] at H
    have c4b0 : (t123 == 0) = false := beq_eq_false_iff_ne.mpr c4
    have c4b1 : (t123 != 0) = true := bne_iff_ne.mpr c4
    simp only [Option.some.injEq, Prod.mk.injEq] at H
    obtain ⟨rfl, rfl⟩ := H
    go_enter Try.func31, Try.ntmps31
    go_wp2_with (first | ((with_reducible refine gate_dst (N := 2) rfl ?_); (try (refine gate_guard (by rfl) ?_; dsimp only)); refine box_event ?hg (N := 2) ?hd (cs := #[.int .i64 a0_0, .slice A0_1 l0_1.length c0_1]) (t := 26) ?hr ?_; (case hd => rfl); (case hg => rfl); (case hr => first | (go_simp; done) | (go_simp; rfl)); intro gb122 hg w86 hbox hb; have n0_ := Aside0.mk (below_step (by repeat (first | (with_reducible first | exact HB.out | apply below_alloc | apply pw_below_drewN | apply below_drew1) | exact HB.out)) hb); have n1_ := Aside0.mk (hbox); have n2_ := Aside0.mk ((by rw [hg]; exact (below_size (by repeat (first | (with_reducible first | exact HB.out | apply below_alloc | apply pw_below_drewN | apply below_drew1) | exact HB.out))) : w.heap.size ≤ gb122)); have n3_ := Aside0.mk ((by rw [hg]; exact (below_size (by repeat (first | (with_reducible first | exact HB.out | apply below_alloc | apply pw_below_drewN | apply below_drew1) | exact HB.out))) : w.heap.size ≤ gb122)); clear HB; have HB := n0_; have BK122 := n1_; have GW122 := n2_; have GE122 := n3_; clear n0_ n1_ n2_ n3_; clear hb hbox hg; have hcz87_0 : w86.cell? ⟨gb122, 0, none⟩ = some (.int .i64 a0_0) := (blk_cell BK122.out 0).trans rfl; have hcz87_1 : w86.cell? ⟨gb122, 1, none⟩ = some (.slice A0_1 l0_1.length c0_1) := (blk_cell BK122.out 1).trans rfl; have hfz87_0 := blk_frozen BK122.out 0; have hfz87_1 := blk_frozen BK122.out 1) | ((with_reducible refine gate_callee (f := 18) rfl ?_); refine goesL_ (some 21) rfl rfl Try.func18 (by kernel_rfl) rfl #[.agg #[.int .i64 a0_0, .slice A0_1 l0_1.length c0_1]] rfl (by (try simp only [List.map_toArray, List.map_cons, List.map_nil]); first | done | rfl | (simp only [List.length_drop, List.length_take]; rfl)) ?_; (with_reducible refine (dag_Check.calls k a0_0 _ _ l0_1 t123 _ ?side1 ?side2 A3.out).mono ?_); (case side1 => repeat (first | exact (Kd.C_below HR0_1.out HB.out) | (with_reducible refine Kd.C_alloc ?_ _) | (with_reducible refine Kd.C_drewN ?_ _) | (with_reducible refine Kd.C_drew ?_))); (case side2 => exact HC0_1.out); rintro e w88 ⟨rfl, hb⟩; refine ⟨_, rfl, ?_⟩; have n0_ := Aside0.mk (blk_below (g := gb122) (o := .cells #[.int .i64 a0_0, .slice A0_1 l0_1.length c0_1] 26 (0, 0)) (by (with_reducible repeat (first | refine blk_drewN ?_ _ | refine blk_drew ?_ | refine blk_alloc ?_ _)); exact BK122.out) hb); have n1_ := Aside0.mk (below_step (by repeat (first | (with_reducible first | exact HB.out | apply below_alloc | apply pw_below_drewN | apply below_drew1 | refine below_set ?_ GE122.out) | exact HB.out)) hb); clear BK122; clear HB; have BK122 := n0_; have HB := n1_; clear n0_ n1_; (try clear hb); (try clear hb2); (try clear hk); (try clear hi)))
    go_ret2
    exact ⟨_, by first | rfl | (simp [errW_none, errW_some] <;> rfl) | (simp [*, errW_none, errW_some] <;> rfl), by first | exact Kd.R_nil _ _ _ _ _ | exact Kd.N_nil _ _ _ _ _ | exact Kd.V_nil _ _ _ _ _ | exact Kd.Q_nil _ _ _ _ _ | exact Kd.S_nil _ _ _ _ _, by repeat (first | (with_reducible first | exact HB.out | apply below_alloc | apply pw_below_drewN | apply below_drew1 | refine below_set ?_ GE122.out) | exact HB.out)⟩

end Go.Proofs.Ytbahnialbffkeaa.P
