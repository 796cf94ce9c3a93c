/- Written by a program: plain Lean functions that answer as Go functions of this seat do, and the proofs that the calls come to these answers. -/
import Derived.Test.YtcioegimmjppcaaDoorZPxPtd
import Derived.Test.YtcioegimmjppcaaDoorZJP
import Derived.Test.YtcioegimmjppcaaDoorZPx5
import Derived.Test.YtcioegimmjppcaaDoorZPxA
import Derived.Test.YtcioegimmjppcaaDoorZJD
import Derived.Test.YtcioegimmjppcaaDoorZSwp
import Derived.Test.YtcioegimmjppcaaDoorZJL
namespace Go.Proofs.YtcioegimmjppcaaDoor.P
open Go.RowKit Go.Proofs.YtcioegimmjppcaaDoorW.PrintWords Go.Proofs.YtcioegimmjppcaaDoorW.PrintLast Go.Proofs.YtcioegimmjppcaaDoorW.PrintMore
attribute [local go_sem] max2_int min2_int max_two min_two max_three min_three max_four min_four   -- for this text's walks alone
set_option linter.unusedVariables false
set_option linter.unusedSimpArgs false

set_option maxHeartbeats 8000000 in
set_option maxRecDepth 100000 in
theorem plunderlaw6_SerialPart.calls (k : Nat) (A0_0 : Option Addr) (c0_0 : Nat) (l0_0 : List (S39)) (A1 : Option Addr) (c1 : Nat) (l1 : List Int) (a2 : Int) (a3 : Int) (r : Bool) (w : World) (hTab : Tab w) (hr0_0 : Kd.C k39 w A0_0 l0_0.length l0_0) (hc0_0 : l0_0.length ≤ c0_0) (hr1 : Kd.C (Kd.int .i64) w A1 l1.length l1) (hc1 : l1.length ≤ c1) (h : plunderlaw6_SerialPart.f k l0_0 l1 a2 a3 = some r) :
    Calls Tryd.prog 9 #[.agg #[.slice A0_0 l0_0.length c0_0], .slice A1 l1.length c1, .int .i64 a2, .int .i64 a3] w fun e w' => e = .returned (.bool r) ∧ Below w.heap.size w w' := by
  have HTab := Aside0.mk hTab
  clear hTab
  have hu24 := Tryd.underlying24
  have hu49 := Tryd.underlying49
  have hu28 := Tryd.underlying28
  have HR0_0 := Aside0.mk hr0_0
  have HC0_0 := Aside0.mk hc0_0
  clear hr0_0 hc0_0
  have HR1 := Aside0.mk hr1
  have HC1 := Aside0.mk hc1
  clear hr1 hc1
  have HB := Aside0.mk (Below.refl w.heap.size w)
  have H : ((plunderlaw6_lives.f k a3).bind fun t125 => (if t125 = true then ((serial_Tree.f k l0_0 l1 a2).bind fun bt126 => (if bt126.2 = 0 then ((plunderlaw6_asksPed.f k l0_0).bind fun t130 => (plunderlaw6_SerialPart.j0 k a2 a3 bt126.1 t130 l0_0)) else (plunderlaw6_SerialPart.j0 k a2 a3 bt126.1 true l0_0))) else (some false))) = some r := h
  clear h
  replace H := Option.bind_eq_some_iff.mp H
  obtain ⟨t125, A50, H⟩ := H
  replace H : (if t125 = true then ((serial_Tree.f k l0_0 l1 a2).bind fun bt126 => (if bt126.2 = 0 then ((plunderlaw6_asksPed.f k l0_0).bind fun t130 => (plunderlaw6_SerialPart.j0 k a2 a3 bt126.1 t130 l0_0)) else (plunderlaw6_SerialPart.j0 k a2 a3 bt126.1 true l0_0))) else (some false)) = some r := H
  have A5 := Aside0.mk A50
  clear A50
  by_cases c6 : t125 = true
  · subst c6
    have H1 : ((serial_Tree.f k l0_0 l1 a2).bind fun bt126 => (if bt126.2 = 0 then ((plunderlaw6_asksPed.f k l0_0).bind fun t130 => (plunderlaw6_SerialPart.j0 k a2 a3 bt126.1 t130 l0_0)) else (plunderlaw6_SerialPart.j0 k a2 a3 bt126.1 true l0_0))) = some r := by rw [if_pos rfl] at H; exact H
    clear H
    have H := H1
    clear H1
    replace H := Option.bind_eq_some_iff.mp H
    obtain ⟨⟨t126, t129⟩, A70, H⟩ := H
    replace H : (if t129 = 0 then ((plunderlaw6_asksPed.f k l0_0).bind fun t130 => (plunderlaw6_SerialPart.j0 k a2 a3 t126 t130 l0_0)) else (plunderlaw6_SerialPart.j0 k a2 a3 t126 true l0_0)) = some r := H
    have A7 := Aside0.mk A70
    clear A70
    have HC8 := Aside0.mk H
    clear H
    go_enter Tryd.func9, Tryd.ntmps9
    go_upto_region 4 with (first | ((with_reducible refine gate_dst (N := 4) rfl ?_); (try (refine gate_guard (by rfl) ?_; dsimp only)); refine box_event ?hg (N := 4) ?hd (cs := #[.slice A0_0 l0_0.length c0_0]) (t := 24) ?hr ?_; (case hd => rfl); (case hg => rfl); (case hr => first | (go_simp; done) | (go_simp; rfl)); intro gb124 hg w9 hbox hb; have n0_ := Aside0.mk (below_step (by repeat (first | (with_reducible first | exact HB.out | apply below_alloc | apply pw_below_drewN | apply below_drew1) | exact HB.out)) hb); have n1_ := Aside0.mk (hbox); have n2_ := Aside0.mk ((by rw [hg]; exact (below_size (by repeat (first | (with_reducible first | exact HB.out | apply below_alloc | apply pw_below_drewN | apply below_drew1) | exact HB.out))) : w.heap.size ≤ gb124)); have n3_ := Aside0.mk ((by rw [hg]; exact (below_size (by repeat (first | (with_reducible first | exact HB.out | apply below_alloc | apply pw_below_drewN | apply below_drew1) | exact HB.out))) : w.heap.size ≤ gb124)); clear HB; have HB := n0_; have BK124 := n1_; have GW124 := n2_; have GE124 := n3_; clear n0_ n1_ n2_ n3_; clear hb hbox hg) | ((with_reducible refine gate_callee (f := 24) rfl ?_); refine goesL_ (some 20) rfl rfl Tryd.func24 (by kernel_rfl) rfl #[.int .i64 a3] rfl (by (try simp only [List.map_toArray, List.map_cons, List.map_nil]); first | done | rfl | (simp only [List.length_drop, List.length_take]; rfl)) ?_; (with_reducible refine (plunderlaw6_lives.calls k a3 true _ (HTab.out.below (by repeat (first | (with_reducible first | exact HB.out | apply below_alloc | apply pw_below_drewN | apply below_drew1 | refine below_set ?_ GE124.out) | exact HB.out))) A5.out).mono ?_); rintro e w10 ⟨rfl, hb⟩; refine ⟨_, rfl, ?_⟩; have n0_ := Aside0.mk (blk_below (g := gb124) (o := .cells #[.slice A0_0 l0_0.length c0_0] 24 (0, 0)) (by (with_reducible repeat (first | refine blk_drewN ?_ _ | refine blk_drew ?_ | refine blk_alloc ?_ _)); exact BK124.out) hb); have n1_ := Aside0.mk (below_step (by repeat (first | (with_reducible first | exact HB.out | apply below_alloc | apply pw_below_drewN | apply below_drew1 | refine below_set ?_ GE124.out) | exact HB.out)) hb); clear BK124; clear HB; have BK124 := n0_; have HB := n1_; clear n0_ n1_; (try clear hb); (try clear hb2); (try clear hk); (try clear hi); have hcz11_0 : w10.cell? ⟨gb124, 0, none⟩ = some (.slice A0_0 l0_0.length c0_0) := (blk_cell BK124.out 0).trans rfl; have hfz11_0 := blk_frozen BK124.out 0) | ((with_reducible refine gate_callee (f := 19) rfl ?_); refine goesL_ (some 26) rfl rfl Tryd.func19 (by kernel_rfl) rfl #[.agg #[.slice A0_0 l0_0.length c0_0], .slice A1 l1.length c1, .int .i64 a2] rfl (by (try simp only [List.map_toArray, List.map_cons, List.map_nil]); first | done | rfl | (simp only [List.length_drop, List.length_take]; rfl)) ?_; (with_reducible refine (serial_Tree.calls k _ _ l0_0 _ _ l1 a2 t126 t129 _ (HTab.out.below (by repeat (first | (with_reducible first | exact HB.out | apply below_alloc | apply pw_below_drewN | apply below_drew1 | refine below_set ?_ GE124.out) | exact HB.out))) ?side1 ?side2 ?side3 ?side4 A7.out).mono ?_); (case side1 => repeat (first | exact (Kd.C_below HR0_0.out HB.out) | (with_reducible refine Kd.C_alloc ?_ _) | (with_reducible refine Kd.C_drewN ?_ _) | (with_reducible refine Kd.C_drew ?_))); (case side2 => exact HC0_0.out); (case side3 => repeat (first | exact (Kd.C_below HR1.out HB.out) | (with_reducible refine Kd.C_alloc ?_ _) | (with_reducible refine Kd.C_drewN ?_ _) | (with_reducible refine Kd.C_drew ?_))); (case side4 => exact HC1.out); rintro e w12 ⟨v127, rfl, ho0, hb⟩; refine ⟨_, rfl, ?_⟩; have n0_ := Aside0.mk (Kd.R_lower ho0 (below_size (by repeat (first | (with_reducible first | exact HB.out | apply below_alloc | apply pw_below_drewN | apply below_drew1 | refine below_set ?_ GE124.out) | exact HB.out)))); have n1_ := Aside0.mk (blk_below (g := gb124) (o := .cells #[.slice A0_0 l0_0.length c0_0] 24 (0, 0)) (by (with_reducible repeat (first | refine blk_drewN ?_ _ | refine blk_drew ?_ | refine blk_alloc ?_ _)); exact BK124.out) hb); have n2_ := Aside0.mk (below_step (by repeat (first | (with_reducible first | exact HB.out | apply below_alloc | apply pw_below_drewN | apply below_drew1 | refine below_set ?_ GE124.out) | exact HB.out)) hb); clear BK124; clear HB; have HO128 := n0_; have BK124 := n1_; have HB := n2_; clear n0_ n1_ n2_; (try clear hb); (try clear hb2); (try clear hk); (try clear hi); (try clear ho0)))
    (try simp only [Act.put, List.setIfInBounds_toArray, List.set_cons_zero, List.set_cons_succ])
    go_cut [34] (fun v34 wc => ∃ (kq : Nat) (x34_7 : Bool), v34 = .bool x34_7 ∧ Aside0 (plunderlaw6_SerialPart.j0 kq a2 a3 t126 x34_7 l0_0 = some r) ∧ Aside0 (kq ≤ k) ∧ Aside0 (Kd.R k49 49 wc w.heap.size (fun _ => True) v127 t126) ∧ Aside0 (wc.heap[gb124]? = some (.cells #[(.slice A0_0 l0_0.length c0_0)] 24 (0, 0))) ∧ Aside0 (Below w.heap.size w wc))
    case first =>
      have H := HC8.out
      clear HC8
      by_cases c13 : t129 = 0
      · rw [if_pos c13] at H
        have c13b0 : (t129 == 0) = true := beq_iff_eq.mpr c13
        have c13b1 : (t129 != 0) = false := bne_eq_false_iff_eq.mpr c13
        clear c13
        (first | rw [c13b0] | (simp only [i64_w, i32_w]; rw [c13b0]) | skip)
        replace H := Option.bind_eq_some_iff.mp H
        obtain ⟨t130, A140, H⟩ := H
        replace H : (plunderlaw6_SerialPart.j0 k a2 a3 t126 t130 l0_0) = some r := H
        have A14 := Aside0.mk A140
        clear A140
        have H' := Aside0.mk H
        clear H
        have hcz15_0 : w12.cell? ⟨gb124, 0, none⟩ = some (.slice A0_0 l0_0.length c0_0) := (blk_cell BK124.out 0).trans rfl
        have hfz15_0 := blk_frozen BK124.out 0
        go_wp2_with (first | (go_at_call 27; (with_reducible refine (plunderlaw6_asksPed.calls k _ _ l0_0 t130 _ ?side1 ?side2 A14.out).mono ?_); (case side1 => repeat (first | exact (Kd.C_below HR0_0.out HB.out) | (with_reducible refine Kd.C_alloc ?_ _) | (with_reducible refine Kd.C_drewN ?_ _) | (with_reducible refine Kd.C_drew ?_))); (case side2 => exact HC0_0.out); rintro e w16 ⟨rfl, hb⟩; have n0_ := Aside0.mk (Kd.R_below (by (with_reducible repeat (first | apply Kd.R_alloc | apply Kd.R_drewN | apply Kd.R_drew)); exact HO128.out) hb); have n1_ := Aside0.mk (blk_below (g := gb124) (o := .cells #[.slice A0_0 l0_0.length c0_0] 24 (0, 0)) (by (with_reducible repeat (first | refine blk_drewN ?_ _ | refine blk_drew ?_ | refine blk_alloc ?_ _)); exact BK124.out) hb); have n2_ := Aside0.mk (below_step (by repeat (first | (with_reducible first | exact HB.out | apply below_alloc | apply pw_below_drewN | apply below_drew1 | refine below_set ?_ GE124.out) | exact HB.out)) hb); clear HO128; clear BK124; clear HB; have HO128 := n0_; have BK124 := n1_; have HB := n2_; clear n0_ n1_ n2_; (try clear hb); (try clear hb2); (try clear hk); (try clear hi)))
        go_meet
        case rel => exact ⟨_, (t130), (by first | rfl | (simp; done) | (simp [*]; done)), H', ⟨by first | omega | exact Nat.le_refl _⟩, ⟨by (with_reducible repeat (first | apply Kd.R_alloc | apply Kd.R_drewN | apply Kd.R_drew)); exact HO128.out⟩, ⟨by (with_reducible repeat (first | refine blk_drewN ?_ _ | refine blk_drew ?_ | refine blk_alloc ?_ _)); exact BK124.out⟩, ⟨by repeat (first | (with_reducible first | exact HB.out | apply below_alloc | apply pw_below_drewN | apply below_drew1 | refine below_set ?_ GE124.out) | exact HB.out)⟩⟩
      · rw [if_neg c13] at H
        have c13b0 : (t129 == 0) = false := beq_eq_false_iff_ne.mpr c13
        have c13b1 : (t129 != 0) = true := bne_iff_ne.mpr c13
        (first | rw [c13b0] | (simp only [i64_w, i32_w]; rw [c13b0]) | skip)
        have H' := Aside0.mk H
        clear H
        go_wp2
        go_meet
        case rel => exact ⟨_, (true), (by first | rfl | (simp; done) | (simp [*]; done)), H', ⟨by first | omega | exact Nat.le_refl _⟩, ⟨by (with_reducible repeat (first | apply Kd.R_alloc | apply Kd.R_drewN | apply Kd.R_drew)); exact HO128.out⟩, ⟨by (with_reducible repeat (first | refine blk_drewN ?_ _ | refine blk_drew ?_ | refine blk_alloc ?_ _)); exact BK124.out⟩, ⟨by repeat (first | (with_reducible first | exact HB.out | apply below_alloc | apply pw_below_drewN | apply below_drew1 | refine below_set ?_ GE124.out) | exact HB.out)⟩⟩
    case rest =>
      clear HC8
      try clear c1
      try clear c2
      try clear p2
      try clear c6
      try clear c9
      try clear c13
      try clear c13b0
      try clear c13b1
      try clear hcz11_0
      try clear hcz15_0
      try clear hfz11_0
      try clear hfz15_0
      obtain ⟨kq, x34_7, rfl, HA, HJ7, HO_9, BK124, HB⟩ := hcut
      cases kq with
      | zero => exact absurd HA.out (by simp [plunderlaw6_SerialPart.j0])
      | succ kj7 =>
        have H := HA.out
        clear HA
        simp only [plunderlaw6_SerialPart.j0] at H
        by_cases c17 : x34_7 = true
        · subst c17
          have H1 : (some true) = some r := by rw [if_pos rfl] at H; exact H
          clear H
          have H := H1
          clear H1
          obtain rfl := Option.some.inj H
          go_wp2
          go_ret
          exact ⟨by first | rfl | (simp [errW_none, errW_some] <;> rfl) | (simp [*, errW_none, errW_some] <;> rfl), by repeat (first | (with_reducible first | exact HB.out | apply below_alloc | apply pw_below_drewN | apply below_drew1 | refine below_set ?_ GE124.out) | exact HB.out)⟩
        · replace c17 := Bool.eq_false_iff.mpr c17
          subst c17
          have H1 : (if (t126.length : Int) = 0 then (some false) else (if (Int.tmod a3 (t126.length : Int)) < 0 then (plunderlaw6_SerialPart.j1 kj7 a2 t126 (wrap64 ((Int.tmod a3 (t126.length : Int)) + (t126.length : Int))) l0_0) else (plunderlaw6_SerialPart.j1 kj7 a2 t126 (Int.tmod a3 (t126.length : Int)) l0_0))) = some r := by rw [if_neg (show ¬ (false = true) by decide)] at H; exact H
          clear H
          have H := H1
          clear H1
          by_cases c18 : (t126.length : Int) = 0
          · rw [if_pos c18] at H
            have c18b0 : ((t126.length : Int) == 0) = true := beq_iff_eq.mpr c18
            have c18b1 : ((t126.length : Int) != 0) = false := bne_eq_false_iff_eq.mpr c18
            clear c18
            obtain rfl := Option.some.inj H
            obtain ⟨Ao19, co19, eo19⟩ := Kd.R_slice HO_9.out
            subst eo19
            go_wp2
            go_ret
            exact ⟨by first | rfl | (simp [errW_none, errW_some] <;> rfl) | (simp [*, errW_none, errW_some] <;> rfl), by repeat (first | (with_reducible first | exact HB.out | apply below_alloc | apply pw_below_drewN | apply below_drew1 | refine below_set ?_ GE124.out) | exact HB.out)⟩
          · rw [if_neg c18] at H
            have c18b0 : ((t126.length : Int) == 0) = false := beq_eq_false_iff_ne.mpr c18
            have c18b1 : ((t126.length : Int) != 0) = true := bne_iff_ne.mpr c18
            have c18b2 : ¬ (t126 = []) := fun h_ => c18 (by rw [h_]; rfl)
            have HC20 := Aside0.mk H
            clear H
            obtain ⟨Ao21, co21, eo21⟩ := Kd.R_slice HO_9.out
            subst eo21
            go_upto_if 43 with (fail)
            go_cut [11] (fun v11 wc => ∃ (kq : Nat) (x11_19 : Int), v11 = .int .i64 x11_19 ∧ Aside0 (plunderlaw6_SerialPart.j1 kq a2 t126 x11_19 l0_0 = some r) ∧ Aside0 (kq ≤ kj7) ∧ Aside0 (Kd.R k49 49 wc w.heap.size (fun _ => True) (.slice Ao21 t126.length co21) t126) ∧ Aside0 (wc.heap[gb124]? = some (.cells #[(.slice A0_0 l0_0.length c0_0)] 24 (0, 0))) ∧ Aside0 (Below w.heap.size w wc))
            case first =>
              have H := HC20.out
              clear HC20
              by_cases c22 : (Int.tmod a3 (t126.length : Int)) < 0
              · rw [if_pos c22] at H
                have c22b0 : decide ((Int.tmod a3 (t126.length : Int)) < 0) = true := decide_eq_true c22
                clear c22
                (first | rw [c22b0] | (simp only [i64_w, i32_w]; rw [c22b0]) | skip)
                have H' := Aside0.mk H
                clear H
                go_wp2
                go_meet
                case rel => exact ⟨_, (wrap64 ((Int.tmod a3 (t126.length : Int)) + (t126.length : Int))), (by first | rfl | (simp; done) | (simp [*]; done)), H', ⟨by have := HJ7.out; first | omega | exact Nat.le_refl _⟩, ⟨by (with_reducible repeat (first | apply Kd.R_alloc | apply Kd.R_drewN | apply Kd.R_drew)); exact HO_9.out⟩, ⟨by (with_reducible repeat (first | refine blk_drewN ?_ _ | refine blk_drew ?_ | refine blk_alloc ?_ _)); exact BK124.out⟩, ⟨by repeat (first | (with_reducible first | exact HB.out | apply below_alloc | apply pw_below_drewN | apply below_drew1 | refine below_set ?_ GE124.out) | exact HB.out)⟩⟩
              · rw [if_neg c22] at H
                have c22b0 : decide ((Int.tmod a3 (t126.length : Int)) < 0) = false := decide_eq_false c22
                clear c22
                (first | rw [c22b0] | (simp only [i64_w, i32_w]; rw [c22b0]) | skip)
                have H' := Aside0.mk H
                clear H
                go_wp2
                go_meet
                case rel => exact ⟨_, (Int.tmod a3 (t126.length : Int)), (by first | rfl | (simp; done) | (simp [*]; done)), H', ⟨by have := HJ7.out; first | omega | exact Nat.le_refl _⟩, ⟨by (with_reducible repeat (first | apply Kd.R_alloc | apply Kd.R_drewN | apply Kd.R_drew)); exact HO_9.out⟩, ⟨by (with_reducible repeat (first | refine blk_drewN ?_ _ | refine blk_drew ?_ | refine blk_alloc ?_ _)); exact BK124.out⟩, ⟨by repeat (first | (with_reducible first | exact HB.out | apply below_alloc | apply pw_below_drewN | apply below_drew1 | refine below_set ?_ GE124.out) | exact HB.out)⟩⟩
            case rest =>
              clear HC20
              try clear c1
              try clear c2
              try clear p2
              try clear c6
              try clear p6
              try clear c9
              try clear c13
              try clear c13b0
              try clear c13b1
              try clear c17
              try clear c18
              try clear c18b0
              try clear c18b1
              try clear c18b2
              try clear c19
              try clear c22
              try clear c22b0
              try clear hcz11_0
              try clear hcz15_0
              try clear hfz11_0
              try clear hfz15_0
              try clear p2
              obtain ⟨kq, x11_19, rfl, HA, HJ19, HO_9, BK124, HB⟩ := hcut
              cases kq with
              | zero => exact absurd HA.out (by simp [plunderlaw6_SerialPart.j1])
              | succ kj19 =>
                have H := HA.out
                clear HA
                simp only [plunderlaw6_SerialPart.j1] at H
                by_cases c23 : 0 ≤ x11_19
                · rw [if_pos c23] at H
                  have c23b0 : decide (0 ≤ x11_19) = true := decide_eq_true c23
                  clear c23
                  by_cases c24 : x11_19 < (t126.length : Int)
                  · rw [if_pos c24] at H
                    have c24b0 : decide (x11_19 < (t126.length : Int)) = true := decide_eq_true c24
                    clear c24
                    have HC25 := Aside0.mk H
                    clear H
                    have p131 : 0 ≤ (x11_19 : Int) := of_decide_eq_true (by first | (with_reducible assumption) | assumption)
                    have q131 : x11_19 < (t126.length : Int) := of_decide_eq_true (by first | (with_reducible assumption) | assumption)
                    obtain ⟨ad131, e131, hx131_0, hx131_1, hx131_2, hx131_3, hx131_4, hx131_5, hx131_6⟩ := at_T49 (Kd.R_reads' HO_9.out).2.2 x11_19 p131 q131
                    cases e131
                    replace p131 := eq_true p131
                    replace q131 := eq_true q131
                    go_upto_region 12 with (first | ((with_reducible refine gate_dst (N := 12) rfl ?_); (try (refine gate_guard (by rfl) ?_; dsimp only)); refine box_event ?hg (N := 12) ?hd (cs := #[.int .i64 0, .int .i64 0, .int .i64 0, .int .i64 0, .int .i64 0, .int .i64 0, .int .i64 0]) (t := 49) ?hr ?_; (case hd => rfl); (case hg => rfl); (case hr => first | (go_simp; done) | (go_simp; rfl)); intro gb132 hg w26 hbox hb; have n0_ := Aside0.mk (Kd.R_below (Kd.R_elderB (by (with_reducible repeat (first | apply Kd.R_alloc | apply Kd.R_drewN | apply Kd.R_drew)); exact HO_9.out) gb132 (Nat.le_of_eq hg.symm)) hb); have n1_ := Aside0.mk (blk_below (g := gb124) (o := .cells #[.slice A0_0 l0_0.length c0_0] 24 (0, 0)) (by (with_reducible repeat (first | refine blk_drewN ?_ _ | refine blk_drew ?_ | refine blk_alloc ?_ _)); exact BK124.out) hb); have n2_ := Aside0.mk (below_step (by repeat (first | (with_reducible first | exact HB.out | apply below_alloc | apply pw_below_drewN | apply below_drew1 | refine below_set ?_ GE124.out) | exact HB.out)) hb); have n3_ := Aside0.mk (hbox); have n4_ := Aside0.mk ((by rw [hg]; exact (below_size (by repeat (first | (with_reducible first | exact HB.out | apply below_alloc | apply pw_below_drewN | apply below_drew1 | refine below_set ?_ GE124.out) | exact HB.out))) : w.heap.size ≤ gb132)); have n5_ := Aside0.mk ((by rw [hg]; exact (below_size (by repeat (first | (with_reducible first | exact HB.out | apply below_alloc | apply pw_below_drewN | apply below_drew1 | refine below_set ?_ GE124.out) | exact HB.out))) : w.heap.size ≤ gb132)); have n6_ := Aside0.mk ((by rw [hg]; exact Nat.ne_of_lt (blk_lt (g := gb124) (o := .cells #[.slice A0_0 l0_0.length c0_0] 24 (0, 0)) (by (with_reducible repeat (first | refine blk_drewN ?_ _ | refine blk_drew ?_ | refine blk_alloc ?_ _)); exact BK124.out)) : gb124 ≠ gb132)); have n7_ := Aside0.mk ((by rw [hg]; exact Nat.ne_of_gt (blk_lt (g := gb124) (o := .cells #[.slice A0_0 l0_0.length c0_0] 24 (0, 0)) (by (with_reducible repeat (first | refine blk_drewN ?_ _ | refine blk_drew ?_ | refine blk_alloc ?_ _)); exact BK124.out)) : gb132 ≠ gb124)); clear HO_9; clear BK124; clear HB; have HO_9 := n0_; have BK124 := n1_; have HB := n2_; have BK132 := n3_; have GW132 := n4_; have GE132 := n5_; have NB124_132 := n6_; have NB132_124 := n7_; clear n0_ n1_ n2_ n3_ n4_ n5_ n6_ n7_; clear hb hbox hg; have hnb27 := NB132_124.out; have hnc27 := NB124_132.out; have hcz28_0 : w26.cell? ⟨gb132, 0, none⟩ = some (.int .i64 0) := (blk_cell BK132.out 0).trans rfl; have hcz28_1 : w26.cell? ⟨gb132, 1, none⟩ = some (.int .i64 0) := (blk_cell BK132.out 1).trans rfl; have hcz28_2 : w26.cell? ⟨gb132, 2, none⟩ = some (.int .i64 0) := (blk_cell BK132.out 2).trans rfl; have hcz28_3 : w26.cell? ⟨gb132, 3, none⟩ = some (.int .i64 0) := (blk_cell BK132.out 3).trans rfl; have hcz28_4 : w26.cell? ⟨gb132, 4, none⟩ = some (.int .i64 0) := (blk_cell BK132.out 4).trans rfl; have hcz28_5 : w26.cell? ⟨gb132, 5, none⟩ = some (.int .i64 0) := (blk_cell BK132.out 5).trans rfl; have hcz28_6 : w26.cell? ⟨gb132, 6, none⟩ = some (.int .i64 0) := (blk_cell BK132.out 6).trans rfl; have hfz28_0 := blk_frozen BK132.out 0; have hfz28_1 := blk_frozen BK132.out 1; have hfz28_2 := blk_frozen BK132.out 2; have hfz28_3 := blk_frozen BK132.out 3; have hfz28_4 := blk_frozen BK132.out 4; have hfz28_5 := blk_frozen BK132.out 5; have hfz28_6 := blk_frozen BK132.out 6))
                    (try simp only [Act.put, List.setIfInBounds_toArray, List.set_cons_zero, List.set_cons_succ])
                    go_cut [62] (fun v62 wc => ∃ (kq : Nat) (x62_24 : Bool), v62 = .bool x62_24 ∧ Aside0 (plunderlaw6_SerialPart.j2 kq a2 t126 x11_19 x62_24 l0_0 ((rd_T49 t126 x11_19).f0) ((rd_T49 t126 x11_19).f1) ((rd_T49 t126 x11_19).f2) ((rd_T49 t126 x11_19).f3) ((rd_T49 t126 x11_19).f4) ((rd_T49 t126 x11_19).f5) ((rd_T49 t126 x11_19).f6) = some r) ∧ Aside0 (kq ≤ kj19) ∧ Aside0 (Kd.R k49 49 wc w.heap.size (fun k_ => k_ ≠ gb132) (.slice (some ad131) t126.length co21) t126) ∧ Aside0 (wc.heap[gb124]? = some (.cells #[(.slice A0_0 l0_0.length c0_0)] 24 (0, 0))) ∧ Aside0 (wc.heap[gb132]? = some (.cells #[.int .i64 ((rd_T49 t126 x11_19).f0), .int .i64 ((rd_T49 t126 x11_19).f1), .int .i64 ((rd_T49 t126 x11_19).f2), .int .i64 ((rd_T49 t126 x11_19).f3), .int .i64 ((rd_T49 t126 x11_19).f4), .int .i64 ((rd_T49 t126 x11_19).f5), .int .i64 ((rd_T49 t126 x11_19).f6)] 49 (0, 0))) ∧ Aside0 (Below w.heap.size w wc))
                    case first =>
                      have H := HC25.out
                      clear HC25
                      by_cases c29 : ((rd_T49 t126 x11_19).f2) < 0
                      · rw [if_pos c29] at H
                        have c29b0 : decide (((rd_T49 t126 x11_19).f2) < 0) = true := decide_eq_true c29
                        clear c29
                        (first | rw [c29b0] | (simp only [i64_w, i32_w]; rw [c29b0]) | skip)
                        have H' := Aside0.mk H
                        clear H
                        have hnb30 := NB132_124.out
                        have hnc30 := NB124_132.out
                        have hcz31_0 : w26.cell? ⟨gb132, 0, none⟩ = some (.int .i64 0) := (blk_cell BK132.out 0).trans rfl
                        have hcz31_1 : w26.cell? ⟨gb132, 1, none⟩ = some (.int .i64 0) := (blk_cell BK132.out 1).trans rfl
                        have hcz31_2 : w26.cell? ⟨gb132, 2, none⟩ = some (.int .i64 0) := (blk_cell BK132.out 2).trans rfl
                        have hcz31_3 : w26.cell? ⟨gb132, 3, none⟩ = some (.int .i64 0) := (blk_cell BK132.out 3).trans rfl
                        have hcz31_4 : w26.cell? ⟨gb132, 4, none⟩ = some (.int .i64 0) := (blk_cell BK132.out 4).trans rfl
                        have hcz31_5 : w26.cell? ⟨gb132, 5, none⟩ = some (.int .i64 0) := (blk_cell BK132.out 5).trans rfl
                        have hcz31_6 : w26.cell? ⟨gb132, 6, none⟩ = some (.int .i64 0) := (blk_cell BK132.out 6).trans rfl
                        have hfz31_0 := blk_frozen BK132.out 0
                        have hfz31_1 := blk_frozen BK132.out 1
                        have hfz31_2 := blk_frozen BK132.out 2
                        have hfz31_3 := blk_frozen BK132.out 3
                        have hfz31_4 := blk_frozen BK132.out 4
                        have hfz31_5 := blk_frozen BK132.out 5
                        have hfz31_6 := blk_frozen BK132.out 6
                        go_wp2
                        go_meet
                        case rel => exact ⟨_, (true), (by first | rfl | (simp; done) | (simp [*]; done)), H', ⟨by have := HJ7.out; have := HJ19.out; first | omega | exact Nat.le_refl _⟩, ⟨by (with_reducible repeat (first | apply Kd.R_alloc | apply Kd.R_drewN | apply Kd.R_drew)); exact Kd.R_mono (Kd.R_far (p := ⟨gb132, 6, none⟩) (Kd.R_far (p := ⟨gb132, 5, none⟩) (Kd.R_far (p := ⟨gb132, 4, none⟩) (Kd.R_far (p := ⟨gb132, 3, none⟩) (Kd.R_far (p := ⟨gb132, 2, none⟩) (Kd.R_far (p := ⟨gb132, 1, none⟩) (Kd.R_far (p := ⟨gb132, 0, none⟩) (Kd.R_mono HO_9.out (fun k_ hk => (⟨hk, hk.2⟩ : _ ∧ k_ ≠ gb132))) (fun _ hk => hk.2) (.int .i64 ((rd_T49 t126 x11_19).f0))) (fun _ hk => hk.2) (.int .i64 ((rd_T49 t126 x11_19).f1))) (fun _ hk => hk.2) (.int .i64 ((rd_T49 t126 x11_19).f2))) (fun _ hk => hk.2) (.int .i64 ((rd_T49 t126 x11_19).f3))) (fun _ hk => hk.2) (.int .i64 ((rd_T49 t126 x11_19).f4))) (fun _ hk => hk.2) (.int .i64 ((rd_T49 t126 x11_19).f5))) (fun _ hk => hk.2) (.int .i64 ((rd_T49 t126 x11_19).f6))) (fun _ hk => hk.1.2)⟩, ⟨by (with_reducible repeat (first | refine blk_drewN ?_ _ | refine blk_drew ?_ | refine blk_alloc ?_ _)); refine blk_far ?_ NB124_132.out _; (with_reducible repeat (first | refine blk_drewN ?_ _ | refine blk_drew ?_ | refine blk_alloc ?_ _)); refine blk_far ?_ NB124_132.out _; (with_reducible repeat (first | refine blk_drewN ?_ _ | refine blk_drew ?_ | refine blk_alloc ?_ _)); refine blk_far ?_ NB124_132.out _; (with_reducible repeat (first | refine blk_drewN ?_ _ | refine blk_drew ?_ | refine blk_alloc ?_ _)); refine blk_far ?_ NB124_132.out _; (with_reducible repeat (first | refine blk_drewN ?_ _ | refine blk_drew ?_ | refine blk_alloc ?_ _)); refine blk_far ?_ NB124_132.out _; (with_reducible repeat (first | refine blk_drewN ?_ _ | refine blk_drew ?_ | refine blk_alloc ?_ _)); refine blk_far ?_ NB124_132.out _; (with_reducible repeat (first | refine blk_drewN ?_ _ | refine blk_drew ?_ | refine blk_alloc ?_ _)); refine blk_far ?_ NB124_132.out _; (with_reducible repeat (first | refine blk_drewN ?_ _ | refine blk_drew ?_ | refine blk_alloc ?_ _)); exact BK124.out⟩, ⟨by (with_reducible repeat (first | refine blk_drewN ?_ _ | refine blk_drew ?_ | refine blk_alloc ?_ _)); refine blk_put (cs := #[.int .i64 ((rd_T49 t126 x11_19).f0), .int .i64 ((rd_T49 t126 x11_19).f1), .int .i64 ((rd_T49 t126 x11_19).f2), .int .i64 ((rd_T49 t126 x11_19).f3), .int .i64 ((rd_T49 t126 x11_19).f4), .int .i64 ((rd_T49 t126 x11_19).f5), .int .i64 0]) ?_ 6 _ rfl; (with_reducible repeat (first | refine blk_drewN ?_ _ | refine blk_drew ?_ | refine blk_alloc ?_ _)); refine blk_put (cs := #[.int .i64 ((rd_T49 t126 x11_19).f0), .int .i64 ((rd_T49 t126 x11_19).f1), .int .i64 ((rd_T49 t126 x11_19).f2), .int .i64 ((rd_T49 t126 x11_19).f3), .int .i64 ((rd_T49 t126 x11_19).f4), .int .i64 0, .int .i64 0]) ?_ 5 _ rfl; (with_reducible repeat (first | refine blk_drewN ?_ _ | refine blk_drew ?_ | refine blk_alloc ?_ _)); refine blk_put (cs := #[.int .i64 ((rd_T49 t126 x11_19).f0), .int .i64 ((rd_T49 t126 x11_19).f1), .int .i64 ((rd_T49 t126 x11_19).f2), .int .i64 ((rd_T49 t126 x11_19).f3), .int .i64 0, .int .i64 0, .int .i64 0]) ?_ 4 _ rfl; (with_reducible repeat (first | refine blk_drewN ?_ _ | refine blk_drew ?_ | refine blk_alloc ?_ _)); refine blk_put (cs := #[.int .i64 ((rd_T49 t126 x11_19).f0), .int .i64 ((rd_T49 t126 x11_19).f1), .int .i64 ((rd_T49 t126 x11_19).f2), .int .i64 0, .int .i64 0, .int .i64 0, .int .i64 0]) ?_ 3 _ rfl; (with_reducible repeat (first | refine blk_drewN ?_ _ | refine blk_drew ?_ | refine blk_alloc ?_ _)); refine blk_put (cs := #[.int .i64 ((rd_T49 t126 x11_19).f0), .int .i64 ((rd_T49 t126 x11_19).f1), .int .i64 0, .int .i64 0, .int .i64 0, .int .i64 0, .int .i64 0]) ?_ 2 _ rfl; (with_reducible repeat (first | refine blk_drewN ?_ _ | refine blk_drew ?_ | refine blk_alloc ?_ _)); refine blk_put (cs := #[.int .i64 ((rd_T49 t126 x11_19).f0), .int .i64 0, .int .i64 0, .int .i64 0, .int .i64 0, .int .i64 0, .int .i64 0]) ?_ 1 _ rfl; (with_reducible repeat (first | refine blk_drewN ?_ _ | refine blk_drew ?_ | refine blk_alloc ?_ _)); refine blk_put (cs := #[.int .i64 0, .int .i64 0, .int .i64 0, .int .i64 0, .int .i64 0, .int .i64 0, .int .i64 0]) ?_ 0 _ rfl; (with_reducible repeat (first | refine blk_drewN ?_ _ | refine blk_drew ?_ | refine blk_alloc ?_ _)); exact BK132.out⟩, ⟨by repeat (first | (with_reducible first | exact HB.out | apply below_alloc | apply pw_below_drewN | apply below_drew1 | refine below_set ?_ GE124.out | refine below_set ?_ GE132.out) | exact HB.out)⟩⟩
                      · rw [if_neg c29] at H
                        have c29b0 : decide (((rd_T49 t126 x11_19).f2) < 0) = false := decide_eq_false c29
                        clear c29
                        (first | rw [c29b0] | (simp only [i64_w, i32_w]; rw [c29b0]) | skip)
                        have H' := Aside0.mk H
                        clear H
                        have hnb32 := NB132_124.out
                        have hnc32 := NB124_132.out
                        have hcz33_0 : w26.cell? ⟨gb132, 0, none⟩ = some (.int .i64 0) := (blk_cell BK132.out 0).trans rfl
                        have hcz33_1 : w26.cell? ⟨gb132, 1, none⟩ = some (.int .i64 0) := (blk_cell BK132.out 1).trans rfl
                        have hcz33_2 : w26.cell? ⟨gb132, 2, none⟩ = some (.int .i64 0) := (blk_cell BK132.out 2).trans rfl
                        have hcz33_3 : w26.cell? ⟨gb132, 3, none⟩ = some (.int .i64 0) := (blk_cell BK132.out 3).trans rfl
                        have hcz33_4 : w26.cell? ⟨gb132, 4, none⟩ = some (.int .i64 0) := (blk_cell BK132.out 4).trans rfl
                        have hcz33_5 : w26.cell? ⟨gb132, 5, none⟩ = some (.int .i64 0) := (blk_cell BK132.out 5).trans rfl
                        have hcz33_6 : w26.cell? ⟨gb132, 6, none⟩ = some (.int .i64 0) := (blk_cell BK132.out 6).trans rfl
                        have hfz33_0 := blk_frozen BK132.out 0
                        have hfz33_1 := blk_frozen BK132.out 1
                        have hfz33_2 := blk_frozen BK132.out 2
                        have hfz33_3 := blk_frozen BK132.out 3
                        have hfz33_4 := blk_frozen BK132.out 4
                        have hfz33_5 := blk_frozen BK132.out 5
                        have hfz33_6 := blk_frozen BK132.out 6
                        have hcz34_0 : w26.cell? ⟨gb124, 0, none⟩ = some (.slice A0_0 l0_0.length c0_0) := (blk_cell BK124.out 0).trans rfl
                        have hfz34_0 := blk_frozen BK124.out 0
                        go_wp2
                        go_meet
                        case rel => exact ⟨_, (decide (((rd_T49 t126 x11_19).f2) ≥ (l0_0.length : Int))), (by first | rfl | (simp; done) | (simp [*]; done)), H', ⟨by have := HJ7.out; have := HJ19.out; first | omega | exact Nat.le_refl _⟩, ⟨by (with_reducible repeat (first | apply Kd.R_alloc | apply Kd.R_drewN | apply Kd.R_drew)); exact Kd.R_mono (Kd.R_far (p := ⟨gb132, 6, none⟩) (Kd.R_far (p := ⟨gb132, 5, none⟩) (Kd.R_far (p := ⟨gb132, 4, none⟩) (Kd.R_far (p := ⟨gb132, 3, none⟩) (Kd.R_far (p := ⟨gb132, 2, none⟩) (Kd.R_far (p := ⟨gb132, 1, none⟩) (Kd.R_far (p := ⟨gb132, 0, none⟩) (Kd.R_mono HO_9.out (fun k_ hk => (⟨hk, hk.2⟩ : _ ∧ k_ ≠ gb132))) (fun _ hk => hk.2) (.int .i64 ((rd_T49 t126 x11_19).f0))) (fun _ hk => hk.2) (.int .i64 ((rd_T49 t126 x11_19).f1))) (fun _ hk => hk.2) (.int .i64 ((rd_T49 t126 x11_19).f2))) (fun _ hk => hk.2) (.int .i64 ((rd_T49 t126 x11_19).f3))) (fun _ hk => hk.2) (.int .i64 ((rd_T49 t126 x11_19).f4))) (fun _ hk => hk.2) (.int .i64 ((rd_T49 t126 x11_19).f5))) (fun _ hk => hk.2) (.int .i64 ((rd_T49 t126 x11_19).f6))) (fun _ hk => hk.1.2)⟩, ⟨by (with_reducible repeat (first | refine blk_drewN ?_ _ | refine blk_drew ?_ | refine blk_alloc ?_ _)); refine blk_far ?_ NB124_132.out _; (with_reducible repeat (first | refine blk_drewN ?_ _ | refine blk_drew ?_ | refine blk_alloc ?_ _)); refine blk_far ?_ NB124_132.out _; (with_reducible repeat (first | refine blk_drewN ?_ _ | refine blk_drew ?_ | refine blk_alloc ?_ _)); refine blk_far ?_ NB124_132.out _; (with_reducible repeat (first | refine blk_drewN ?_ _ | refine blk_drew ?_ | refine blk_alloc ?_ _)); refine blk_far ?_ NB124_132.out _; (with_reducible repeat (first | refine blk_drewN ?_ _ | refine blk_drew ?_ | refine blk_alloc ?_ _)); refine blk_far ?_ NB124_132.out _; (with_reducible repeat (first | refine blk_drewN ?_ _ | refine blk_drew ?_ | refine blk_alloc ?_ _)); refine blk_far ?_ NB124_132.out _; (with_reducible repeat (first | refine blk_drewN ?_ _ | refine blk_drew ?_ | refine blk_alloc ?_ _)); refine blk_far ?_ NB124_132.out _; (with_reducible repeat (first | refine blk_drewN ?_ _ | refine blk_drew ?_ | refine blk_alloc ?_ _)); exact BK124.out⟩, ⟨by (with_reducible repeat (first | refine blk_drewN ?_ _ | refine blk_drew ?_ | refine blk_alloc ?_ _)); refine blk_put (cs := #[.int .i64 ((rd_T49 t126 x11_19).f0), .int .i64 ((rd_T49 t126 x11_19).f1), .int .i64 ((rd_T49 t126 x11_19).f2), .int .i64 ((rd_T49 t126 x11_19).f3), .int .i64 ((rd_T49 t126 x11_19).f4), .int .i64 ((rd_T49 t126 x11_19).f5), .int .i64 0]) ?_ 6 _ rfl; (with_reducible repeat (first | refine blk_drewN ?_ _ | refine blk_drew ?_ | refine blk_alloc ?_ _)); refine blk_put (cs := #[.int .i64 ((rd_T49 t126 x11_19).f0), .int .i64 ((rd_T49 t126 x11_19).f1), .int .i64 ((rd_T49 t126 x11_19).f2), .int .i64 ((rd_T49 t126 x11_19).f3), .int .i64 ((rd_T49 t126 x11_19).f4), .int .i64 0, .int .i64 0]) ?_ 5 _ rfl; (with_reducible repeat (first | refine blk_drewN ?_ _ | refine blk_drew ?_ | refine blk_alloc ?_ _)); refine blk_put (cs := #[.int .i64 ((rd_T49 t126 x11_19).f0), .int .i64 ((rd_T49 t126 x11_19).f1), .int .i64 ((rd_T49 t126 x11_19).f2), .int .i64 ((rd_T49 t126 x11_19).f3), .int .i64 0, .int .i64 0, .int .i64 0]) ?_ 4 _ rfl; (with_reducible repeat (first | refine blk_drewN ?_ _ | refine blk_drew ?_ | refine blk_alloc ?_ _)); refine blk_put (cs := #[.int .i64 ((rd_T49 t126 x11_19).f0), .int .i64 ((rd_T49 t126 x11_19).f1), .int .i64 ((rd_T49 t126 x11_19).f2), .int .i64 0, .int .i64 0, .int .i64 0, .int .i64 0]) ?_ 3 _ rfl; (with_reducible repeat (first | refine blk_drewN ?_ _ | refine blk_drew ?_ | refine blk_alloc ?_ _)); refine blk_put (cs := #[.int .i64 ((rd_T49 t126 x11_19).f0), .int .i64 ((rd_T49 t126 x11_19).f1), .int .i64 0, .int .i64 0, .int .i64 0, .int .i64 0, .int .i64 0]) ?_ 2 _ rfl; (with_reducible repeat (first | refine blk_drewN ?_ _ | refine blk_drew ?_ | refine blk_alloc ?_ _)); refine blk_put (cs := #[.int .i64 ((rd_T49 t126 x11_19).f0), .int .i64 0, .int .i64 0, .int .i64 0, .int .i64 0, .int .i64 0, .int .i64 0]) ?_ 1 _ rfl; (with_reducible repeat (first | refine blk_drewN ?_ _ | refine blk_drew ?_ | refine blk_alloc ?_ _)); refine blk_put (cs := #[.int .i64 0, .int .i64 0, .int .i64 0, .int .i64 0, .int .i64 0, .int .i64 0, .int .i64 0]) ?_ 0 _ rfl; (with_reducible repeat (first | refine blk_drewN ?_ _ | refine blk_drew ?_ | refine blk_alloc ?_ _)); exact BK132.out⟩, ⟨by repeat (first | (with_reducible first | exact HB.out | apply below_alloc | apply pw_below_drewN | apply below_drew1 | refine below_set ?_ GE124.out | refine below_set ?_ GE132.out) | exact HB.out)⟩⟩
                    case rest =>
                      clear HC25
                      try clear c1
                      try clear p1
                      try clear q1
                      try clear hx1
                      try clear c2
                      try clear p2
                      try clear c3
                      try clear c6
                      try clear p6
                      try clear c9
                      try clear c13
                      try clear c13b0
                      try clear c13b1
                      try clear p13
                      try clear q13
                      try clear hx13
                      try clear c17
                      try clear c18
                      try clear c18b0
                      try clear c18b1
                      try clear c18b2
                      try clear c19
                      try clear c22
                      try clear c22b0
                      try clear c23
                      try clear c23b0
                      try clear c24
                      try clear c24b0
                      try clear c27
                      try clear c29
                      try clear c29b0
                      try clear c30
                      try clear c32
                      try clear hcz11_0
                      try clear hcz15_0
                      try clear hcz28_0
                      try clear hcz28_1
                      try clear hcz28_2
                      try clear hcz28_3
                      try clear hcz28_4
                      try clear hcz28_5
                      try clear hcz28_6
                      try clear hcz31_0
                      try clear hcz31_1
                      try clear hcz31_2
                      try clear hcz31_3
                      try clear hcz31_4
                      try clear hcz31_5
                      try clear hcz31_6
                      try clear hcz33_0
                      try clear hcz33_1
                      try clear hcz33_2
                      try clear hcz33_3
                      try clear hcz33_4
                      try clear hcz33_5
                      try clear hcz33_6
                      try clear hcz34_0
                      try clear hfz11_0
                      try clear hfz15_0
                      try clear hfz28_0
                      try clear hfz28_1
                      try clear hfz28_2
                      try clear hfz28_3
                      try clear hfz28_4
                      try clear hfz28_5
                      try clear hfz28_6
                      try clear hfz31_0
                      try clear hfz31_1
                      try clear hfz31_2
                      try clear hfz31_3
                      try clear hfz31_4
                      try clear hfz31_5
                      try clear hfz31_6
                      try clear hfz33_0
                      try clear hfz33_1
                      try clear hfz33_2
                      try clear hfz33_3
                      try clear hfz33_4
                      try clear hfz33_5
                      try clear hfz33_6
                      try clear hfz34_0
                      try clear hx131_0
                      try clear hx131_1
                      try clear hx131_2
                      try clear hx131_3
                      try clear hx131_4
                      try clear hx131_5
                      try clear hx131_6
                      try clear p131
                      try clear p2
                      try clear p6
                      try clear q131
                      obtain ⟨kq, x62_24, rfl, HA, HJ24, HO_9, BK124, BK132, HB⟩ := hcut
                      cases kq with
                      | zero => exact absurd HA.out (by simp [plunderlaw6_SerialPart.j2])
                      | succ kj24 =>
                        have H := HA.out
                        clear HA
                        simp only [plunderlaw6_SerialPart.j2] at H
                        by_cases c35 : x62_24 = true
                        · subst c35
                          have H1 : (some false) = some r := by rw [if_pos rfl] at H; exact H
                          clear H
                          have H := H1
                          clear H1
                          obtain rfl := Option.some.inj H
                          go_wp2
                          go_ret
                          exact ⟨by first | rfl | (simp [errW_none, errW_some] <;> rfl) | (simp [*, errW_none, errW_some] <;> rfl), by repeat (first | (with_reducible first | exact HB.out | apply below_alloc | apply pw_below_drewN | apply below_drew1 | refine below_set ?_ GE124.out | refine below_set ?_ GE132.out) | exact HB.out)⟩
                        · replace c35 := Bool.eq_false_iff.mpr c35
                          subst c35
                          have H1 : (if 0 ≤ ((rd_T49 t126 x11_19).f2) then (if ((rd_T49 t126 x11_19).f2) < (l0_0.length : Int) then (if ((rd_T39 l0_0 ((rd_T49 t126 x11_19).f2)).f0) = 1 then (if ([] : List Int).length < 17592186044416 then (plunderlaw6_SerialPart.j3 kj24 a2 t126 x11_19 (([] : List Int) ++ [((rd_T49 t126 x11_19).f5)]) l0_0 ((rd_T49 t126 x11_19).f0) ((rd_T49 t126 x11_19).f1) ((rd_T49 t126 x11_19).f2) ((rd_T49 t126 x11_19).f3) ((rd_T49 t126 x11_19).f4) ((rd_T49 t126 x11_19).f5) ((rd_T49 t126 x11_19).f6)) else (none)) else (if ((rd_T39 l0_0 ((rd_T49 t126 x11_19).f2)).f0) > 1 then (some true) else (plunderlaw6_SerialPart.j3 kj24 a2 t126 x11_19 ([] : List Int) l0_0 ((rd_T49 t126 x11_19).f0) ((rd_T49 t126 x11_19).f1) ((rd_T49 t126 x11_19).f2) ((rd_T49 t126 x11_19).f3) ((rd_T49 t126 x11_19).f4) ((rd_T49 t126 x11_19).f5) ((rd_T49 t126 x11_19).f6)))) else (none)) else (none)) = some r := by rw [if_neg (show ¬ (false = true) by decide)] at H; exact H
                          clear H
                          have H := H1
                          clear H1
                          by_cases c36 : 0 ≤ ((rd_T49 t126 x11_19).f2)
                          · rw [if_pos c36] at H
                            have c36b0 : decide (0 ≤ ((rd_T49 t126 x11_19).f2)) = true := decide_eq_true c36
                            clear c36
                            by_cases c37 : ((rd_T49 t126 x11_19).f2) < (l0_0.length : Int)
                            · rw [if_pos c37] at H
                              have c37b0 : decide (((rd_T49 t126 x11_19).f2) < (l0_0.length : Int)) = true := decide_eq_true c37
                              clear c37
                              have HC38 := Aside0.mk H
                              clear H
                              have hnb39 := NB124_132.out
                              have hnc39 := NB132_124.out
                              have hcz40_0 : wc.cell? ⟨gb124, 0, none⟩ = some (.slice A0_0 l0_0.length c0_0) := (blk_cell BK124.out 0).trans rfl
                              have hfz40_0 := blk_frozen BK124.out 0
                              have hcz41_0 : wc.cell? ⟨gb132, 0, none⟩ = some (.int .i64 ((rd_T49 t126 x11_19).f0)) := (blk_cell BK132.out 0).trans rfl
                              have hcz41_1 : wc.cell? ⟨gb132, 1, none⟩ = some (.int .i64 ((rd_T49 t126 x11_19).f1)) := (blk_cell BK132.out 1).trans rfl
                              have hcz41_2 : wc.cell? ⟨gb132, 2, none⟩ = some (.int .i64 ((rd_T49 t126 x11_19).f2)) := (blk_cell BK132.out 2).trans rfl
                              have hcz41_3 : wc.cell? ⟨gb132, 3, none⟩ = some (.int .i64 ((rd_T49 t126 x11_19).f3)) := (blk_cell BK132.out 3).trans rfl
                              have hcz41_4 : wc.cell? ⟨gb132, 4, none⟩ = some (.int .i64 ((rd_T49 t126 x11_19).f4)) := (blk_cell BK132.out 4).trans rfl
                              have hcz41_5 : wc.cell? ⟨gb132, 5, none⟩ = some (.int .i64 ((rd_T49 t126 x11_19).f5)) := (blk_cell BK132.out 5).trans rfl
                              have hcz41_6 : wc.cell? ⟨gb132, 6, none⟩ = some (.int .i64 ((rd_T49 t126 x11_19).f6)) := (blk_cell BK132.out 6).trans rfl
                              have hfz41_0 := blk_frozen BK132.out 0
                              have hfz41_1 := blk_frozen BK132.out 1
                              have hfz41_2 := blk_frozen BK132.out 2
                              have hfz41_3 := blk_frozen BK132.out 3
                              have hfz41_4 := blk_frozen BK132.out 4
                              have hfz41_5 := blk_frozen BK132.out 5
                              have hfz41_6 := blk_frozen BK132.out 6
                              have p133 : 0 ≤ (((rd_T49 t126 x11_19).f2) : Int) := of_decide_eq_true (by first | (with_reducible assumption) | assumption)
                              have q133 : ((rd_T49 t126 x11_19).f2) < (l0_0.length : Int) := of_decide_eq_true (by first | (with_reducible assumption) | assumption)
                              obtain ⟨ad133, A133_3, c133_3, e133, hx133_0, hx133_1, hx133_2, hx133_3, hl133_3, hi133_3⟩ := at_T39 HR0_0.out ((rd_T49 t126 x11_19).f2) p133 q133
                              cases e133
                              replace hx133_0 := (HB.out.cell (World.block_lt_of_cell? w _ hx133_0)).trans hx133_0
                              replace hx133_1 := (HB.out.cell (World.block_lt_of_cell? w _ hx133_1)).trans hx133_1
                              replace hx133_2 := (HB.out.cell (World.block_lt_of_cell? w _ hx133_2)).trans hx133_2
                              replace hx133_3 := (HB.out.cell (World.block_lt_of_cell? w _ hx133_3)).trans hx133_3
                              have HR133_3 := Aside0.mk hi133_3
                              have HC133_3 := Aside0.mk hl133_3
                              clear hi133_3 hl133_3
                              replace p133 := eq_true p133
                              replace q133 := eq_true q133
                              go_upto_if 70 with (fail)
                              go_cut [13] (fun v13 wc => ∃ (kq : Nat) (x13_37 : List Int), Aside0 (plunderlaw6_SerialPart.j3 kq a2 t126 x11_19 x13_37 l0_0 ((rd_T49 t126 x11_19).f0) ((rd_T49 t126 x11_19).f1) ((rd_T49 t126 x11_19).f2) ((rd_T49 t126 x11_19).f3) ((rd_T49 t126 x11_19).f4) ((rd_T49 t126 x11_19).f5) ((rd_T49 t126 x11_19).f6) = some r) ∧ Aside0 (kq ≤ kj24) ∧ Aside0 (Kd.R k49 49 wc w.heap.size (fun k_ => k_ ≠ gb132) (.slice (some ad131) t126.length co21) t126) ∧ Aside0 (Kd.R (Kd.int .i64) 2 wc w.heap.size (fun _ => True) v13 x13_37) ∧ Aside0 (wc.heap[gb124]? = some (.cells #[(.slice (some ad133) l0_0.length c0_0)] 24 (0, 0))) ∧ Aside0 (wc.heap[gb132]? = some (.cells #[.int .i64 ((rd_T49 t126 x11_19).f0), .int .i64 ((rd_T49 t126 x11_19).f1), .int .i64 ((rd_T49 t126 x11_19).f2), .int .i64 ((rd_T49 t126 x11_19).f3), .int .i64 ((rd_T49 t126 x11_19).f4), .int .i64 ((rd_T49 t126 x11_19).f5), .int .i64 ((rd_T49 t126 x11_19).f6)] 49 (0, 0))) ∧ Aside0 (Below w.heap.size w wc))
                              case first =>
                                have H := HC38.out
                                clear HC38
                                by_cases c42 : ((rd_T39 l0_0 ((rd_T49 t126 x11_19).f2)).f0) = 1
                                · rw [if_pos c42] at H
                                  have c42b0 : (((rd_T39 l0_0 ((rd_T49 t126 x11_19).f2)).f0) == 1) = true := beq_iff_eq.mpr c42
                                  have c42b1 : (((rd_T39 l0_0 ((rd_T49 t126 x11_19).f2)).f0) != 1) = false := bne_eq_false_iff_eq.mpr c42
                                  clear c42
                                  (first | rw [c42b0] | (simp only [i64_w, i32_w]; rw [c42b0]) | skip)
                                  by_cases c43 : ([] : List Int).length < 17592186044416
                                  · rw [if_pos c43] at H
                                    have LMc43 := Aside0.mk c43
                                    clear c43
                                    obtain ⟨y134, hy134⟩ : ∃ y_ : List Int, y_ = (([] : List Int) ++ [((rd_T49 t126 x11_19).f5)]) := ⟨_, rfl⟩
                                    replace H : (plunderlaw6_SerialPart.j3 kj24 a2 t126 x11_19 y134 l0_0 ((rd_T49 t126 x11_19).f0) ((rd_T49 t126 x11_19).f1) ((rd_T49 t126 x11_19).f2) ((rd_T49 t126 x11_19).f3) ((rd_T49 t126 x11_19).f4) ((rd_T49 t126 x11_19).f5) ((rd_T49 t126 x11_19).f6)) = some r := by first | (rw [hy134]; with_reducible exact H) | (have H2_ := (Option.bind_some _ _).symm.trans H; rw [hy134]; with_reducible exact H2_) | (have H2_ := (Option.bind_some _ _).symm.trans H; with_reducible exact H2_) | with_reducible exact H | (rw [hy134]; exact H) | exact H
                                    have Ny134 := Aside0.mk hy134
                                    clear hy134
                                    have H' := Aside0.mk H
                                    clear H
                                    have hnb44 := NB132_124.out
                                    have hnc44 := NB124_132.out
                                    have hcz45_0 : wc.cell? ⟨gb132, 0, none⟩ = some (.int .i64 ((rd_T49 t126 x11_19).f0)) := (blk_cell BK132.out 0).trans rfl
                                    have hcz45_1 : wc.cell? ⟨gb132, 1, none⟩ = some (.int .i64 ((rd_T49 t126 x11_19).f1)) := (blk_cell BK132.out 1).trans rfl
                                    have hcz45_2 : wc.cell? ⟨gb132, 2, none⟩ = some (.int .i64 ((rd_T49 t126 x11_19).f2)) := (blk_cell BK132.out 2).trans rfl
                                    have hcz45_3 : wc.cell? ⟨gb132, 3, none⟩ = some (.int .i64 ((rd_T49 t126 x11_19).f3)) := (blk_cell BK132.out 3).trans rfl
                                    have hcz45_4 : wc.cell? ⟨gb132, 4, none⟩ = some (.int .i64 ((rd_T49 t126 x11_19).f4)) := (blk_cell BK132.out 4).trans rfl
                                    have hcz45_5 : wc.cell? ⟨gb132, 5, none⟩ = some (.int .i64 ((rd_T49 t126 x11_19).f5)) := (blk_cell BK132.out 5).trans rfl
                                    have hcz45_6 : wc.cell? ⟨gb132, 6, none⟩ = some (.int .i64 ((rd_T49 t126 x11_19).f6)) := (blk_cell BK132.out 6).trans rfl
                                    have hfz45_0 := blk_frozen BK132.out 0
                                    have hfz45_1 := blk_frozen BK132.out 1
                                    have hfz45_2 := blk_frozen BK132.out 2
                                    have hfz45_3 := blk_frozen BK132.out 3
                                    have hfz45_4 := blk_frozen BK132.out 4
                                    have hfz45_5 := blk_frozen BK132.out 5
                                    have hfz45_6 := blk_frozen BK132.out 6
                                    go_wp2_with (first | ((with_reducible refine gate_builtin (b := .append) (xs := #[.tmp 71, .tmp 74]) rfl ?_); (try (refine gate_guard (by rfl) ?_; dsimp only)); at_builtin; refine Kd.R_append (Kd.int .i64) (w0 := w) w.heap.size rfl (.tmp 71) (.tmp 74) 25 2 (.int .i64 0) 8 rfl Tryd.underlying25 info2 rfl (by decide) (by omega) (.slice none 0 0) ([] : List Int) ((rd_T49 t126 x11_19).f5) [.int .i64 ((rd_T49 t126 x11_19).f5)] (fun _ => True) (fun _ => False) rfl rfl ?aP (fun _ hk => hk.elim) ?aF ?aO ?aB ?aS ?aL ?_; (case aP => exact rfl); (case aB => exact (by repeat (first | (with_reducible first | exact HB.out | apply below_alloc | apply pw_below_drewN | apply below_drew1 | refine below_set ?_ GE124.out | refine below_set ?_ GE132.out) | exact HB.out))); (case aF => exact (fun _ _ => trivial)); (case aO => exact ((Kd.R_nil _ _ _ _ (fun _ => True)))); (case aS => exact (below_size (by repeat (first | (with_reducible first | exact HB.out | apply below_alloc | apply pw_below_drewN | apply below_drew1 | refine below_set ?_ GE124.out | refine below_set ?_ GE132.out) | exact HB.out)))); (case aL => have := LMc43.out; omega); intro v135 w46 ho hb hg hat; rw [← Ny134.out] at ho; have n0_ := Aside0.mk (Kd.R_grown (by (with_reducible repeat (first | apply Kd.R_alloc | apply Kd.R_drewN | apply Kd.R_drew)); exact HO_9.out) hg (fun _ _ => by simp [Value.ownBlock])); have n1_ := Aside0.mk (blk_grown (g := gb124) (o := .cells #[.slice (some ad133) l0_0.length c0_0] 24 (0, 0)) (by (with_reducible repeat (first | refine blk_drewN ?_ _ | refine blk_drew ?_ | refine blk_alloc ?_ _)); exact BK124.out) hg (by simp [Value.ownBlock])); have n2_ := Aside0.mk (blk_grown (g := gb132) (o := .cells #[.int .i64 ((rd_T49 t126 x11_19).f0), .int .i64 ((rd_T49 t126 x11_19).f1), .int .i64 ((rd_T49 t126 x11_19).f2), .int .i64 ((rd_T49 t126 x11_19).f3), .int .i64 ((rd_T49 t126 x11_19).f4), .int .i64 ((rd_T49 t126 x11_19).f5), .int .i64 ((rd_T49 t126 x11_19).f6)] 49 (0, 0)) (by (with_reducible repeat (first | refine blk_drewN ?_ _ | refine blk_drew ?_ | refine blk_alloc ?_ _)); exact BK132.out) hg (by simp [Value.ownBlock])); have n3_ := Aside0.mk (hb); have n4_ := Aside0.mk (ho); clear HO_9; clear BK124; clear BK132; clear HB; have HO_9 := n0_; have BK124 := n1_; have BK132 := n2_; have HB := n3_; have HO136 := n4_; clear n0_ n1_ n2_ n3_ n4_; clear ho hb hg hat))
                                    go_meet
                                    case rel => exact ⟨_, (y134), H', ⟨by have := HJ7.out; have := HJ19.out; have := HJ24.out; first | omega | exact Nat.le_refl _⟩, ⟨by (with_reducible repeat (first | apply Kd.R_alloc | apply Kd.R_drewN | apply Kd.R_drew)); exact HO_9.out⟩, ⟨by (with_reducible repeat (first | apply Kd.R_alloc | apply Kd.R_drewN | apply Kd.R_drew)); exact HO136.out⟩, ⟨by (with_reducible repeat (first | refine blk_drewN ?_ _ | refine blk_drew ?_ | refine blk_alloc ?_ _)); exact BK124.out⟩, ⟨by (with_reducible repeat (first | refine blk_drewN ?_ _ | refine blk_drew ?_ | refine blk_alloc ?_ _)); exact BK132.out⟩, ⟨by repeat (first | (with_reducible first | exact HB.out | apply below_alloc | apply pw_below_drewN | apply below_drew1 | refine below_set ?_ GE124.out | refine below_set ?_ GE132.out) | exact HB.out)⟩⟩
                                  · rw [if_neg c43] at H
                                    exact absurd H (by simp)
                                · rw [if_neg c42] at H
                                  have c42b0 : (((rd_T39 l0_0 ((rd_T49 t126 x11_19).f2)).f0) == 1) = false := beq_eq_false_iff_ne.mpr c42
                                  have c42b1 : (((rd_T39 l0_0 ((rd_T49 t126 x11_19).f2)).f0) != 1) = true := bne_iff_ne.mpr c42
                                  (first | rw [c42b0] | (simp only [i64_w, i32_w]; rw [c42b0]) | skip)
                                  by_cases c47 : ((rd_T39 l0_0 ((rd_T49 t126 x11_19).f2)).f0) > 1
                                  · rw [if_pos c47] at H
                                    have c47b0 : decide (1 < ((rd_T39 l0_0 ((rd_T49 t126 x11_19).f2)).f0)) = true := decide_eq_true c47
                                    clear c47
                                    obtain rfl := Option.some.inj H
                                    have hnb48 := NB124_132.out
                                    have hnc48 := NB132_124.out
                                    have hcz49_0 : wc.cell? ⟨gb124, 0, none⟩ = some (.slice (some ad133) l0_0.length c0_0) := (blk_cell BK124.out 0).trans rfl
                                    have hfz49_0 := blk_frozen BK124.out 0
                                    have hcz50_0 : wc.cell? ⟨gb132, 0, none⟩ = some (.int .i64 ((rd_T49 t126 x11_19).f0)) := (blk_cell BK132.out 0).trans rfl
                                    have hcz50_1 : wc.cell? ⟨gb132, 1, none⟩ = some (.int .i64 ((rd_T49 t126 x11_19).f1)) := (blk_cell BK132.out 1).trans rfl
                                    have hcz50_2 : wc.cell? ⟨gb132, 2, none⟩ = some (.int .i64 ((rd_T49 t126 x11_19).f2)) := (blk_cell BK132.out 2).trans rfl
                                    have hcz50_3 : wc.cell? ⟨gb132, 3, none⟩ = some (.int .i64 ((rd_T49 t126 x11_19).f3)) := (blk_cell BK132.out 3).trans rfl
                                    have hcz50_4 : wc.cell? ⟨gb132, 4, none⟩ = some (.int .i64 ((rd_T49 t126 x11_19).f4)) := (blk_cell BK132.out 4).trans rfl
                                    have hcz50_5 : wc.cell? ⟨gb132, 5, none⟩ = some (.int .i64 ((rd_T49 t126 x11_19).f5)) := (blk_cell BK132.out 5).trans rfl
                                    have hcz50_6 : wc.cell? ⟨gb132, 6, none⟩ = some (.int .i64 ((rd_T49 t126 x11_19).f6)) := (blk_cell BK132.out 6).trans rfl
                                    have hfz50_0 := blk_frozen BK132.out 0
                                    have hfz50_1 := blk_frozen BK132.out 1
                                    have hfz50_2 := blk_frozen BK132.out 2
                                    have hfz50_3 := blk_frozen BK132.out 3
                                    have hfz50_4 := blk_frozen BK132.out 4
                                    have hfz50_5 := blk_frozen BK132.out 5
                                    have hfz50_6 := blk_frozen BK132.out 6
                                    have p137 : 0 ≤ (((rd_T49 t126 x11_19).f2) : Int) := of_decide_eq_true (by first | (with_reducible assumption) | assumption)
                                    have q137 : ((rd_T49 t126 x11_19).f2) < (l0_0.length : Int) := of_decide_eq_true (by first | (with_reducible assumption) | assumption)
                                    obtain ⟨ad137, A137_3, c137_3, e137, hx137_0, hx137_1, hx137_2, hx137_3, hl137_3, hi137_3⟩ := at_T39 HR0_0.out ((rd_T49 t126 x11_19).f2) p137 q137
                                    obtain rfl : ad133 = ad137 := (by injection e137)
                                    replace hx137_0 := (HB.out.cell (World.block_lt_of_cell? w _ hx137_0)).trans hx137_0
                                    replace hx137_1 := (HB.out.cell (World.block_lt_of_cell? w _ hx137_1)).trans hx137_1
                                    replace hx137_2 := (HB.out.cell (World.block_lt_of_cell? w _ hx137_2)).trans hx137_2
                                    replace hx137_3 := (HB.out.cell (World.block_lt_of_cell? w _ hx137_3)).trans hx137_3
                                    have HR137_3 := Aside0.mk hi137_3
                                    have HC137_3 := Aside0.mk hl137_3
                                    clear hi137_3 hl137_3
                                    replace p137 := eq_true p137
                                    replace q137 := eq_true q137
                                    go_wp2
                                    go_ret
                                    exact ⟨by first | rfl | (simp [errW_none, errW_some] <;> rfl) | (simp [*, errW_none, errW_some] <;> rfl), by repeat (first | (with_reducible first | exact HB.out | apply below_alloc | apply pw_below_drewN | apply below_drew1 | refine below_set ?_ GE124.out | refine below_set ?_ GE132.out) | exact HB.out)⟩
                                  · rw [if_neg c47] at H
                                    have c47b0 : decide (1 < ((rd_T39 l0_0 ((rd_T49 t126 x11_19).f2)).f0)) = false := decide_eq_false c47
                                    clear c47
                                    have H' := Aside0.mk H
                                    clear H
                                    have hnb51 := NB124_132.out
                                    have hnc51 := NB132_124.out
                                    have hcz52_0 : wc.cell? ⟨gb124, 0, none⟩ = some (.slice (some ad133) l0_0.length c0_0) := (blk_cell BK124.out 0).trans rfl
                                    have hfz52_0 := blk_frozen BK124.out 0
                                    have hcz53_0 : wc.cell? ⟨gb132, 0, none⟩ = some (.int .i64 ((rd_T49 t126 x11_19).f0)) := (blk_cell BK132.out 0).trans rfl
                                    have hcz53_1 : wc.cell? ⟨gb132, 1, none⟩ = some (.int .i64 ((rd_T49 t126 x11_19).f1)) := (blk_cell BK132.out 1).trans rfl
                                    have hcz53_2 : wc.cell? ⟨gb132, 2, none⟩ = some (.int .i64 ((rd_T49 t126 x11_19).f2)) := (blk_cell BK132.out 2).trans rfl
                                    have hcz53_3 : wc.cell? ⟨gb132, 3, none⟩ = some (.int .i64 ((rd_T49 t126 x11_19).f3)) := (blk_cell BK132.out 3).trans rfl
                                    have hcz53_4 : wc.cell? ⟨gb132, 4, none⟩ = some (.int .i64 ((rd_T49 t126 x11_19).f4)) := (blk_cell BK132.out 4).trans rfl
                                    have hcz53_5 : wc.cell? ⟨gb132, 5, none⟩ = some (.int .i64 ((rd_T49 t126 x11_19).f5)) := (blk_cell BK132.out 5).trans rfl
                                    have hcz53_6 : wc.cell? ⟨gb132, 6, none⟩ = some (.int .i64 ((rd_T49 t126 x11_19).f6)) := (blk_cell BK132.out 6).trans rfl
                                    have hfz53_0 := blk_frozen BK132.out 0
                                    have hfz53_1 := blk_frozen BK132.out 1
                                    have hfz53_2 := blk_frozen BK132.out 2
                                    have hfz53_3 := blk_frozen BK132.out 3
                                    have hfz53_4 := blk_frozen BK132.out 4
                                    have hfz53_5 := blk_frozen BK132.out 5
                                    have hfz53_6 := blk_frozen BK132.out 6
                                    have p137 : 0 ≤ (((rd_T49 t126 x11_19).f2) : Int) := of_decide_eq_true (by first | (with_reducible assumption) | assumption)
                                    have q137 : ((rd_T49 t126 x11_19).f2) < (l0_0.length : Int) := of_decide_eq_true (by first | (with_reducible assumption) | assumption)
                                    obtain ⟨ad137, A137_3, c137_3, e137, hx137_0, hx137_1, hx137_2, hx137_3, hl137_3, hi137_3⟩ := at_T39 HR0_0.out ((rd_T49 t126 x11_19).f2) p137 q137
                                    obtain rfl : ad133 = ad137 := (by injection e137)
                                    replace hx137_0 := (HB.out.cell (World.block_lt_of_cell? w _ hx137_0)).trans hx137_0
                                    replace hx137_1 := (HB.out.cell (World.block_lt_of_cell? w _ hx137_1)).trans hx137_1
                                    replace hx137_2 := (HB.out.cell (World.block_lt_of_cell? w _ hx137_2)).trans hx137_2
                                    replace hx137_3 := (HB.out.cell (World.block_lt_of_cell? w _ hx137_3)).trans hx137_3
                                    have HR137_3 := Aside0.mk hi137_3
                                    have HC137_3 := Aside0.mk hl137_3
                                    clear hi137_3 hl137_3
                                    replace p137 := eq_true p137
                                    replace q137 := eq_true q137
                                    go_wp2
                                    go_meet
                                    case rel => exact ⟨_, (([] : List Int)), H', ⟨by have := HJ7.out; have := HJ19.out; have := HJ24.out; first | omega | exact Nat.le_refl _⟩, ⟨by (with_reducible repeat (first | apply Kd.R_alloc | apply Kd.R_drewN | apply Kd.R_drew)); exact HO_9.out⟩, ⟨by first | exact Kd.R_nil _ _ _ _ _ | exact Kd.N_nil _ _ _ _ _ | exact Kd.V_nil _ _ _ _ _ | exact Kd.Q_nil _ _ _ _ _ | exact Kd.S_nil _ _ _ _ _⟩, ⟨by (with_reducible repeat (first | refine blk_drewN ?_ _ | refine blk_drew ?_ | refine blk_alloc ?_ _)); exact BK124.out⟩, ⟨by (with_reducible repeat (first | refine blk_drewN ?_ _ | refine blk_drew ?_ | refine blk_alloc ?_ _)); exact BK132.out⟩, ⟨by repeat (first | (with_reducible first | exact HB.out | apply below_alloc | apply pw_below_drewN | apply below_drew1 | refine below_set ?_ GE124.out | refine below_set ?_ GE132.out) | exact HB.out)⟩⟩
                              case rest =>
                                clear HC38
                                try clear c1
                                try clear p1
                                try clear q1
                                try clear hx1
                                try clear c2
                                try clear p2
                                try clear c3
                                try clear c4
                                try clear c5
                                try clear c6
                                try clear p6
                                try clear c9
                                try clear c13
                                try clear c13b0
                                try clear c13b1
                                try clear p13
                                try clear q13
                                try clear hx13
                                try clear c17
                                try clear c18
                                try clear c18b0
                                try clear c18b1
                                try clear c18b2
                                try clear c19
                                try clear c22
                                try clear c22b0
                                try clear c23
                                try clear c23b0
                                try clear c24
                                try clear c24b0
                                try clear c27
                                try clear c29
                                try clear c29b0
                                try clear c30
                                try clear c32
                                try clear c35
                                try clear c36
                                try clear c36b0
                                try clear c37
                                try clear c37b0
                                try clear c39
                                try clear c42
                                try clear c42b0
                                try clear c42b1
                                try clear c43
                                try clear c44
                                try clear c47
                                try clear c47b0
                                try clear c48
                                try clear c51
                                try clear hcz11_0
                                try clear hcz15_0
                                try clear hcz28_0
                                try clear hcz28_1
                                try clear hcz28_2
                                try clear hcz28_3
                                try clear hcz28_4
                                try clear hcz28_5
                                try clear hcz28_6
                                try clear hcz31_0
                                try clear hcz31_1
                                try clear hcz31_2
                                try clear hcz31_3
                                try clear hcz31_4
                                try clear hcz31_5
                                try clear hcz31_6
                                try clear hcz33_0
                                try clear hcz33_1
                                try clear hcz33_2
                                try clear hcz33_3
                                try clear hcz33_4
                                try clear hcz33_5
                                try clear hcz33_6
                                try clear hcz34_0
                                try clear hcz40_0
                                try clear hcz41_0
                                try clear hcz41_1
                                try clear hcz41_2
                                try clear hcz41_3
                                try clear hcz41_4
                                try clear hcz41_5
                                try clear hcz41_6
                                try clear hcz45_0
                                try clear hcz45_1
                                try clear hcz45_2
                                try clear hcz45_3
                                try clear hcz45_4
                                try clear hcz45_5
                                try clear hcz45_6
                                try clear hcz49_0
                                try clear hcz50_0
                                try clear hcz50_1
                                try clear hcz50_2
                                try clear hcz50_3
                                try clear hcz50_4
                                try clear hcz50_5
                                try clear hcz50_6
                                try clear hcz52_0
                                try clear hcz53_0
                                try clear hcz53_1
                                try clear hcz53_2
                                try clear hcz53_3
                                try clear hcz53_4
                                try clear hcz53_5
                                try clear hcz53_6
                                try clear hfz11_0
                                try clear hfz15_0
                                try clear hfz28_0
                                try clear hfz28_1
                                try clear hfz28_2
                                try clear hfz28_3
                                try clear hfz28_4
                                try clear hfz28_5
                                try clear hfz28_6
                                try clear hfz31_0
                                try clear hfz31_1
                                try clear hfz31_2
                                try clear hfz31_3
                                try clear hfz31_4
                                try clear hfz31_5
                                try clear hfz31_6
                                try clear hfz33_0
                                try clear hfz33_1
                                try clear hfz33_2
                                try clear hfz33_3
                                try clear hfz33_4
                                try clear hfz33_5
                                try clear hfz33_6
                                try clear hfz34_0
                                try clear hfz40_0
                                try clear hfz41_0
                                try clear hfz41_1
                                try clear hfz41_2
                                try clear hfz41_3
                                try clear hfz41_4
                                try clear hfz41_5
                                try clear hfz41_6
                                try clear hfz45_0
                                try clear hfz45_1
                                try clear hfz45_2
                                try clear hfz45_3
                                try clear hfz45_4
                                try clear hfz45_5
                                try clear hfz45_6
                                try clear hfz49_0
                                try clear hfz50_0
                                try clear hfz50_1
                                try clear hfz50_2
                                try clear hfz50_3
                                try clear hfz50_4
                                try clear hfz50_5
                                try clear hfz50_6
                                try clear hfz52_0
                                try clear hfz53_0
                                try clear hfz53_1
                                try clear hfz53_2
                                try clear hfz53_3
                                try clear hfz53_4
                                try clear hfz53_5
                                try clear hfz53_6
                                try clear hx131_0
                                try clear hx131_1
                                try clear hx131_2
                                try clear hx131_3
                                try clear hx131_4
                                try clear hx131_5
                                try clear hx131_6
                                try clear hx133_0
                                try clear hx133_1
                                try clear hx133_2
                                try clear hx133_3
                                try clear hx137_0
                                try clear hx137_1
                                try clear hx137_2
                                try clear hx137_3
                                try clear p1
                                try clear p13
                                try clear p131
                                try clear p133
                                try clear p137
                                try clear p2
                                try clear p6
                                try clear q1
                                try clear q13
                                try clear q131
                                try clear q133
                                try clear q137
                                obtain ⟨kq, x13_37, HA, HJ37, HO_9, HO_13, BK124, BK132, HB⟩ := hcut
                                cases kq with
                                | zero => exact absurd HA.out (by simp [plunderlaw6_SerialPart.j3])
                                | succ kj37 =>
                                  have H := HA.out
                                  clear HA
                                  simp only [plunderlaw6_SerialPart.j3] at H
                                  have H' := Aside0.mk H
                                  clear H
                                  have hnb54 := NB132_124.out
                                  have hnc54 := NB124_132.out
                                  have hcz55_0 : wc.cell? ⟨gb132, 0, none⟩ = some (.int .i64 ((rd_T49 t126 x11_19).f0)) := (blk_cell BK132.out 0).trans rfl
                                  have hcz55_1 : wc.cell? ⟨gb132, 1, none⟩ = some (.int .i64 ((rd_T49 t126 x11_19).f1)) := (blk_cell BK132.out 1).trans rfl
                                  have hcz55_2 : wc.cell? ⟨gb132, 2, none⟩ = some (.int .i64 ((rd_T49 t126 x11_19).f2)) := (blk_cell BK132.out 2).trans rfl
                                  have hcz55_3 : wc.cell? ⟨gb132, 3, none⟩ = some (.int .i64 ((rd_T49 t126 x11_19).f3)) := (blk_cell BK132.out 3).trans rfl
                                  have hcz55_4 : wc.cell? ⟨gb132, 4, none⟩ = some (.int .i64 ((rd_T49 t126 x11_19).f4)) := (blk_cell BK132.out 4).trans rfl
                                  have hcz55_5 : wc.cell? ⟨gb132, 5, none⟩ = some (.int .i64 ((rd_T49 t126 x11_19).f5)) := (blk_cell BK132.out 5).trans rfl
                                  have hcz55_6 : wc.cell? ⟨gb132, 6, none⟩ = some (.int .i64 ((rd_T49 t126 x11_19).f6)) := (blk_cell BK132.out 6).trans rfl
                                  have hfz55_0 := blk_frozen BK132.out 0
                                  have hfz55_1 := blk_frozen BK132.out 1
                                  have hfz55_2 := blk_frozen BK132.out 2
                                  have hfz55_3 := blk_frozen BK132.out 3
                                  have hfz55_4 := blk_frozen BK132.out 4
                                  have hfz55_5 := blk_frozen BK132.out 5
                                  have hfz55_6 := blk_frozen BK132.out 6
                                  go_wp2
                                  go_loopg [14, 15, 16] kj37 (fun kq v14 v15 v16 w' => ∃ (x14_5 : Int) (x15_5 : Int) (x16_5 : Int), v14 = .int .i64 x14_5 ∧ v15 = .int .i64 x15_5 ∧ v16 = .int .i64 x16_5 ∧ Aside0 (plunderlaw6_SerialPart.l0 kq a2 t126 x11_19 x13_37 x14_5 x15_5 x16_5 l0_0 ((rd_T49 t126 x11_19).f0) ((rd_T49 t126 x11_19).f1) ((rd_T49 t126 x11_19).f2) ((rd_T49 t126 x11_19).f3) ((rd_T49 t126 x11_19).f4) ((rd_T49 t126 x11_19).f5) ((rd_T49 t126 x11_19).f6) = some r) ∧ Aside0 (kq ≤ kj37) ∧ Aside0 (Kd.R k49 49 w' w.heap.size (fun k_ => k_ ≠ gb132) (.slice (some ad131) t126.length co21) t126) ∧ Aside0 (Kd.R (Kd.int .i64) 2 w' w.heap.size (fun _ => True) u13 x13_37) ∧ Aside0 (w'.heap[gb124]? = some (.cells #[(.slice (some ad133) l0_0.length c0_0)] 24 (0, 0))) ∧ Aside0 (w'.heap[gb132]? = some (.cells #[.int .i64 ((rd_T49 t126 x11_19).f0), .int .i64 ((rd_T49 t126 x11_19).f1), .int .i64 ((rd_T49 t126 x11_19).f2), .int .i64 ((rd_T49 t126 x11_19).f3), .int .i64 ((rd_T49 t126 x11_19).f4), .int .i64 ((rd_T49 t126 x11_19).f5), .int .i64 ((rd_T49 t126 x11_19).f6)] 49 (0, 0))) ∧ Aside0 (Below w.heap.size w w'))
                                  case atStart => exact ⟨(1), (((rd_T49 t126 x11_19).f3)), (wrap64 (x11_19 + 1)), (by first | rfl | (simp; done) | (simp [*]; done)), (by first | rfl | (simp; done) | (simp [*]; done)), (by first | rfl | (simp; done) | (simp [*]; done)), H', ⟨Nat.le_refl _⟩, ⟨by (with_reducible repeat (first | apply Kd.R_alloc | apply Kd.R_drewN | apply Kd.R_drew)); exact HO_9.out⟩, ⟨by (with_reducible repeat (first | apply Kd.R_alloc | apply Kd.R_drewN | apply Kd.R_drew)); exact HO_13.out⟩, ⟨by (with_reducible repeat (first | refine blk_drewN ?_ _ | refine blk_drew ?_ | refine blk_alloc ?_ _)); exact BK124.out⟩, ⟨by (with_reducible repeat (first | refine blk_drewN ?_ _ | refine blk_drew ?_ | refine blk_alloc ?_ _)); exact BK132.out⟩, ⟨by repeat (first | (with_reducible first | exact HB.out | apply below_alloc | apply pw_below_drewN | apply below_drew1 | refine below_set ?_ GE124.out | refine below_set ?_ GE132.out) | exact HB.out)⟩⟩
                                  case round =>
                                    clear H'
                                    try clear c1
                                    try clear p1
                                    try clear q1
                                    try clear hx1
                                    try clear c2
                                    try clear p2
                                    try clear c3
                                    try clear c4
                                    try clear c5
                                    try clear c6
                                    try clear p6
                                    try clear c9
                                    try clear c13
                                    try clear c13b0
                                    try clear c13b1
                                    try clear p13
                                    try clear q13
                                    try clear hx13
                                    try clear c17
                                    try clear c18
                                    try clear c18b0
                                    try clear c18b1
                                    try clear c18b2
                                    try clear c19
                                    try clear c22
                                    try clear c22b0
                                    try clear c23
                                    try clear c23b0
                                    try clear c24
                                    try clear c24b0
                                    try clear c27
                                    try clear c29
                                    try clear c29b0
                                    try clear c30
                                    try clear c32
                                    try clear c35
                                    try clear c36
                                    try clear c36b0
                                    try clear c37
                                    try clear c37b0
                                    try clear c39
                                    try clear c42
                                    try clear c42b0
                                    try clear c42b1
                                    try clear c43
                                    try clear c44
                                    try clear c47
                                    try clear c47b0
                                    try clear c48
                                    try clear c51
                                    try clear c54
                                    try clear hcz11_0
                                    try clear hcz15_0
                                    try clear hcz28_0
                                    try clear hcz28_1
                                    try clear hcz28_2
                                    try clear hcz28_3
                                    try clear hcz28_4
                                    try clear hcz28_5
                                    try clear hcz28_6
                                    try clear hcz31_0
                                    try clear hcz31_1
                                    try clear hcz31_2
                                    try clear hcz31_3
                                    try clear hcz31_4
                                    try clear hcz31_5
                                    try clear hcz31_6
                                    try clear hcz33_0
                                    try clear hcz33_1
                                    try clear hcz33_2
                                    try clear hcz33_3
                                    try clear hcz33_4
                                    try clear hcz33_5
                                    try clear hcz33_6
                                    try clear hcz34_0
                                    try clear hcz40_0
                                    try clear hcz41_0
                                    try clear hcz41_1
                                    try clear hcz41_2
                                    try clear hcz41_3
                                    try clear hcz41_4
                                    try clear hcz41_5
                                    try clear hcz41_6
                                    try clear hcz45_0
                                    try clear hcz45_1
                                    try clear hcz45_2
                                    try clear hcz45_3
                                    try clear hcz45_4
                                    try clear hcz45_5
                                    try clear hcz45_6
                                    try clear hcz49_0
                                    try clear hcz50_0
                                    try clear hcz50_1
                                    try clear hcz50_2
                                    try clear hcz50_3
                                    try clear hcz50_4
                                    try clear hcz50_5
                                    try clear hcz50_6
                                    try clear hcz52_0
                                    try clear hcz53_0
                                    try clear hcz53_1
                                    try clear hcz53_2
                                    try clear hcz53_3
                                    try clear hcz53_4
                                    try clear hcz53_5
                                    try clear hcz53_6
                                    try clear hcz55_0
                                    try clear hcz55_1
                                    try clear hcz55_2
                                    try clear hcz55_3
                                    try clear hcz55_4
                                    try clear hcz55_5
                                    try clear hcz55_6
                                    try clear hfz11_0
                                    try clear hfz15_0
                                    try clear hfz28_0
                                    try clear hfz28_1
                                    try clear hfz28_2
                                    try clear hfz28_3
                                    try clear hfz28_4
                                    try clear hfz28_5
                                    try clear hfz28_6
                                    try clear hfz31_0
                                    try clear hfz31_1
                                    try clear hfz31_2
                                    try clear hfz31_3
                                    try clear hfz31_4
                                    try clear hfz31_5
                                    try clear hfz31_6
                                    try clear hfz33_0
                                    try clear hfz33_1
                                    try clear hfz33_2
                                    try clear hfz33_3
                                    try clear hfz33_4
                                    try clear hfz33_5
                                    try clear hfz33_6
                                    try clear hfz34_0
                                    try clear hfz40_0
                                    try clear hfz41_0
                                    try clear hfz41_1
                                    try clear hfz41_2
                                    try clear hfz41_3
                                    try clear hfz41_4
                                    try clear hfz41_5
                                    try clear hfz41_6
                                    try clear hfz45_0
                                    try clear hfz45_1
                                    try clear hfz45_2
                                    try clear hfz45_3
                                    try clear hfz45_4
                                    try clear hfz45_5
                                    try clear hfz45_6
                                    try clear hfz49_0
                                    try clear hfz50_0
                                    try clear hfz50_1
                                    try clear hfz50_2
                                    try clear hfz50_3
                                    try clear hfz50_4
                                    try clear hfz50_5
                                    try clear hfz50_6
                                    try clear hfz52_0
                                    try clear hfz53_0
                                    try clear hfz53_1
                                    try clear hfz53_2
                                    try clear hfz53_3
                                    try clear hfz53_4
                                    try clear hfz53_5
                                    try clear hfz53_6
                                    try clear hfz55_0
                                    try clear hfz55_1
                                    try clear hfz55_2
                                    try clear hfz55_3
                                    try clear hfz55_4
                                    try clear hfz55_5
                                    try clear hfz55_6
                                    try clear hx131_0
                                    try clear hx131_1
                                    try clear hx131_2
                                    try clear hx131_3
                                    try clear hx131_4
                                    try clear hx131_5
                                    try clear hx131_6
                                    try clear hx133_0
                                    try clear hx133_1
                                    try clear hx133_2
                                    try clear hx133_3
                                    try clear hx137_0
                                    try clear hx137_1
                                    try clear hx137_2
                                    try clear hx137_3
                                    try clear p1
                                    try clear p13
                                    try clear p131
                                    try clear p133
                                    try clear p137
                                    try clear p2
                                    try clear p6
                                    try clear q1
                                    try clear q13
                                    try clear q131
                                    try clear q133
                                    try clear q137
                                    obtain ⟨x14_5, x15_5, x16_5, rfl, rfl, rfl, HA, HK5, HO_9, HO_13, BK124, BK132, HB⟩ := hrel
                                    cases gk with
                                    | zero => exact absurd HA.out (by simp [plunderlaw6_SerialPart.l0])
                                    | succ k5 =>
                                      have H := HA.out
                                      clear HA
                                      simp only [plunderlaw6_SerialPart.l0] at H
                                      by_cases c56 : x16_5 < (t126.length : Int)
                                      · rw [if_pos c56] at H
                                        have c56b0 : decide (x16_5 < (t126.length : Int)) = true := decide_eq_true c56
                                        clear c56
                                        by_cases c57 : 0 ≤ x16_5
                                        · rw [if_pos c57] at H
                                          have c57b0 : decide (0 ≤ x16_5) = true := decide_eq_true c57
                                          clear c57
                                          by_cases c58 : ((rd_T49 t126 x16_5).f0) ≥ x11_19
                                          · rw [if_pos c58] at H
                                            have c58b0 : decide (x11_19 ≤ ((rd_T49 t126 x16_5).f0)) = true := decide_eq_true c58
                                            clear c58
                                            have H' := Aside0.mk H
                                            clear H
                                            have p138 : 0 ≤ (x16_5 : Int) := of_decide_eq_true (by first | (with_reducible assumption) | assumption)
                                            have q138 : x16_5 < (t126.length : Int) := of_decide_eq_true (by first | (with_reducible assumption) | assumption)
                                            obtain ⟨ad138, e138, hx138_0, hx138_1, hx138_2, hx138_3, hx138_4, hx138_5, hx138_6⟩ := at_T49 (Kd.R_reads' HO_9.out).2.2 x16_5 p138 q138
                                            obtain rfl : ad131 = ad138 := (by injection e138)
                                            replace p138 := eq_true p138
                                            replace q138 := eq_true q138
                                            have p139 : 0 ≤ (x16_5 : Int) := of_decide_eq_true (by first | (with_reducible assumption) | assumption)
                                            have q139 : x16_5 < (t126.length : Int) := of_decide_eq_true (by first | (with_reducible assumption) | assumption)
                                            obtain ⟨ad139, e139, hx139_0, hx139_1, hx139_2, hx139_3, hx139_4, hx139_5, hx139_6⟩ := at_T49 (Kd.R_reads' HO_9.out).2.2 x16_5 p139 q139
                                            obtain rfl : ad131 = ad139 := (by injection e139)
                                            replace p139 := eq_true p139
                                            replace q139 := eq_true q139
                                            go_wp2
                                            go_roundg k5
                                            case measure => have := HJ7.out; have := HJ19.out; have := HJ24.out; have := HJ37.out; have := HK5.out; omega
                                            case rel => exact ⟨(wrap64 (x14_5 + 1)), (wrap64 (x15_5 + ((rd_T49 t126 x16_5).f3))), (wrap64 (x16_5 + 1)), (by first | rfl | (simp; done) | (simp [*]; done)), (by first | rfl | (simp; done) | (simp [*]; done)), (by first | rfl | (simp; done) | (simp [*]; done)), H', ⟨by have := HJ7.out; have := HJ19.out; have := HJ24.out; have := HJ37.out; have := HK5.out; omega⟩, ⟨by (with_reducible repeat (first | apply Kd.R_alloc | apply Kd.R_drewN | apply Kd.R_drew)); exact HO_9.out⟩, ⟨by (with_reducible repeat (first | apply Kd.R_alloc | apply Kd.R_drewN | apply Kd.R_drew)); exact HO_13.out⟩, ⟨by (with_reducible repeat (first | refine blk_drewN ?_ _ | refine blk_drew ?_ | refine blk_alloc ?_ _)); exact BK124.out⟩, ⟨by (with_reducible repeat (first | refine blk_drewN ?_ _ | refine blk_drew ?_ | refine blk_alloc ?_ _)); exact BK132.out⟩, ⟨by repeat (first | (with_reducible first | exact HB.out | apply below_alloc | apply pw_below_drewN | apply below_drew1 | refine below_set ?_ GE124.out | refine below_set ?_ GE132.out) | exact HB.out)⟩⟩
                                          · rw [if_neg c58] at H
                                            have c58b0 : decide (x11_19 ≤ ((rd_T49 t126 x16_5).f0)) = false := decide_eq_false c58
                                            clear c58
                                            replace H := Option.bind_eq_some_iff.mp H
                                            obtain ⟨t140, A590, H⟩ := H
                                            replace H : ((serial_Eval.f k5 t140 x13_37 a2).bind fun bt143 => (if bt143.2.2.2.2.2 = 0 then (if bt143.1 = ((rd_T49 t126 x11_19).f6) then (if bt143.2.2.1 = x14_5 then (some (bt143.2.1 == x15_5)) else (some false)) else (some false)) else (some false))) = some r := H
                                            have A59 := Aside0.mk A590
                                            clear A590
                                            replace H := Option.bind_eq_some_iff.mp H
                                            obtain ⟨⟨t143, t144, t145, t146, t147, t148⟩, A600, H⟩ := H
                                            replace H : (if t148 = 0 then (if t143 = ((rd_T49 t126 x11_19).f6) then (if t145 = x14_5 then (some (t144 == x15_5)) else (some false)) else (some false)) else (some false)) = some r := H
                                            have A60 := Aside0.mk A600
                                            clear A600
                                            by_cases c61 : t148 = 0
                                            · rw [if_pos c61] at H
                                              have c61b0 : (t148 == 0) = true := beq_iff_eq.mpr c61
                                              have c61b1 : (t148 != 0) = false := bne_eq_false_iff_eq.mpr c61
                                              clear c61
                                              by_cases c62 : t143 = ((rd_T49 t126 x11_19).f6)
                                              · rw [if_pos c62] at H
                                                have c62b0 : (t143 == ((rd_T49 t126 x11_19).f6)) = true := beq_iff_eq.mpr c62
                                                have c62b1 : (t143 != ((rd_T49 t126 x11_19).f6)) = false := bne_eq_false_iff_eq.mpr c62
                                                clear c62
                                                by_cases c63 : t145 = x14_5
                                                · rw [if_pos c63] at H
                                                  have c63b0 : (t145 == x14_5) = true := beq_iff_eq.mpr c63
                                                  have c63b1 : (t145 != x14_5) = false := bne_eq_false_iff_eq.mpr c63
                                                  clear c63
                                                  obtain rfl := Option.some.inj H
                                                  have p138 : 0 ≤ (x16_5 : Int) := of_decide_eq_true (by first | (with_reducible assumption) | assumption)
                                                  have q138 : x16_5 < (t126.length : Int) := of_decide_eq_true (by first | (with_reducible assumption) | assumption)
                                                  obtain ⟨ad138, e138, hx138_0, hx138_1, hx138_2, hx138_3, hx138_4, hx138_5, hx138_6⟩ := at_T49 (Kd.R_reads' HO_9.out).2.2 x16_5 p138 q138
                                                  obtain rfl : ad131 = ad138 := (by injection e138)
                                                  replace p138 := eq_true p138
                                                  replace q138 := eq_true q138
                                                  have hnb64 := NB124_132.out
                                                  have hnc64 := NB132_124.out
                                                  have hcz65_0 : wr.cell? ⟨gb124, 0, none⟩ = some (.slice (some ad133) l0_0.length c0_0) := (blk_cell BK124.out 0).trans rfl
                                                  have hfz65_0 := blk_frozen BK124.out 0
                                                  have hcz66_0 : wr.cell? ⟨gb132, 0, none⟩ = some (.int .i64 ((rd_T49 t126 x11_19).f0)) := (blk_cell BK132.out 0).trans rfl
                                                  have hcz66_1 : wr.cell? ⟨gb132, 1, none⟩ = some (.int .i64 ((rd_T49 t126 x11_19).f1)) := (blk_cell BK132.out 1).trans rfl
                                                  have hcz66_2 : wr.cell? ⟨gb132, 2, none⟩ = some (.int .i64 ((rd_T49 t126 x11_19).f2)) := (blk_cell BK132.out 2).trans rfl
                                                  have hcz66_3 : wr.cell? ⟨gb132, 3, none⟩ = some (.int .i64 ((rd_T49 t126 x11_19).f3)) := (blk_cell BK132.out 3).trans rfl
                                                  have hcz66_4 : wr.cell? ⟨gb132, 4, none⟩ = some (.int .i64 ((rd_T49 t126 x11_19).f4)) := (blk_cell BK132.out 4).trans rfl
                                                  have hcz66_5 : wr.cell? ⟨gb132, 5, none⟩ = some (.int .i64 ((rd_T49 t126 x11_19).f5)) := (blk_cell BK132.out 5).trans rfl
                                                  have hcz66_6 : wr.cell? ⟨gb132, 6, none⟩ = some (.int .i64 ((rd_T49 t126 x11_19).f6)) := (blk_cell BK132.out 6).trans rfl
                                                  have hfz66_0 := blk_frozen BK132.out 0
                                                  have hfz66_1 := blk_frozen BK132.out 1
                                                  have hfz66_2 := blk_frozen BK132.out 2
                                                  have hfz66_3 := blk_frozen BK132.out 3
                                                  have hfz66_4 := blk_frozen BK132.out 4
                                                  have hfz66_5 := blk_frozen BK132.out 5
                                                  have hfz66_6 := blk_frozen BK132.out 6
                                                  go_wp2_with (first | ((with_reducible refine gate_callee (f := 28) rfl ?_); refine goesL_ (some 116) rfl rfl Tryd.func28 (by kernel_rfl) rfl #[.agg #[.slice (some ad133) l0_0.length c0_0], .int .i64 ((rd_T49 t126 x11_19).f2)] rfl (by (try simp only [List.map_toArray, List.map_cons, List.map_nil]); first | done | rfl | (simp only [List.length_drop, List.length_take]; rfl)) ?_; (with_reducible refine (plunderlaw6_swapped.calls k5 _ _ l0_0 ((rd_T49 t126 x11_19).f2) t140 _ ?side1 ?side2 A59.out).mono ?_); (case side1 => repeat (first | exact (Kd.C_below HR0_0.out HB.out) | (with_reducible refine Kd.C_alloc ?_ _) | (with_reducible refine Kd.C_drewN ?_ _) | (with_reducible refine Kd.C_drew ?_))); (case side2 => exact HC0_0.out); rintro e w67 ⟨v141, rfl, ho0, hb⟩; refine ⟨_, rfl, ?_⟩; have n0_ := Aside0.mk (Kd.R_below (by (with_reducible repeat (first | apply Kd.R_alloc | apply Kd.R_drewN | apply Kd.R_drew)); exact HO_9.out) hb); have n1_ := Aside0.mk (Kd.R_below (by (with_reducible repeat (first | apply Kd.R_alloc | apply Kd.R_drewN | apply Kd.R_drew)); exact HO_13.out) hb); have n2_ := Aside0.mk (Kd.S_lower ho0 (below_size (by repeat (first | (with_reducible first | exact HB.out | apply below_alloc | apply pw_below_drewN | apply below_drew1 | refine below_set ?_ GE124.out | refine below_set ?_ GE132.out) | exact HB.out)))); have n3_ := Aside0.mk (blk_below (g := gb124) (o := .cells #[.slice (some ad133) l0_0.length c0_0] 24 (0, 0)) (by (with_reducible repeat (first | refine blk_drewN ?_ _ | refine blk_drew ?_ | refine blk_alloc ?_ _)); exact BK124.out) hb); have n4_ := Aside0.mk (blk_below (g := gb132) (o := .cells #[.int .i64 ((rd_T49 t126 x11_19).f0), .int .i64 ((rd_T49 t126 x11_19).f1), .int .i64 ((rd_T49 t126 x11_19).f2), .int .i64 ((rd_T49 t126 x11_19).f3), .int .i64 ((rd_T49 t126 x11_19).f4), .int .i64 ((rd_T49 t126 x11_19).f5), .int .i64 ((rd_T49 t126 x11_19).f6)] 49 (0, 0)) (by (with_reducible repeat (first | refine blk_drewN ?_ _ | refine blk_drew ?_ | refine blk_alloc ?_ _)); exact BK132.out) hb); have n5_ := Aside0.mk (below_step (by repeat (first | (with_reducible first | exact HB.out | apply below_alloc | apply pw_below_drewN | apply below_drew1 | refine below_set ?_ GE124.out | refine below_set ?_ GE132.out) | exact HB.out)) hb); clear HO_9; clear HO_13; clear BK124; clear BK132; clear HB; have HO_9 := n0_; have HO_13 := n1_; have HO142 := n2_; have BK124 := n3_; have BK132 := n4_; have HB := n5_; clear n0_ n1_ n2_ n3_ n4_ n5_; (try clear hb); (try clear hb2); (try clear hk); (try clear hi); (try clear ho0); obtain ⟨Ao68, co68, eo68⟩ := Kd.S_slice HO142.out; subst eo68; obtain ⟨Ao69, co69, eo69⟩ := Kd.R_slice HO_13.out; subst eo69) | ((with_reducible refine gate_callee (f := 14) rfl ?_); refine goesL_ (some 119) rfl rfl Tryd.func14 (by kernel_rfl) rfl #[.agg #[.slice Ao68 t140.length co68], .slice Ao69 x13_37.length co69, .int .i64 a2] rfl (by (try simp only [List.map_toArray, List.map_cons, List.map_nil]); first | done | rfl | (simp only [List.length_drop, List.length_take]; rfl)) ?_; (with_reducible refine (serial_Eval.calls k5 _ _ t140 _ _ x13_37 a2 t143 t144 t145 t146 t147 t148 _ (HTab.out.below (by repeat (first | (with_reducible first | exact HB.out | apply below_alloc | apply pw_below_drewN | apply below_drew1 | refine below_set ?_ GE124.out | refine below_set ?_ GE132.out) | exact HB.out))) ?side1 ?side2 ?side3 ?side4 A60.out).mono ?_); (case side1 => repeat (first | exact (Kd.S_reads' HO142.out).2.2 | (with_reducible refine Kd.C_alloc ?_ _) | (with_reducible refine Kd.C_drewN ?_ _) | (with_reducible refine Kd.C_drew ?_))); (case side2 => exact (Kd.S_reads' HO142.out).2.1); (case side3 => repeat (first | exact (Kd.R_reads' HO_13.out).2.2 | (with_reducible refine Kd.C_alloc ?_ _) | (with_reducible refine Kd.C_drewN ?_ _) | (with_reducible refine Kd.C_drew ?_))); (case side4 => exact (Kd.R_reads' HO_13.out).2.1); rintro e w70 ⟨rfl, hb⟩; refine ⟨_, rfl, ?_⟩; have n0_ := Aside0.mk (Kd.R_below (by (with_reducible repeat (first | apply Kd.R_alloc | apply Kd.R_drewN | apply Kd.R_drew)); exact HO_9.out) hb); have n1_ := Aside0.mk (Kd.R_below (by (with_reducible repeat (first | apply Kd.R_alloc | apply Kd.R_drewN | apply Kd.R_drew)); exact HO_13.out) hb); have n2_ := Aside0.mk (Kd.S_below (by (with_reducible repeat (first | apply Kd.S_alloc | apply Kd.S_drewN | apply Kd.S_drew)); exact HO142.out) hb); have n3_ := Aside0.mk (blk_below (g := gb124) (o := .cells #[.slice (some ad133) l0_0.length c0_0] 24 (0, 0)) (by (with_reducible repeat (first | refine blk_drewN ?_ _ | refine blk_drew ?_ | refine blk_alloc ?_ _)); exact BK124.out) hb); have n4_ := Aside0.mk (blk_below (g := gb132) (o := .cells #[.int .i64 ((rd_T49 t126 x11_19).f0), .int .i64 ((rd_T49 t126 x11_19).f1), .int .i64 ((rd_T49 t126 x11_19).f2), .int .i64 ((rd_T49 t126 x11_19).f3), .int .i64 ((rd_T49 t126 x11_19).f4), .int .i64 ((rd_T49 t126 x11_19).f5), .int .i64 ((rd_T49 t126 x11_19).f6)] 49 (0, 0)) (by (with_reducible repeat (first | refine blk_drewN ?_ _ | refine blk_drew ?_ | refine blk_alloc ?_ _)); exact BK132.out) hb); have n5_ := Aside0.mk (below_step (by repeat (first | (with_reducible first | exact HB.out | apply below_alloc | apply pw_below_drewN | apply below_drew1 | refine below_set ?_ GE124.out | refine below_set ?_ GE132.out) | exact HB.out)) hb); clear HO_9; clear HO_13; clear HO142; clear BK124; clear BK132; clear HB; have HO_9 := n0_; have HO_13 := n1_; have HO142 := n2_; have BK124 := n3_; have BK132 := n4_; have HB := n5_; clear n0_ n1_ n2_ n3_ n4_ n5_; (try clear hb); (try clear hb2); (try clear hk); (try clear hi)) | ((with_reducible refine gate_dst (N := 17) rfl ?_); (try (refine gate_guard (by rfl) ?_; dsimp only)); refine box_event ?hg (N := 17) ?hd (cs := #[.int .i64 0, .int .i64 0, .int .i64 0, .int .i64 0, .int .i64 0]) (t := 28) ?hr ?_; (case hd => rfl); (case hg => rfl); (case hr => first | (go_simp; done) | (go_simp; rfl)); intro gb149 hg w71 hbox hb; have n0_ := Aside0.mk (Kd.R_below (by (with_reducible repeat (first | apply Kd.R_alloc | apply Kd.R_drewN | apply Kd.R_drew)); exact HO_9.out) hb); have n1_ := Aside0.mk (Kd.R_below (by (with_reducible repeat (first | apply Kd.R_alloc | apply Kd.R_drewN | apply Kd.R_drew)); exact HO_13.out) hb); have n2_ := Aside0.mk (Kd.S_below (by (with_reducible repeat (first | apply Kd.S_alloc | apply Kd.S_drewN | apply Kd.S_drew)); exact HO142.out) hb); have n3_ := Aside0.mk (blk_below (g := gb124) (o := .cells #[.slice (some ad133) l0_0.length c0_0] 24 (0, 0)) (by (with_reducible repeat (first | refine blk_drewN ?_ _ | refine blk_drew ?_ | refine blk_alloc ?_ _)); exact BK124.out) hb); have n4_ := Aside0.mk (blk_below (g := gb132) (o := .cells #[.int .i64 ((rd_T49 t126 x11_19).f0), .int .i64 ((rd_T49 t126 x11_19).f1), .int .i64 ((rd_T49 t126 x11_19).f2), .int .i64 ((rd_T49 t126 x11_19).f3), .int .i64 ((rd_T49 t126 x11_19).f4), .int .i64 ((rd_T49 t126 x11_19).f5), .int .i64 ((rd_T49 t126 x11_19).f6)] 49 (0, 0)) (by (with_reducible repeat (first | refine blk_drewN ?_ _ | refine blk_drew ?_ | refine blk_alloc ?_ _)); exact BK132.out) hb); have n5_ := Aside0.mk (below_step (by repeat (first | (with_reducible first | exact HB.out | apply below_alloc | apply pw_below_drewN | apply below_drew1 | refine below_set ?_ GE124.out | refine below_set ?_ GE132.out) | exact HB.out)) hb); have n6_ := Aside0.mk (hbox); have n7_ := Aside0.mk ((by rw [hg]; exact (below_size (by repeat (first | (with_reducible first | exact HB.out | apply below_alloc | apply pw_below_drewN | apply below_drew1 | refine below_set ?_ GE124.out | refine below_set ?_ GE132.out) | exact HB.out))) : w.heap.size ≤ gb149)); have n8_ := Aside0.mk ((by rw [hg]; exact (below_size (by repeat (first | (with_reducible first | exact HB.out | apply below_alloc | apply pw_below_drewN | apply below_drew1 | refine below_set ?_ GE124.out | refine below_set ?_ GE132.out) | exact HB.out))) : w.heap.size ≤ gb149)); have n9_ := Aside0.mk ((by rw [hg]; exact Nat.ne_of_lt (blk_lt (g := gb124) (o := .cells #[.slice (some ad133) l0_0.length c0_0] 24 (0, 0)) (by (with_reducible repeat (first | refine blk_drewN ?_ _ | refine blk_drew ?_ | refine blk_alloc ?_ _)); exact BK124.out)) : gb124 ≠ gb149)); have n10_ := Aside0.mk ((by rw [hg]; exact Nat.ne_of_gt (blk_lt (g := gb124) (o := .cells #[.slice (some ad133) l0_0.length c0_0] 24 (0, 0)) (by (with_reducible repeat (first | refine blk_drewN ?_ _ | refine blk_drew ?_ | refine blk_alloc ?_ _)); exact BK124.out)) : gb149 ≠ gb124)); have n11_ := Aside0.mk ((by rw [hg]; exact Nat.ne_of_lt (blk_lt (g := gb132) (o := .cells #[.int .i64 ((rd_T49 t126 x11_19).f0), .int .i64 ((rd_T49 t126 x11_19).f1), .int .i64 ((rd_T49 t126 x11_19).f2), .int .i64 ((rd_T49 t126 x11_19).f3), .int .i64 ((rd_T49 t126 x11_19).f4), .int .i64 ((rd_T49 t126 x11_19).f5), .int .i64 ((rd_T49 t126 x11_19).f6)] 49 (0, 0)) (by (with_reducible repeat (first | refine blk_drewN ?_ _ | refine blk_drew ?_ | refine blk_alloc ?_ _)); exact BK132.out)) : gb132 ≠ gb149)); have n12_ := Aside0.mk ((by rw [hg]; exact Nat.ne_of_gt (blk_lt (g := gb132) (o := .cells #[.int .i64 ((rd_T49 t126 x11_19).f0), .int .i64 ((rd_T49 t126 x11_19).f1), .int .i64 ((rd_T49 t126 x11_19).f2), .int .i64 ((rd_T49 t126 x11_19).f3), .int .i64 ((rd_T49 t126 x11_19).f4), .int .i64 ((rd_T49 t126 x11_19).f5), .int .i64 ((rd_T49 t126 x11_19).f6)] 49 (0, 0)) (by (with_reducible repeat (first | refine blk_drewN ?_ _ | refine blk_drew ?_ | refine blk_alloc ?_ _)); exact BK132.out)) : gb149 ≠ gb132)); clear HO_9; clear HO_13; clear HO142; clear BK124; clear BK132; clear HB; have HO_9 := n0_; have HO_13 := n1_; have HO142 := n2_; have BK124 := n3_; have BK132 := n4_; have HB := n5_; have BK149 := n6_; have GW149 := n7_; have GE149 := n8_; have NB124_149 := n9_; have NB149_124 := n10_; have NB132_149 := n11_; have NB149_132 := n12_; clear n0_ n1_ n2_ n3_ n4_ n5_ n6_ n7_ n8_ n9_ n10_ n11_ n12_; clear hb hbox hg; have hnb72 := NB149_124.out; have hnc72 := NB124_149.out; have hnb73 := NB149_132.out; have hnc73 := NB132_149.out; have hcz74_0 : w71.cell? ⟨gb149, 0, none⟩ = some (.int .i64 0) := (blk_cell BK149.out 0).trans rfl; have hcz74_1 : w71.cell? ⟨gb149, 1, none⟩ = some (.int .i64 0) := (blk_cell BK149.out 1).trans rfl; have hcz74_2 : w71.cell? ⟨gb149, 2, none⟩ = some (.int .i64 0) := (blk_cell BK149.out 2).trans rfl; have hcz74_3 : w71.cell? ⟨gb149, 3, none⟩ = some (.int .i64 0) := (blk_cell BK149.out 3).trans rfl; have hcz74_4 : w71.cell? ⟨gb149, 4, none⟩ = some (.int .i64 0) := (blk_cell BK149.out 4).trans rfl; have hfz74_0 := blk_frozen BK149.out 0; have hfz74_1 := blk_frozen BK149.out 1; have hfz74_2 := blk_frozen BK149.out 2; have hfz74_3 := blk_frozen BK149.out 3; have hfz74_4 := blk_frozen BK149.out 4; have hcz75_0 : w71.cell? ⟨gb132, 0, none⟩ = some (.int .i64 ((rd_T49 t126 x11_19).f0)) := (blk_cell BK132.out 0).trans rfl; have hcz75_1 : w71.cell? ⟨gb132, 1, none⟩ = some (.int .i64 ((rd_T49 t126 x11_19).f1)) := (blk_cell BK132.out 1).trans rfl; have hcz75_2 : w71.cell? ⟨gb132, 2, none⟩ = some (.int .i64 ((rd_T49 t126 x11_19).f2)) := (blk_cell BK132.out 2).trans rfl; have hcz75_3 : w71.cell? ⟨gb132, 3, none⟩ = some (.int .i64 ((rd_T49 t126 x11_19).f3)) := (blk_cell BK132.out 3).trans rfl; have hcz75_4 : w71.cell? ⟨gb132, 4, none⟩ = some (.int .i64 ((rd_T49 t126 x11_19).f4)) := (blk_cell BK132.out 4).trans rfl; have hcz75_5 : w71.cell? ⟨gb132, 5, none⟩ = some (.int .i64 ((rd_T49 t126 x11_19).f5)) := (blk_cell BK132.out 5).trans rfl; have hcz75_6 : w71.cell? ⟨gb132, 6, none⟩ = some (.int .i64 ((rd_T49 t126 x11_19).f6)) := (blk_cell BK132.out 6).trans rfl; have hfz75_0 := blk_frozen BK132.out 0; have hfz75_1 := blk_frozen BK132.out 1; have hfz75_2 := blk_frozen BK132.out 2; have hfz75_3 := blk_frozen BK132.out 3; have hfz75_4 := blk_frozen BK132.out 4; have hfz75_5 := blk_frozen BK132.out 5; have hfz75_6 := blk_frozen BK132.out 6))
                                                  go_ret
                                                  exact ⟨by first | rfl | (simp [errW_none, errW_some] <;> rfl) | (simp [*, errW_none, errW_some] <;> rfl), by repeat (first | (with_reducible first | exact HB.out | apply below_alloc | apply pw_below_drewN | apply below_drew1 | refine below_set ?_ GE124.out | refine below_set ?_ GE132.out | refine below_set ?_ GE149.out) | exact HB.out)⟩
                                                · rw [if_neg c63] at H
                                                  have c63b0 : (t145 == x14_5) = false := beq_eq_false_iff_ne.mpr c63
                                                  have c63b1 : (t145 != x14_5) = true := bne_iff_ne.mpr c63
                                                  obtain rfl := Option.some.inj H
                                                  have p138 : 0 ≤ (x16_5 : Int) := of_decide_eq_true (by first | (with_reducible assumption) | assumption)
                                                  have q138 : x16_5 < (t126.length : Int) := of_decide_eq_true (by first | (with_reducible assumption) | assumption)
                                                  obtain ⟨ad138, e138, hx138_0, hx138_1, hx138_2, hx138_3, hx138_4, hx138_5, hx138_6⟩ := at_T49 (Kd.R_reads' HO_9.out).2.2 x16_5 p138 q138
                                                  obtain rfl : ad131 = ad138 := (by injection e138)
                                                  replace p138 := eq_true p138
                                                  replace q138 := eq_true q138
                                                  have hnb76 := NB124_132.out
                                                  have hnc76 := NB132_124.out
                                                  have hcz77_0 : wr.cell? ⟨gb124, 0, none⟩ = some (.slice (some ad133) l0_0.length c0_0) := (blk_cell BK124.out 0).trans rfl
                                                  have hfz77_0 := blk_frozen BK124.out 0
                                                  have hcz78_0 : wr.cell? ⟨gb132, 0, none⟩ = some (.int .i64 ((rd_T49 t126 x11_19).f0)) := (blk_cell BK132.out 0).trans rfl
                                                  have hcz78_1 : wr.cell? ⟨gb132, 1, none⟩ = some (.int .i64 ((rd_T49 t126 x11_19).f1)) := (blk_cell BK132.out 1).trans rfl
                                                  have hcz78_2 : wr.cell? ⟨gb132, 2, none⟩ = some (.int .i64 ((rd_T49 t126 x11_19).f2)) := (blk_cell BK132.out 2).trans rfl
                                                  have hcz78_3 : wr.cell? ⟨gb132, 3, none⟩ = some (.int .i64 ((rd_T49 t126 x11_19).f3)) := (blk_cell BK132.out 3).trans rfl
                                                  have hcz78_4 : wr.cell? ⟨gb132, 4, none⟩ = some (.int .i64 ((rd_T49 t126 x11_19).f4)) := (blk_cell BK132.out 4).trans rfl
                                                  have hcz78_5 : wr.cell? ⟨gb132, 5, none⟩ = some (.int .i64 ((rd_T49 t126 x11_19).f5)) := (blk_cell BK132.out 5).trans rfl
                                                  have hcz78_6 : wr.cell? ⟨gb132, 6, none⟩ = some (.int .i64 ((rd_T49 t126 x11_19).f6)) := (blk_cell BK132.out 6).trans rfl
                                                  have hfz78_0 := blk_frozen BK132.out 0
                                                  have hfz78_1 := blk_frozen BK132.out 1
                                                  have hfz78_2 := blk_frozen BK132.out 2
                                                  have hfz78_3 := blk_frozen BK132.out 3
                                                  have hfz78_4 := blk_frozen BK132.out 4
                                                  have hfz78_5 := blk_frozen BK132.out 5
                                                  have hfz78_6 := blk_frozen BK132.out 6
                                                  go_wp2_with (first | ((with_reducible refine gate_callee (f := 28) rfl ?_); refine goesL_ (some 116) rfl rfl Tryd.func28 (by kernel_rfl) rfl #[.agg #[.slice (some ad133) l0_0.length c0_0], .int .i64 ((rd_T49 t126 x11_19).f2)] rfl (by (try simp only [List.map_toArray, List.map_cons, List.map_nil]); first | done | rfl | (simp only [List.length_drop, List.length_take]; rfl)) ?_; (with_reducible refine (plunderlaw6_swapped.calls k5 _ _ l0_0 ((rd_T49 t126 x11_19).f2) t140 _ ?side1 ?side2 A59.out).mono ?_); (case side1 => repeat (first | exact (Kd.C_below HR0_0.out HB.out) | (with_reducible refine Kd.C_alloc ?_ _) | (with_reducible refine Kd.C_drewN ?_ _) | (with_reducible refine Kd.C_drew ?_))); (case side2 => exact HC0_0.out); rintro e w79 ⟨v141, rfl, ho0, hb⟩; refine ⟨_, rfl, ?_⟩; have n0_ := Aside0.mk (Kd.R_below (by (with_reducible repeat (first | apply Kd.R_alloc | apply Kd.R_drewN | apply Kd.R_drew)); exact HO_9.out) hb); have n1_ := Aside0.mk (Kd.R_below (by (with_reducible repeat (first | apply Kd.R_alloc | apply Kd.R_drewN | apply Kd.R_drew)); exact HO_13.out) hb); have n2_ := Aside0.mk (Kd.S_lower ho0 (below_size (by repeat (first | (with_reducible first | exact HB.out | apply below_alloc | apply pw_below_drewN | apply below_drew1 | refine below_set ?_ GE124.out | refine below_set ?_ GE132.out) | exact HB.out)))); have n3_ := Aside0.mk (blk_below (g := gb124) (o := .cells #[.slice (some ad133) l0_0.length c0_0] 24 (0, 0)) (by (with_reducible repeat (first | refine blk_drewN ?_ _ | refine blk_drew ?_ | refine blk_alloc ?_ _)); exact BK124.out) hb); have n4_ := Aside0.mk (blk_below (g := gb132) (o := .cells #[.int .i64 ((rd_T49 t126 x11_19).f0), .int .i64 ((rd_T49 t126 x11_19).f1), .int .i64 ((rd_T49 t126 x11_19).f2), .int .i64 ((rd_T49 t126 x11_19).f3), .int .i64 ((rd_T49 t126 x11_19).f4), .int .i64 ((rd_T49 t126 x11_19).f5), .int .i64 ((rd_T49 t126 x11_19).f6)] 49 (0, 0)) (by (with_reducible repeat (first | refine blk_drewN ?_ _ | refine blk_drew ?_ | refine blk_alloc ?_ _)); exact BK132.out) hb); have n5_ := Aside0.mk (below_step (by repeat (first | (with_reducible first | exact HB.out | apply below_alloc | apply pw_below_drewN | apply below_drew1 | refine below_set ?_ GE124.out | refine below_set ?_ GE132.out) | exact HB.out)) hb); clear HO_9; clear HO_13; clear BK124; clear BK132; clear HB; have HO_9 := n0_; have HO_13 := n1_; have HO142 := n2_; have BK124 := n3_; have BK132 := n4_; have HB := n5_; clear n0_ n1_ n2_ n3_ n4_ n5_; (try clear hb); (try clear hb2); (try clear hk); (try clear hi); (try clear ho0); obtain ⟨Ao80, co80, eo80⟩ := Kd.S_slice HO142.out; subst eo80; obtain ⟨Ao81, co81, eo81⟩ := Kd.R_slice HO_13.out; subst eo81) | ((with_reducible refine gate_callee (f := 14) rfl ?_); refine goesL_ (some 119) rfl rfl Tryd.func14 (by kernel_rfl) rfl #[.agg #[.slice Ao80 t140.length co80], .slice Ao81 x13_37.length co81, .int .i64 a2] rfl (by (try simp only [List.map_toArray, List.map_cons, List.map_nil]); first | done | rfl | (simp only [List.length_drop, List.length_take]; rfl)) ?_; (with_reducible refine (serial_Eval.calls k5 _ _ t140 _ _ x13_37 a2 t143 t144 t145 t146 t147 t148 _ (HTab.out.below (by repeat (first | (with_reducible first | exact HB.out | apply below_alloc | apply pw_below_drewN | apply below_drew1 | refine below_set ?_ GE124.out | refine below_set ?_ GE132.out) | exact HB.out))) ?side1 ?side2 ?side3 ?side4 A60.out).mono ?_); (case side1 => repeat (first | exact (Kd.S_reads' HO142.out).2.2 | (with_reducible refine Kd.C_alloc ?_ _) | (with_reducible refine Kd.C_drewN ?_ _) | (with_reducible refine Kd.C_drew ?_))); (case side2 => exact (Kd.S_reads' HO142.out).2.1); (case side3 => repeat (first | exact (Kd.R_reads' HO_13.out).2.2 | (with_reducible refine Kd.C_alloc ?_ _) | (with_reducible refine Kd.C_drewN ?_ _) | (with_reducible refine Kd.C_drew ?_))); (case side4 => exact (Kd.R_reads' HO_13.out).2.1); rintro e w82 ⟨rfl, hb⟩; refine ⟨_, rfl, ?_⟩; have n0_ := Aside0.mk (Kd.R_below (by (with_reducible repeat (first | apply Kd.R_alloc | apply Kd.R_drewN | apply Kd.R_drew)); exact HO_9.out) hb); have n1_ := Aside0.mk (Kd.R_below (by (with_reducible repeat (first | apply Kd.R_alloc | apply Kd.R_drewN | apply Kd.R_drew)); exact HO_13.out) hb); have n2_ := Aside0.mk (Kd.S_below (by (with_reducible repeat (first | apply Kd.S_alloc | apply Kd.S_drewN | apply Kd.S_drew)); exact HO142.out) hb); have n3_ := Aside0.mk (blk_below (g := gb124) (o := .cells #[.slice (some ad133) l0_0.length c0_0] 24 (0, 0)) (by (with_reducible repeat (first | refine blk_drewN ?_ _ | refine blk_drew ?_ | refine blk_alloc ?_ _)); exact BK124.out) hb); have n4_ := Aside0.mk (blk_below (g := gb132) (o := .cells #[.int .i64 ((rd_T49 t126 x11_19).f0), .int .i64 ((rd_T49 t126 x11_19).f1), .int .i64 ((rd_T49 t126 x11_19).f2), .int .i64 ((rd_T49 t126 x11_19).f3), .int .i64 ((rd_T49 t126 x11_19).f4), .int .i64 ((rd_T49 t126 x11_19).f5), .int .i64 ((rd_T49 t126 x11_19).f6)] 49 (0, 0)) (by (with_reducible repeat (first | refine blk_drewN ?_ _ | refine blk_drew ?_ | refine blk_alloc ?_ _)); exact BK132.out) hb); have n5_ := Aside0.mk (below_step (by repeat (first | (with_reducible first | exact HB.out | apply below_alloc | apply pw_below_drewN | apply below_drew1 | refine below_set ?_ GE124.out | refine below_set ?_ GE132.out) | exact HB.out)) hb); clear HO_9; clear HO_13; clear HO142; clear BK124; clear BK132; clear HB; have HO_9 := n0_; have HO_13 := n1_; have HO142 := n2_; have BK124 := n3_; have BK132 := n4_; have HB := n5_; clear n0_ n1_ n2_ n3_ n4_ n5_; (try clear hb); (try clear hb2); (try clear hk); (try clear hi)) | ((with_reducible refine gate_dst (N := 17) rfl ?_); (try (refine gate_guard (by rfl) ?_; dsimp only)); refine box_event ?hg (N := 17) ?hd (cs := #[.int .i64 0, .int .i64 0, .int .i64 0, .int .i64 0, .int .i64 0]) (t := 28) ?hr ?_; (case hd => rfl); (case hg => rfl); (case hr => first | (go_simp; done) | (go_simp; rfl)); intro gb149 hg w83 hbox hb; have n0_ := Aside0.mk (Kd.R_below (by (with_reducible repeat (first | apply Kd.R_alloc | apply Kd.R_drewN | apply Kd.R_drew)); exact HO_9.out) hb); have n1_ := Aside0.mk (Kd.R_below (by (with_reducible repeat (first | apply Kd.R_alloc | apply Kd.R_drewN | apply Kd.R_drew)); exact HO_13.out) hb); have n2_ := Aside0.mk (Kd.S_below (by (with_reducible repeat (first | apply Kd.S_alloc | apply Kd.S_drewN | apply Kd.S_drew)); exact HO142.out) hb); have n3_ := Aside0.mk (blk_below (g := gb124) (o := .cells #[.slice (some ad133) l0_0.length c0_0] 24 (0, 0)) (by (with_reducible repeat (first | refine blk_drewN ?_ _ | refine blk_drew ?_ | refine blk_alloc ?_ _)); exact BK124.out) hb); have n4_ := Aside0.mk (blk_below (g := gb132) (o := .cells #[.int .i64 ((rd_T49 t126 x11_19).f0), .int .i64 ((rd_T49 t126 x11_19).f1), .int .i64 ((rd_T49 t126 x11_19).f2), .int .i64 ((rd_T49 t126 x11_19).f3), .int .i64 ((rd_T49 t126 x11_19).f4), .int .i64 ((rd_T49 t126 x11_19).f5), .int .i64 ((rd_T49 t126 x11_19).f6)] 49 (0, 0)) (by (with_reducible repeat (first | refine blk_drewN ?_ _ | refine blk_drew ?_ | refine blk_alloc ?_ _)); exact BK132.out) hb); have n5_ := Aside0.mk (below_step (by repeat (first | (with_reducible first | exact HB.out | apply below_alloc | apply pw_below_drewN | apply below_drew1 | refine below_set ?_ GE124.out | refine below_set ?_ GE132.out) | exact HB.out)) hb); have n6_ := Aside0.mk (hbox); have n7_ := Aside0.mk ((by rw [hg]; exact (below_size (by repeat (first | (with_reducible first | exact HB.out | apply below_alloc | apply pw_below_drewN | apply below_drew1 | refine below_set ?_ GE124.out | refine below_set ?_ GE132.out) | exact HB.out))) : w.heap.size ≤ gb149)); have n8_ := Aside0.mk ((by rw [hg]; exact (below_size (by repeat (first | (with_reducible first | exact HB.out | apply below_alloc | apply pw_below_drewN | apply below_drew1 | refine below_set ?_ GE124.out | refine below_set ?_ GE132.out) | exact HB.out))) : w.heap.size ≤ gb149)); have n9_ := Aside0.mk ((by rw [hg]; exact Nat.ne_of_lt (blk_lt (g := gb124) (o := .cells #[.slice (some ad133) l0_0.length c0_0] 24 (0, 0)) (by (with_reducible repeat (first | refine blk_drewN ?_ _ | refine blk_drew ?_ | refine blk_alloc ?_ _)); exact BK124.out)) : gb124 ≠ gb149)); have n10_ := Aside0.mk ((by rw [hg]; exact Nat.ne_of_gt (blk_lt (g := gb124) (o := .cells #[.slice (some ad133) l0_0.length c0_0] 24 (0, 0)) (by (with_reducible repeat (first | refine blk_drewN ?_ _ | refine blk_drew ?_ | refine blk_alloc ?_ _)); exact BK124.out)) : gb149 ≠ gb124)); have n11_ := Aside0.mk ((by rw [hg]; exact Nat.ne_of_lt (blk_lt (g := gb132) (o := .cells #[.int .i64 ((rd_T49 t126 x11_19).f0), .int .i64 ((rd_T49 t126 x11_19).f1), .int .i64 ((rd_T49 t126 x11_19).f2), .int .i64 ((rd_T49 t126 x11_19).f3), .int .i64 ((rd_T49 t126 x11_19).f4), .int .i64 ((rd_T49 t126 x11_19).f5), .int .i64 ((rd_T49 t126 x11_19).f6)] 49 (0, 0)) (by (with_reducible repeat (first | refine blk_drewN ?_ _ | refine blk_drew ?_ | refine blk_alloc ?_ _)); exact BK132.out)) : gb132 ≠ gb149)); have n12_ := Aside0.mk ((by rw [hg]; exact Nat.ne_of_gt (blk_lt (g := gb132) (o := .cells #[.int .i64 ((rd_T49 t126 x11_19).f0), .int .i64 ((rd_T49 t126 x11_19).f1), .int .i64 ((rd_T49 t126 x11_19).f2), .int .i64 ((rd_T49 t126 x11_19).f3), .int .i64 ((rd_T49 t126 x11_19).f4), .int .i64 ((rd_T49 t126 x11_19).f5), .int .i64 ((rd_T49 t126 x11_19).f6)] 49 (0, 0)) (by (with_reducible repeat (first | refine blk_drewN ?_ _ | refine blk_drew ?_ | refine blk_alloc ?_ _)); exact BK132.out)) : gb149 ≠ gb132)); clear HO_9; clear HO_13; clear HO142; clear BK124; clear BK132; clear HB; have HO_9 := n0_; have HO_13 := n1_; have HO142 := n2_; have BK124 := n3_; have BK132 := n4_; have HB := n5_; have BK149 := n6_; have GW149 := n7_; have GE149 := n8_; have NB124_149 := n9_; have NB149_124 := n10_; have NB132_149 := n11_; have NB149_132 := n12_; clear n0_ n1_ n2_ n3_ n4_ n5_ n6_ n7_ n8_ n9_ n10_ n11_ n12_; clear hb hbox hg; have hnb84 := NB149_124.out; have hnc84 := NB124_149.out; have hnb85 := NB149_132.out; have hnc85 := NB132_149.out; have hcz86_0 : w83.cell? ⟨gb149, 0, none⟩ = some (.int .i64 0) := (blk_cell BK149.out 0).trans rfl; have hcz86_1 : w83.cell? ⟨gb149, 1, none⟩ = some (.int .i64 0) := (blk_cell BK149.out 1).trans rfl; have hcz86_2 : w83.cell? ⟨gb149, 2, none⟩ = some (.int .i64 0) := (blk_cell BK149.out 2).trans rfl; have hcz86_3 : w83.cell? ⟨gb149, 3, none⟩ = some (.int .i64 0) := (blk_cell BK149.out 3).trans rfl; have hcz86_4 : w83.cell? ⟨gb149, 4, none⟩ = some (.int .i64 0) := (blk_cell BK149.out 4).trans rfl; have hfz86_0 := blk_frozen BK149.out 0; have hfz86_1 := blk_frozen BK149.out 1; have hfz86_2 := blk_frozen BK149.out 2; have hfz86_3 := blk_frozen BK149.out 3; have hfz86_4 := blk_frozen BK149.out 4; have hcz87_0 : w83.cell? ⟨gb132, 0, none⟩ = some (.int .i64 ((rd_T49 t126 x11_19).f0)) := (blk_cell BK132.out 0).trans rfl; have hcz87_1 : w83.cell? ⟨gb132, 1, none⟩ = some (.int .i64 ((rd_T49 t126 x11_19).f1)) := (blk_cell BK132.out 1).trans rfl; have hcz87_2 : w83.cell? ⟨gb132, 2, none⟩ = some (.int .i64 ((rd_T49 t126 x11_19).f2)) := (blk_cell BK132.out 2).trans rfl; have hcz87_3 : w83.cell? ⟨gb132, 3, none⟩ = some (.int .i64 ((rd_T49 t126 x11_19).f3)) := (blk_cell BK132.out 3).trans rfl; have hcz87_4 : w83.cell? ⟨gb132, 4, none⟩ = some (.int .i64 ((rd_T49 t126 x11_19).f4)) := (blk_cell BK132.out 4).trans rfl; have hcz87_5 : w83.cell? ⟨gb132, 5, none⟩ = some (.int .i64 ((rd_T49 t126 x11_19).f5)) := (blk_cell BK132.out 5).trans rfl; have hcz87_6 : w83.cell? ⟨gb132, 6, none⟩ = some (.int .i64 ((rd_T49 t126 x11_19).f6)) := (blk_cell BK132.out 6).trans rfl; have hfz87_0 := blk_frozen BK132.out 0; have hfz87_1 := blk_frozen BK132.out 1; have hfz87_2 := blk_frozen BK132.out 2; have hfz87_3 := blk_frozen BK132.out 3; have hfz87_4 := blk_frozen BK132.out 4; have hfz87_5 := blk_frozen BK132.out 5; have hfz87_6 := blk_frozen BK132.out 6))
                                                  go_ret
                                                  exact ⟨by first | rfl | (simp [errW_none, errW_some] <;> rfl) | (simp [*, errW_none, errW_some] <;> rfl), by repeat (first | (with_reducible first | exact HB.out | apply below_alloc | apply pw_below_drewN | apply below_drew1 | refine below_set ?_ GE124.out | refine below_set ?_ GE132.out | refine below_set ?_ GE149.out) | exact HB.out)⟩
                                              · rw [if_neg c62] at H
                                                have c62b0 : (t143 == ((rd_T49 t126 x11_19).f6)) = false := beq_eq_false_iff_ne.mpr c62
                                                have c62b1 : (t143 != ((rd_T49 t126 x11_19).f6)) = true := bne_iff_ne.mpr c62
                                                obtain rfl := Option.some.inj H
                                                have p138 : 0 ≤ (x16_5 : Int) := of_decide_eq_true (by first | (with_reducible assumption) | assumption)
                                                have q138 : x16_5 < (t126.length : Int) := of_decide_eq_true (by first | (with_reducible assumption) | assumption)
                                                obtain ⟨ad138, e138, hx138_0, hx138_1, hx138_2, hx138_3, hx138_4, hx138_5, hx138_6⟩ := at_T49 (Kd.R_reads' HO_9.out).2.2 x16_5 p138 q138
                                                obtain rfl : ad131 = ad138 := (by injection e138)
                                                replace p138 := eq_true p138
                                                replace q138 := eq_true q138
                                                have hnb88 := NB124_132.out
                                                have hnc88 := NB132_124.out
                                                have hcz89_0 : wr.cell? ⟨gb124, 0, none⟩ = some (.slice (some ad133) l0_0.length c0_0) := (blk_cell BK124.out 0).trans rfl
                                                have hfz89_0 := blk_frozen BK124.out 0
                                                have hcz90_0 : wr.cell? ⟨gb132, 0, none⟩ = some (.int .i64 ((rd_T49 t126 x11_19).f0)) := (blk_cell BK132.out 0).trans rfl
                                                have hcz90_1 : wr.cell? ⟨gb132, 1, none⟩ = some (.int .i64 ((rd_T49 t126 x11_19).f1)) := (blk_cell BK132.out 1).trans rfl
                                                have hcz90_2 : wr.cell? ⟨gb132, 2, none⟩ = some (.int .i64 ((rd_T49 t126 x11_19).f2)) := (blk_cell BK132.out 2).trans rfl
                                                have hcz90_3 : wr.cell? ⟨gb132, 3, none⟩ = some (.int .i64 ((rd_T49 t126 x11_19).f3)) := (blk_cell BK132.out 3).trans rfl
                                                have hcz90_4 : wr.cell? ⟨gb132, 4, none⟩ = some (.int .i64 ((rd_T49 t126 x11_19).f4)) := (blk_cell BK132.out 4).trans rfl
                                                have hcz90_5 : wr.cell? ⟨gb132, 5, none⟩ = some (.int .i64 ((rd_T49 t126 x11_19).f5)) := (blk_cell BK132.out 5).trans rfl
                                                have hcz90_6 : wr.cell? ⟨gb132, 6, none⟩ = some (.int .i64 ((rd_T49 t126 x11_19).f6)) := (blk_cell BK132.out 6).trans rfl
                                                have hfz90_0 := blk_frozen BK132.out 0
                                                have hfz90_1 := blk_frozen BK132.out 1
                                                have hfz90_2 := blk_frozen BK132.out 2
                                                have hfz90_3 := blk_frozen BK132.out 3
                                                have hfz90_4 := blk_frozen BK132.out 4
                                                have hfz90_5 := blk_frozen BK132.out 5
                                                have hfz90_6 := blk_frozen BK132.out 6
                                                go_wp2_with (first | ((with_reducible refine gate_callee (f := 28) rfl ?_); refine goesL_ (some 116) rfl rfl Tryd.func28 (by kernel_rfl) rfl #[.agg #[.slice (some ad133) l0_0.length c0_0], .int .i64 ((rd_T49 t126 x11_19).f2)] rfl (by (try simp only [List.map_toArray, List.map_cons, List.map_nil]); first | done | rfl | (simp only [List.length_drop, List.length_take]; rfl)) ?_; (with_reducible refine (plunderlaw6_swapped.calls k5 _ _ l0_0 ((rd_T49 t126 x11_19).f2) t140 _ ?side1 ?side2 A59.out).mono ?_); (case side1 => repeat (first | exact (Kd.C_below HR0_0.out HB.out) | (with_reducible refine Kd.C_alloc ?_ _) | (with_reducible refine Kd.C_drewN ?_ _) | (with_reducible refine Kd.C_drew ?_))); (case side2 => exact HC0_0.out); rintro e w91 ⟨v141, rfl, ho0, hb⟩; refine ⟨_, rfl, ?_⟩; have n0_ := Aside0.mk (Kd.R_below (by (with_reducible repeat (first | apply Kd.R_alloc | apply Kd.R_drewN | apply Kd.R_drew)); exact HO_9.out) hb); have n1_ := Aside0.mk (Kd.R_below (by (with_reducible repeat (first | apply Kd.R_alloc | apply Kd.R_drewN | apply Kd.R_drew)); exact HO_13.out) hb); have n2_ := Aside0.mk (Kd.S_lower ho0 (below_size (by repeat (first | (with_reducible first | exact HB.out | apply below_alloc | apply pw_below_drewN | apply below_drew1 | refine below_set ?_ GE124.out | refine below_set ?_ GE132.out) | exact HB.out)))); have n3_ := Aside0.mk (blk_below (g := gb124) (o := .cells #[.slice (some ad133) l0_0.length c0_0] 24 (0, 0)) (by (with_reducible repeat (first | refine blk_drewN ?_ _ | refine blk_drew ?_ | refine blk_alloc ?_ _)); exact BK124.out) hb); have n4_ := Aside0.mk (blk_below (g := gb132) (o := .cells #[.int .i64 ((rd_T49 t126 x11_19).f0), .int .i64 ((rd_T49 t126 x11_19).f1), .int .i64 ((rd_T49 t126 x11_19).f2), .int .i64 ((rd_T49 t126 x11_19).f3), .int .i64 ((rd_T49 t126 x11_19).f4), .int .i64 ((rd_T49 t126 x11_19).f5), .int .i64 ((rd_T49 t126 x11_19).f6)] 49 (0, 0)) (by (with_reducible repeat (first | refine blk_drewN ?_ _ | refine blk_drew ?_ | refine blk_alloc ?_ _)); exact BK132.out) hb); have n5_ := Aside0.mk (below_step (by repeat (first | (with_reducible first | exact HB.out | apply below_alloc | apply pw_below_drewN | apply below_drew1 | refine below_set ?_ GE124.out | refine below_set ?_ GE132.out) | exact HB.out)) hb); clear HO_9; clear HO_13; clear BK124; clear BK132; clear HB; have HO_9 := n0_; have HO_13 := n1_; have HO142 := n2_; have BK124 := n3_; have BK132 := n4_; have HB := n5_; clear n0_ n1_ n2_ n3_ n4_ n5_; (try clear hb); (try clear hb2); (try clear hk); (try clear hi); (try clear ho0); obtain ⟨Ao92, co92, eo92⟩ := Kd.S_slice HO142.out; subst eo92; obtain ⟨Ao93, co93, eo93⟩ := Kd.R_slice HO_13.out; subst eo93) | ((with_reducible refine gate_callee (f := 14) rfl ?_); refine goesL_ (some 119) rfl rfl Tryd.func14 (by kernel_rfl) rfl #[.agg #[.slice Ao92 t140.length co92], .slice Ao93 x13_37.length co93, .int .i64 a2] rfl (by (try simp only [List.map_toArray, List.map_cons, List.map_nil]); first | done | rfl | (simp only [List.length_drop, List.length_take]; rfl)) ?_; (with_reducible refine (serial_Eval.calls k5 _ _ t140 _ _ x13_37 a2 t143 t144 t145 t146 t147 t148 _ (HTab.out.below (by repeat (first | (with_reducible first | exact HB.out | apply below_alloc | apply pw_below_drewN | apply below_drew1 | refine below_set ?_ GE124.out | refine below_set ?_ GE132.out) | exact HB.out))) ?side1 ?side2 ?side3 ?side4 A60.out).mono ?_); (case side1 => repeat (first | exact (Kd.S_reads' HO142.out).2.2 | (with_reducible refine Kd.C_alloc ?_ _) | (with_reducible refine Kd.C_drewN ?_ _) | (with_reducible refine Kd.C_drew ?_))); (case side2 => exact (Kd.S_reads' HO142.out).2.1); (case side3 => repeat (first | exact (Kd.R_reads' HO_13.out).2.2 | (with_reducible refine Kd.C_alloc ?_ _) | (with_reducible refine Kd.C_drewN ?_ _) | (with_reducible refine Kd.C_drew ?_))); (case side4 => exact (Kd.R_reads' HO_13.out).2.1); rintro e w94 ⟨rfl, hb⟩; refine ⟨_, rfl, ?_⟩; have n0_ := Aside0.mk (Kd.R_below (by (with_reducible repeat (first | apply Kd.R_alloc | apply Kd.R_drewN | apply Kd.R_drew)); exact HO_9.out) hb); have n1_ := Aside0.mk (Kd.R_below (by (with_reducible repeat (first | apply Kd.R_alloc | apply Kd.R_drewN | apply Kd.R_drew)); exact HO_13.out) hb); have n2_ := Aside0.mk (Kd.S_below (by (with_reducible repeat (first | apply Kd.S_alloc | apply Kd.S_drewN | apply Kd.S_drew)); exact HO142.out) hb); have n3_ := Aside0.mk (blk_below (g := gb124) (o := .cells #[.slice (some ad133) l0_0.length c0_0] 24 (0, 0)) (by (with_reducible repeat (first | refine blk_drewN ?_ _ | refine blk_drew ?_ | refine blk_alloc ?_ _)); exact BK124.out) hb); have n4_ := Aside0.mk (blk_below (g := gb132) (o := .cells #[.int .i64 ((rd_T49 t126 x11_19).f0), .int .i64 ((rd_T49 t126 x11_19).f1), .int .i64 ((rd_T49 t126 x11_19).f2), .int .i64 ((rd_T49 t126 x11_19).f3), .int .i64 ((rd_T49 t126 x11_19).f4), .int .i64 ((rd_T49 t126 x11_19).f5), .int .i64 ((rd_T49 t126 x11_19).f6)] 49 (0, 0)) (by (with_reducible repeat (first | refine blk_drewN ?_ _ | refine blk_drew ?_ | refine blk_alloc ?_ _)); exact BK132.out) hb); have n5_ := Aside0.mk (below_step (by repeat (first | (with_reducible first | exact HB.out | apply below_alloc | apply pw_below_drewN | apply below_drew1 | refine below_set ?_ GE124.out | refine below_set ?_ GE132.out) | exact HB.out)) hb); clear HO_9; clear HO_13; clear HO142; clear BK124; clear BK132; clear HB; have HO_9 := n0_; have HO_13 := n1_; have HO142 := n2_; have BK124 := n3_; have BK132 := n4_; have HB := n5_; clear n0_ n1_ n2_ n3_ n4_ n5_; (try clear hb); (try clear hb2); (try clear hk); (try clear hi)) | ((with_reducible refine gate_dst (N := 17) rfl ?_); (try (refine gate_guard (by rfl) ?_; dsimp only)); refine box_event ?hg (N := 17) ?hd (cs := #[.int .i64 0, .int .i64 0, .int .i64 0, .int .i64 0, .int .i64 0]) (t := 28) ?hr ?_; (case hd => rfl); (case hg => rfl); (case hr => first | (go_simp; done) | (go_simp; rfl)); intro gb149 hg w95 hbox hb; have n0_ := Aside0.mk (Kd.R_below (by (with_reducible repeat (first | apply Kd.R_alloc | apply Kd.R_drewN | apply Kd.R_drew)); exact HO_9.out) hb); have n1_ := Aside0.mk (Kd.R_below (by (with_reducible repeat (first | apply Kd.R_alloc | apply Kd.R_drewN | apply Kd.R_drew)); exact HO_13.out) hb); have n2_ := Aside0.mk (Kd.S_below (by (with_reducible repeat (first | apply Kd.S_alloc | apply Kd.S_drewN | apply Kd.S_drew)); exact HO142.out) hb); have n3_ := Aside0.mk (blk_below (g := gb124) (o := .cells #[.slice (some ad133) l0_0.length c0_0] 24 (0, 0)) (by (with_reducible repeat (first | refine blk_drewN ?_ _ | refine blk_drew ?_ | refine blk_alloc ?_ _)); exact BK124.out) hb); have n4_ := Aside0.mk (blk_below (g := gb132) (o := .cells #[.int .i64 ((rd_T49 t126 x11_19).f0), .int .i64 ((rd_T49 t126 x11_19).f1), .int .i64 ((rd_T49 t126 x11_19).f2), .int .i64 ((rd_T49 t126 x11_19).f3), .int .i64 ((rd_T49 t126 x11_19).f4), .int .i64 ((rd_T49 t126 x11_19).f5), .int .i64 ((rd_T49 t126 x11_19).f6)] 49 (0, 0)) (by (with_reducible repeat (first | refine blk_drewN ?_ _ | refine blk_drew ?_ | refine blk_alloc ?_ _)); exact BK132.out) hb); have n5_ := Aside0.mk (below_step (by repeat (first | (with_reducible first | exact HB.out | apply below_alloc | apply pw_below_drewN | apply below_drew1 | refine below_set ?_ GE124.out | refine below_set ?_ GE132.out) | exact HB.out)) hb); have n6_ := Aside0.mk (hbox); have n7_ := Aside0.mk ((by rw [hg]; exact (below_size (by repeat (first | (with_reducible first | exact HB.out | apply below_alloc | apply pw_below_drewN | apply below_drew1 | refine below_set ?_ GE124.out | refine below_set ?_ GE132.out) | exact HB.out))) : w.heap.size ≤ gb149)); have n8_ := Aside0.mk ((by rw [hg]; exact (below_size (by repeat (first | (with_reducible first | exact HB.out | apply below_alloc | apply pw_below_drewN | apply below_drew1 | refine below_set ?_ GE124.out | refine below_set ?_ GE132.out) | exact HB.out))) : w.heap.size ≤ gb149)); have n9_ := Aside0.mk ((by rw [hg]; exact Nat.ne_of_lt (blk_lt (g := gb124) (o := .cells #[.slice (some ad133) l0_0.length c0_0] 24 (0, 0)) (by (with_reducible repeat (first | refine blk_drewN ?_ _ | refine blk_drew ?_ | refine blk_alloc ?_ _)); exact BK124.out)) : gb124 ≠ gb149)); have n10_ := Aside0.mk ((by rw [hg]; exact Nat.ne_of_gt (blk_lt (g := gb124) (o := .cells #[.slice (some ad133) l0_0.length c0_0] 24 (0, 0)) (by (with_reducible repeat (first | refine blk_drewN ?_ _ | refine blk_drew ?_ | refine blk_alloc ?_ _)); exact BK124.out)) : gb149 ≠ gb124)); have n11_ := Aside0.mk ((by rw [hg]; exact Nat.ne_of_lt (blk_lt (g := gb132) (o := .cells #[.int .i64 ((rd_T49 t126 x11_19).f0), .int .i64 ((rd_T49 t126 x11_19).f1), .int .i64 ((rd_T49 t126 x11_19).f2), .int .i64 ((rd_T49 t126 x11_19).f3), .int .i64 ((rd_T49 t126 x11_19).f4), .int .i64 ((rd_T49 t126 x11_19).f5), .int .i64 ((rd_T49 t126 x11_19).f6)] 49 (0, 0)) (by (with_reducible repeat (first | refine blk_drewN ?_ _ | refine blk_drew ?_ | refine blk_alloc ?_ _)); exact BK132.out)) : gb132 ≠ gb149)); have n12_ := Aside0.mk ((by rw [hg]; exact Nat.ne_of_gt (blk_lt (g := gb132) (o := .cells #[.int .i64 ((rd_T49 t126 x11_19).f0), .int .i64 ((rd_T49 t126 x11_19).f1), .int .i64 ((rd_T49 t126 x11_19).f2), .int .i64 ((rd_T49 t126 x11_19).f3), .int .i64 ((rd_T49 t126 x11_19).f4), .int .i64 ((rd_T49 t126 x11_19).f5), .int .i64 ((rd_T49 t126 x11_19).f6)] 49 (0, 0)) (by (with_reducible repeat (first | refine blk_drewN ?_ _ | refine blk_drew ?_ | refine blk_alloc ?_ _)); exact BK132.out)) : gb149 ≠ gb132)); clear HO_9; clear HO_13; clear HO142; clear BK124; clear BK132; clear HB; have HO_9 := n0_; have HO_13 := n1_; have HO142 := n2_; have BK124 := n3_; have BK132 := n4_; have HB := n5_; have BK149 := n6_; have GW149 := n7_; have GE149 := n8_; have NB124_149 := n9_; have NB149_124 := n10_; have NB132_149 := n11_; have NB149_132 := n12_; clear n0_ n1_ n2_ n3_ n4_ n5_ n6_ n7_ n8_ n9_ n10_ n11_ n12_; clear hb hbox hg; have hnb96 := NB149_124.out; have hnc96 := NB124_149.out; have hnb97 := NB149_132.out; have hnc97 := NB132_149.out; have hcz98_0 : w95.cell? ⟨gb149, 0, none⟩ = some (.int .i64 0) := (blk_cell BK149.out 0).trans rfl; have hcz98_1 : w95.cell? ⟨gb149, 1, none⟩ = some (.int .i64 0) := (blk_cell BK149.out 1).trans rfl; have hcz98_2 : w95.cell? ⟨gb149, 2, none⟩ = some (.int .i64 0) := (blk_cell BK149.out 2).trans rfl; have hcz98_3 : w95.cell? ⟨gb149, 3, none⟩ = some (.int .i64 0) := (blk_cell BK149.out 3).trans rfl; have hcz98_4 : w95.cell? ⟨gb149, 4, none⟩ = some (.int .i64 0) := (blk_cell BK149.out 4).trans rfl; have hfz98_0 := blk_frozen BK149.out 0; have hfz98_1 := blk_frozen BK149.out 1; have hfz98_2 := blk_frozen BK149.out 2; have hfz98_3 := blk_frozen BK149.out 3; have hfz98_4 := blk_frozen BK149.out 4; have hcz99_0 : w95.cell? ⟨gb132, 0, none⟩ = some (.int .i64 ((rd_T49 t126 x11_19).f0)) := (blk_cell BK132.out 0).trans rfl; have hcz99_1 : w95.cell? ⟨gb132, 1, none⟩ = some (.int .i64 ((rd_T49 t126 x11_19).f1)) := (blk_cell BK132.out 1).trans rfl; have hcz99_2 : w95.cell? ⟨gb132, 2, none⟩ = some (.int .i64 ((rd_T49 t126 x11_19).f2)) := (blk_cell BK132.out 2).trans rfl; have hcz99_3 : w95.cell? ⟨gb132, 3, none⟩ = some (.int .i64 ((rd_T49 t126 x11_19).f3)) := (blk_cell BK132.out 3).trans rfl; have hcz99_4 : w95.cell? ⟨gb132, 4, none⟩ = some (.int .i64 ((rd_T49 t126 x11_19).f4)) := (blk_cell BK132.out 4).trans rfl; have hcz99_5 : w95.cell? ⟨gb132, 5, none⟩ = some (.int .i64 ((rd_T49 t126 x11_19).f5)) := (blk_cell BK132.out 5).trans rfl; have hcz99_6 : w95.cell? ⟨gb132, 6, none⟩ = some (.int .i64 ((rd_T49 t126 x11_19).f6)) := (blk_cell BK132.out 6).trans rfl; have hfz99_0 := blk_frozen BK132.out 0; have hfz99_1 := blk_frozen BK132.out 1; have hfz99_2 := blk_frozen BK132.out 2; have hfz99_3 := blk_frozen BK132.out 3; have hfz99_4 := blk_frozen BK132.out 4; have hfz99_5 := blk_frozen BK132.out 5; have hfz99_6 := blk_frozen BK132.out 6))
                                                go_ret
                                                exact ⟨by first | rfl | (simp [errW_none, errW_some] <;> rfl) | (simp [*, errW_none, errW_some] <;> rfl), by repeat (first | (with_reducible first | exact HB.out | apply below_alloc | apply pw_below_drewN | apply below_drew1 | refine below_set ?_ GE124.out | refine below_set ?_ GE132.out | refine below_set ?_ GE149.out) | exact HB.out)⟩
                                            · rw [if_neg c61] at H
                                              have c61b0 : (t148 == 0) = false := beq_eq_false_iff_ne.mpr c61
                                              have c61b1 : (t148 != 0) = true := bne_iff_ne.mpr c61
                                              obtain rfl := Option.some.inj H
                                              have p138 : 0 ≤ (x16_5 : Int) := of_decide_eq_true (by first | (with_reducible assumption) | assumption)
                                              have q138 : x16_5 < (t126.length : Int) := of_decide_eq_true (by first | (with_reducible assumption) | assumption)
                                              obtain ⟨ad138, e138, hx138_0, hx138_1, hx138_2, hx138_3, hx138_4, hx138_5, hx138_6⟩ := at_T49 (Kd.R_reads' HO_9.out).2.2 x16_5 p138 q138
                                              obtain rfl : ad131 = ad138 := (by injection e138)
                                              replace p138 := eq_true p138
                                              replace q138 := eq_true q138
                                              have hnb100 := NB124_132.out
                                              have hnc100 := NB132_124.out
                                              have hcz101_0 : wr.cell? ⟨gb124, 0, none⟩ = some (.slice (some ad133) l0_0.length c0_0) := (blk_cell BK124.out 0).trans rfl
                                              have hfz101_0 := blk_frozen BK124.out 0
                                              have hcz102_0 : wr.cell? ⟨gb132, 0, none⟩ = some (.int .i64 ((rd_T49 t126 x11_19).f0)) := (blk_cell BK132.out 0).trans rfl
                                              have hcz102_1 : wr.cell? ⟨gb132, 1, none⟩ = some (.int .i64 ((rd_T49 t126 x11_19).f1)) := (blk_cell BK132.out 1).trans rfl
                                              have hcz102_2 : wr.cell? ⟨gb132, 2, none⟩ = some (.int .i64 ((rd_T49 t126 x11_19).f2)) := (blk_cell BK132.out 2).trans rfl
                                              have hcz102_3 : wr.cell? ⟨gb132, 3, none⟩ = some (.int .i64 ((rd_T49 t126 x11_19).f3)) := (blk_cell BK132.out 3).trans rfl
                                              have hcz102_4 : wr.cell? ⟨gb132, 4, none⟩ = some (.int .i64 ((rd_T49 t126 x11_19).f4)) := (blk_cell BK132.out 4).trans rfl
                                              have hcz102_5 : wr.cell? ⟨gb132, 5, none⟩ = some (.int .i64 ((rd_T49 t126 x11_19).f5)) := (blk_cell BK132.out 5).trans rfl
                                              have hcz102_6 : wr.cell? ⟨gb132, 6, none⟩ = some (.int .i64 ((rd_T49 t126 x11_19).f6)) := (blk_cell BK132.out 6).trans rfl
                                              have hfz102_0 := blk_frozen BK132.out 0
                                              have hfz102_1 := blk_frozen BK132.out 1
                                              have hfz102_2 := blk_frozen BK132.out 2
                                              have hfz102_3 := blk_frozen BK132.out 3
                                              have hfz102_4 := blk_frozen BK132.out 4
                                              have hfz102_5 := blk_frozen BK132.out 5
                                              have hfz102_6 := blk_frozen BK132.out 6
                                              go_wp2_with (first | ((with_reducible refine gate_callee (f := 28) rfl ?_); refine goesL_ (some 116) rfl rfl Tryd.func28 (by kernel_rfl) rfl #[.agg #[.slice (some ad133) l0_0.length c0_0], .int .i64 ((rd_T49 t126 x11_19).f2)] rfl (by (try simp only [List.map_toArray, List.map_cons, List.map_nil]); first | done | rfl | (simp only [List.length_drop, List.length_take]; rfl)) ?_; (with_reducible refine (plunderlaw6_swapped.calls k5 _ _ l0_0 ((rd_T49 t126 x11_19).f2) t140 _ ?side1 ?side2 A59.out).mono ?_); (case side1 => repeat (first | exact (Kd.C_below HR0_0.out HB.out) | (with_reducible refine Kd.C_alloc ?_ _) | (with_reducible refine Kd.C_drewN ?_ _) | (with_reducible refine Kd.C_drew ?_))); (case side2 => exact HC0_0.out); rintro e w103 ⟨v141, rfl, ho0, hb⟩; refine ⟨_, rfl, ?_⟩; have n0_ := Aside0.mk (Kd.R_below (by (with_reducible repeat (first | apply Kd.R_alloc | apply Kd.R_drewN | apply Kd.R_drew)); exact HO_9.out) hb); have n1_ := Aside0.mk (Kd.R_below (by (with_reducible repeat (first | apply Kd.R_alloc | apply Kd.R_drewN | apply Kd.R_drew)); exact HO_13.out) hb); have n2_ := Aside0.mk (Kd.S_lower ho0 (below_size (by repeat (first | (with_reducible first | exact HB.out | apply below_alloc | apply pw_below_drewN | apply below_drew1 | refine below_set ?_ GE124.out | refine below_set ?_ GE132.out) | exact HB.out)))); have n3_ := Aside0.mk (blk_below (g := gb124) (o := .cells #[.slice (some ad133) l0_0.length c0_0] 24 (0, 0)) (by (with_reducible repeat (first | refine blk_drewN ?_ _ | refine blk_drew ?_ | refine blk_alloc ?_ _)); exact BK124.out) hb); have n4_ := Aside0.mk (blk_below (g := gb132) (o := .cells #[.int .i64 ((rd_T49 t126 x11_19).f0), .int .i64 ((rd_T49 t126 x11_19).f1), .int .i64 ((rd_T49 t126 x11_19).f2), .int .i64 ((rd_T49 t126 x11_19).f3), .int .i64 ((rd_T49 t126 x11_19).f4), .int .i64 ((rd_T49 t126 x11_19).f5), .int .i64 ((rd_T49 t126 x11_19).f6)] 49 (0, 0)) (by (with_reducible repeat (first | refine blk_drewN ?_ _ | refine blk_drew ?_ | refine blk_alloc ?_ _)); exact BK132.out) hb); have n5_ := Aside0.mk (below_step (by repeat (first | (with_reducible first | exact HB.out | apply below_alloc | apply pw_below_drewN | apply below_drew1 | refine below_set ?_ GE124.out | refine below_set ?_ GE132.out) | exact HB.out)) hb); clear HO_9; clear HO_13; clear BK124; clear BK132; clear HB; have HO_9 := n0_; have HO_13 := n1_; have HO142 := n2_; have BK124 := n3_; have BK132 := n4_; have HB := n5_; clear n0_ n1_ n2_ n3_ n4_ n5_; (try clear hb); (try clear hb2); (try clear hk); (try clear hi); (try clear ho0); obtain ⟨Ao104, co104, eo104⟩ := Kd.S_slice HO142.out; subst eo104; obtain ⟨Ao105, co105, eo105⟩ := Kd.R_slice HO_13.out; subst eo105) | ((with_reducible refine gate_callee (f := 14) rfl ?_); refine goesL_ (some 119) rfl rfl Tryd.func14 (by kernel_rfl) rfl #[.agg #[.slice Ao104 t140.length co104], .slice Ao105 x13_37.length co105, .int .i64 a2] rfl (by (try simp only [List.map_toArray, List.map_cons, List.map_nil]); first | done | rfl | (simp only [List.length_drop, List.length_take]; rfl)) ?_; (with_reducible refine (serial_Eval.calls k5 _ _ t140 _ _ x13_37 a2 t143 t144 t145 t146 t147 t148 _ (HTab.out.below (by repeat (first | (with_reducible first | exact HB.out | apply below_alloc | apply pw_below_drewN | apply below_drew1 | refine below_set ?_ GE124.out | refine below_set ?_ GE132.out) | exact HB.out))) ?side1 ?side2 ?side3 ?side4 A60.out).mono ?_); (case side1 => repeat (first | exact (Kd.S_reads' HO142.out).2.2 | (with_reducible refine Kd.C_alloc ?_ _) | (with_reducible refine Kd.C_drewN ?_ _) | (with_reducible refine Kd.C_drew ?_))); (case side2 => exact (Kd.S_reads' HO142.out).2.1); (case side3 => repeat (first | exact (Kd.R_reads' HO_13.out).2.2 | (with_reducible refine Kd.C_alloc ?_ _) | (with_reducible refine Kd.C_drewN ?_ _) | (with_reducible refine Kd.C_drew ?_))); (case side4 => exact (Kd.R_reads' HO_13.out).2.1); rintro e w106 ⟨rfl, hb⟩; refine ⟨_, rfl, ?_⟩; have n0_ := Aside0.mk (Kd.R_below (by (with_reducible repeat (first | apply Kd.R_alloc | apply Kd.R_drewN | apply Kd.R_drew)); exact HO_9.out) hb); have n1_ := Aside0.mk (Kd.R_below (by (with_reducible repeat (first | apply Kd.R_alloc | apply Kd.R_drewN | apply Kd.R_drew)); exact HO_13.out) hb); have n2_ := Aside0.mk (Kd.S_below (by (with_reducible repeat (first | apply Kd.S_alloc | apply Kd.S_drewN | apply Kd.S_drew)); exact HO142.out) hb); have n3_ := Aside0.mk (blk_below (g := gb124) (o := .cells #[.slice (some ad133) l0_0.length c0_0] 24 (0, 0)) (by (with_reducible repeat (first | refine blk_drewN ?_ _ | refine blk_drew ?_ | refine blk_alloc ?_ _)); exact BK124.out) hb); have n4_ := Aside0.mk (blk_below (g := gb132) (o := .cells #[.int .i64 ((rd_T49 t126 x11_19).f0), .int .i64 ((rd_T49 t126 x11_19).f1), .int .i64 ((rd_T49 t126 x11_19).f2), .int .i64 ((rd_T49 t126 x11_19).f3), .int .i64 ((rd_T49 t126 x11_19).f4), .int .i64 ((rd_T49 t126 x11_19).f5), .int .i64 ((rd_T49 t126 x11_19).f6)] 49 (0, 0)) (by (with_reducible repeat (first | refine blk_drewN ?_ _ | refine blk_drew ?_ | refine blk_alloc ?_ _)); exact BK132.out) hb); have n5_ := Aside0.mk (below_step (by repeat (first | (with_reducible first | exact HB.out | apply below_alloc | apply pw_below_drewN | apply below_drew1 | refine below_set ?_ GE124.out | refine below_set ?_ GE132.out) | exact HB.out)) hb); clear HO_9; clear HO_13; clear HO142; clear BK124; clear BK132; clear HB; have HO_9 := n0_; have HO_13 := n1_; have HO142 := n2_; have BK124 := n3_; have BK132 := n4_; have HB := n5_; clear n0_ n1_ n2_ n3_ n4_ n5_; (try clear hb); (try clear hb2); (try clear hk); (try clear hi)) | ((with_reducible refine gate_dst (N := 17) rfl ?_); (try (refine gate_guard (by rfl) ?_; dsimp only)); refine box_event ?hg (N := 17) ?hd (cs := #[.int .i64 0, .int .i64 0, .int .i64 0, .int .i64 0, .int .i64 0]) (t := 28) ?hr ?_; (case hd => rfl); (case hg => rfl); (case hr => first | (go_simp; done) | (go_simp; rfl)); intro gb149 hg w107 hbox hb; have n0_ := Aside0.mk (Kd.R_below (by (with_reducible repeat (first | apply Kd.R_alloc | apply Kd.R_drewN | apply Kd.R_drew)); exact HO_9.out) hb); have n1_ := Aside0.mk (Kd.R_below (by (with_reducible repeat (first | apply Kd.R_alloc | apply Kd.R_drewN | apply Kd.R_drew)); exact HO_13.out) hb); have n2_ := Aside0.mk (Kd.S_below (by (with_reducible repeat (first | apply Kd.S_alloc | apply Kd.S_drewN | apply Kd.S_drew)); exact HO142.out) hb); have n3_ := Aside0.mk (blk_below (g := gb124) (o := .cells #[.slice (some ad133) l0_0.length c0_0] 24 (0, 0)) (by (with_reducible repeat (first | refine blk_drewN ?_ _ | refine blk_drew ?_ | refine blk_alloc ?_ _)); exact BK124.out) hb); have n4_ := Aside0.mk (blk_below (g := gb132) (o := .cells #[.int .i64 ((rd_T49 t126 x11_19).f0), .int .i64 ((rd_T49 t126 x11_19).f1), .int .i64 ((rd_T49 t126 x11_19).f2), .int .i64 ((rd_T49 t126 x11_19).f3), .int .i64 ((rd_T49 t126 x11_19).f4), .int .i64 ((rd_T49 t126 x11_19).f5), .int .i64 ((rd_T49 t126 x11_19).f6)] 49 (0, 0)) (by (with_reducible repeat (first | refine blk_drewN ?_ _ | refine blk_drew ?_ | refine blk_alloc ?_ _)); exact BK132.out) hb); have n5_ := Aside0.mk (below_step (by repeat (first | (with_reducible first | exact HB.out | apply below_alloc | apply pw_below_drewN | apply below_drew1 | refine below_set ?_ GE124.out | refine below_set ?_ GE132.out) | exact HB.out)) hb); have n6_ := Aside0.mk (hbox); have n7_ := Aside0.mk ((by rw [hg]; exact (below_size (by repeat (first | (with_reducible first | exact HB.out | apply below_alloc | apply pw_below_drewN | apply below_drew1 | refine below_set ?_ GE124.out | refine below_set ?_ GE132.out) | exact HB.out))) : w.heap.size ≤ gb149)); have n8_ := Aside0.mk ((by rw [hg]; exact (below_size (by repeat (first | (with_reducible first | exact HB.out | apply below_alloc | apply pw_below_drewN | apply below_drew1 | refine below_set ?_ GE124.out | refine below_set ?_ GE132.out) | exact HB.out))) : w.heap.size ≤ gb149)); have n9_ := Aside0.mk ((by rw [hg]; exact Nat.ne_of_lt (blk_lt (g := gb124) (o := .cells #[.slice (some ad133) l0_0.length c0_0] 24 (0, 0)) (by (with_reducible repeat (first | refine blk_drewN ?_ _ | refine blk_drew ?_ | refine blk_alloc ?_ _)); exact BK124.out)) : gb124 ≠ gb149)); have n10_ := Aside0.mk ((by rw [hg]; exact Nat.ne_of_gt (blk_lt (g := gb124) (o := .cells #[.slice (some ad133) l0_0.length c0_0] 24 (0, 0)) (by (with_reducible repeat (first | refine blk_drewN ?_ _ | refine blk_drew ?_ | refine blk_alloc ?_ _)); exact BK124.out)) : gb149 ≠ gb124)); have n11_ := Aside0.mk ((by rw [hg]; exact Nat.ne_of_lt (blk_lt (g := gb132) (o := .cells #[.int .i64 ((rd_T49 t126 x11_19).f0), .int .i64 ((rd_T49 t126 x11_19).f1), .int .i64 ((rd_T49 t126 x11_19).f2), .int .i64 ((rd_T49 t126 x11_19).f3), .int .i64 ((rd_T49 t126 x11_19).f4), .int .i64 ((rd_T49 t126 x11_19).f5), .int .i64 ((rd_T49 t126 x11_19).f6)] 49 (0, 0)) (by (with_reducible repeat (first | refine blk_drewN ?_ _ | refine blk_drew ?_ | refine blk_alloc ?_ _)); exact BK132.out)) : gb132 ≠ gb149)); have n12_ := Aside0.mk ((by rw [hg]; exact Nat.ne_of_gt (blk_lt (g := gb132) (o := .cells #[.int .i64 ((rd_T49 t126 x11_19).f0), .int .i64 ((rd_T49 t126 x11_19).f1), .int .i64 ((rd_T49 t126 x11_19).f2), .int .i64 ((rd_T49 t126 x11_19).f3), .int .i64 ((rd_T49 t126 x11_19).f4), .int .i64 ((rd_T49 t126 x11_19).f5), .int .i64 ((rd_T49 t126 x11_19).f6)] 49 (0, 0)) (by (with_reducible repeat (first | refine blk_drewN ?_ _ | refine blk_drew ?_ | refine blk_alloc ?_ _)); exact BK132.out)) : gb149 ≠ gb132)); clear HO_9; clear HO_13; clear HO142; clear BK124; clear BK132; clear HB; have HO_9 := n0_; have HO_13 := n1_; have HO142 := n2_; have BK124 := n3_; have BK132 := n4_; have HB := n5_; have BK149 := n6_; have GW149 := n7_; have GE149 := n8_; have NB124_149 := n9_; have NB149_124 := n10_; have NB132_149 := n11_; have NB149_132 := n12_; clear n0_ n1_ n2_ n3_ n4_ n5_ n6_ n7_ n8_ n9_ n10_ n11_ n12_; clear hb hbox hg; have hnb108 := NB149_124.out; have hnc108 := NB124_149.out; have hnb109 := NB149_132.out; have hnc109 := NB132_149.out; have hcz110_0 : w107.cell? ⟨gb149, 0, none⟩ = some (.int .i64 0) := (blk_cell BK149.out 0).trans rfl; have hcz110_1 : w107.cell? ⟨gb149, 1, none⟩ = some (.int .i64 0) := (blk_cell BK149.out 1).trans rfl; have hcz110_2 : w107.cell? ⟨gb149, 2, none⟩ = some (.int .i64 0) := (blk_cell BK149.out 2).trans rfl; have hcz110_3 : w107.cell? ⟨gb149, 3, none⟩ = some (.int .i64 0) := (blk_cell BK149.out 3).trans rfl; have hcz110_4 : w107.cell? ⟨gb149, 4, none⟩ = some (.int .i64 0) := (blk_cell BK149.out 4).trans rfl; have hfz110_0 := blk_frozen BK149.out 0; have hfz110_1 := blk_frozen BK149.out 1; have hfz110_2 := blk_frozen BK149.out 2; have hfz110_3 := blk_frozen BK149.out 3; have hfz110_4 := blk_frozen BK149.out 4))
                                              go_ret
                                              exact ⟨by first | rfl | (simp [errW_none, errW_some] <;> rfl) | (simp [*, errW_none, errW_some] <;> rfl), by repeat (first | (with_reducible first | exact HB.out | apply below_alloc | apply pw_below_drewN | apply below_drew1 | refine below_set ?_ GE124.out | refine below_set ?_ GE132.out | refine below_set ?_ GE149.out) | exact HB.out)⟩
                                        · rw [if_neg c57] at H
                                          exact absurd H (by simp)
                                      · rw [if_neg c56] at H
                                        have c56b0 : decide (x16_5 < (t126.length : Int)) = false := decide_eq_false c56
                                        clear c56
                                        replace H := Option.bind_eq_some_iff.mp H
                                        obtain ⟨t150, A1110, H⟩ := H
                                        replace H : ((serial_Eval.f k5 t150 x13_37 a2).bind fun bt153 => (if bt153.2.2.2.2.2 = 0 then (if bt153.1 = ((rd_T49 t126 x11_19).f6) then (if bt153.2.2.1 = x14_5 then (some (bt153.2.1 == x15_5)) else (some false)) else (some false)) else (some false))) = some r := H
                                        have A111 := Aside0.mk A1110
                                        clear A1110
                                        replace H := Option.bind_eq_some_iff.mp H
                                        obtain ⟨⟨t153, t154, t155, t156, t157, t158⟩, A1120, H⟩ := H
                                        replace H : (if t158 = 0 then (if t153 = ((rd_T49 t126 x11_19).f6) then (if t155 = x14_5 then (some (t154 == x15_5)) else (some false)) else (some false)) else (some false)) = some r := H
                                        have A112 := Aside0.mk A1120
                                        clear A1120
                                        by_cases c113 : t158 = 0
                                        · rw [if_pos c113] at H
                                          have c113b0 : (t158 == 0) = true := beq_iff_eq.mpr c113
                                          have c113b1 : (t158 != 0) = false := bne_eq_false_iff_eq.mpr c113
                                          clear c113
                                          by_cases c114 : t153 = ((rd_T49 t126 x11_19).f6)
                                          · rw [if_pos c114] at H
                                            have c114b0 : (t153 == ((rd_T49 t126 x11_19).f6)) = true := beq_iff_eq.mpr c114
                                            have c114b1 : (t153 != ((rd_T49 t126 x11_19).f6)) = false := bne_eq_false_iff_eq.mpr c114
                                            clear c114
                                            by_cases c115 : t155 = x14_5
                                            · rw [if_pos c115] at H
                                              have c115b0 : (t155 == x14_5) = true := beq_iff_eq.mpr c115
                                              have c115b1 : (t155 != x14_5) = false := bne_eq_false_iff_eq.mpr c115
                                              clear c115
                                              obtain rfl := Option.some.inj H
                                              have hnb116 := NB124_132.out
                                              have hnc116 := NB132_124.out
                                              have hcz117_0 : wr.cell? ⟨gb124, 0, none⟩ = some (.slice (some ad133) l0_0.length c0_0) := (blk_cell BK124.out 0).trans rfl
                                              have hfz117_0 := blk_frozen BK124.out 0
                                              have hcz118_0 : wr.cell? ⟨gb132, 0, none⟩ = some (.int .i64 ((rd_T49 t126 x11_19).f0)) := (blk_cell BK132.out 0).trans rfl
                                              have hcz118_1 : wr.cell? ⟨gb132, 1, none⟩ = some (.int .i64 ((rd_T49 t126 x11_19).f1)) := (blk_cell BK132.out 1).trans rfl
                                              have hcz118_2 : wr.cell? ⟨gb132, 2, none⟩ = some (.int .i64 ((rd_T49 t126 x11_19).f2)) := (blk_cell BK132.out 2).trans rfl
                                              have hcz118_3 : wr.cell? ⟨gb132, 3, none⟩ = some (.int .i64 ((rd_T49 t126 x11_19).f3)) := (blk_cell BK132.out 3).trans rfl
                                              have hcz118_4 : wr.cell? ⟨gb132, 4, none⟩ = some (.int .i64 ((rd_T49 t126 x11_19).f4)) := (blk_cell BK132.out 4).trans rfl
                                              have hcz118_5 : wr.cell? ⟨gb132, 5, none⟩ = some (.int .i64 ((rd_T49 t126 x11_19).f5)) := (blk_cell BK132.out 5).trans rfl
                                              have hcz118_6 : wr.cell? ⟨gb132, 6, none⟩ = some (.int .i64 ((rd_T49 t126 x11_19).f6)) := (blk_cell BK132.out 6).trans rfl
                                              have hfz118_0 := blk_frozen BK132.out 0
                                              have hfz118_1 := blk_frozen BK132.out 1
                                              have hfz118_2 := blk_frozen BK132.out 2
                                              have hfz118_3 := blk_frozen BK132.out 3
                                              have hfz118_4 := blk_frozen BK132.out 4
                                              have hfz118_5 := blk_frozen BK132.out 5
                                              have hfz118_6 := blk_frozen BK132.out 6
                                              go_wp2_with (first | ((with_reducible refine gate_callee (f := 28) rfl ?_); refine goesL_ (some 116) rfl rfl Tryd.func28 (by kernel_rfl) rfl #[.agg #[.slice (some ad133) l0_0.length c0_0], .int .i64 ((rd_T49 t126 x11_19).f2)] rfl (by (try simp only [List.map_toArray, List.map_cons, List.map_nil]); first | done | rfl | (simp only [List.length_drop, List.length_take]; rfl)) ?_; (with_reducible refine (plunderlaw6_swapped.calls k5 _ _ l0_0 ((rd_T49 t126 x11_19).f2) t150 _ ?side1 ?side2 A111.out).mono ?_); (case side1 => repeat (first | exact (Kd.C_below HR0_0.out HB.out) | (with_reducible refine Kd.C_alloc ?_ _) | (with_reducible refine Kd.C_drewN ?_ _) | (with_reducible refine Kd.C_drew ?_))); (case side2 => exact HC0_0.out); rintro e w119 ⟨v151, rfl, ho0, hb⟩; refine ⟨_, rfl, ?_⟩; have n0_ := Aside0.mk (Kd.R_below (by (with_reducible repeat (first | apply Kd.R_alloc | apply Kd.R_drewN | apply Kd.R_drew)); exact HO_9.out) hb); have n1_ := Aside0.mk (Kd.R_below (by (with_reducible repeat (first | apply Kd.R_alloc | apply Kd.R_drewN | apply Kd.R_drew)); exact HO_13.out) hb); have n2_ := Aside0.mk (Kd.S_lower ho0 (below_size (by repeat (first | (with_reducible first | exact HB.out | apply below_alloc | apply pw_below_drewN | apply below_drew1 | refine below_set ?_ GE124.out | refine below_set ?_ GE132.out) | exact HB.out)))); have n3_ := Aside0.mk (blk_below (g := gb124) (o := .cells #[.slice (some ad133) l0_0.length c0_0] 24 (0, 0)) (by (with_reducible repeat (first | refine blk_drewN ?_ _ | refine blk_drew ?_ | refine blk_alloc ?_ _)); exact BK124.out) hb); have n4_ := Aside0.mk (blk_below (g := gb132) (o := .cells #[.int .i64 ((rd_T49 t126 x11_19).f0), .int .i64 ((rd_T49 t126 x11_19).f1), .int .i64 ((rd_T49 t126 x11_19).f2), .int .i64 ((rd_T49 t126 x11_19).f3), .int .i64 ((rd_T49 t126 x11_19).f4), .int .i64 ((rd_T49 t126 x11_19).f5), .int .i64 ((rd_T49 t126 x11_19).f6)] 49 (0, 0)) (by (with_reducible repeat (first | refine blk_drewN ?_ _ | refine blk_drew ?_ | refine blk_alloc ?_ _)); exact BK132.out) hb); have n5_ := Aside0.mk (below_step (by repeat (first | (with_reducible first | exact HB.out | apply below_alloc | apply pw_below_drewN | apply below_drew1 | refine below_set ?_ GE124.out | refine below_set ?_ GE132.out) | exact HB.out)) hb); clear HO_9; clear HO_13; clear BK124; clear BK132; clear HB; have HO_9 := n0_; have HO_13 := n1_; have HO152 := n2_; have BK124 := n3_; have BK132 := n4_; have HB := n5_; clear n0_ n1_ n2_ n3_ n4_ n5_; (try clear hb); (try clear hb2); (try clear hk); (try clear hi); (try clear ho0); obtain ⟨Ao120, co120, eo120⟩ := Kd.S_slice HO152.out; subst eo120; obtain ⟨Ao121, co121, eo121⟩ := Kd.R_slice HO_13.out; subst eo121) | ((with_reducible refine gate_callee (f := 14) rfl ?_); refine goesL_ (some 119) rfl rfl Tryd.func14 (by kernel_rfl) rfl #[.agg #[.slice Ao120 t150.length co120], .slice Ao121 x13_37.length co121, .int .i64 a2] rfl (by (try simp only [List.map_toArray, List.map_cons, List.map_nil]); first | done | rfl | (simp only [List.length_drop, List.length_take]; rfl)) ?_; (with_reducible refine (serial_Eval.calls k5 _ _ t150 _ _ x13_37 a2 t153 t154 t155 t156 t157 t158 _ (HTab.out.below (by repeat (first | (with_reducible first | exact HB.out | apply below_alloc | apply pw_below_drewN | apply below_drew1 | refine below_set ?_ GE124.out | refine below_set ?_ GE132.out) | exact HB.out))) ?side1 ?side2 ?side3 ?side4 A112.out).mono ?_); (case side1 => repeat (first | exact (Kd.S_reads' HO152.out).2.2 | (with_reducible refine Kd.C_alloc ?_ _) | (with_reducible refine Kd.C_drewN ?_ _) | (with_reducible refine Kd.C_drew ?_))); (case side2 => exact (Kd.S_reads' HO152.out).2.1); (case side3 => repeat (first | exact (Kd.R_reads' HO_13.out).2.2 | (with_reducible refine Kd.C_alloc ?_ _) | (with_reducible refine Kd.C_drewN ?_ _) | (with_reducible refine Kd.C_drew ?_))); (case side4 => exact (Kd.R_reads' HO_13.out).2.1); rintro e w122 ⟨rfl, hb⟩; refine ⟨_, rfl, ?_⟩; have n0_ := Aside0.mk (Kd.R_below (by (with_reducible repeat (first | apply Kd.R_alloc | apply Kd.R_drewN | apply Kd.R_drew)); exact HO_9.out) hb); have n1_ := Aside0.mk (Kd.R_below (by (with_reducible repeat (first | apply Kd.R_alloc | apply Kd.R_drewN | apply Kd.R_drew)); exact HO_13.out) hb); have n2_ := Aside0.mk (Kd.S_below (by (with_reducible repeat (first | apply Kd.S_alloc | apply Kd.S_drewN | apply Kd.S_drew)); exact HO152.out) hb); have n3_ := Aside0.mk (blk_below (g := gb124) (o := .cells #[.slice (some ad133) l0_0.length c0_0] 24 (0, 0)) (by (with_reducible repeat (first | refine blk_drewN ?_ _ | refine blk_drew ?_ | refine blk_alloc ?_ _)); exact BK124.out) hb); have n4_ := Aside0.mk (blk_below (g := gb132) (o := .cells #[.int .i64 ((rd_T49 t126 x11_19).f0), .int .i64 ((rd_T49 t126 x11_19).f1), .int .i64 ((rd_T49 t126 x11_19).f2), .int .i64 ((rd_T49 t126 x11_19).f3), .int .i64 ((rd_T49 t126 x11_19).f4), .int .i64 ((rd_T49 t126 x11_19).f5), .int .i64 ((rd_T49 t126 x11_19).f6)] 49 (0, 0)) (by (with_reducible repeat (first | refine blk_drewN ?_ _ | refine blk_drew ?_ | refine blk_alloc ?_ _)); exact BK132.out) hb); have n5_ := Aside0.mk (below_step (by repeat (first | (with_reducible first | exact HB.out | apply below_alloc | apply pw_below_drewN | apply below_drew1 | refine below_set ?_ GE124.out | refine below_set ?_ GE132.out) | exact HB.out)) hb); clear HO_9; clear HO_13; clear HO152; clear BK124; clear BK132; clear HB; have HO_9 := n0_; have HO_13 := n1_; have HO152 := n2_; have BK124 := n3_; have BK132 := n4_; have HB := n5_; clear n0_ n1_ n2_ n3_ n4_ n5_; (try clear hb); (try clear hb2); (try clear hk); (try clear hi)) | ((with_reducible refine gate_dst (N := 17) rfl ?_); (try (refine gate_guard (by rfl) ?_; dsimp only)); refine box_event ?hg (N := 17) ?hd (cs := #[.int .i64 0, .int .i64 0, .int .i64 0, .int .i64 0, .int .i64 0]) (t := 28) ?hr ?_; (case hd => rfl); (case hg => rfl); (case hr => first | (go_simp; done) | (go_simp; rfl)); intro gb159 hg w123 hbox hb; have n0_ := Aside0.mk (Kd.R_below (by (with_reducible repeat (first | apply Kd.R_alloc | apply Kd.R_drewN | apply Kd.R_drew)); exact HO_9.out) hb); have n1_ := Aside0.mk (Kd.R_below (by (with_reducible repeat (first | apply Kd.R_alloc | apply Kd.R_drewN | apply Kd.R_drew)); exact HO_13.out) hb); have n2_ := Aside0.mk (Kd.S_below (by (with_reducible repeat (first | apply Kd.S_alloc | apply Kd.S_drewN | apply Kd.S_drew)); exact HO152.out) hb); have n3_ := Aside0.mk (blk_below (g := gb124) (o := .cells #[.slice (some ad133) l0_0.length c0_0] 24 (0, 0)) (by (with_reducible repeat (first | refine blk_drewN ?_ _ | refine blk_drew ?_ | refine blk_alloc ?_ _)); exact BK124.out) hb); have n4_ := Aside0.mk (blk_below (g := gb132) (o := .cells #[.int .i64 ((rd_T49 t126 x11_19).f0), .int .i64 ((rd_T49 t126 x11_19).f1), .int .i64 ((rd_T49 t126 x11_19).f2), .int .i64 ((rd_T49 t126 x11_19).f3), .int .i64 ((rd_T49 t126 x11_19).f4), .int .i64 ((rd_T49 t126 x11_19).f5), .int .i64 ((rd_T49 t126 x11_19).f6)] 49 (0, 0)) (by (with_reducible repeat (first | refine blk_drewN ?_ _ | refine blk_drew ?_ | refine blk_alloc ?_ _)); exact BK132.out) hb); have n5_ := Aside0.mk (below_step (by repeat (first | (with_reducible first | exact HB.out | apply below_alloc | apply pw_below_drewN | apply below_drew1 | refine below_set ?_ GE124.out | refine below_set ?_ GE132.out) | exact HB.out)) hb); have n6_ := Aside0.mk (hbox); have n7_ := Aside0.mk ((by rw [hg]; exact (below_size (by repeat (first | (with_reducible first | exact HB.out | apply below_alloc | apply pw_below_drewN | apply below_drew1 | refine below_set ?_ GE124.out | refine below_set ?_ GE132.out) | exact HB.out))) : w.heap.size ≤ gb159)); have n8_ := Aside0.mk ((by rw [hg]; exact (below_size (by repeat (first | (with_reducible first | exact HB.out | apply below_alloc | apply pw_below_drewN | apply below_drew1 | refine below_set ?_ GE124.out | refine below_set ?_ GE132.out) | exact HB.out))) : w.heap.size ≤ gb159)); have n9_ := Aside0.mk ((by rw [hg]; exact Nat.ne_of_lt (blk_lt (g := gb124) (o := .cells #[.slice (some ad133) l0_0.length c0_0] 24 (0, 0)) (by (with_reducible repeat (first | refine blk_drewN ?_ _ | refine blk_drew ?_ | refine blk_alloc ?_ _)); exact BK124.out)) : gb124 ≠ gb159)); have n10_ := Aside0.mk ((by rw [hg]; exact Nat.ne_of_gt (blk_lt (g := gb124) (o := .cells #[.slice (some ad133) l0_0.length c0_0] 24 (0, 0)) (by (with_reducible repeat (first | refine blk_drewN ?_ _ | refine blk_drew ?_ | refine blk_alloc ?_ _)); exact BK124.out)) : gb159 ≠ gb124)); have n11_ := Aside0.mk ((by rw [hg]; exact Nat.ne_of_lt (blk_lt (g := gb132) (o := .cells #[.int .i64 ((rd_T49 t126 x11_19).f0), .int .i64 ((rd_T49 t126 x11_19).f1), .int .i64 ((rd_T49 t126 x11_19).f2), .int .i64 ((rd_T49 t126 x11_19).f3), .int .i64 ((rd_T49 t126 x11_19).f4), .int .i64 ((rd_T49 t126 x11_19).f5), .int .i64 ((rd_T49 t126 x11_19).f6)] 49 (0, 0)) (by (with_reducible repeat (first | refine blk_drewN ?_ _ | refine blk_drew ?_ | refine blk_alloc ?_ _)); exact BK132.out)) : gb132 ≠ gb159)); have n12_ := Aside0.mk ((by rw [hg]; exact Nat.ne_of_gt (blk_lt (g := gb132) (o := .cells #[.int .i64 ((rd_T49 t126 x11_19).f0), .int .i64 ((rd_T49 t126 x11_19).f1), .int .i64 ((rd_T49 t126 x11_19).f2), .int .i64 ((rd_T49 t126 x11_19).f3), .int .i64 ((rd_T49 t126 x11_19).f4), .int .i64 ((rd_T49 t126 x11_19).f5), .int .i64 ((rd_T49 t126 x11_19).f6)] 49 (0, 0)) (by (with_reducible repeat (first | refine blk_drewN ?_ _ | refine blk_drew ?_ | refine blk_alloc ?_ _)); exact BK132.out)) : gb159 ≠ gb132)); clear HO_9; clear HO_13; clear HO152; clear BK124; clear BK132; clear HB; have HO_9 := n0_; have HO_13 := n1_; have HO152 := n2_; have BK124 := n3_; have BK132 := n4_; have HB := n5_; have BK159 := n6_; have GW159 := n7_; have GE159 := n8_; have NB124_159 := n9_; have NB159_124 := n10_; have NB132_159 := n11_; have NB159_132 := n12_; clear n0_ n1_ n2_ n3_ n4_ n5_ n6_ n7_ n8_ n9_ n10_ n11_ n12_; clear hb hbox hg; have hnb124 := NB159_124.out; have hnc124 := NB124_159.out; have hnb125 := NB159_132.out; have hnc125 := NB132_159.out; have hcz126_0 : w123.cell? ⟨gb159, 0, none⟩ = some (.int .i64 0) := (blk_cell BK159.out 0).trans rfl; have hcz126_1 : w123.cell? ⟨gb159, 1, none⟩ = some (.int .i64 0) := (blk_cell BK159.out 1).trans rfl; have hcz126_2 : w123.cell? ⟨gb159, 2, none⟩ = some (.int .i64 0) := (blk_cell BK159.out 2).trans rfl; have hcz126_3 : w123.cell? ⟨gb159, 3, none⟩ = some (.int .i64 0) := (blk_cell BK159.out 3).trans rfl; have hcz126_4 : w123.cell? ⟨gb159, 4, none⟩ = some (.int .i64 0) := (blk_cell BK159.out 4).trans rfl; have hfz126_0 := blk_frozen BK159.out 0; have hfz126_1 := blk_frozen BK159.out 1; have hfz126_2 := blk_frozen BK159.out 2; have hfz126_3 := blk_frozen BK159.out 3; have hfz126_4 := blk_frozen BK159.out 4; have hcz127_0 : w123.cell? ⟨gb132, 0, none⟩ = some (.int .i64 ((rd_T49 t126 x11_19).f0)) := (blk_cell BK132.out 0).trans rfl; have hcz127_1 : w123.cell? ⟨gb132, 1, none⟩ = some (.int .i64 ((rd_T49 t126 x11_19).f1)) := (blk_cell BK132.out 1).trans rfl; have hcz127_2 : w123.cell? ⟨gb132, 2, none⟩ = some (.int .i64 ((rd_T49 t126 x11_19).f2)) := (blk_cell BK132.out 2).trans rfl; have hcz127_3 : w123.cell? ⟨gb132, 3, none⟩ = some (.int .i64 ((rd_T49 t126 x11_19).f3)) := (blk_cell BK132.out 3).trans rfl; have hcz127_4 : w123.cell? ⟨gb132, 4, none⟩ = some (.int .i64 ((rd_T49 t126 x11_19).f4)) := (blk_cell BK132.out 4).trans rfl; have hcz127_5 : w123.cell? ⟨gb132, 5, none⟩ = some (.int .i64 ((rd_T49 t126 x11_19).f5)) := (blk_cell BK132.out 5).trans rfl; have hcz127_6 : w123.cell? ⟨gb132, 6, none⟩ = some (.int .i64 ((rd_T49 t126 x11_19).f6)) := (blk_cell BK132.out 6).trans rfl; have hfz127_0 := blk_frozen BK132.out 0; have hfz127_1 := blk_frozen BK132.out 1; have hfz127_2 := blk_frozen BK132.out 2; have hfz127_3 := blk_frozen BK132.out 3; have hfz127_4 := blk_frozen BK132.out 4; have hfz127_5 := blk_frozen BK132.out 5; have hfz127_6 := blk_frozen BK132.out 6))
                                              go_ret
                                              exact ⟨by first | rfl | (simp [errW_none, errW_some] <;> rfl) | (simp [*, errW_none, errW_some] <;> rfl), by repeat (first | (with_reducible first | exact HB.out | apply below_alloc | apply pw_below_drewN | apply below_drew1 | refine below_set ?_ GE124.out | refine below_set ?_ GE132.out | refine below_set ?_ GE159.out) | exact HB.out)⟩
                                            · rw [if_neg c115] at H
                                              have c115b0 : (t155 == x14_5) = false := beq_eq_false_iff_ne.mpr c115
                                              have c115b1 : (t155 != x14_5) = true := bne_iff_ne.mpr c115
                                              obtain rfl := Option.some.inj H
                                              have hnb128 := NB124_132.out
                                              have hnc128 := NB132_124.out
                                              have hcz129_0 : wr.cell? ⟨gb124, 0, none⟩ = some (.slice (some ad133) l0_0.length c0_0) := (blk_cell BK124.out 0).trans rfl
                                              have hfz129_0 := blk_frozen BK124.out 0
                                              have hcz130_0 : wr.cell? ⟨gb132, 0, none⟩ = some (.int .i64 ((rd_T49 t126 x11_19).f0)) := (blk_cell BK132.out 0).trans rfl
                                              have hcz130_1 : wr.cell? ⟨gb132, 1, none⟩ = some (.int .i64 ((rd_T49 t126 x11_19).f1)) := (blk_cell BK132.out 1).trans rfl
                                              have hcz130_2 : wr.cell? ⟨gb132, 2, none⟩ = some (.int .i64 ((rd_T49 t126 x11_19).f2)) := (blk_cell BK132.out 2).trans rfl
                                              have hcz130_3 : wr.cell? ⟨gb132, 3, none⟩ = some (.int .i64 ((rd_T49 t126 x11_19).f3)) := (blk_cell BK132.out 3).trans rfl
                                              have hcz130_4 : wr.cell? ⟨gb132, 4, none⟩ = some (.int .i64 ((rd_T49 t126 x11_19).f4)) := (blk_cell BK132.out 4).trans rfl
                                              have hcz130_5 : wr.cell? ⟨gb132, 5, none⟩ = some (.int .i64 ((rd_T49 t126 x11_19).f5)) := (blk_cell BK132.out 5).trans rfl
                                              have hcz130_6 : wr.cell? ⟨gb132, 6, none⟩ = some (.int .i64 ((rd_T49 t126 x11_19).f6)) := (blk_cell BK132.out 6).trans rfl
                                              have hfz130_0 := blk_frozen BK132.out 0
                                              have hfz130_1 := blk_frozen BK132.out 1
                                              have hfz130_2 := blk_frozen BK132.out 2
                                              have hfz130_3 := blk_frozen BK132.out 3
                                              have hfz130_4 := blk_frozen BK132.out 4
                                              have hfz130_5 := blk_frozen BK132.out 5
                                              have hfz130_6 := blk_frozen BK132.out 6
                                              go_wp2_with (first | ((with_reducible refine gate_callee (f := 28) rfl ?_); refine goesL_ (some 116) rfl rfl Tryd.func28 (by kernel_rfl) rfl #[.agg #[.slice (some ad133) l0_0.length c0_0], .int .i64 ((rd_T49 t126 x11_19).f2)] rfl (by (try simp only [List.map_toArray, List.map_cons, List.map_nil]); first | done | rfl | (simp only [List.length_drop, List.length_take]; rfl)) ?_; (with_reducible refine (plunderlaw6_swapped.calls k5 _ _ l0_0 ((rd_T49 t126 x11_19).f2) t150 _ ?side1 ?side2 A111.out).mono ?_); (case side1 => repeat (first | exact (Kd.C_below HR0_0.out HB.out) | (with_reducible refine Kd.C_alloc ?_ _) | (with_reducible refine Kd.C_drewN ?_ _) | (with_reducible refine Kd.C_drew ?_))); (case side2 => exact HC0_0.out); rintro e w131 ⟨v151, rfl, ho0, hb⟩; refine ⟨_, rfl, ?_⟩; have n0_ := Aside0.mk (Kd.R_below (by (with_reducible repeat (first | apply Kd.R_alloc | apply Kd.R_drewN | apply Kd.R_drew)); exact HO_9.out) hb); have n1_ := Aside0.mk (Kd.R_below (by (with_reducible repeat (first | apply Kd.R_alloc | apply Kd.R_drewN | apply Kd.R_drew)); exact HO_13.out) hb); have n2_ := Aside0.mk (Kd.S_lower ho0 (below_size (by repeat (first | (with_reducible first | exact HB.out | apply below_alloc | apply pw_below_drewN | apply below_drew1 | refine below_set ?_ GE124.out | refine below_set ?_ GE132.out) | exact HB.out)))); have n3_ := Aside0.mk (blk_below (g := gb124) (o := .cells #[.slice (some ad133) l0_0.length c0_0] 24 (0, 0)) (by (with_reducible repeat (first | refine blk_drewN ?_ _ | refine blk_drew ?_ | refine blk_alloc ?_ _)); exact BK124.out) hb); have n4_ := Aside0.mk (blk_below (g := gb132) (o := .cells #[.int .i64 ((rd_T49 t126 x11_19).f0), .int .i64 ((rd_T49 t126 x11_19).f1), .int .i64 ((rd_T49 t126 x11_19).f2), .int .i64 ((rd_T49 t126 x11_19).f3), .int .i64 ((rd_T49 t126 x11_19).f4), .int .i64 ((rd_T49 t126 x11_19).f5), .int .i64 ((rd_T49 t126 x11_19).f6)] 49 (0, 0)) (by (with_reducible repeat (first | refine blk_drewN ?_ _ | refine blk_drew ?_ | refine blk_alloc ?_ _)); exact BK132.out) hb); have n5_ := Aside0.mk (below_step (by repeat (first | (with_reducible first | exact HB.out | apply below_alloc | apply pw_below_drewN | apply below_drew1 | refine below_set ?_ GE124.out | refine below_set ?_ GE132.out) | exact HB.out)) hb); clear HO_9; clear HO_13; clear BK124; clear BK132; clear HB; have HO_9 := n0_; have HO_13 := n1_; have HO152 := n2_; have BK124 := n3_; have BK132 := n4_; have HB := n5_; clear n0_ n1_ n2_ n3_ n4_ n5_; (try clear hb); (try clear hb2); (try clear hk); (try clear hi); (try clear ho0); obtain ⟨Ao132, co132, eo132⟩ := Kd.S_slice HO152.out; subst eo132; obtain ⟨Ao133, co133, eo133⟩ := Kd.R_slice HO_13.out; subst eo133) | ((with_reducible refine gate_callee (f := 14) rfl ?_); refine goesL_ (some 119) rfl rfl Tryd.func14 (by kernel_rfl) rfl #[.agg #[.slice Ao132 t150.length co132], .slice Ao133 x13_37.length co133, .int .i64 a2] rfl (by (try simp only [List.map_toArray, List.map_cons, List.map_nil]); first | done | rfl | (simp only [List.length_drop, List.length_take]; rfl)) ?_; (with_reducible refine (serial_Eval.calls k5 _ _ t150 _ _ x13_37 a2 t153 t154 t155 t156 t157 t158 _ (HTab.out.below (by repeat (first | (with_reducible first | exact HB.out | apply below_alloc | apply pw_below_drewN | apply below_drew1 | refine below_set ?_ GE124.out | refine below_set ?_ GE132.out) | exact HB.out))) ?side1 ?side2 ?side3 ?side4 A112.out).mono ?_); (case side1 => repeat (first | exact (Kd.S_reads' HO152.out).2.2 | (with_reducible refine Kd.C_alloc ?_ _) | (with_reducible refine Kd.C_drewN ?_ _) | (with_reducible refine Kd.C_drew ?_))); (case side2 => exact (Kd.S_reads' HO152.out).2.1); (case side3 => repeat (first | exact (Kd.R_reads' HO_13.out).2.2 | (with_reducible refine Kd.C_alloc ?_ _) | (with_reducible refine Kd.C_drewN ?_ _) | (with_reducible refine Kd.C_drew ?_))); (case side4 => exact (Kd.R_reads' HO_13.out).2.1); rintro e w134 ⟨rfl, hb⟩; refine ⟨_, rfl, ?_⟩; have n0_ := Aside0.mk (Kd.R_below (by (with_reducible repeat (first | apply Kd.R_alloc | apply Kd.R_drewN | apply Kd.R_drew)); exact HO_9.out) hb); have n1_ := Aside0.mk (Kd.R_below (by (with_reducible repeat (first | apply Kd.R_alloc | apply Kd.R_drewN | apply Kd.R_drew)); exact HO_13.out) hb); have n2_ := Aside0.mk (Kd.S_below (by (with_reducible repeat (first | apply Kd.S_alloc | apply Kd.S_drewN | apply Kd.S_drew)); exact HO152.out) hb); have n3_ := Aside0.mk (blk_below (g := gb124) (o := .cells #[.slice (some ad133) l0_0.length c0_0] 24 (0, 0)) (by (with_reducible repeat (first | refine blk_drewN ?_ _ | refine blk_drew ?_ | refine blk_alloc ?_ _)); exact BK124.out) hb); have n4_ := Aside0.mk (blk_below (g := gb132) (o := .cells #[.int .i64 ((rd_T49 t126 x11_19).f0), .int .i64 ((rd_T49 t126 x11_19).f1), .int .i64 ((rd_T49 t126 x11_19).f2), .int .i64 ((rd_T49 t126 x11_19).f3), .int .i64 ((rd_T49 t126 x11_19).f4), .int .i64 ((rd_T49 t126 x11_19).f5), .int .i64 ((rd_T49 t126 x11_19).f6)] 49 (0, 0)) (by (with_reducible repeat (first | refine blk_drewN ?_ _ | refine blk_drew ?_ | refine blk_alloc ?_ _)); exact BK132.out) hb); have n5_ := Aside0.mk (below_step (by repeat (first | (with_reducible first | exact HB.out | apply below_alloc | apply pw_below_drewN | apply below_drew1 | refine below_set ?_ GE124.out | refine below_set ?_ GE132.out) | exact HB.out)) hb); clear HO_9; clear HO_13; clear HO152; clear BK124; clear BK132; clear HB; have HO_9 := n0_; have HO_13 := n1_; have HO152 := n2_; have BK124 := n3_; have BK132 := n4_; have HB := n5_; clear n0_ n1_ n2_ n3_ n4_ n5_; (try clear hb); (try clear hb2); (try clear hk); (try clear hi)) | ((with_reducible refine gate_dst (N := 17) rfl ?_); (try (refine gate_guard (by rfl) ?_; dsimp only)); refine box_event ?hg (N := 17) ?hd (cs := #[.int .i64 0, .int .i64 0, .int .i64 0, .int .i64 0, .int .i64 0]) (t := 28) ?hr ?_; (case hd => rfl); (case hg => rfl); (case hr => first | (go_simp; done) | (go_simp; rfl)); intro gb159 hg w135 hbox hb; have n0_ := Aside0.mk (Kd.R_below (by (with_reducible repeat (first | apply Kd.R_alloc | apply Kd.R_drewN | apply Kd.R_drew)); exact HO_9.out) hb); have n1_ := Aside0.mk (Kd.R_below (by (with_reducible repeat (first | apply Kd.R_alloc | apply Kd.R_drewN | apply Kd.R_drew)); exact HO_13.out) hb); have n2_ := Aside0.mk (Kd.S_below (by (with_reducible repeat (first | apply Kd.S_alloc | apply Kd.S_drewN | apply Kd.S_drew)); exact HO152.out) hb); have n3_ := Aside0.mk (blk_below (g := gb124) (o := .cells #[.slice (some ad133) l0_0.length c0_0] 24 (0, 0)) (by (with_reducible repeat (first | refine blk_drewN ?_ _ | refine blk_drew ?_ | refine blk_alloc ?_ _)); exact BK124.out) hb); have n4_ := Aside0.mk (blk_below (g := gb132) (o := .cells #[.int .i64 ((rd_T49 t126 x11_19).f0), .int .i64 ((rd_T49 t126 x11_19).f1), .int .i64 ((rd_T49 t126 x11_19).f2), .int .i64 ((rd_T49 t126 x11_19).f3), .int .i64 ((rd_T49 t126 x11_19).f4), .int .i64 ((rd_T49 t126 x11_19).f5), .int .i64 ((rd_T49 t126 x11_19).f6)] 49 (0, 0)) (by (with_reducible repeat (first | refine blk_drewN ?_ _ | refine blk_drew ?_ | refine blk_alloc ?_ _)); exact BK132.out) hb); have n5_ := Aside0.mk (below_step (by repeat (first | (with_reducible first | exact HB.out | apply below_alloc | apply pw_below_drewN | apply below_drew1 | refine below_set ?_ GE124.out | refine below_set ?_ GE132.out) | exact HB.out)) hb); have n6_ := Aside0.mk (hbox); have n7_ := Aside0.mk ((by rw [hg]; exact (below_size (by repeat (first | (with_reducible first | exact HB.out | apply below_alloc | apply pw_below_drewN | apply below_drew1 | refine below_set ?_ GE124.out | refine below_set ?_ GE132.out) | exact HB.out))) : w.heap.size ≤ gb159)); have n8_ := Aside0.mk ((by rw [hg]; exact (below_size (by repeat (first | (with_reducible first | exact HB.out | apply below_alloc | apply pw_below_drewN | apply below_drew1 | refine below_set ?_ GE124.out | refine below_set ?_ GE132.out) | exact HB.out))) : w.heap.size ≤ gb159)); have n9_ := Aside0.mk ((by rw [hg]; exact Nat.ne_of_lt (blk_lt (g := gb124) (o := .cells #[.slice (some ad133) l0_0.length c0_0] 24 (0, 0)) (by (with_reducible repeat (first | refine blk_drewN ?_ _ | refine blk_drew ?_ | refine blk_alloc ?_ _)); exact BK124.out)) : gb124 ≠ gb159)); have n10_ := Aside0.mk ((by rw [hg]; exact Nat.ne_of_gt (blk_lt (g := gb124) (o := .cells #[.slice (some ad133) l0_0.length c0_0] 24 (0, 0)) (by (with_reducible repeat (first | refine blk_drewN ?_ _ | refine blk_drew ?_ | refine blk_alloc ?_ _)); exact BK124.out)) : gb159 ≠ gb124)); have n11_ := Aside0.mk ((by rw [hg]; exact Nat.ne_of_lt (blk_lt (g := gb132) (o := .cells #[.int .i64 ((rd_T49 t126 x11_19).f0), .int .i64 ((rd_T49 t126 x11_19).f1), .int .i64 ((rd_T49 t126 x11_19).f2), .int .i64 ((rd_T49 t126 x11_19).f3), .int .i64 ((rd_T49 t126 x11_19).f4), .int .i64 ((rd_T49 t126 x11_19).f5), .int .i64 ((rd_T49 t126 x11_19).f6)] 49 (0, 0)) (by (with_reducible repeat (first | refine blk_drewN ?_ _ | refine blk_drew ?_ | refine blk_alloc ?_ _)); exact BK132.out)) : gb132 ≠ gb159)); have n12_ := Aside0.mk ((by rw [hg]; exact Nat.ne_of_gt (blk_lt (g := gb132) (o := .cells #[.int .i64 ((rd_T49 t126 x11_19).f0), .int .i64 ((rd_T49 t126 x11_19).f1), .int .i64 ((rd_T49 t126 x11_19).f2), .int .i64 ((rd_T49 t126 x11_19).f3), .int .i64 ((rd_T49 t126 x11_19).f4), .int .i64 ((rd_T49 t126 x11_19).f5), .int .i64 ((rd_T49 t126 x11_19).f6)] 49 (0, 0)) (by (with_reducible repeat (first | refine blk_drewN ?_ _ | refine blk_drew ?_ | refine blk_alloc ?_ _)); exact BK132.out)) : gb159 ≠ gb132)); clear HO_9; clear HO_13; clear HO152; clear BK124; clear BK132; clear HB; have HO_9 := n0_; have HO_13 := n1_; have HO152 := n2_; have BK124 := n3_; have BK132 := n4_; have HB := n5_; have BK159 := n6_; have GW159 := n7_; have GE159 := n8_; have NB124_159 := n9_; have NB159_124 := n10_; have NB132_159 := n11_; have NB159_132 := n12_; clear n0_ n1_ n2_ n3_ n4_ n5_ n6_ n7_ n8_ n9_ n10_ n11_ n12_; clear hb hbox hg; have hnb136 := NB159_124.out; have hnc136 := NB124_159.out; have hnb137 := NB159_132.out; have hnc137 := NB132_159.out; have hcz138_0 : w135.cell? ⟨gb159, 0, none⟩ = some (.int .i64 0) := (blk_cell BK159.out 0).trans rfl; have hcz138_1 : w135.cell? ⟨gb159, 1, none⟩ = some (.int .i64 0) := (blk_cell BK159.out 1).trans rfl; have hcz138_2 : w135.cell? ⟨gb159, 2, none⟩ = some (.int .i64 0) := (blk_cell BK159.out 2).trans rfl; have hcz138_3 : w135.cell? ⟨gb159, 3, none⟩ = some (.int .i64 0) := (blk_cell BK159.out 3).trans rfl; have hcz138_4 : w135.cell? ⟨gb159, 4, none⟩ = some (.int .i64 0) := (blk_cell BK159.out 4).trans rfl; have hfz138_0 := blk_frozen BK159.out 0; have hfz138_1 := blk_frozen BK159.out 1; have hfz138_2 := blk_frozen BK159.out 2; have hfz138_3 := blk_frozen BK159.out 3; have hfz138_4 := blk_frozen BK159.out 4; have hcz139_0 : w135.cell? ⟨gb132, 0, none⟩ = some (.int .i64 ((rd_T49 t126 x11_19).f0)) := (blk_cell BK132.out 0).trans rfl; have hcz139_1 : w135.cell? ⟨gb132, 1, none⟩ = some (.int .i64 ((rd_T49 t126 x11_19).f1)) := (blk_cell BK132.out 1).trans rfl; have hcz139_2 : w135.cell? ⟨gb132, 2, none⟩ = some (.int .i64 ((rd_T49 t126 x11_19).f2)) := (blk_cell BK132.out 2).trans rfl; have hcz139_3 : w135.cell? ⟨gb132, 3, none⟩ = some (.int .i64 ((rd_T49 t126 x11_19).f3)) := (blk_cell BK132.out 3).trans rfl; have hcz139_4 : w135.cell? ⟨gb132, 4, none⟩ = some (.int .i64 ((rd_T49 t126 x11_19).f4)) := (blk_cell BK132.out 4).trans rfl; have hcz139_5 : w135.cell? ⟨gb132, 5, none⟩ = some (.int .i64 ((rd_T49 t126 x11_19).f5)) := (blk_cell BK132.out 5).trans rfl; have hcz139_6 : w135.cell? ⟨gb132, 6, none⟩ = some (.int .i64 ((rd_T49 t126 x11_19).f6)) := (blk_cell BK132.out 6).trans rfl; have hfz139_0 := blk_frozen BK132.out 0; have hfz139_1 := blk_frozen BK132.out 1; have hfz139_2 := blk_frozen BK132.out 2; have hfz139_3 := blk_frozen BK132.out 3; have hfz139_4 := blk_frozen BK132.out 4; have hfz139_5 := blk_frozen BK132.out 5; have hfz139_6 := blk_frozen BK132.out 6))
                                              go_ret
                                              exact ⟨by first | rfl | (simp [errW_none, errW_some] <;> rfl) | (simp [*, errW_none, errW_some] <;> rfl), by repeat (first | (with_reducible first | exact HB.out | apply below_alloc | apply pw_below_drewN | apply below_drew1 | refine below_set ?_ GE124.out | refine below_set ?_ GE132.out | refine below_set ?_ GE159.out) | exact HB.out)⟩
                                          · rw [if_neg c114] at H
                                            have c114b0 : (t153 == ((rd_T49 t126 x11_19).f6)) = false := beq_eq_false_iff_ne.mpr c114
                                            have c114b1 : (t153 != ((rd_T49 t126 x11_19).f6)) = true := bne_iff_ne.mpr c114
                                            obtain rfl := Option.some.inj H
                                            have hnb140 := NB124_132.out
                                            have hnc140 := NB132_124.out
                                            have hcz141_0 : wr.cell? ⟨gb124, 0, none⟩ = some (.slice (some ad133) l0_0.length c0_0) := (blk_cell BK124.out 0).trans rfl
                                            have hfz141_0 := blk_frozen BK124.out 0
                                            have hcz142_0 : wr.cell? ⟨gb132, 0, none⟩ = some (.int .i64 ((rd_T49 t126 x11_19).f0)) := (blk_cell BK132.out 0).trans rfl
                                            have hcz142_1 : wr.cell? ⟨gb132, 1, none⟩ = some (.int .i64 ((rd_T49 t126 x11_19).f1)) := (blk_cell BK132.out 1).trans rfl
                                            have hcz142_2 : wr.cell? ⟨gb132, 2, none⟩ = some (.int .i64 ((rd_T49 t126 x11_19).f2)) := (blk_cell BK132.out 2).trans rfl
                                            have hcz142_3 : wr.cell? ⟨gb132, 3, none⟩ = some (.int .i64 ((rd_T49 t126 x11_19).f3)) := (blk_cell BK132.out 3).trans rfl
                                            have hcz142_4 : wr.cell? ⟨gb132, 4, none⟩ = some (.int .i64 ((rd_T49 t126 x11_19).f4)) := (blk_cell BK132.out 4).trans rfl
                                            have hcz142_5 : wr.cell? ⟨gb132, 5, none⟩ = some (.int .i64 ((rd_T49 t126 x11_19).f5)) := (blk_cell BK132.out 5).trans rfl
                                            have hcz142_6 : wr.cell? ⟨gb132, 6, none⟩ = some (.int .i64 ((rd_T49 t126 x11_19).f6)) := (blk_cell BK132.out 6).trans rfl
                                            have hfz142_0 := blk_frozen BK132.out 0
                                            have hfz142_1 := blk_frozen BK132.out 1
                                            have hfz142_2 := blk_frozen BK132.out 2
                                            have hfz142_3 := blk_frozen BK132.out 3
                                            have hfz142_4 := blk_frozen BK132.out 4
                                            have hfz142_5 := blk_frozen BK132.out 5
                                            have hfz142_6 := blk_frozen BK132.out 6
                                            go_wp2_with (first | ((with_reducible refine gate_callee (f := 28) rfl ?_); refine goesL_ (some 116) rfl rfl Tryd.func28 (by kernel_rfl) rfl #[.agg #[.slice (some ad133) l0_0.length c0_0], .int .i64 ((rd_T49 t126 x11_19).f2)] rfl (by (try simp only [List.map_toArray, List.map_cons, List.map_nil]); first | done | rfl | (simp only [List.length_drop, List.length_take]; rfl)) ?_; (with_reducible refine (plunderlaw6_swapped.calls k5 _ _ l0_0 ((rd_T49 t126 x11_19).f2) t150 _ ?side1 ?side2 A111.out).mono ?_); (case side1 => repeat (first | exact (Kd.C_below HR0_0.out HB.out) | (with_reducible refine Kd.C_alloc ?_ _) | (with_reducible refine Kd.C_drewN ?_ _) | (with_reducible refine Kd.C_drew ?_))); (case side2 => exact HC0_0.out); rintro e w143 ⟨v151, rfl, ho0, hb⟩; refine ⟨_, rfl, ?_⟩; have n0_ := Aside0.mk (Kd.R_below (by (with_reducible repeat (first | apply Kd.R_alloc | apply Kd.R_drewN | apply Kd.R_drew)); exact HO_9.out) hb); have n1_ := Aside0.mk (Kd.R_below (by (with_reducible repeat (first | apply Kd.R_alloc | apply Kd.R_drewN | apply Kd.R_drew)); exact HO_13.out) hb); have n2_ := Aside0.mk (Kd.S_lower ho0 (below_size (by repeat (first | (with_reducible first | exact HB.out | apply below_alloc | apply pw_below_drewN | apply below_drew1 | refine below_set ?_ GE124.out | refine below_set ?_ GE132.out) | exact HB.out)))); have n3_ := Aside0.mk (blk_below (g := gb124) (o := .cells #[.slice (some ad133) l0_0.length c0_0] 24 (0, 0)) (by (with_reducible repeat (first | refine blk_drewN ?_ _ | refine blk_drew ?_ | refine blk_alloc ?_ _)); exact BK124.out) hb); have n4_ := Aside0.mk (blk_below (g := gb132) (o := .cells #[.int .i64 ((rd_T49 t126 x11_19).f0), .int .i64 ((rd_T49 t126 x11_19).f1), .int .i64 ((rd_T49 t126 x11_19).f2), .int .i64 ((rd_T49 t126 x11_19).f3), .int .i64 ((rd_T49 t126 x11_19).f4), .int .i64 ((rd_T49 t126 x11_19).f5), .int .i64 ((rd_T49 t126 x11_19).f6)] 49 (0, 0)) (by (with_reducible repeat (first | refine blk_drewN ?_ _ | refine blk_drew ?_ | refine blk_alloc ?_ _)); exact BK132.out) hb); have n5_ := Aside0.mk (below_step (by repeat (first | (with_reducible first | exact HB.out | apply below_alloc | apply pw_below_drewN | apply below_drew1 | refine below_set ?_ GE124.out | refine below_set ?_ GE132.out) | exact HB.out)) hb); clear HO_9; clear HO_13; clear BK124; clear BK132; clear HB; have HO_9 := n0_; have HO_13 := n1_; have HO152 := n2_; have BK124 := n3_; have BK132 := n4_; have HB := n5_; clear n0_ n1_ n2_ n3_ n4_ n5_; (try clear hb); (try clear hb2); (try clear hk); (try clear hi); (try clear ho0); obtain ⟨Ao144, co144, eo144⟩ := Kd.S_slice HO152.out; subst eo144; obtain ⟨Ao145, co145, eo145⟩ := Kd.R_slice HO_13.out; subst eo145) | ((with_reducible refine gate_callee (f := 14) rfl ?_); refine goesL_ (some 119) rfl rfl Tryd.func14 (by kernel_rfl) rfl #[.agg #[.slice Ao144 t150.length co144], .slice Ao145 x13_37.length co145, .int .i64 a2] rfl (by (try simp only [List.map_toArray, List.map_cons, List.map_nil]); first | done | rfl | (simp only [List.length_drop, List.length_take]; rfl)) ?_; (with_reducible refine (serial_Eval.calls k5 _ _ t150 _ _ x13_37 a2 t153 t154 t155 t156 t157 t158 _ (HTab.out.below (by repeat (first | (with_reducible first | exact HB.out | apply below_alloc | apply pw_below_drewN | apply below_drew1 | refine below_set ?_ GE124.out | refine below_set ?_ GE132.out) | exact HB.out))) ?side1 ?side2 ?side3 ?side4 A112.out).mono ?_); (case side1 => repeat (first | exact (Kd.S_reads' HO152.out).2.2 | (with_reducible refine Kd.C_alloc ?_ _) | (with_reducible refine Kd.C_drewN ?_ _) | (with_reducible refine Kd.C_drew ?_))); (case side2 => exact (Kd.S_reads' HO152.out).2.1); (case side3 => repeat (first | exact (Kd.R_reads' HO_13.out).2.2 | (with_reducible refine Kd.C_alloc ?_ _) | (with_reducible refine Kd.C_drewN ?_ _) | (with_reducible refine Kd.C_drew ?_))); (case side4 => exact (Kd.R_reads' HO_13.out).2.1); rintro e w146 ⟨rfl, hb⟩; refine ⟨_, rfl, ?_⟩; have n0_ := Aside0.mk (Kd.R_below (by (with_reducible repeat (first | apply Kd.R_alloc | apply Kd.R_drewN | apply Kd.R_drew)); exact HO_9.out) hb); have n1_ := Aside0.mk (Kd.R_below (by (with_reducible repeat (first | apply Kd.R_alloc | apply Kd.R_drewN | apply Kd.R_drew)); exact HO_13.out) hb); have n2_ := Aside0.mk (Kd.S_below (by (with_reducible repeat (first | apply Kd.S_alloc | apply Kd.S_drewN | apply Kd.S_drew)); exact HO152.out) hb); have n3_ := Aside0.mk (blk_below (g := gb124) (o := .cells #[.slice (some ad133) l0_0.length c0_0] 24 (0, 0)) (by (with_reducible repeat (first | refine blk_drewN ?_ _ | refine blk_drew ?_ | refine blk_alloc ?_ _)); exact BK124.out) hb); have n4_ := Aside0.mk (blk_below (g := gb132) (o := .cells #[.int .i64 ((rd_T49 t126 x11_19).f0), .int .i64 ((rd_T49 t126 x11_19).f1), .int .i64 ((rd_T49 t126 x11_19).f2), .int .i64 ((rd_T49 t126 x11_19).f3), .int .i64 ((rd_T49 t126 x11_19).f4), .int .i64 ((rd_T49 t126 x11_19).f5), .int .i64 ((rd_T49 t126 x11_19).f6)] 49 (0, 0)) (by (with_reducible repeat (first | refine blk_drewN ?_ _ | refine blk_drew ?_ | refine blk_alloc ?_ _)); exact BK132.out) hb); have n5_ := Aside0.mk (below_step (by repeat (first | (with_reducible first | exact HB.out | apply below_alloc | apply pw_below_drewN | apply below_drew1 | refine below_set ?_ GE124.out | refine below_set ?_ GE132.out) | exact HB.out)) hb); clear HO_9; clear HO_13; clear HO152; clear BK124; clear BK132; clear HB; have HO_9 := n0_; have HO_13 := n1_; have HO152 := n2_; have BK124 := n3_; have BK132 := n4_; have HB := n5_; clear n0_ n1_ n2_ n3_ n4_ n5_; (try clear hb); (try clear hb2); (try clear hk); (try clear hi)) | ((with_reducible refine gate_dst (N := 17) rfl ?_); (try (refine gate_guard (by rfl) ?_; dsimp only)); refine box_event ?hg (N := 17) ?hd (cs := #[.int .i64 0, .int .i64 0, .int .i64 0, .int .i64 0, .int .i64 0]) (t := 28) ?hr ?_; (case hd => rfl); (case hg => rfl); (case hr => first | (go_simp; done) | (go_simp; rfl)); intro gb159 hg w147 hbox hb; have n0_ := Aside0.mk (Kd.R_below (by (with_reducible repeat (first | apply Kd.R_alloc | apply Kd.R_drewN | apply Kd.R_drew)); exact HO_9.out) hb); have n1_ := Aside0.mk (Kd.R_below (by (with_reducible repeat (first | apply Kd.R_alloc | apply Kd.R_drewN | apply Kd.R_drew)); exact HO_13.out) hb); have n2_ := Aside0.mk (Kd.S_below (by (with_reducible repeat (first | apply Kd.S_alloc | apply Kd.S_drewN | apply Kd.S_drew)); exact HO152.out) hb); have n3_ := Aside0.mk (blk_below (g := gb124) (o := .cells #[.slice (some ad133) l0_0.length c0_0] 24 (0, 0)) (by (with_reducible repeat (first | refine blk_drewN ?_ _ | refine blk_drew ?_ | refine blk_alloc ?_ _)); exact BK124.out) hb); have n4_ := Aside0.mk (blk_below (g := gb132) (o := .cells #[.int .i64 ((rd_T49 t126 x11_19).f0), .int .i64 ((rd_T49 t126 x11_19).f1), .int .i64 ((rd_T49 t126 x11_19).f2), .int .i64 ((rd_T49 t126 x11_19).f3), .int .i64 ((rd_T49 t126 x11_19).f4), .int .i64 ((rd_T49 t126 x11_19).f5), .int .i64 ((rd_T49 t126 x11_19).f6)] 49 (0, 0)) (by (with_reducible repeat (first | refine blk_drewN ?_ _ | refine blk_drew ?_ | refine blk_alloc ?_ _)); exact BK132.out) hb); have n5_ := Aside0.mk (below_step (by repeat (first | (with_reducible first | exact HB.out | apply below_alloc | apply pw_below_drewN | apply below_drew1 | refine below_set ?_ GE124.out | refine below_set ?_ GE132.out) | exact HB.out)) hb); have n6_ := Aside0.mk (hbox); have n7_ := Aside0.mk ((by rw [hg]; exact (below_size (by repeat (first | (with_reducible first | exact HB.out | apply below_alloc | apply pw_below_drewN | apply below_drew1 | refine below_set ?_ GE124.out | refine below_set ?_ GE132.out) | exact HB.out))) : w.heap.size ≤ gb159)); have n8_ := Aside0.mk ((by rw [hg]; exact (below_size (by repeat (first | (with_reducible first | exact HB.out | apply below_alloc | apply pw_below_drewN | apply below_drew1 | refine below_set ?_ GE124.out | refine below_set ?_ GE132.out) | exact HB.out))) : w.heap.size ≤ gb159)); have n9_ := Aside0.mk ((by rw [hg]; exact Nat.ne_of_lt (blk_lt (g := gb124) (o := .cells #[.slice (some ad133) l0_0.length c0_0] 24 (0, 0)) (by (with_reducible repeat (first | refine blk_drewN ?_ _ | refine blk_drew ?_ | refine blk_alloc ?_ _)); exact BK124.out)) : gb124 ≠ gb159)); have n10_ := Aside0.mk ((by rw [hg]; exact Nat.ne_of_gt (blk_lt (g := gb124) (o := .cells #[.slice (some ad133) l0_0.length c0_0] 24 (0, 0)) (by (with_reducible repeat (first | refine blk_drewN ?_ _ | refine blk_drew ?_ | refine blk_alloc ?_ _)); exact BK124.out)) : gb159 ≠ gb124)); have n11_ := Aside0.mk ((by rw [hg]; exact Nat.ne_of_lt (blk_lt (g := gb132) (o := .cells #[.int .i64 ((rd_T49 t126 x11_19).f0), .int .i64 ((rd_T49 t126 x11_19).f1), .int .i64 ((rd_T49 t126 x11_19).f2), .int .i64 ((rd_T49 t126 x11_19).f3), .int .i64 ((rd_T49 t126 x11_19).f4), .int .i64 ((rd_T49 t126 x11_19).f5), .int .i64 ((rd_T49 t126 x11_19).f6)] 49 (0, 0)) (by (with_reducible repeat (first | refine blk_drewN ?_ _ | refine blk_drew ?_ | refine blk_alloc ?_ _)); exact BK132.out)) : gb132 ≠ gb159)); have n12_ := Aside0.mk ((by rw [hg]; exact Nat.ne_of_gt (blk_lt (g := gb132) (o := .cells #[.int .i64 ((rd_T49 t126 x11_19).f0), .int .i64 ((rd_T49 t126 x11_19).f1), .int .i64 ((rd_T49 t126 x11_19).f2), .int .i64 ((rd_T49 t126 x11_19).f3), .int .i64 ((rd_T49 t126 x11_19).f4), .int .i64 ((rd_T49 t126 x11_19).f5), .int .i64 ((rd_T49 t126 x11_19).f6)] 49 (0, 0)) (by (with_reducible repeat (first | refine blk_drewN ?_ _ | refine blk_drew ?_ | refine blk_alloc ?_ _)); exact BK132.out)) : gb159 ≠ gb132)); clear HO_9; clear HO_13; clear HO152; clear BK124; clear BK132; clear HB; have HO_9 := n0_; have HO_13 := n1_; have HO152 := n2_; have BK124 := n3_; have BK132 := n4_; have HB := n5_; have BK159 := n6_; have GW159 := n7_; have GE159 := n8_; have NB124_159 := n9_; have NB159_124 := n10_; have NB132_159 := n11_; have NB159_132 := n12_; clear n0_ n1_ n2_ n3_ n4_ n5_ n6_ n7_ n8_ n9_ n10_ n11_ n12_; clear hb hbox hg; have hnb148 := NB159_124.out; have hnc148 := NB124_159.out; have hnb149 := NB159_132.out; have hnc149 := NB132_159.out; have hcz150_0 : w147.cell? ⟨gb159, 0, none⟩ = some (.int .i64 0) := (blk_cell BK159.out 0).trans rfl; have hcz150_1 : w147.cell? ⟨gb159, 1, none⟩ = some (.int .i64 0) := (blk_cell BK159.out 1).trans rfl; have hcz150_2 : w147.cell? ⟨gb159, 2, none⟩ = some (.int .i64 0) := (blk_cell BK159.out 2).trans rfl; have hcz150_3 : w147.cell? ⟨gb159, 3, none⟩ = some (.int .i64 0) := (blk_cell BK159.out 3).trans rfl; have hcz150_4 : w147.cell? ⟨gb159, 4, none⟩ = some (.int .i64 0) := (blk_cell BK159.out 4).trans rfl; have hfz150_0 := blk_frozen BK159.out 0; have hfz150_1 := blk_frozen BK159.out 1; have hfz150_2 := blk_frozen BK159.out 2; have hfz150_3 := blk_frozen BK159.out 3; have hfz150_4 := blk_frozen BK159.out 4; have hcz151_0 : w147.cell? ⟨gb132, 0, none⟩ = some (.int .i64 ((rd_T49 t126 x11_19).f0)) := (blk_cell BK132.out 0).trans rfl; have hcz151_1 : w147.cell? ⟨gb132, 1, none⟩ = some (.int .i64 ((rd_T49 t126 x11_19).f1)) := (blk_cell BK132.out 1).trans rfl; have hcz151_2 : w147.cell? ⟨gb132, 2, none⟩ = some (.int .i64 ((rd_T49 t126 x11_19).f2)) := (blk_cell BK132.out 2).trans rfl; have hcz151_3 : w147.cell? ⟨gb132, 3, none⟩ = some (.int .i64 ((rd_T49 t126 x11_19).f3)) := (blk_cell BK132.out 3).trans rfl; have hcz151_4 : w147.cell? ⟨gb132, 4, none⟩ = some (.int .i64 ((rd_T49 t126 x11_19).f4)) := (blk_cell BK132.out 4).trans rfl; have hcz151_5 : w147.cell? ⟨gb132, 5, none⟩ = some (.int .i64 ((rd_T49 t126 x11_19).f5)) := (blk_cell BK132.out 5).trans rfl; have hcz151_6 : w147.cell? ⟨gb132, 6, none⟩ = some (.int .i64 ((rd_T49 t126 x11_19).f6)) := (blk_cell BK132.out 6).trans rfl; have hfz151_0 := blk_frozen BK132.out 0; have hfz151_1 := blk_frozen BK132.out 1; have hfz151_2 := blk_frozen BK132.out 2; have hfz151_3 := blk_frozen BK132.out 3; have hfz151_4 := blk_frozen BK132.out 4; have hfz151_5 := blk_frozen BK132.out 5; have hfz151_6 := blk_frozen BK132.out 6))
                                            go_ret
                                            exact ⟨by first | rfl | (simp [errW_none, errW_some] <;> rfl) | (simp [*, errW_none, errW_some] <;> rfl), by repeat (first | (with_reducible first | exact HB.out | apply below_alloc | apply pw_below_drewN | apply below_drew1 | refine below_set ?_ GE124.out | refine below_set ?_ GE132.out | refine below_set ?_ GE159.out) | exact HB.out)⟩
                                        · rw [if_neg c113] at H
                                          have c113b0 : (t158 == 0) = false := beq_eq_false_iff_ne.mpr c113
                                          have c113b1 : (t158 != 0) = true := bne_iff_ne.mpr c113
                                          obtain rfl := Option.some.inj H
                                          have hnb152 := NB124_132.out
                                          have hnc152 := NB132_124.out
                                          have hcz153_0 : wr.cell? ⟨gb124, 0, none⟩ = some (.slice (some ad133) l0_0.length c0_0) := (blk_cell BK124.out 0).trans rfl
                                          have hfz153_0 := blk_frozen BK124.out 0
                                          have hcz154_0 : wr.cell? ⟨gb132, 0, none⟩ = some (.int .i64 ((rd_T49 t126 x11_19).f0)) := (blk_cell BK132.out 0).trans rfl
                                          have hcz154_1 : wr.cell? ⟨gb132, 1, none⟩ = some (.int .i64 ((rd_T49 t126 x11_19).f1)) := (blk_cell BK132.out 1).trans rfl
                                          have hcz154_2 : wr.cell? ⟨gb132, 2, none⟩ = some (.int .i64 ((rd_T49 t126 x11_19).f2)) := (blk_cell BK132.out 2).trans rfl
                                          have hcz154_3 : wr.cell? ⟨gb132, 3, none⟩ = some (.int .i64 ((rd_T49 t126 x11_19).f3)) := (blk_cell BK132.out 3).trans rfl
                                          have hcz154_4 : wr.cell? ⟨gb132, 4, none⟩ = some (.int .i64 ((rd_T49 t126 x11_19).f4)) := (blk_cell BK132.out 4).trans rfl
                                          have hcz154_5 : wr.cell? ⟨gb132, 5, none⟩ = some (.int .i64 ((rd_T49 t126 x11_19).f5)) := (blk_cell BK132.out 5).trans rfl
                                          have hcz154_6 : wr.cell? ⟨gb132, 6, none⟩ = some (.int .i64 ((rd_T49 t126 x11_19).f6)) := (blk_cell BK132.out 6).trans rfl
                                          have hfz154_0 := blk_frozen BK132.out 0
                                          have hfz154_1 := blk_frozen BK132.out 1
                                          have hfz154_2 := blk_frozen BK132.out 2
                                          have hfz154_3 := blk_frozen BK132.out 3
                                          have hfz154_4 := blk_frozen BK132.out 4
                                          have hfz154_5 := blk_frozen BK132.out 5
                                          have hfz154_6 := blk_frozen BK132.out 6
                                          go_wp2_with (first | ((with_reducible refine gate_callee (f := 28) rfl ?_); refine goesL_ (some 116) rfl rfl Tryd.func28 (by kernel_rfl) rfl #[.agg #[.slice (some ad133) l0_0.length c0_0], .int .i64 ((rd_T49 t126 x11_19).f2)] rfl (by (try simp only [List.map_toArray, List.map_cons, List.map_nil]); first | done | rfl | (simp only [List.length_drop, List.length_take]; rfl)) ?_; (with_reducible refine (plunderlaw6_swapped.calls k5 _ _ l0_0 ((rd_T49 t126 x11_19).f2) t150 _ ?side1 ?side2 A111.out).mono ?_); (case side1 => repeat (first | exact (Kd.C_below HR0_0.out HB.out) | (with_reducible refine Kd.C_alloc ?_ _) | (with_reducible refine Kd.C_drewN ?_ _) | (with_reducible refine Kd.C_drew ?_))); (case side2 => exact HC0_0.out); rintro e w155 ⟨v151, rfl, ho0, hb⟩; refine ⟨_, rfl, ?_⟩; have n0_ := Aside0.mk (Kd.R_below (by (with_reducible repeat (first | apply Kd.R_alloc | apply Kd.R_drewN | apply Kd.R_drew)); exact HO_9.out) hb); have n1_ := Aside0.mk (Kd.R_below (by (with_reducible repeat (first | apply Kd.R_alloc | apply Kd.R_drewN | apply Kd.R_drew)); exact HO_13.out) hb); have n2_ := Aside0.mk (Kd.S_lower ho0 (below_size (by repeat (first | (with_reducible first | exact HB.out | apply below_alloc | apply pw_below_drewN | apply below_drew1 | refine below_set ?_ GE124.out | refine below_set ?_ GE132.out) | exact HB.out)))); have n3_ := Aside0.mk (blk_below (g := gb124) (o := .cells #[.slice (some ad133) l0_0.length c0_0] 24 (0, 0)) (by (with_reducible repeat (first | refine blk_drewN ?_ _ | refine blk_drew ?_ | refine blk_alloc ?_ _)); exact BK124.out) hb); have n4_ := Aside0.mk (blk_below (g := gb132) (o := .cells #[.int .i64 ((rd_T49 t126 x11_19).f0), .int .i64 ((rd_T49 t126 x11_19).f1), .int .i64 ((rd_T49 t126 x11_19).f2), .int .i64 ((rd_T49 t126 x11_19).f3), .int .i64 ((rd_T49 t126 x11_19).f4), .int .i64 ((rd_T49 t126 x11_19).f5), .int .i64 ((rd_T49 t126 x11_19).f6)] 49 (0, 0)) (by (with_reducible repeat (first | refine blk_drewN ?_ _ | refine blk_drew ?_ | refine blk_alloc ?_ _)); exact BK132.out) hb); have n5_ := Aside0.mk (below_step (by repeat (first | (with_reducible first | exact HB.out | apply below_alloc | apply pw_below_drewN | apply below_drew1 | refine below_set ?_ GE124.out | refine below_set ?_ GE132.out) | exact HB.out)) hb); clear HO_9; clear HO_13; clear BK124; clear BK132; clear HB; have HO_9 := n0_; have HO_13 := n1_; have HO152 := n2_; have BK124 := n3_; have BK132 := n4_; have HB := n5_; clear n0_ n1_ n2_ n3_ n4_ n5_; (try clear hb); (try clear hb2); (try clear hk); (try clear hi); (try clear ho0); obtain ⟨Ao156, co156, eo156⟩ := Kd.S_slice HO152.out; subst eo156; obtain ⟨Ao157, co157, eo157⟩ := Kd.R_slice HO_13.out; subst eo157) | ((with_reducible refine gate_callee (f := 14) rfl ?_); refine goesL_ (some 119) rfl rfl Tryd.func14 (by kernel_rfl) rfl #[.agg #[.slice Ao156 t150.length co156], .slice Ao157 x13_37.length co157, .int .i64 a2] rfl (by (try simp only [List.map_toArray, List.map_cons, List.map_nil]); first | done | rfl | (simp only [List.length_drop, List.length_take]; rfl)) ?_; (with_reducible refine (serial_Eval.calls k5 _ _ t150 _ _ x13_37 a2 t153 t154 t155 t156 t157 t158 _ (HTab.out.below (by repeat (first | (with_reducible first | exact HB.out | apply below_alloc | apply pw_below_drewN | apply below_drew1 | refine below_set ?_ GE124.out | refine below_set ?_ GE132.out) | exact HB.out))) ?side1 ?side2 ?side3 ?side4 A112.out).mono ?_); (case side1 => repeat (first | exact (Kd.S_reads' HO152.out).2.2 | (with_reducible refine Kd.C_alloc ?_ _) | (with_reducible refine Kd.C_drewN ?_ _) | (with_reducible refine Kd.C_drew ?_))); (case side2 => exact (Kd.S_reads' HO152.out).2.1); (case side3 => repeat (first | exact (Kd.R_reads' HO_13.out).2.2 | (with_reducible refine Kd.C_alloc ?_ _) | (with_reducible refine Kd.C_drewN ?_ _) | (with_reducible refine Kd.C_drew ?_))); (case side4 => exact (Kd.R_reads' HO_13.out).2.1); rintro e w158 ⟨rfl, hb⟩; refine ⟨_, rfl, ?_⟩; have n0_ := Aside0.mk (Kd.R_below (by (with_reducible repeat (first | apply Kd.R_alloc | apply Kd.R_drewN | apply Kd.R_drew)); exact HO_9.out) hb); have n1_ := Aside0.mk (Kd.R_below (by (with_reducible repeat (first | apply Kd.R_alloc | apply Kd.R_drewN | apply Kd.R_drew)); exact HO_13.out) hb); have n2_ := Aside0.mk (Kd.S_below (by (with_reducible repeat (first | apply Kd.S_alloc | apply Kd.S_drewN | apply Kd.S_drew)); exact HO152.out) hb); have n3_ := Aside0.mk (blk_below (g := gb124) (o := .cells #[.slice (some ad133) l0_0.length c0_0] 24 (0, 0)) (by (with_reducible repeat (first | refine blk_drewN ?_ _ | refine blk_drew ?_ | refine blk_alloc ?_ _)); exact BK124.out) hb); have n4_ := Aside0.mk (blk_below (g := gb132) (o := .cells #[.int .i64 ((rd_T49 t126 x11_19).f0), .int .i64 ((rd_T49 t126 x11_19).f1), .int .i64 ((rd_T49 t126 x11_19).f2), .int .i64 ((rd_T49 t126 x11_19).f3), .int .i64 ((rd_T49 t126 x11_19).f4), .int .i64 ((rd_T49 t126 x11_19).f5), .int .i64 ((rd_T49 t126 x11_19).f6)] 49 (0, 0)) (by (with_reducible repeat (first | refine blk_drewN ?_ _ | refine blk_drew ?_ | refine blk_alloc ?_ _)); exact BK132.out) hb); have n5_ := Aside0.mk (below_step (by repeat (first | (with_reducible first | exact HB.out | apply below_alloc | apply pw_below_drewN | apply below_drew1 | refine below_set ?_ GE124.out | refine below_set ?_ GE132.out) | exact HB.out)) hb); clear HO_9; clear HO_13; clear HO152; clear BK124; clear BK132; clear HB; have HO_9 := n0_; have HO_13 := n1_; have HO152 := n2_; have BK124 := n3_; have BK132 := n4_; have HB := n5_; clear n0_ n1_ n2_ n3_ n4_ n5_; (try clear hb); (try clear hb2); (try clear hk); (try clear hi)) | ((with_reducible refine gate_dst (N := 17) rfl ?_); (try (refine gate_guard (by rfl) ?_; dsimp only)); refine box_event ?hg (N := 17) ?hd (cs := #[.int .i64 0, .int .i64 0, .int .i64 0, .int .i64 0, .int .i64 0]) (t := 28) ?hr ?_; (case hd => rfl); (case hg => rfl); (case hr => first | (go_simp; done) | (go_simp; rfl)); intro gb159 hg w159 hbox hb; have n0_ := Aside0.mk (Kd.R_below (by (with_reducible repeat (first | apply Kd.R_alloc | apply Kd.R_drewN | apply Kd.R_drew)); exact HO_9.out) hb); have n1_ := Aside0.mk (Kd.R_below (by (with_reducible repeat (first | apply Kd.R_alloc | apply Kd.R_drewN | apply Kd.R_drew)); exact HO_13.out) hb); have n2_ := Aside0.mk (Kd.S_below (by (with_reducible repeat (first | apply Kd.S_alloc | apply Kd.S_drewN | apply Kd.S_drew)); exact HO152.out) hb); have n3_ := Aside0.mk (blk_below (g := gb124) (o := .cells #[.slice (some ad133) l0_0.length c0_0] 24 (0, 0)) (by (with_reducible repeat (first | refine blk_drewN ?_ _ | refine blk_drew ?_ | refine blk_alloc ?_ _)); exact BK124.out) hb); have n4_ := Aside0.mk (blk_below (g := gb132) (o := .cells #[.int .i64 ((rd_T49 t126 x11_19).f0), .int .i64 ((rd_T49 t126 x11_19).f1), .int .i64 ((rd_T49 t126 x11_19).f2), .int .i64 ((rd_T49 t126 x11_19).f3), .int .i64 ((rd_T49 t126 x11_19).f4), .int .i64 ((rd_T49 t126 x11_19).f5), .int .i64 ((rd_T49 t126 x11_19).f6)] 49 (0, 0)) (by (with_reducible repeat (first | refine blk_drewN ?_ _ | refine blk_drew ?_ | refine blk_alloc ?_ _)); exact BK132.out) hb); have n5_ := Aside0.mk (below_step (by repeat (first | (with_reducible first | exact HB.out | apply below_alloc | apply pw_below_drewN | apply below_drew1 | refine below_set ?_ GE124.out | refine below_set ?_ GE132.out) | exact HB.out)) hb); have n6_ := Aside0.mk (hbox); have n7_ := Aside0.mk ((by rw [hg]; exact (below_size (by repeat (first | (with_reducible first | exact HB.out | apply below_alloc | apply pw_below_drewN | apply below_drew1 | refine below_set ?_ GE124.out | refine below_set ?_ GE132.out) | exact HB.out))) : w.heap.size ≤ gb159)); have n8_ := Aside0.mk ((by rw [hg]; exact (below_size (by repeat (first | (with_reducible first | exact HB.out | apply below_alloc | apply pw_below_drewN | apply below_drew1 | refine below_set ?_ GE124.out | refine below_set ?_ GE132.out) | exact HB.out))) : w.heap.size ≤ gb159)); have n9_ := Aside0.mk ((by rw [hg]; exact Nat.ne_of_lt (blk_lt (g := gb124) (o := .cells #[.slice (some ad133) l0_0.length c0_0] 24 (0, 0)) (by (with_reducible repeat (first | refine blk_drewN ?_ _ | refine blk_drew ?_ | refine blk_alloc ?_ _)); exact BK124.out)) : gb124 ≠ gb159)); have n10_ := Aside0.mk ((by rw [hg]; exact Nat.ne_of_gt (blk_lt (g := gb124) (o := .cells #[.slice (some ad133) l0_0.length c0_0] 24 (0, 0)) (by (with_reducible repeat (first | refine blk_drewN ?_ _ | refine blk_drew ?_ | refine blk_alloc ?_ _)); exact BK124.out)) : gb159 ≠ gb124)); have n11_ := Aside0.mk ((by rw [hg]; exact Nat.ne_of_lt (blk_lt (g := gb132) (o := .cells #[.int .i64 ((rd_T49 t126 x11_19).f0), .int .i64 ((rd_T49 t126 x11_19).f1), .int .i64 ((rd_T49 t126 x11_19).f2), .int .i64 ((rd_T49 t126 x11_19).f3), .int .i64 ((rd_T49 t126 x11_19).f4), .int .i64 ((rd_T49 t126 x11_19).f5), .int .i64 ((rd_T49 t126 x11_19).f6)] 49 (0, 0)) (by (with_reducible repeat (first | refine blk_drewN ?_ _ | refine blk_drew ?_ | refine blk_alloc ?_ _)); exact BK132.out)) : gb132 ≠ gb159)); have n12_ := Aside0.mk ((by rw [hg]; exact Nat.ne_of_gt (blk_lt (g := gb132) (o := .cells #[.int .i64 ((rd_T49 t126 x11_19).f0), .int .i64 ((rd_T49 t126 x11_19).f1), .int .i64 ((rd_T49 t126 x11_19).f2), .int .i64 ((rd_T49 t126 x11_19).f3), .int .i64 ((rd_T49 t126 x11_19).f4), .int .i64 ((rd_T49 t126 x11_19).f5), .int .i64 ((rd_T49 t126 x11_19).f6)] 49 (0, 0)) (by (with_reducible repeat (first | refine blk_drewN ?_ _ | refine blk_drew ?_ | refine blk_alloc ?_ _)); exact BK132.out)) : gb159 ≠ gb132)); clear HO_9; clear HO_13; clear HO152; clear BK124; clear BK132; clear HB; have HO_9 := n0_; have HO_13 := n1_; have HO152 := n2_; have BK124 := n3_; have BK132 := n4_; have HB := n5_; have BK159 := n6_; have GW159 := n7_; have GE159 := n8_; have NB124_159 := n9_; have NB159_124 := n10_; have NB132_159 := n11_; have NB159_132 := n12_; clear n0_ n1_ n2_ n3_ n4_ n5_ n6_ n7_ n8_ n9_ n10_ n11_ n12_; clear hb hbox hg; have hnb160 := NB159_124.out; have hnc160 := NB124_159.out; have hnb161 := NB159_132.out; have hnc161 := NB132_159.out; have hcz162_0 : w159.cell? ⟨gb159, 0, none⟩ = some (.int .i64 0) := (blk_cell BK159.out 0).trans rfl; have hcz162_1 : w159.cell? ⟨gb159, 1, none⟩ = some (.int .i64 0) := (blk_cell BK159.out 1).trans rfl; have hcz162_2 : w159.cell? ⟨gb159, 2, none⟩ = some (.int .i64 0) := (blk_cell BK159.out 2).trans rfl; have hcz162_3 : w159.cell? ⟨gb159, 3, none⟩ = some (.int .i64 0) := (blk_cell BK159.out 3).trans rfl; have hcz162_4 : w159.cell? ⟨gb159, 4, none⟩ = some (.int .i64 0) := (blk_cell BK159.out 4).trans rfl; have hfz162_0 := blk_frozen BK159.out 0; have hfz162_1 := blk_frozen BK159.out 1; have hfz162_2 := blk_frozen BK159.out 2; have hfz162_3 := blk_frozen BK159.out 3; have hfz162_4 := blk_frozen BK159.out 4))
                                          go_ret
                                          exact ⟨by first | rfl | (simp [errW_none, errW_some] <;> rfl) | (simp [*, errW_none, errW_some] <;> rfl), by repeat (first | (with_reducible first | exact HB.out | apply below_alloc | apply pw_below_drewN | apply below_drew1 | refine below_set ?_ GE124.out | refine below_set ?_ GE132.out | refine below_set ?_ GE159.out) | exact HB.out)⟩
                            · rw [if_neg c37] at H
                              exact absurd H (by simp)
                          · rw [if_neg c36] at H
                            exact absurd H (by simp)
                  · rw [if_neg c24] at H
                    exact absurd H (by simp)
                · rw [if_neg c23] at H
                  exact absurd H (by simp)
  · replace c6 := Bool.eq_false_iff.mpr c6
    subst c6
    have H1 : (some false) = some r := by rw [if_neg (show ¬ (false = true) by decide)] at H; exact H
    clear H
    have H := H1
    clear H1
    obtain rfl := Option.some.inj H
    go_enter Tryd.func9, Tryd.ntmps9
    go_wp2_with (first | ((with_reducible refine gate_dst (N := 4) rfl ?_); (try (refine gate_guard (by rfl) ?_; dsimp only)); refine box_event ?hg (N := 4) ?hd (cs := #[.slice A0_0 l0_0.length c0_0]) (t := 24) ?hr ?_; (case hd => rfl); (case hg => rfl); (case hr => first | (go_simp; done) | (go_simp; rfl)); intro gb124 hg w163 hbox hb; have n0_ := Aside0.mk (below_step (by repeat (first | (with_reducible first | exact HB.out | apply below_alloc | apply pw_below_drewN | apply below_drew1) | exact HB.out)) hb); have n1_ := Aside0.mk (hbox); have n2_ := Aside0.mk ((by rw [hg]; exact (below_size (by repeat (first | (with_reducible first | exact HB.out | apply below_alloc | apply pw_below_drewN | apply below_drew1) | exact HB.out))) : w.heap.size ≤ gb124)); have n3_ := Aside0.mk ((by rw [hg]; exact (below_size (by repeat (first | (with_reducible first | exact HB.out | apply below_alloc | apply pw_below_drewN | apply below_drew1) | exact HB.out))) : w.heap.size ≤ gb124)); clear HB; have HB := n0_; have BK124 := n1_; have GW124 := n2_; have GE124 := n3_; clear n0_ n1_ n2_ n3_; clear hb hbox hg) | ((with_reducible refine gate_callee (f := 24) rfl ?_); refine goesL_ (some 20) rfl rfl Tryd.func24 (by kernel_rfl) rfl #[.int .i64 a3] rfl (by (try simp only [List.map_toArray, List.map_cons, List.map_nil]); first | done | rfl | (simp only [List.length_drop, List.length_take]; rfl)) ?_; (with_reducible refine (plunderlaw6_lives.calls k a3 false _ (HTab.out.below (by repeat (first | (with_reducible first | exact HB.out | apply below_alloc | apply pw_below_drewN | apply below_drew1 | refine below_set ?_ GE124.out) | exact HB.out))) A5.out).mono ?_); rintro e w164 ⟨rfl, hb⟩; refine ⟨_, rfl, ?_⟩; have n0_ := Aside0.mk (blk_below (g := gb124) (o := .cells #[.slice A0_0 l0_0.length c0_0] 24 (0, 0)) (by (with_reducible repeat (first | refine blk_drewN ?_ _ | refine blk_drew ?_ | refine blk_alloc ?_ _)); exact BK124.out) hb); have n1_ := Aside0.mk (below_step (by repeat (first | (with_reducible first | exact HB.out | apply below_alloc | apply pw_below_drewN | apply below_drew1 | refine below_set ?_ GE124.out) | exact HB.out)) hb); clear BK124; clear HB; have BK124 := n0_; have HB := n1_; clear n0_ n1_; (try clear hb); (try clear hb2); (try clear hk); (try clear hi)))
    go_ret
    exact ⟨by first | rfl | (simp [errW_none, errW_some] <;> rfl) | (simp [*, errW_none, errW_some] <;> rfl), by repeat (first | (with_reducible first | exact HB.out | apply below_alloc | apply pw_below_drewN | apply below_drew1 | refine below_set ?_ GE124.out) | exact HB.out)⟩

end Go.Proofs.YtcioegimmjppcaaDoor.P
