/- Plain law: what prog.Check looks at is what a program that may be is. -/
import Derived.ArgAppend
import Derived.BigQuiet
import Derived.BigRegion
import Derived.Deep.LoopGhost
import Derived.Deep.QuietTactic
import Derived.Deep.RegionHeld3
import Derived.DeepKeys4
import Derived.Laws.Pointers
import Derived.Lib.Hide
import Derived.Maps.OwnSet
import Derived.Maps.RangeWalk
import Derived.Outline
import Derived.Recover
import Derived.Scope
import Derived.Test.YtcioegimmjppcaaDoorZJA
import Derived.Test.YtcioegimmjppcaaDoorZJP
import Derived.WalkLawsBesides
import Derived.WalkSpells
set_option linter.unusedVariables false
set_option linter.unusedSimpArgs false
/-! Written by a program: plain Lean functions that answer as Go functions of this seat do, and the proofs that the calls come to these answers. -/
namespace Go.Proofs.YtcioegimmjppcaaDoor.P
open Go.RowKit Go.Proofs.YtcioegimmjppcaaDoorW.PrintWords Go.Proofs.YtcioegimmjppcaaDoorW.PrintLast Go.Proofs.YtcioegimmjppcaaDoorW.PrintMore
attribute [local go_sem] max2_int min2_int max_two min_two max_three min_three max_four min_four   -- for this text's walks alone
set_option linter.unusedVariables false
set_option linter.unusedSimpArgs false

/-! ### prog_shapeOK: function 49 -/
def prog_shapeOK.f (a0_0 : Int) (a0_1 : Int) (a0_2 : Int) (l0_3 : List (S36)) : Option (Bool) := if a0_0 < 0 then (some false) else (if a0_0 > 8 then (some false) else (if a0_1 < 1 then (some false) else (if a0_1 < a0_0 then (some false) else (if a0_1 > 16 then (some false) else (if a0_2 ≥ 0 then (if a0_2 ≤ 8 then (if (l0_3.length : Int) ≥ 1 then (some (decide ((l0_3.length : Int) ≤ 512))) else (some false)) else (some false)) else (some false))))))
set_option maxHeartbeats 8000000 in
set_option maxRecDepth 100000 in
theorem prog_shapeOK.calls (a0_0 : Int) (a0_1 : Int) (a0_2 : Int) (A0_3 : Option Addr) (c0_3 : Nat) (l0_3 : List (S36)) (r : Bool) (w : World) (hr0_3 : Kd.C k36 w A0_3 l0_3.length l0_3) (hc0_3 : l0_3.length ≤ c0_3) (h : prog_shapeOK.f a0_0 a0_1 a0_2 l0_3 = some r) :
    Calls Tryd.prog 49 #[.agg #[.int .i64 a0_0, .int .i64 a0_1, .int .i64 a0_2, .slice A0_3 l0_3.length c0_3]] w fun e w' => e = .returned (.bool r) ∧ Below w.heap.size w w' := by
  have hu39 := Tryd.underlying39
  have HR0_3 := Aside0.mk hr0_3
  have HC0_3 := Aside0.mk hc0_3
  clear hr0_3 hc0_3
  have HB := Aside0.mk (Below.refl w.heap.size w)
  have H : (if a0_0 < 0 then (some false) else (if a0_0 > 8 then (some false) else (if a0_1 < 1 then (some false) else (if a0_1 < a0_0 then (some false) else (if a0_1 > 16 then (some false) else (if a0_2 ≥ 0 then (if a0_2 ≤ 8 then (if (l0_3.length : Int) ≥ 1 then (some (decide ((l0_3.length : Int) ≤ 512))) else (some false)) else (some false)) else (some false))))))) = some r := h
  clear h
  by_cases c2 : a0_0 < 0
  · rw [if_pos c2] at H
    have c2b0 : decide (a0_0 < 0) = true := decide_eq_true c2
    clear c2
    obtain rfl := Option.some.inj H
    go_enter Tryd.func49, Tryd.ntmps49
    go_wp2_with (first | ((with_reducible refine gate_dst (N := 1) rfl ?_); (try (refine gate_guard (by rfl) ?_; dsimp only)); refine box_event ?hg (N := 1) ?hd (cs := #[.int .i64 a0_0, .int .i64 a0_1, .int .i64 a0_2, .slice A0_3 l0_3.length c0_3]) (t := 39) ?hr ?_; (case hd => rfl); (case hg => rfl); (case hr => first | (go_simp; done) | (go_simp; rfl)); intro gb101 hg w3 hbox hb; have n0_ := Aside0.mk (below_step (by repeat (first | (with_reducible first | exact HB.out | apply below_alloc | apply pw_below_drewN | apply below_drew1) | exact HB.out)) hb); have n1_ := Aside0.mk (hbox); have n2_ := Aside0.mk ((by rw [hg]; exact (below_size (by repeat (first | (with_reducible first | exact HB.out | apply below_alloc | apply pw_below_drewN | apply below_drew1) | exact HB.out))) : w.heap.size ≤ gb101)); have n3_ := Aside0.mk ((by rw [hg]; exact (below_size (by repeat (first | (with_reducible first | exact HB.out | apply below_alloc | apply pw_below_drewN | apply below_drew1) | exact HB.out))) : w.heap.size ≤ gb101)); clear HB; have HB := n0_; have BK101 := n1_; have GW101 := n2_; have GE101 := n3_; clear n0_ n1_ n2_ n3_; clear hb hbox hg; have hcz4_0 : w3.cell? ⟨gb101, 0, none⟩ = some (.int .i64 a0_0) := (blk_cell BK101.out 0).trans rfl; have hcz4_1 : w3.cell? ⟨gb101, 1, none⟩ = some (.int .i64 a0_1) := (blk_cell BK101.out 1).trans rfl; have hcz4_2 : w3.cell? ⟨gb101, 2, none⟩ = some (.int .i64 a0_2) := (blk_cell BK101.out 2).trans rfl; have hcz4_3 : w3.cell? ⟨gb101, 3, none⟩ = some (.slice A0_3 l0_3.length c0_3) := (blk_cell BK101.out 3).trans rfl; have hfz4_0 := blk_frozen BK101.out 0; have hfz4_1 := blk_frozen BK101.out 1; have hfz4_2 := blk_frozen BK101.out 2; have hfz4_3 := blk_frozen BK101.out 3))
    go_ret
    exact ⟨by first | rfl | (simp [errW_none, errW_some] <;> rfl) | (simp [*, errW_none, errW_some] <;> rfl), by repeat (first | (with_reducible first | exact HB.out | apply below_alloc | apply pw_below_drewN | apply below_drew1 | refine below_set ?_ GE101.out) | exact HB.out)⟩
  · rw [if_neg c2] at H
    have c2b0 : decide (a0_0 < 0) = false := decide_eq_false c2
    clear c2
    by_cases c5 : a0_0 > 8
    · rw [if_pos c5] at H
      have c5b0 : decide (8 < a0_0) = true := decide_eq_true c5
      clear c5
      obtain rfl := Option.some.inj H
      go_enter Tryd.func49, Tryd.ntmps49
      go_wp2_with (first | ((with_reducible refine gate_dst (N := 1) rfl ?_); (try (refine gate_guard (by rfl) ?_; dsimp only)); refine box_event ?hg (N := 1) ?hd (cs := #[.int .i64 a0_0, .int .i64 a0_1, .int .i64 a0_2, .slice A0_3 l0_3.length c0_3]) (t := 39) ?hr ?_; (case hd => rfl); (case hg => rfl); (case hr => first | (go_simp; done) | (go_simp; rfl)); intro gb101 hg w6 hbox hb; have n0_ := Aside0.mk (below_step (by repeat (first | (with_reducible first | exact HB.out | apply below_alloc | apply pw_below_drewN | apply below_drew1) | exact HB.out)) hb); have n1_ := Aside0.mk (hbox); have n2_ := Aside0.mk ((by rw [hg]; exact (below_size (by repeat (first | (with_reducible first | exact HB.out | apply below_alloc | apply pw_below_drewN | apply below_drew1) | exact HB.out))) : w.heap.size ≤ gb101)); have n3_ := Aside0.mk ((by rw [hg]; exact (below_size (by repeat (first | (with_reducible first | exact HB.out | apply below_alloc | apply pw_below_drewN | apply below_drew1) | exact HB.out))) : w.heap.size ≤ gb101)); clear HB; have HB := n0_; have BK101 := n1_; have GW101 := n2_; have GE101 := n3_; clear n0_ n1_ n2_ n3_; clear hb hbox hg; have hcz7_0 : w6.cell? ⟨gb101, 0, none⟩ = some (.int .i64 a0_0) := (blk_cell BK101.out 0).trans rfl; have hcz7_1 : w6.cell? ⟨gb101, 1, none⟩ = some (.int .i64 a0_1) := (blk_cell BK101.out 1).trans rfl; have hcz7_2 : w6.cell? ⟨gb101, 2, none⟩ = some (.int .i64 a0_2) := (blk_cell BK101.out 2).trans rfl; have hcz7_3 : w6.cell? ⟨gb101, 3, none⟩ = some (.slice A0_3 l0_3.length c0_3) := (blk_cell BK101.out 3).trans rfl; have hfz7_0 := blk_frozen BK101.out 0; have hfz7_1 := blk_frozen BK101.out 1; have hfz7_2 := blk_frozen BK101.out 2; have hfz7_3 := blk_frozen BK101.out 3))
      go_ret
      exact ⟨by first | rfl | (simp [errW_none, errW_some] <;> rfl) | (simp [*, errW_none, errW_some] <;> rfl), by repeat (first | (with_reducible first | exact HB.out | apply below_alloc | apply pw_below_drewN | apply below_drew1 | refine below_set ?_ GE101.out) | exact HB.out)⟩
    · rw [if_neg c5] at H
      have c5b0 : decide (8 < a0_0) = false := decide_eq_false c5
      clear c5
      by_cases c8 : a0_1 < 1
      · rw [if_pos c8] at H
        have c8b0 : decide (a0_1 < 1) = true := decide_eq_true c8
        clear c8
        obtain rfl := Option.some.inj H
        go_enter Tryd.func49, Tryd.ntmps49
        go_wp2_with (first | ((with_reducible refine gate_dst (N := 1) rfl ?_); (try (refine gate_guard (by rfl) ?_; dsimp only)); refine box_event ?hg (N := 1) ?hd (cs := #[.int .i64 a0_0, .int .i64 a0_1, .int .i64 a0_2, .slice A0_3 l0_3.length c0_3]) (t := 39) ?hr ?_; (case hd => rfl); (case hg => rfl); (case hr => first | (go_simp; done) | (go_simp; rfl)); intro gb101 hg w9 hbox hb; have n0_ := Aside0.mk (below_step (by repeat (first | (with_reducible first | exact HB.out | apply below_alloc | apply pw_below_drewN | apply below_drew1) | exact HB.out)) hb); have n1_ := Aside0.mk (hbox); have n2_ := Aside0.mk ((by rw [hg]; exact (below_size (by repeat (first | (with_reducible first | exact HB.out | apply below_alloc | apply pw_below_drewN | apply below_drew1) | exact HB.out))) : w.heap.size ≤ gb101)); have n3_ := Aside0.mk ((by rw [hg]; exact (below_size (by repeat (first | (with_reducible first | exact HB.out | apply below_alloc | apply pw_below_drewN | apply below_drew1) | exact HB.out))) : w.heap.size ≤ gb101)); clear HB; have HB := n0_; have BK101 := n1_; have GW101 := n2_; have GE101 := n3_; clear n0_ n1_ n2_ n3_; clear hb hbox hg; have hcz10_0 : w9.cell? ⟨gb101, 0, none⟩ = some (.int .i64 a0_0) := (blk_cell BK101.out 0).trans rfl; have hcz10_1 : w9.cell? ⟨gb101, 1, none⟩ = some (.int .i64 a0_1) := (blk_cell BK101.out 1).trans rfl; have hcz10_2 : w9.cell? ⟨gb101, 2, none⟩ = some (.int .i64 a0_2) := (blk_cell BK101.out 2).trans rfl; have hcz10_3 : w9.cell? ⟨gb101, 3, none⟩ = some (.slice A0_3 l0_3.length c0_3) := (blk_cell BK101.out 3).trans rfl; have hfz10_0 := blk_frozen BK101.out 0; have hfz10_1 := blk_frozen BK101.out 1; have hfz10_2 := blk_frozen BK101.out 2; have hfz10_3 := blk_frozen BK101.out 3))
        go_ret
        exact ⟨by first | rfl | (simp [errW_none, errW_some] <;> rfl) | (simp [*, errW_none, errW_some] <;> rfl), by repeat (first | (with_reducible first | exact HB.out | apply below_alloc | apply pw_below_drewN | apply below_drew1 | refine below_set ?_ GE101.out) | exact HB.out)⟩
      · rw [if_neg c8] at H
        have c8b0 : decide (a0_1 < 1) = false := decide_eq_false c8
        clear c8
        by_cases c11 : a0_1 < a0_0
        · rw [if_pos c11] at H
          have c11b0 : decide (a0_1 < a0_0) = true := decide_eq_true c11
          clear c11
          obtain rfl := Option.some.inj H
          go_enter Tryd.func49, Tryd.ntmps49
          go_wp2_with (first | ((with_reducible refine gate_dst (N := 1) rfl ?_); (try (refine gate_guard (by rfl) ?_; dsimp only)); refine box_event ?hg (N := 1) ?hd (cs := #[.int .i64 a0_0, .int .i64 a0_1, .int .i64 a0_2, .slice A0_3 l0_3.length c0_3]) (t := 39) ?hr ?_; (case hd => rfl); (case hg => rfl); (case hr => first | (go_simp; done) | (go_simp; rfl)); intro gb101 hg w12 hbox hb; have n0_ := Aside0.mk (below_step (by repeat (first | (with_reducible first | exact HB.out | apply below_alloc | apply pw_below_drewN | apply below_drew1) | exact HB.out)) hb); have n1_ := Aside0.mk (hbox); have n2_ := Aside0.mk ((by rw [hg]; exact (below_size (by repeat (first | (with_reducible first | exact HB.out | apply below_alloc | apply pw_below_drewN | apply below_drew1) | exact HB.out))) : w.heap.size ≤ gb101)); have n3_ := Aside0.mk ((by rw [hg]; exact (below_size (by repeat (first | (with_reducible first | exact HB.out | apply below_alloc | apply pw_below_drewN | apply below_drew1) | exact HB.out))) : w.heap.size ≤ gb101)); clear HB; have HB := n0_; have BK101 := n1_; have GW101 := n2_; have GE101 := n3_; clear n0_ n1_ n2_ n3_; clear hb hbox hg; have hcz13_0 : w12.cell? ⟨gb101, 0, none⟩ = some (.int .i64 a0_0) := (blk_cell BK101.out 0).trans rfl; have hcz13_1 : w12.cell? ⟨gb101, 1, none⟩ = some (.int .i64 a0_1) := (blk_cell BK101.out 1).trans rfl; have hcz13_2 : w12.cell? ⟨gb101, 2, none⟩ = some (.int .i64 a0_2) := (blk_cell BK101.out 2).trans rfl; have hcz13_3 : w12.cell? ⟨gb101, 3, none⟩ = some (.slice A0_3 l0_3.length c0_3) := (blk_cell BK101.out 3).trans rfl; have hfz13_0 := blk_frozen BK101.out 0; have hfz13_1 := blk_frozen BK101.out 1; have hfz13_2 := blk_frozen BK101.out 2; have hfz13_3 := blk_frozen BK101.out 3))
          go_ret
          exact ⟨by first | rfl | (simp [errW_none, errW_some] <;> rfl) | (simp [*, errW_none, errW_some] <;> rfl), by repeat (first | (with_reducible first | exact HB.out | apply below_alloc | apply pw_below_drewN | apply below_drew1 | refine below_set ?_ GE101.out) | exact HB.out)⟩
        · rw [if_neg c11] at H
          have c11b0 : decide (a0_1 < a0_0) = false := decide_eq_false c11
          clear c11
          by_cases c14 : a0_1 > 16
          · rw [if_pos c14] at H
            have c14b0 : decide (16 < a0_1) = true := decide_eq_true c14
            clear c14
            obtain rfl := Option.some.inj H
            go_enter Tryd.func49, Tryd.ntmps49
            go_wp2_with (first | ((with_reducible refine gate_dst (N := 1) rfl ?_); (try (refine gate_guard (by rfl) ?_; dsimp only)); refine box_event ?hg (N := 1) ?hd (cs := #[.int .i64 a0_0, .int .i64 a0_1, .int .i64 a0_2, .slice A0_3 l0_3.length c0_3]) (t := 39) ?hr ?_; (case hd => rfl); (case hg => rfl); (case hr => first | (go_simp; done) | (go_simp; rfl)); intro gb101 hg w15 hbox hb; have n0_ := Aside0.mk (below_step (by repeat (first | (with_reducible first | exact HB.out | apply below_alloc | apply pw_below_drewN | apply below_drew1) | exact HB.out)) hb); have n1_ := Aside0.mk (hbox); have n2_ := Aside0.mk ((by rw [hg]; exact (below_size (by repeat (first | (with_reducible first | exact HB.out | apply below_alloc | apply pw_below_drewN | apply below_drew1) | exact HB.out))) : w.heap.size ≤ gb101)); have n3_ := Aside0.mk ((by rw [hg]; exact (below_size (by repeat (first | (with_reducible first | exact HB.out | apply below_alloc | apply pw_below_drewN | apply below_drew1) | exact HB.out))) : w.heap.size ≤ gb101)); clear HB; have HB := n0_; have BK101 := n1_; have GW101 := n2_; have GE101 := n3_; clear n0_ n1_ n2_ n3_; clear hb hbox hg; have hcz16_0 : w15.cell? ⟨gb101, 0, none⟩ = some (.int .i64 a0_0) := (blk_cell BK101.out 0).trans rfl; have hcz16_1 : w15.cell? ⟨gb101, 1, none⟩ = some (.int .i64 a0_1) := (blk_cell BK101.out 1).trans rfl; have hcz16_2 : w15.cell? ⟨gb101, 2, none⟩ = some (.int .i64 a0_2) := (blk_cell BK101.out 2).trans rfl; have hcz16_3 : w15.cell? ⟨gb101, 3, none⟩ = some (.slice A0_3 l0_3.length c0_3) := (blk_cell BK101.out 3).trans rfl; have hfz16_0 := blk_frozen BK101.out 0; have hfz16_1 := blk_frozen BK101.out 1; have hfz16_2 := blk_frozen BK101.out 2; have hfz16_3 := blk_frozen BK101.out 3))
            go_ret
            exact ⟨by first | rfl | (simp [errW_none, errW_some] <;> rfl) | (simp [*, errW_none, errW_some] <;> rfl), by repeat (first | (with_reducible first | exact HB.out | apply below_alloc | apply pw_below_drewN | apply below_drew1 | refine below_set ?_ GE101.out) | exact HB.out)⟩
          · rw [if_neg c14] at H
            have c14b0 : decide (16 < a0_1) = false := decide_eq_false c14
            clear c14
            by_cases c17 : a0_2 ≥ 0
            · rw [if_pos c17] at H
              have c17b0 : decide (0 ≤ a0_2) = true := decide_eq_true c17
              clear c17
              by_cases c18 : a0_2 ≤ 8
              · rw [if_pos c18] at H
                have c18b0 : decide (a0_2 ≤ 8) = true := decide_eq_true c18
                clear c18
                by_cases c19 : (l0_3.length : Int) ≥ 1
                · rw [if_pos c19] at H
                  have c19b0 : decide (1 ≤ (l0_3.length : Int)) = true := decide_eq_true c19
                  have c19b1 : decide (1 ≤ l0_3.length) = true := decide_eq_true (by omega)
                  clear c19
                  obtain rfl := Option.some.inj H
                  go_enter Tryd.func49, Tryd.ntmps49
                  go_wp2_with (first | ((with_reducible refine gate_dst (N := 1) rfl ?_); (try (refine gate_guard (by rfl) ?_; dsimp only)); refine box_event ?hg (N := 1) ?hd (cs := #[.int .i64 a0_0, .int .i64 a0_1, .int .i64 a0_2, .slice A0_3 l0_3.length c0_3]) (t := 39) ?hr ?_; (case hd => rfl); (case hg => rfl); (case hr => first | (go_simp; done) | (go_simp; rfl)); intro gb101 hg w20 hbox hb; have n0_ := Aside0.mk (below_step (by repeat (first | (with_reducible first | exact HB.out | apply below_alloc | apply pw_below_drewN | apply below_drew1) | exact HB.out)) hb); have n1_ := Aside0.mk (hbox); have n2_ := Aside0.mk ((by rw [hg]; exact (below_size (by repeat (first | (with_reducible first | exact HB.out | apply below_alloc | apply pw_below_drewN | apply below_drew1) | exact HB.out))) : w.heap.size ≤ gb101)); have n3_ := Aside0.mk ((by rw [hg]; exact (below_size (by repeat (first | (with_reducible first | exact HB.out | apply below_alloc | apply pw_below_drewN | apply below_drew1) | exact HB.out))) : w.heap.size ≤ gb101)); clear HB; have HB := n0_; have BK101 := n1_; have GW101 := n2_; have GE101 := n3_; clear n0_ n1_ n2_ n3_; clear hb hbox hg; have hcz21_0 : w20.cell? ⟨gb101, 0, none⟩ = some (.int .i64 a0_0) := (blk_cell BK101.out 0).trans rfl; have hcz21_1 : w20.cell? ⟨gb101, 1, none⟩ = some (.int .i64 a0_1) := (blk_cell BK101.out 1).trans rfl; have hcz21_2 : w20.cell? ⟨gb101, 2, none⟩ = some (.int .i64 a0_2) := (blk_cell BK101.out 2).trans rfl; have hcz21_3 : w20.cell? ⟨gb101, 3, none⟩ = some (.slice A0_3 l0_3.length c0_3) := (blk_cell BK101.out 3).trans rfl; have hfz21_0 := blk_frozen BK101.out 0; have hfz21_1 := blk_frozen BK101.out 1; have hfz21_2 := blk_frozen BK101.out 2; have hfz21_3 := blk_frozen BK101.out 3))
                  go_ret
                  exact ⟨by first | rfl | (simp [errW_none, errW_some] <;> rfl) | (simp [*, errW_none, errW_some] <;> rfl), by repeat (first | (with_reducible first | exact HB.out | apply below_alloc | apply pw_below_drewN | apply below_drew1 | refine below_set ?_ GE101.out) | exact HB.out)⟩
                · rw [if_neg c19] at H
                  have c19b0 : decide (1 ≤ (l0_3.length : Int)) = false := decide_eq_false c19
                  have c19b1 : decide (1 ≤ l0_3.length) = false := decide_eq_false (by omega)
                  clear c19
                  obtain rfl := Option.some.inj H
                  go_enter Tryd.func49, Tryd.ntmps49
                  go_wp2_with (first | ((with_reducible refine gate_dst (N := 1) rfl ?_); (try (refine gate_guard (by rfl) ?_; dsimp only)); refine box_event ?hg (N := 1) ?hd (cs := #[.int .i64 a0_0, .int .i64 a0_1, .int .i64 a0_2, .slice A0_3 l0_3.length c0_3]) (t := 39) ?hr ?_; (case hd => rfl); (case hg => rfl); (case hr => first | (go_simp; done) | (go_simp; rfl)); intro gb101 hg w22 hbox hb; have n0_ := Aside0.mk (below_step (by repeat (first | (with_reducible first | exact HB.out | apply below_alloc | apply pw_below_drewN | apply below_drew1) | exact HB.out)) hb); have n1_ := Aside0.mk (hbox); have n2_ := Aside0.mk ((by rw [hg]; exact (below_size (by repeat (first | (with_reducible first | exact HB.out | apply below_alloc | apply pw_below_drewN | apply below_drew1) | exact HB.out))) : w.heap.size ≤ gb101)); have n3_ := Aside0.mk ((by rw [hg]; exact (below_size (by repeat (first | (with_reducible first | exact HB.out | apply below_alloc | apply pw_below_drewN | apply below_drew1) | exact HB.out))) : w.heap.size ≤ gb101)); clear HB; have HB := n0_; have BK101 := n1_; have GW101 := n2_; have GE101 := n3_; clear n0_ n1_ n2_ n3_; clear hb hbox hg; have hcz23_0 : w22.cell? ⟨gb101, 0, none⟩ = some (.int .i64 a0_0) := (blk_cell BK101.out 0).trans rfl; have hcz23_1 : w22.cell? ⟨gb101, 1, none⟩ = some (.int .i64 a0_1) := (blk_cell BK101.out 1).trans rfl; have hcz23_2 : w22.cell? ⟨gb101, 2, none⟩ = some (.int .i64 a0_2) := (blk_cell BK101.out 2).trans rfl; have hcz23_3 : w22.cell? ⟨gb101, 3, none⟩ = some (.slice A0_3 l0_3.length c0_3) := (blk_cell BK101.out 3).trans rfl; have hfz23_0 := blk_frozen BK101.out 0; have hfz23_1 := blk_frozen BK101.out 1; have hfz23_2 := blk_frozen BK101.out 2; have hfz23_3 := blk_frozen BK101.out 3))
                  go_ret
                  exact ⟨by first | rfl | (simp [errW_none, errW_some] <;> rfl) | (simp [*, errW_none, errW_some] <;> rfl), by repeat (first | (with_reducible first | exact HB.out | apply below_alloc | apply pw_below_drewN | apply below_drew1 | refine below_set ?_ GE101.out) | exact HB.out)⟩
              · rw [if_neg c18] at H
                have c18b0 : decide (a0_2 ≤ 8) = false := decide_eq_false c18
                clear c18
                obtain rfl := Option.some.inj H
                go_enter Tryd.func49, Tryd.ntmps49
                go_wp2_with (first | ((with_reducible refine gate_dst (N := 1) rfl ?_); (try (refine gate_guard (by rfl) ?_; dsimp only)); refine box_event ?hg (N := 1) ?hd (cs := #[.int .i64 a0_0, .int .i64 a0_1, .int .i64 a0_2, .slice A0_3 l0_3.length c0_3]) (t := 39) ?hr ?_; (case hd => rfl); (case hg => rfl); (case hr => first | (go_simp; done) | (go_simp; rfl)); intro gb101 hg w24 hbox hb; have n0_ := Aside0.mk (below_step (by repeat (first | (with_reducible first | exact HB.out | apply below_alloc | apply pw_below_drewN | apply below_drew1) | exact HB.out)) hb); have n1_ := Aside0.mk (hbox); have n2_ := Aside0.mk ((by rw [hg]; exact (below_size (by repeat (first | (with_reducible first | exact HB.out | apply below_alloc | apply pw_below_drewN | apply below_drew1) | exact HB.out))) : w.heap.size ≤ gb101)); have n3_ := Aside0.mk ((by rw [hg]; exact (below_size (by repeat (first | (with_reducible first | exact HB.out | apply below_alloc | apply pw_below_drewN | apply below_drew1) | exact HB.out))) : w.heap.size ≤ gb101)); clear HB; have HB := n0_; have BK101 := n1_; have GW101 := n2_; have GE101 := n3_; clear n0_ n1_ n2_ n3_; clear hb hbox hg; have hcz25_0 : w24.cell? ⟨gb101, 0, none⟩ = some (.int .i64 a0_0) := (blk_cell BK101.out 0).trans rfl; have hcz25_1 : w24.cell? ⟨gb101, 1, none⟩ = some (.int .i64 a0_1) := (blk_cell BK101.out 1).trans rfl; have hcz25_2 : w24.cell? ⟨gb101, 2, none⟩ = some (.int .i64 a0_2) := (blk_cell BK101.out 2).trans rfl; have hcz25_3 : w24.cell? ⟨gb101, 3, none⟩ = some (.slice A0_3 l0_3.length c0_3) := (blk_cell BK101.out 3).trans rfl; have hfz25_0 := blk_frozen BK101.out 0; have hfz25_1 := blk_frozen BK101.out 1; have hfz25_2 := blk_frozen BK101.out 2; have hfz25_3 := blk_frozen BK101.out 3))
                go_ret
                exact ⟨by first | rfl | (simp [errW_none, errW_some] <;> rfl) | (simp [*, errW_none, errW_some] <;> rfl), by repeat (first | (with_reducible first | exact HB.out | apply below_alloc | apply pw_below_drewN | apply below_drew1 | refine below_set ?_ GE101.out) | exact HB.out)⟩
            · rw [if_neg c17] at H
              have c17b0 : decide (0 ≤ a0_2) = false := decide_eq_false c17
              clear c17
              obtain rfl := Option.some.inj H
              go_enter Tryd.func49, Tryd.ntmps49
              go_wp2_with (first | ((with_reducible refine gate_dst (N := 1) rfl ?_); (try (refine gate_guard (by rfl) ?_; dsimp only)); refine box_event ?hg (N := 1) ?hd (cs := #[.int .i64 a0_0, .int .i64 a0_1, .int .i64 a0_2, .slice A0_3 l0_3.length c0_3]) (t := 39) ?hr ?_; (case hd => rfl); (case hg => rfl); (case hr => first | (go_simp; done) | (go_simp; rfl)); intro gb101 hg w26 hbox hb; have n0_ := Aside0.mk (below_step (by repeat (first | (with_reducible first | exact HB.out | apply below_alloc | apply pw_below_drewN | apply below_drew1) | exact HB.out)) hb); have n1_ := Aside0.mk (hbox); have n2_ := Aside0.mk ((by rw [hg]; exact (below_size (by repeat (first | (with_reducible first | exact HB.out | apply below_alloc | apply pw_below_drewN | apply below_drew1) | exact HB.out))) : w.heap.size ≤ gb101)); have n3_ := Aside0.mk ((by rw [hg]; exact (below_size (by repeat (first | (with_reducible first | exact HB.out | apply below_alloc | apply pw_below_drewN | apply below_drew1) | exact HB.out))) : w.heap.size ≤ gb101)); clear HB; have HB := n0_; have BK101 := n1_; have GW101 := n2_; have GE101 := n3_; clear n0_ n1_ n2_ n3_; clear hb hbox hg; have hcz27_0 : w26.cell? ⟨gb101, 0, none⟩ = some (.int .i64 a0_0) := (blk_cell BK101.out 0).trans rfl; have hcz27_1 : w26.cell? ⟨gb101, 1, none⟩ = some (.int .i64 a0_1) := (blk_cell BK101.out 1).trans rfl; have hcz27_2 : w26.cell? ⟨gb101, 2, none⟩ = some (.int .i64 a0_2) := (blk_cell BK101.out 2).trans rfl; have hcz27_3 : w26.cell? ⟨gb101, 3, none⟩ = some (.slice A0_3 l0_3.length c0_3) := (blk_cell BK101.out 3).trans rfl; have hfz27_0 := blk_frozen BK101.out 0; have hfz27_1 := blk_frozen BK101.out 1; have hfz27_2 := blk_frozen BK101.out 2; have hfz27_3 := blk_frozen BK101.out 3))
              go_ret
              exact ⟨by first | rfl | (simp [errW_none, errW_some] <;> rfl) | (simp [*, errW_none, errW_some] <;> rfl), by repeat (first | (with_reducible first | exact HB.out | apply below_alloc | apply pw_below_drewN | apply below_drew1 | refine below_set ?_ GE101.out) | exact HB.out)⟩

/-! ### prog_fits: function 68 -/
def prog_fits.f (a0 : Int) (a1 : Int) (a2_0 : Int) (a2_1 : Int) (a2_2 : Int) (l2_3 : List (S36)) (a3 : Int) : Option (Bool) := if a0 = 0 then (some true) else (if a0 = 1 then (if a1 ≥ 0 then (some (decide (a1 < a2_1))) else (some false)) else (if a0 = 2 then (if a1 ≥ 0 then (some (decide (a1 < a2_2))) else (some false)) else (if a0 = 3 then (if a1 ≥ 0 then (some (decide (a1 < (l2_3.length : Int)))) else (some false)) else (if a0 = 5 then (if a1 ≥ 0 then (some (decide (a1 < 16))) else (some false)) else (if a0 = 4 then (if a3 < 0 then (some true) else (if a1 ≥ 0 then (some (decide (a1 < a3))) else (some false))) else (if a1 ≥ 0 then (some (decide (a1 < 0))) else (some false)))))))
set_option maxHeartbeats 8000000 in
set_option maxRecDepth 100000 in
theorem prog_fits.calls (a0 : Int) (a1 : Int) (a2_0 : Int) (a2_1 : Int) (a2_2 : Int) (A2_3 : Option Addr) (c2_3 : Nat) (l2_3 : List (S36)) (a3 : Int) (r : Bool) (w : World) (hr2_3 : Kd.C k36 w A2_3 l2_3.length l2_3) (hc2_3 : l2_3.length ≤ c2_3) (h : prog_fits.f a0 a1 a2_0 a2_1 a2_2 l2_3 a3 = some r) :
    Calls Tryd.prog 68 #[.int .i64 a0, .int .i64 a1, .agg #[.int .i64 a2_0, .int .i64 a2_1, .int .i64 a2_2, .slice A2_3 l2_3.length c2_3], .int .i64 a3] w fun e w' => e = .returned (.bool r) ∧ Below w.heap.size w w' := by
  have hu39 := Tryd.underlying39
  have HR2_3 := Aside0.mk hr2_3
  have HC2_3 := Aside0.mk hc2_3
  clear hr2_3 hc2_3
  have HB := Aside0.mk (Below.refl w.heap.size w)
  have H : (if a0 = 0 then (some true) else (if a0 = 1 then (if a1 ≥ 0 then (some (decide (a1 < a2_1))) else (some false)) else (if a0 = 2 then (if a1 ≥ 0 then (some (decide (a1 < a2_2))) else (some false)) else (if a0 = 3 then (if a1 ≥ 0 then (some (decide (a1 < (l2_3.length : Int)))) else (some false)) else (if a0 = 5 then (if a1 ≥ 0 then (some (decide (a1 < 16))) else (some false)) else (if a0 = 4 then (if a3 < 0 then (some true) else (if a1 ≥ 0 then (some (decide (a1 < a3))) else (some false))) else (if a1 ≥ 0 then (some (decide (a1 < 0))) else (some false)))))))) = some r := h
  clear h
  by_cases c5 : a0 = 0
  · rw [if_pos c5] at H
    have c5b0 : (a0 == 0) = true := beq_iff_eq.mpr c5
    have c5b1 : (a0 != 0) = false := bne_eq_false_iff_eq.mpr c5
    clear c5
    obtain rfl := Option.some.inj H
    go_enter Tryd.func68, Tryd.ntmps68
    go_wp2_with (first | ((with_reducible refine gate_dst (N := 6) rfl ?_); refine box_event ?hg (N := 6) ?hd (cs := #[.int .i64 a2_0, .int .i64 a2_1, .int .i64 a2_2, .slice A2_3 l2_3.length c2_3]) (t := 39) ?hr ?_; (case hd => rfl); (case hg => rfl); (case hr => first | (go_simp; done) | (go_simp; rfl)); intro gb102 hg w6 hbox hb; have n0_ := Aside0.mk (below_step (by repeat (first | (with_reducible first | exact HB.out | apply below_alloc | apply pw_below_drewN | apply below_drew1) | exact HB.out)) hb); have n1_ := Aside0.mk (hbox); have n2_ := Aside0.mk ((by rw [hg]; exact (below_size (by repeat (first | (with_reducible first | exact HB.out | apply below_alloc | apply pw_below_drewN | apply below_drew1) | exact HB.out))) : w.heap.size ≤ gb102)); have n3_ := Aside0.mk ((by rw [hg]; exact (below_size (by repeat (first | (with_reducible first | exact HB.out | apply below_alloc | apply pw_below_drewN | apply below_drew1) | exact HB.out))) : w.heap.size ≤ gb102)); clear HB; have HB := n0_; have BK102 := n1_; have GW102 := n2_; have GE102 := n3_; clear n0_ n1_ n2_ n3_; clear hb hbox hg))
    go_ret
    exact ⟨by first | rfl | (simp [errW_none, errW_some] <;> rfl) | (simp [*, errW_none, errW_some] <;> rfl), by repeat (first | (with_reducible first | exact HB.out | apply below_alloc | apply pw_below_drewN | apply below_drew1 | refine below_set ?_ GE102.out) | exact HB.out)⟩
  · rw [if_neg c5] at H
    have c5b0 : (a0 == 0) = false := beq_eq_false_iff_ne.mpr c5
    have c5b1 : (a0 != 0) = true := bne_iff_ne.mpr c5
    by_cases c7 : a0 = 1
    · rw [if_pos c7] at H
      have c7b0 : (a0 == 1) = true := beq_iff_eq.mpr c7
      have c7b1 : (a0 != 1) = false := bne_eq_false_iff_eq.mpr c7
      clear c7
      by_cases c8 : a1 ≥ 0
      · rw [if_pos c8] at H
        have c8b0 : decide (0 ≤ a1) = true := decide_eq_true c8
        clear c8
        obtain rfl := Option.some.inj H
        go_enter Tryd.func68, Tryd.ntmps68
        go_wp2_with (first | ((with_reducible refine gate_dst (N := 6) rfl ?_); refine box_event ?hg (N := 6) ?hd (cs := #[.int .i64 a2_0, .int .i64 a2_1, .int .i64 a2_2, .slice A2_3 l2_3.length c2_3]) (t := 39) ?hr ?_; (case hd => rfl); (case hg => rfl); (case hr => first | (go_simp; done) | (go_simp; rfl)); intro gb102 hg w9 hbox hb; have n0_ := Aside0.mk (below_step (by repeat (first | (with_reducible first | exact HB.out | apply below_alloc | apply pw_below_drewN | apply below_drew1) | exact HB.out)) hb); have n1_ := Aside0.mk (hbox); have n2_ := Aside0.mk ((by rw [hg]; exact (below_size (by repeat (first | (with_reducible first | exact HB.out | apply below_alloc | apply pw_below_drewN | apply below_drew1) | exact HB.out))) : w.heap.size ≤ gb102)); have n3_ := Aside0.mk ((by rw [hg]; exact (below_size (by repeat (first | (with_reducible first | exact HB.out | apply below_alloc | apply pw_below_drewN | apply below_drew1) | exact HB.out))) : w.heap.size ≤ gb102)); clear HB; have HB := n0_; have BK102 := n1_; have GW102 := n2_; have GE102 := n3_; clear n0_ n1_ n2_ n3_; clear hb hbox hg; have hcz10_0 : w9.cell? ⟨gb102, 0, none⟩ = some (.int .i64 a2_0) := (blk_cell BK102.out 0).trans rfl; have hcz10_1 : w9.cell? ⟨gb102, 1, none⟩ = some (.int .i64 a2_1) := (blk_cell BK102.out 1).trans rfl; have hcz10_2 : w9.cell? ⟨gb102, 2, none⟩ = some (.int .i64 a2_2) := (blk_cell BK102.out 2).trans rfl; have hcz10_3 : w9.cell? ⟨gb102, 3, none⟩ = some (.slice A2_3 l2_3.length c2_3) := (blk_cell BK102.out 3).trans rfl; have hfz10_0 := blk_frozen BK102.out 0; have hfz10_1 := blk_frozen BK102.out 1; have hfz10_2 := blk_frozen BK102.out 2; have hfz10_3 := blk_frozen BK102.out 3))
        go_ret
        exact ⟨by first | rfl | (simp [errW_none, errW_some] <;> rfl) | (simp [*, errW_none, errW_some] <;> rfl), by repeat (first | (with_reducible first | exact HB.out | apply below_alloc | apply pw_below_drewN | apply below_drew1 | refine below_set ?_ GE102.out) | exact HB.out)⟩
      · rw [if_neg c8] at H
        have c8b0 : decide (0 ≤ a1) = false := decide_eq_false c8
        clear c8
        obtain rfl := Option.some.inj H
        go_enter Tryd.func68, Tryd.ntmps68
        go_wp2_with (first | ((with_reducible refine gate_dst (N := 6) rfl ?_); refine box_event ?hg (N := 6) ?hd (cs := #[.int .i64 a2_0, .int .i64 a2_1, .int .i64 a2_2, .slice A2_3 l2_3.length c2_3]) (t := 39) ?hr ?_; (case hd => rfl); (case hg => rfl); (case hr => first | (go_simp; done) | (go_simp; rfl)); intro gb102 hg w11 hbox hb; have n0_ := Aside0.mk (below_step (by repeat (first | (with_reducible first | exact HB.out | apply below_alloc | apply pw_below_drewN | apply below_drew1) | exact HB.out)) hb); have n1_ := Aside0.mk (hbox); have n2_ := Aside0.mk ((by rw [hg]; exact (below_size (by repeat (first | (with_reducible first | exact HB.out | apply below_alloc | apply pw_below_drewN | apply below_drew1) | exact HB.out))) : w.heap.size ≤ gb102)); have n3_ := Aside0.mk ((by rw [hg]; exact (below_size (by repeat (first | (with_reducible first | exact HB.out | apply below_alloc | apply pw_below_drewN | apply below_drew1) | exact HB.out))) : w.heap.size ≤ gb102)); clear HB; have HB := n0_; have BK102 := n1_; have GW102 := n2_; have GE102 := n3_; clear n0_ n1_ n2_ n3_; clear hb hbox hg; have hcz12_0 : w11.cell? ⟨gb102, 0, none⟩ = some (.int .i64 a2_0) := (blk_cell BK102.out 0).trans rfl; have hcz12_1 : w11.cell? ⟨gb102, 1, none⟩ = some (.int .i64 a2_1) := (blk_cell BK102.out 1).trans rfl; have hcz12_2 : w11.cell? ⟨gb102, 2, none⟩ = some (.int .i64 a2_2) := (blk_cell BK102.out 2).trans rfl; have hcz12_3 : w11.cell? ⟨gb102, 3, none⟩ = some (.slice A2_3 l2_3.length c2_3) := (blk_cell BK102.out 3).trans rfl; have hfz12_0 := blk_frozen BK102.out 0; have hfz12_1 := blk_frozen BK102.out 1; have hfz12_2 := blk_frozen BK102.out 2; have hfz12_3 := blk_frozen BK102.out 3))
        go_ret
        exact ⟨by first | rfl | (simp [errW_none, errW_some] <;> rfl) | (simp [*, errW_none, errW_some] <;> rfl), by repeat (first | (with_reducible first | exact HB.out | apply below_alloc | apply pw_below_drewN | apply below_drew1 | refine below_set ?_ GE102.out) | exact HB.out)⟩
    · rw [if_neg c7] at H
      have c7b0 : (a0 == 1) = false := beq_eq_false_iff_ne.mpr c7
      have c7b1 : (a0 != 1) = true := bne_iff_ne.mpr c7
      by_cases c13 : a0 = 2
      · rw [if_pos c13] at H
        have c13b0 : (a0 == 2) = true := beq_iff_eq.mpr c13
        have c13b1 : (a0 != 2) = false := bne_eq_false_iff_eq.mpr c13
        clear c13
        by_cases c14 : a1 ≥ 0
        · rw [if_pos c14] at H
          have c14b0 : decide (0 ≤ a1) = true := decide_eq_true c14
          clear c14
          obtain rfl := Option.some.inj H
          go_enter Tryd.func68, Tryd.ntmps68
          go_wp2_with (first | ((with_reducible refine gate_dst (N := 6) rfl ?_); refine box_event ?hg (N := 6) ?hd (cs := #[.int .i64 a2_0, .int .i64 a2_1, .int .i64 a2_2, .slice A2_3 l2_3.length c2_3]) (t := 39) ?hr ?_; (case hd => rfl); (case hg => rfl); (case hr => first | (go_simp; done) | (go_simp; rfl)); intro gb102 hg w15 hbox hb; have n0_ := Aside0.mk (below_step (by repeat (first | (with_reducible first | exact HB.out | apply below_alloc | apply pw_below_drewN | apply below_drew1) | exact HB.out)) hb); have n1_ := Aside0.mk (hbox); have n2_ := Aside0.mk ((by rw [hg]; exact (below_size (by repeat (first | (with_reducible first | exact HB.out | apply below_alloc | apply pw_below_drewN | apply below_drew1) | exact HB.out))) : w.heap.size ≤ gb102)); have n3_ := Aside0.mk ((by rw [hg]; exact (below_size (by repeat (first | (with_reducible first | exact HB.out | apply below_alloc | apply pw_below_drewN | apply below_drew1) | exact HB.out))) : w.heap.size ≤ gb102)); clear HB; have HB := n0_; have BK102 := n1_; have GW102 := n2_; have GE102 := n3_; clear n0_ n1_ n2_ n3_; clear hb hbox hg; have hcz16_0 : w15.cell? ⟨gb102, 0, none⟩ = some (.int .i64 a2_0) := (blk_cell BK102.out 0).trans rfl; have hcz16_1 : w15.cell? ⟨gb102, 1, none⟩ = some (.int .i64 a2_1) := (blk_cell BK102.out 1).trans rfl; have hcz16_2 : w15.cell? ⟨gb102, 2, none⟩ = some (.int .i64 a2_2) := (blk_cell BK102.out 2).trans rfl; have hcz16_3 : w15.cell? ⟨gb102, 3, none⟩ = some (.slice A2_3 l2_3.length c2_3) := (blk_cell BK102.out 3).trans rfl; have hfz16_0 := blk_frozen BK102.out 0; have hfz16_1 := blk_frozen BK102.out 1; have hfz16_2 := blk_frozen BK102.out 2; have hfz16_3 := blk_frozen BK102.out 3))
          go_ret
          exact ⟨by first | rfl | (simp [errW_none, errW_some] <;> rfl) | (simp [*, errW_none, errW_some] <;> rfl), by repeat (first | (with_reducible first | exact HB.out | apply below_alloc | apply pw_below_drewN | apply below_drew1 | refine below_set ?_ GE102.out) | exact HB.out)⟩
        · rw [if_neg c14] at H
          have c14b0 : decide (0 ≤ a1) = false := decide_eq_false c14
          clear c14
          obtain rfl := Option.some.inj H
          go_enter Tryd.func68, Tryd.ntmps68
          go_wp2_with (first | ((with_reducible refine gate_dst (N := 6) rfl ?_); refine box_event ?hg (N := 6) ?hd (cs := #[.int .i64 a2_0, .int .i64 a2_1, .int .i64 a2_2, .slice A2_3 l2_3.length c2_3]) (t := 39) ?hr ?_; (case hd => rfl); (case hg => rfl); (case hr => first | (go_simp; done) | (go_simp; rfl)); intro gb102 hg w17 hbox hb; have n0_ := Aside0.mk (below_step (by repeat (first | (with_reducible first | exact HB.out | apply below_alloc | apply pw_below_drewN | apply below_drew1) | exact HB.out)) hb); have n1_ := Aside0.mk (hbox); have n2_ := Aside0.mk ((by rw [hg]; exact (below_size (by repeat (first | (with_reducible first | exact HB.out | apply below_alloc | apply pw_below_drewN | apply below_drew1) | exact HB.out))) : w.heap.size ≤ gb102)); have n3_ := Aside0.mk ((by rw [hg]; exact (below_size (by repeat (first | (with_reducible first | exact HB.out | apply below_alloc | apply pw_below_drewN | apply below_drew1) | exact HB.out))) : w.heap.size ≤ gb102)); clear HB; have HB := n0_; have BK102 := n1_; have GW102 := n2_; have GE102 := n3_; clear n0_ n1_ n2_ n3_; clear hb hbox hg; have hcz18_0 : w17.cell? ⟨gb102, 0, none⟩ = some (.int .i64 a2_0) := (blk_cell BK102.out 0).trans rfl; have hcz18_1 : w17.cell? ⟨gb102, 1, none⟩ = some (.int .i64 a2_1) := (blk_cell BK102.out 1).trans rfl; have hcz18_2 : w17.cell? ⟨gb102, 2, none⟩ = some (.int .i64 a2_2) := (blk_cell BK102.out 2).trans rfl; have hcz18_3 : w17.cell? ⟨gb102, 3, none⟩ = some (.slice A2_3 l2_3.length c2_3) := (blk_cell BK102.out 3).trans rfl; have hfz18_0 := blk_frozen BK102.out 0; have hfz18_1 := blk_frozen BK102.out 1; have hfz18_2 := blk_frozen BK102.out 2; have hfz18_3 := blk_frozen BK102.out 3))
          go_ret
          exact ⟨by first | rfl | (simp [errW_none, errW_some] <;> rfl) | (simp [*, errW_none, errW_some] <;> rfl), by repeat (first | (with_reducible first | exact HB.out | apply below_alloc | apply pw_below_drewN | apply below_drew1 | refine below_set ?_ GE102.out) | exact HB.out)⟩
      · rw [if_neg c13] at H
        have c13b0 : (a0 == 2) = false := beq_eq_false_iff_ne.mpr c13
        have c13b1 : (a0 != 2) = true := bne_iff_ne.mpr c13
        by_cases c19 : a0 = 3
        · rw [if_pos c19] at H
          have c19b0 : (a0 == 3) = true := beq_iff_eq.mpr c19
          have c19b1 : (a0 != 3) = false := bne_eq_false_iff_eq.mpr c19
          clear c19
          by_cases c20 : a1 ≥ 0
          · rw [if_pos c20] at H
            have c20b0 : decide (0 ≤ a1) = true := decide_eq_true c20
            clear c20
            obtain rfl := Option.some.inj H
            go_enter Tryd.func68, Tryd.ntmps68
            go_wp2_with (first | ((with_reducible refine gate_dst (N := 6) rfl ?_); refine box_event ?hg (N := 6) ?hd (cs := #[.int .i64 a2_0, .int .i64 a2_1, .int .i64 a2_2, .slice A2_3 l2_3.length c2_3]) (t := 39) ?hr ?_; (case hd => rfl); (case hg => rfl); (case hr => first | (go_simp; done) | (go_simp; rfl)); intro gb102 hg w21 hbox hb; have n0_ := Aside0.mk (below_step (by repeat (first | (with_reducible first | exact HB.out | apply below_alloc | apply pw_below_drewN | apply below_drew1) | exact HB.out)) hb); have n1_ := Aside0.mk (hbox); have n2_ := Aside0.mk ((by rw [hg]; exact (below_size (by repeat (first | (with_reducible first | exact HB.out | apply below_alloc | apply pw_below_drewN | apply below_drew1) | exact HB.out))) : w.heap.size ≤ gb102)); have n3_ := Aside0.mk ((by rw [hg]; exact (below_size (by repeat (first | (with_reducible first | exact HB.out | apply below_alloc | apply pw_below_drewN | apply below_drew1) | exact HB.out))) : w.heap.size ≤ gb102)); clear HB; have HB := n0_; have BK102 := n1_; have GW102 := n2_; have GE102 := n3_; clear n0_ n1_ n2_ n3_; clear hb hbox hg; have hcz22_0 : w21.cell? ⟨gb102, 0, none⟩ = some (.int .i64 a2_0) := (blk_cell BK102.out 0).trans rfl; have hcz22_1 : w21.cell? ⟨gb102, 1, none⟩ = some (.int .i64 a2_1) := (blk_cell BK102.out 1).trans rfl; have hcz22_2 : w21.cell? ⟨gb102, 2, none⟩ = some (.int .i64 a2_2) := (blk_cell BK102.out 2).trans rfl; have hcz22_3 : w21.cell? ⟨gb102, 3, none⟩ = some (.slice A2_3 l2_3.length c2_3) := (blk_cell BK102.out 3).trans rfl; have hfz22_0 := blk_frozen BK102.out 0; have hfz22_1 := blk_frozen BK102.out 1; have hfz22_2 := blk_frozen BK102.out 2; have hfz22_3 := blk_frozen BK102.out 3))
            go_ret
            exact ⟨by first | rfl | (simp [errW_none, errW_some] <;> rfl) | (simp [*, errW_none, errW_some] <;> rfl), by repeat (first | (with_reducible first | exact HB.out | apply below_alloc | apply pw_below_drewN | apply below_drew1 | refine below_set ?_ GE102.out) | exact HB.out)⟩
          · rw [if_neg c20] at H
            have c20b0 : decide (0 ≤ a1) = false := decide_eq_false c20
            clear c20
            obtain rfl := Option.some.inj H
            go_enter Tryd.func68, Tryd.ntmps68
            go_wp2_with (first | ((with_reducible refine gate_dst (N := 6) rfl ?_); refine box_event ?hg (N := 6) ?hd (cs := #[.int .i64 a2_0, .int .i64 a2_1, .int .i64 a2_2, .slice A2_3 l2_3.length c2_3]) (t := 39) ?hr ?_; (case hd => rfl); (case hg => rfl); (case hr => first | (go_simp; done) | (go_simp; rfl)); intro gb102 hg w23 hbox hb; have n0_ := Aside0.mk (below_step (by repeat (first | (with_reducible first | exact HB.out | apply below_alloc | apply pw_below_drewN | apply below_drew1) | exact HB.out)) hb); have n1_ := Aside0.mk (hbox); have n2_ := Aside0.mk ((by rw [hg]; exact (below_size (by repeat (first | (with_reducible first | exact HB.out | apply below_alloc | apply pw_below_drewN | apply below_drew1) | exact HB.out))) : w.heap.size ≤ gb102)); have n3_ := Aside0.mk ((by rw [hg]; exact (below_size (by repeat (first | (with_reducible first | exact HB.out | apply below_alloc | apply pw_below_drewN | apply below_drew1) | exact HB.out))) : w.heap.size ≤ gb102)); clear HB; have HB := n0_; have BK102 := n1_; have GW102 := n2_; have GE102 := n3_; clear n0_ n1_ n2_ n3_; clear hb hbox hg; have hcz24_0 : w23.cell? ⟨gb102, 0, none⟩ = some (.int .i64 a2_0) := (blk_cell BK102.out 0).trans rfl; have hcz24_1 : w23.cell? ⟨gb102, 1, none⟩ = some (.int .i64 a2_1) := (blk_cell BK102.out 1).trans rfl; have hcz24_2 : w23.cell? ⟨gb102, 2, none⟩ = some (.int .i64 a2_2) := (blk_cell BK102.out 2).trans rfl; have hcz24_3 : w23.cell? ⟨gb102, 3, none⟩ = some (.slice A2_3 l2_3.length c2_3) := (blk_cell BK102.out 3).trans rfl; have hfz24_0 := blk_frozen BK102.out 0; have hfz24_1 := blk_frozen BK102.out 1; have hfz24_2 := blk_frozen BK102.out 2; have hfz24_3 := blk_frozen BK102.out 3))
            go_ret
            exact ⟨by first | rfl | (simp [errW_none, errW_some] <;> rfl) | (simp [*, errW_none, errW_some] <;> rfl), by repeat (first | (with_reducible first | exact HB.out | apply below_alloc | apply pw_below_drewN | apply below_drew1 | refine below_set ?_ GE102.out) | exact HB.out)⟩
        · rw [if_neg c19] at H
          have c19b0 : (a0 == 3) = false := beq_eq_false_iff_ne.mpr c19
          have c19b1 : (a0 != 3) = true := bne_iff_ne.mpr c19
          by_cases c25 : a0 = 5
          · rw [if_pos c25] at H
            have c25b0 : (a0 == 5) = true := beq_iff_eq.mpr c25
            have c25b1 : (a0 != 5) = false := bne_eq_false_iff_eq.mpr c25
            clear c25
            by_cases c26 : a1 ≥ 0
            · rw [if_pos c26] at H
              have c26b0 : decide (0 ≤ a1) = true := decide_eq_true c26
              clear c26
              obtain rfl := Option.some.inj H
              go_enter Tryd.func68, Tryd.ntmps68
              go_wp2_with (first | ((with_reducible refine gate_dst (N := 6) rfl ?_); refine box_event ?hg (N := 6) ?hd (cs := #[.int .i64 a2_0, .int .i64 a2_1, .int .i64 a2_2, .slice A2_3 l2_3.length c2_3]) (t := 39) ?hr ?_; (case hd => rfl); (case hg => rfl); (case hr => first | (go_simp; done) | (go_simp; rfl)); intro gb102 hg w27 hbox hb; have n0_ := Aside0.mk (below_step (by repeat (first | (with_reducible first | exact HB.out | apply below_alloc | apply pw_below_drewN | apply below_drew1) | exact HB.out)) hb); have n1_ := Aside0.mk (hbox); have n2_ := Aside0.mk ((by rw [hg]; exact (below_size (by repeat (first | (with_reducible first | exact HB.out | apply below_alloc | apply pw_below_drewN | apply below_drew1) | exact HB.out))) : w.heap.size ≤ gb102)); have n3_ := Aside0.mk ((by rw [hg]; exact (below_size (by repeat (first | (with_reducible first | exact HB.out | apply below_alloc | apply pw_below_drewN | apply below_drew1) | exact HB.out))) : w.heap.size ≤ gb102)); clear HB; have HB := n0_; have BK102 := n1_; have GW102 := n2_; have GE102 := n3_; clear n0_ n1_ n2_ n3_; clear hb hbox hg))
              go_ret
              exact ⟨by first | rfl | (simp [errW_none, errW_some] <;> rfl) | (simp [*, errW_none, errW_some] <;> rfl), by repeat (first | (with_reducible first | exact HB.out | apply below_alloc | apply pw_below_drewN | apply below_drew1 | refine below_set ?_ GE102.out) | exact HB.out)⟩
            · rw [if_neg c26] at H
              have c26b0 : decide (0 ≤ a1) = false := decide_eq_false c26
              clear c26
              obtain rfl := Option.some.inj H
              go_enter Tryd.func68, Tryd.ntmps68
              go_wp2_with (first | ((with_reducible refine gate_dst (N := 6) rfl ?_); refine box_event ?hg (N := 6) ?hd (cs := #[.int .i64 a2_0, .int .i64 a2_1, .int .i64 a2_2, .slice A2_3 l2_3.length c2_3]) (t := 39) ?hr ?_; (case hd => rfl); (case hg => rfl); (case hr => first | (go_simp; done) | (go_simp; rfl)); intro gb102 hg w28 hbox hb; have n0_ := Aside0.mk (below_step (by repeat (first | (with_reducible first | exact HB.out | apply below_alloc | apply pw_below_drewN | apply below_drew1) | exact HB.out)) hb); have n1_ := Aside0.mk (hbox); have n2_ := Aside0.mk ((by rw [hg]; exact (below_size (by repeat (first | (with_reducible first | exact HB.out | apply below_alloc | apply pw_below_drewN | apply below_drew1) | exact HB.out))) : w.heap.size ≤ gb102)); have n3_ := Aside0.mk ((by rw [hg]; exact (below_size (by repeat (first | (with_reducible first | exact HB.out | apply below_alloc | apply pw_below_drewN | apply below_drew1) | exact HB.out))) : w.heap.size ≤ gb102)); clear HB; have HB := n0_; have BK102 := n1_; have GW102 := n2_; have GE102 := n3_; clear n0_ n1_ n2_ n3_; clear hb hbox hg))
              go_ret
              exact ⟨by first | rfl | (simp [errW_none, errW_some] <;> rfl) | (simp [*, errW_none, errW_some] <;> rfl), by repeat (first | (with_reducible first | exact HB.out | apply below_alloc | apply pw_below_drewN | apply below_drew1 | refine below_set ?_ GE102.out) | exact HB.out)⟩
          · rw [if_neg c25] at H
            have c25b0 : (a0 == 5) = false := beq_eq_false_iff_ne.mpr c25
            have c25b1 : (a0 != 5) = true := bne_iff_ne.mpr c25
            by_cases c29 : a0 = 4
            · rw [if_pos c29] at H
              have c29b0 : (a0 == 4) = true := beq_iff_eq.mpr c29
              have c29b1 : (a0 != 4) = false := bne_eq_false_iff_eq.mpr c29
              clear c29
              by_cases c30 : a3 < 0
              · rw [if_pos c30] at H
                have c30b0 : decide (a3 < 0) = true := decide_eq_true c30
                clear c30
                obtain rfl := Option.some.inj H
                go_enter Tryd.func68, Tryd.ntmps68
                go_wp2_with (first | ((with_reducible refine gate_dst (N := 6) rfl ?_); refine box_event ?hg (N := 6) ?hd (cs := #[.int .i64 a2_0, .int .i64 a2_1, .int .i64 a2_2, .slice A2_3 l2_3.length c2_3]) (t := 39) ?hr ?_; (case hd => rfl); (case hg => rfl); (case hr => first | (go_simp; done) | (go_simp; rfl)); intro gb102 hg w31 hbox hb; have n0_ := Aside0.mk (below_step (by repeat (first | (with_reducible first | exact HB.out | apply below_alloc | apply pw_below_drewN | apply below_drew1) | exact HB.out)) hb); have n1_ := Aside0.mk (hbox); have n2_ := Aside0.mk ((by rw [hg]; exact (below_size (by repeat (first | (with_reducible first | exact HB.out | apply below_alloc | apply pw_below_drewN | apply below_drew1) | exact HB.out))) : w.heap.size ≤ gb102)); have n3_ := Aside0.mk ((by rw [hg]; exact (below_size (by repeat (first | (with_reducible first | exact HB.out | apply below_alloc | apply pw_below_drewN | apply below_drew1) | exact HB.out))) : w.heap.size ≤ gb102)); clear HB; have HB := n0_; have BK102 := n1_; have GW102 := n2_; have GE102 := n3_; clear n0_ n1_ n2_ n3_; clear hb hbox hg))
                go_ret
                exact ⟨by first | rfl | (simp [errW_none, errW_some] <;> rfl) | (simp [*, errW_none, errW_some] <;> rfl), by repeat (first | (with_reducible first | exact HB.out | apply below_alloc | apply pw_below_drewN | apply below_drew1 | refine below_set ?_ GE102.out) | exact HB.out)⟩
              · rw [if_neg c30] at H
                have c30b0 : decide (a3 < 0) = false := decide_eq_false c30
                clear c30
                by_cases c32 : a1 ≥ 0
                · rw [if_pos c32] at H
                  have c32b0 : decide (0 ≤ a1) = true := decide_eq_true c32
                  clear c32
                  obtain rfl := Option.some.inj H
                  go_enter Tryd.func68, Tryd.ntmps68
                  go_wp2_with (first | ((with_reducible refine gate_dst (N := 6) rfl ?_); refine box_event ?hg (N := 6) ?hd (cs := #[.int .i64 a2_0, .int .i64 a2_1, .int .i64 a2_2, .slice A2_3 l2_3.length c2_3]) (t := 39) ?hr ?_; (case hd => rfl); (case hg => rfl); (case hr => first | (go_simp; done) | (go_simp; rfl)); intro gb102 hg w33 hbox hb; have n0_ := Aside0.mk (below_step (by repeat (first | (with_reducible first | exact HB.out | apply below_alloc | apply pw_below_drewN | apply below_drew1) | exact HB.out)) hb); have n1_ := Aside0.mk (hbox); have n2_ := Aside0.mk ((by rw [hg]; exact (below_size (by repeat (first | (with_reducible first | exact HB.out | apply below_alloc | apply pw_below_drewN | apply below_drew1) | exact HB.out))) : w.heap.size ≤ gb102)); have n3_ := Aside0.mk ((by rw [hg]; exact (below_size (by repeat (first | (with_reducible first | exact HB.out | apply below_alloc | apply pw_below_drewN | apply below_drew1) | exact HB.out))) : w.heap.size ≤ gb102)); clear HB; have HB := n0_; have BK102 := n1_; have GW102 := n2_; have GE102 := n3_; clear n0_ n1_ n2_ n3_; clear hb hbox hg))
                  go_ret
                  exact ⟨by first | rfl | (simp [errW_none, errW_some] <;> rfl) | (simp [*, errW_none, errW_some] <;> rfl), by repeat (first | (with_reducible first | exact HB.out | apply below_alloc | apply pw_below_drewN | apply below_drew1 | refine below_set ?_ GE102.out) | exact HB.out)⟩
                · rw [if_neg c32] at H
                  have c32b0 : decide (0 ≤ a1) = false := decide_eq_false c32
                  clear c32
                  obtain rfl := Option.some.inj H
                  go_enter Tryd.func68, Tryd.ntmps68
                  go_wp2_with (first | ((with_reducible refine gate_dst (N := 6) rfl ?_); refine box_event ?hg (N := 6) ?hd (cs := #[.int .i64 a2_0, .int .i64 a2_1, .int .i64 a2_2, .slice A2_3 l2_3.length c2_3]) (t := 39) ?hr ?_; (case hd => rfl); (case hg => rfl); (case hr => first | (go_simp; done) | (go_simp; rfl)); intro gb102 hg w34 hbox hb; have n0_ := Aside0.mk (below_step (by repeat (first | (with_reducible first | exact HB.out | apply below_alloc | apply pw_below_drewN | apply below_drew1) | exact HB.out)) hb); have n1_ := Aside0.mk (hbox); have n2_ := Aside0.mk ((by rw [hg]; exact (below_size (by repeat (first | (with_reducible first | exact HB.out | apply below_alloc | apply pw_below_drewN | apply below_drew1) | exact HB.out))) : w.heap.size ≤ gb102)); have n3_ := Aside0.mk ((by rw [hg]; exact (below_size (by repeat (first | (with_reducible first | exact HB.out | apply below_alloc | apply pw_below_drewN | apply below_drew1) | exact HB.out))) : w.heap.size ≤ gb102)); clear HB; have HB := n0_; have BK102 := n1_; have GW102 := n2_; have GE102 := n3_; clear n0_ n1_ n2_ n3_; clear hb hbox hg))
                  go_ret
                  exact ⟨by first | rfl | (simp [errW_none, errW_some] <;> rfl) | (simp [*, errW_none, errW_some] <;> rfl), by repeat (first | (with_reducible first | exact HB.out | apply below_alloc | apply pw_below_drewN | apply below_drew1 | refine below_set ?_ GE102.out) | exact HB.out)⟩
            · rw [if_neg c29] at H
              have c29b0 : (a0 == 4) = false := beq_eq_false_iff_ne.mpr c29
              have c29b1 : (a0 != 4) = true := bne_iff_ne.mpr c29
              by_cases c35 : a1 ≥ 0
              · rw [if_pos c35] at H
                have c35b0 : decide (0 ≤ a1) = true := decide_eq_true c35
                clear c35
                obtain rfl := Option.some.inj H
                go_enter Tryd.func68, Tryd.ntmps68
                go_wp2_with (first | ((with_reducible refine gate_dst (N := 6) rfl ?_); refine box_event ?hg (N := 6) ?hd (cs := #[.int .i64 a2_0, .int .i64 a2_1, .int .i64 a2_2, .slice A2_3 l2_3.length c2_3]) (t := 39) ?hr ?_; (case hd => rfl); (case hg => rfl); (case hr => first | (go_simp; done) | (go_simp; rfl)); intro gb102 hg w36 hbox hb; have n0_ := Aside0.mk (below_step (by repeat (first | (with_reducible first | exact HB.out | apply below_alloc | apply pw_below_drewN | apply below_drew1) | exact HB.out)) hb); have n1_ := Aside0.mk (hbox); have n2_ := Aside0.mk ((by rw [hg]; exact (below_size (by repeat (first | (with_reducible first | exact HB.out | apply below_alloc | apply pw_below_drewN | apply below_drew1) | exact HB.out))) : w.heap.size ≤ gb102)); have n3_ := Aside0.mk ((by rw [hg]; exact (below_size (by repeat (first | (with_reducible first | exact HB.out | apply below_alloc | apply pw_below_drewN | apply below_drew1) | exact HB.out))) : w.heap.size ≤ gb102)); clear HB; have HB := n0_; have BK102 := n1_; have GW102 := n2_; have GE102 := n3_; clear n0_ n1_ n2_ n3_; clear hb hbox hg))
                go_ret
                exact ⟨by first | rfl | (simp [errW_none, errW_some] <;> rfl) | (simp [*, errW_none, errW_some] <;> rfl), by repeat (first | (with_reducible first | exact HB.out | apply below_alloc | apply pw_below_drewN | apply below_drew1 | refine below_set ?_ GE102.out) | exact HB.out)⟩
              · rw [if_neg c35] at H
                have c35b0 : decide (0 ≤ a1) = false := decide_eq_false c35
                clear c35
                obtain rfl := Option.some.inj H
                go_enter Tryd.func68, Tryd.ntmps68
                go_wp2_with (first | ((with_reducible refine gate_dst (N := 6) rfl ?_); refine box_event ?hg (N := 6) ?hd (cs := #[.int .i64 a2_0, .int .i64 a2_1, .int .i64 a2_2, .slice A2_3 l2_3.length c2_3]) (t := 39) ?hr ?_; (case hd => rfl); (case hg => rfl); (case hr => first | (go_simp; done) | (go_simp; rfl)); intro gb102 hg w37 hbox hb; have n0_ := Aside0.mk (below_step (by repeat (first | (with_reducible first | exact HB.out | apply below_alloc | apply pw_below_drewN | apply below_drew1) | exact HB.out)) hb); have n1_ := Aside0.mk (hbox); have n2_ := Aside0.mk ((by rw [hg]; exact (below_size (by repeat (first | (with_reducible first | exact HB.out | apply below_alloc | apply pw_below_drewN | apply below_drew1) | exact HB.out))) : w.heap.size ≤ gb102)); have n3_ := Aside0.mk ((by rw [hg]; exact (below_size (by repeat (first | (with_reducible first | exact HB.out | apply below_alloc | apply pw_below_drewN | apply below_drew1) | exact HB.out))) : w.heap.size ≤ gb102)); clear HB; have HB := n0_; have BK102 := n1_; have GW102 := n2_; have GE102 := n3_; clear n0_ n1_ n2_ n3_; clear hb hbox hg))
                go_ret
                exact ⟨by first | rfl | (simp [errW_none, errW_some] <;> rfl) | (simp [*, errW_none, errW_some] <;> rfl), by repeat (first | (with_reducible first | exact HB.out | apply below_alloc | apply pw_below_drewN | apply below_drew1 | refine below_set ?_ GE102.out) | exact HB.out)⟩

/-! ### prog_lastOK: function 62 -/
def prog_lastOK.f (a0_0 : Int) (a0_1 : Int) (a0_2 : Int) (l0_3 : List (S36)) : Option (Bool) := if 0 ≤ (wrap64 ((l0_3.length : Int) - 1)) then (if (wrap64 ((l0_3.length : Int) - 1)) < (l0_3.length : Int) then (if ((rd_T36 l0_3 (wrap64 ((l0_3.length : Int) - 1))).f0) = 3 then (some true) else (some (((rd_T36 l0_3 (wrap64 ((l0_3.length : Int) - 1))).f0) == 9))) else (none)) else (none)
set_option maxHeartbeats 8000000 in
set_option maxRecDepth 100000 in
theorem prog_lastOK.calls (a0_0 : Int) (a0_1 : Int) (a0_2 : Int) (A0_3 : Option Addr) (c0_3 : Nat) (l0_3 : List (S36)) (r : Bool) (w : World) (hr0_3 : Kd.C k36 w A0_3 l0_3.length l0_3) (hc0_3 : l0_3.length ≤ c0_3) (h : prog_lastOK.f a0_0 a0_1 a0_2 l0_3 = some r) :
    Calls Tryd.prog 62 #[.agg #[.int .i64 a0_0, .int .i64 a0_1, .int .i64 a0_2, .slice A0_3 l0_3.length c0_3]] w fun e w' => e = .returned (.bool r) ∧ Below w.heap.size w w' := by
  have hu39 := Tryd.underlying39
  have HR0_3 := Aside0.mk hr0_3
  have HC0_3 := Aside0.mk hc0_3
  clear hr0_3 hc0_3
  have HB := Aside0.mk (Below.refl w.heap.size w)
  have H : (if 0 ≤ (wrap64 ((l0_3.length : Int) - 1)) then (if (wrap64 ((l0_3.length : Int) - 1)) < (l0_3.length : Int) then (if ((rd_T36 l0_3 (wrap64 ((l0_3.length : Int) - 1))).f0) = 3 then (some true) else (some (((rd_T36 l0_3 (wrap64 ((l0_3.length : Int) - 1))).f0) == 9))) else (none)) else (none)) = some r := h
  clear h
  obtain ⟨ji2, hji2⟩ : ∃ j_ : Int, (wrap64 ((l0_3.length : Int) - 1)) = j_ := ⟨_, rfl⟩
  replace H : (if 0 ≤ (ji2) then (if (ji2) < (l0_3.length : Int) then (if ((rd_T36 l0_3 (ji2)).f0) = 3 then (some true) else (some (((rd_T36 l0_3 (ji2)).f0) == 9))) else (none)) else (none)) = some r := by first | (rw [hji2] at H; exact H) | (simp only [hji2] at H ⊢; exact H)
  have hji2w : (IntKind.i64.wrap ((l0_3.length : Int) - 1)) = ji2 := (i64_w _).trans hji2
  by_cases c3 : 0 ≤ (ji2)
  · rw [if_pos c3] at H
    have c3b0 : decide (0 ≤ (ji2)) = true := decide_eq_true c3
    clear c3
    by_cases c4 : (ji2) < (l0_3.length : Int)
    · rw [if_pos c4] at H
      have c4b0 : decide ((ji2) < (l0_3.length : Int)) = true := decide_eq_true c4
      clear c4
      by_cases c5 : ((rd_T36 l0_3 (ji2)).f0) = 3
      · rw [if_pos c5] at H
        have c5b0 : (((rd_T36 l0_3 (ji2)).f0) == 3) = true := beq_iff_eq.mpr c5
        have c5b1 : (((rd_T36 l0_3 (ji2)).f0) != 3) = false := bne_eq_false_iff_eq.mpr c5
        clear c5
        obtain rfl := Option.some.inj H
        go_enter Tryd.func62, Tryd.ntmps62
        go_wp2_with (first | ((with_reducible refine gate_dst (N := 1) rfl ?_); refine box_event ?hg (N := 1) ?hd (cs := #[.int .i64 a0_0, .int .i64 a0_1, .int .i64 a0_2, .slice A0_3 l0_3.length c0_3]) (t := 39) ?hr ?_; (case hd => rfl); (case hg => rfl); (case hr => first | (go_simp; done) | (go_simp; rfl)); intro gb103 hg w6 hbox hb; have n0_ := Aside0.mk (below_step (by repeat (first | (with_reducible first | exact HB.out | apply below_alloc | apply pw_below_drewN | apply below_drew1) | exact HB.out)) hb); have n1_ := Aside0.mk (hbox); have n2_ := Aside0.mk ((by rw [hg]; exact (below_size (by repeat (first | (with_reducible first | exact HB.out | apply below_alloc | apply pw_below_drewN | apply below_drew1) | exact HB.out))) : w.heap.size ≤ gb103)); have n3_ := Aside0.mk ((by rw [hg]; exact (below_size (by repeat (first | (with_reducible first | exact HB.out | apply below_alloc | apply pw_below_drewN | apply below_drew1) | exact HB.out))) : w.heap.size ≤ gb103)); clear HB; have HB := n0_; have BK103 := n1_; have GW103 := n2_; have GE103 := n3_; clear n0_ n1_ n2_ n3_; clear hb hbox hg; have hcz7_0 : w6.cell? ⟨gb103, 0, none⟩ = some (.int .i64 a0_0) := (blk_cell BK103.out 0).trans rfl; have hcz7_1 : w6.cell? ⟨gb103, 1, none⟩ = some (.int .i64 a0_1) := (blk_cell BK103.out 1).trans rfl; have hcz7_2 : w6.cell? ⟨gb103, 2, none⟩ = some (.int .i64 a0_2) := (blk_cell BK103.out 2).trans rfl; have hcz7_3 : w6.cell? ⟨gb103, 3, none⟩ = some (.slice A0_3 l0_3.length c0_3) := (blk_cell BK103.out 3).trans rfl; have hfz7_0 := blk_frozen BK103.out 0; have hfz7_1 := blk_frozen BK103.out 1; have hfz7_2 := blk_frozen BK103.out 2; have hfz7_3 := blk_frozen BK103.out 3; have p104 : 0 ≤ ((ji2) : Int) := of_decide_eq_true (by first | (with_reducible assumption) | assumption); have q104 : (ji2) < (l0_3.length : Int) := of_decide_eq_true (by first | (with_reducible assumption) | assumption); obtain ⟨ad104, e104, hx104_0, hx104_1, hx104_2, hx104_3, hx104_4⟩ := at_T36 HR0_3.out (ji2) p104 q104; cases e104; replace hx104_0 := (HB.out.cell (World.block_lt_of_cell? w _ hx104_0)).trans hx104_0; replace hx104_1 := (HB.out.cell (World.block_lt_of_cell? w _ hx104_1)).trans hx104_1; replace hx104_2 := (HB.out.cell (World.block_lt_of_cell? w _ hx104_2)).trans hx104_2; replace hx104_3 := (HB.out.cell (World.block_lt_of_cell? w _ hx104_3)).trans hx104_3; replace hx104_4 := (HB.out.cell (World.block_lt_of_cell? w _ hx104_4)).trans hx104_4; replace p104 := eq_true p104; replace q104 := eq_true q104))
        go_ret
        exact ⟨by first | rfl | (simp [errW_none, errW_some] <;> rfl) | (simp only [← hji2]; first | rfl | (simp [errW_none, errW_some] <;> rfl)) | (simp [*, errW_none, errW_some] <;> rfl), by repeat (first | (with_reducible first | exact HB.out | apply below_alloc | apply pw_below_drewN | apply below_drew1 | refine below_set ?_ GE103.out) | exact HB.out)⟩
      · rw [if_neg c5] at H
        have c5b0 : (((rd_T36 l0_3 (ji2)).f0) == 3) = false := beq_eq_false_iff_ne.mpr c5
        have c5b1 : (((rd_T36 l0_3 (ji2)).f0) != 3) = true := bne_iff_ne.mpr c5
        obtain rfl := Option.some.inj H
        go_enter Tryd.func62, Tryd.ntmps62
        go_wp2_with (first | ((with_reducible refine gate_dst (N := 1) rfl ?_); refine box_event ?hg (N := 1) ?hd (cs := #[.int .i64 a0_0, .int .i64 a0_1, .int .i64 a0_2, .slice A0_3 l0_3.length c0_3]) (t := 39) ?hr ?_; (case hd => rfl); (case hg => rfl); (case hr => first | (go_simp; done) | (go_simp; rfl)); intro gb103 hg w8 hbox hb; have n0_ := Aside0.mk (below_step (by repeat (first | (with_reducible first | exact HB.out | apply below_alloc | apply pw_below_drewN | apply below_drew1) | exact HB.out)) hb); have n1_ := Aside0.mk (hbox); have n2_ := Aside0.mk ((by rw [hg]; exact (below_size (by repeat (first | (with_reducible first | exact HB.out | apply below_alloc | apply pw_below_drewN | apply below_drew1) | exact HB.out))) : w.heap.size ≤ gb103)); have n3_ := Aside0.mk ((by rw [hg]; exact (below_size (by repeat (first | (with_reducible first | exact HB.out | apply below_alloc | apply pw_below_drewN | apply below_drew1) | exact HB.out))) : w.heap.size ≤ gb103)); clear HB; have HB := n0_; have BK103 := n1_; have GW103 := n2_; have GE103 := n3_; clear n0_ n1_ n2_ n3_; clear hb hbox hg; have hcz9_0 : w8.cell? ⟨gb103, 0, none⟩ = some (.int .i64 a0_0) := (blk_cell BK103.out 0).trans rfl; have hcz9_1 : w8.cell? ⟨gb103, 1, none⟩ = some (.int .i64 a0_1) := (blk_cell BK103.out 1).trans rfl; have hcz9_2 : w8.cell? ⟨gb103, 2, none⟩ = some (.int .i64 a0_2) := (blk_cell BK103.out 2).trans rfl; have hcz9_3 : w8.cell? ⟨gb103, 3, none⟩ = some (.slice A0_3 l0_3.length c0_3) := (blk_cell BK103.out 3).trans rfl; have hfz9_0 := blk_frozen BK103.out 0; have hfz9_1 := blk_frozen BK103.out 1; have hfz9_2 := blk_frozen BK103.out 2; have hfz9_3 := blk_frozen BK103.out 3; have p104 : 0 ≤ ((ji2) : Int) := of_decide_eq_true (by first | (with_reducible assumption) | assumption); have q104 : (ji2) < (l0_3.length : Int) := of_decide_eq_true (by first | (with_reducible assumption) | assumption); obtain ⟨ad104, e104, hx104_0, hx104_1, hx104_2, hx104_3, hx104_4⟩ := at_T36 HR0_3.out (ji2) p104 q104; cases e104; replace hx104_0 := (HB.out.cell (World.block_lt_of_cell? w _ hx104_0)).trans hx104_0; replace hx104_1 := (HB.out.cell (World.block_lt_of_cell? w _ hx104_1)).trans hx104_1; replace hx104_2 := (HB.out.cell (World.block_lt_of_cell? w _ hx104_2)).trans hx104_2; replace hx104_3 := (HB.out.cell (World.block_lt_of_cell? w _ hx104_3)).trans hx104_3; replace hx104_4 := (HB.out.cell (World.block_lt_of_cell? w _ hx104_4)).trans hx104_4; replace p104 := eq_true p104; replace q104 := eq_true q104))
        go_ret
        exact ⟨by first | rfl | (simp [errW_none, errW_some] <;> rfl) | (simp only [← hji2]; first | rfl | (simp [errW_none, errW_some] <;> rfl)) | (simp [*, errW_none, errW_some] <;> rfl), by repeat (first | (with_reducible first | exact HB.out | apply below_alloc | apply pw_below_drewN | apply below_drew1 | refine below_set ?_ GE103.out) | exact HB.out)⟩
    · rw [if_neg c4] at H
      exact absurd H (by simp)
  · rw [if_neg c3] at H
    exact absurd H (by simp)

/-! ### prog_behind: function 78 -/
def prog_behind.j0 : Nat → Int → Bool → Int → Int → Int → Int → Int → Option (Int)
  | 0, _, _, _, _, _, _, _ => none
  | k + 1, x2, x7, x106000, x106001, x106002, x106003, x106004 => if x7 = true then (some 2) else (if x106000 = 6 then (if x2 = 2 then (some 4) else (some x2)) else (some x2))
def prog_behind.f (k : Nat) (a0_0 : Int) (a0_1 : Int) (a0_2 : Int) (a0_3 : Int) (a0_4 : Int) (a1 : Int) (a2 : Int) : Option (Int) := if a0_0 = 5 then (prog_behind.j0 k a2 (a0_1 == a1) a0_0 a0_1 a0_2 a0_3 a0_4) else (prog_behind.j0 k a2 false a0_0 a0_1 a0_2 a0_3 a0_4)
theorem prog_behind.mono_l : ∀ k, (∀ y0 y1 y2 y3 y4 y5 y6, LeO (prog_behind.j0 k y0 y1 y2 y3 y4 y5 y6) (prog_behind.j0 (k + 1) y0 y1 y2 y3 y4 y5 y6))
  | 0 => fun _ _ _ _ _ _ _ r h => by simp [prog_behind.j0] at h
  | k + 1 => by
    have ih0 := prog_behind.mono_l k
    · intro y0 y1 y2 y3 y4 y5 y6
      unfold prog_behind.j0
      repeat' first
      | (with_reducible exact ih0 _ _ _ _ _ _ _)
      | (with_reducible exact LeO.refl _)
      | (with_reducible exact LeO.none _)
      | (with_reducible refine LeO.ite ?_ ?_)
      | (with_reducible refine LeO.bind ?_ (fun _ => ?_))
      | exact ih0 _ _ _ _ _ _ _
      | exact LeO.none _
      | refine LeO.ite ?_ ?_
      | refine LeO.bind ?_ (fun _ => ?_)
theorem prog_behind.mono : ∀ a0 a1 a2 a3 a4 a5 a6 k, LeO (prog_behind.f k a0 a1 a2 a3 a4 a5 a6) (prog_behind.f (k + 1) a0 a1 a2 a3 a4 a5 a6) := by
  intro a0 a1 a2 a3 a4 a5 a6 k
  have ih0 := prog_behind.mono_l k
  unfold prog_behind.f
  repeat' first
      | (with_reducible exact ih0 _ _ _ _ _ _ _)
      | (with_reducible exact LeO.refl _)
      | (with_reducible exact LeO.none _)
      | (with_reducible refine LeO.ite ?_ ?_)
      | (with_reducible refine LeO.bind ?_ (fun _ => ?_))
      | exact ih0 _ _ _ _ _ _ _
      | exact LeO.none _
      | refine LeO.ite ?_ ?_
      | refine LeO.bind ?_ (fun _ => ?_)
set_option maxHeartbeats 8000000 in
set_option maxRecDepth 100000 in
theorem prog_behind.calls (k : Nat) (a0_0 : Int) (a0_1 : Int) (a0_2 : Int) (a0_3 : Int) (a0_4 : Int) (a1 : Int) (a2 : Int) (r : Int) (w : World) (h : prog_behind.f k a0_0 a0_1 a0_2 a0_3 a0_4 a1 a2 = some r) :
    Calls Tryd.prog 78 #[.agg #[.int .i64 a0_0, .int .i64 a0_1, .int .i64 a0_2, .int .i64 a0_3, .int .i64 a0_4], .int .i64 a1, .int .i64 a2] w fun e w' => e = .returned (.int .i64 r) ∧ Below w.heap.size w w' := by
  have hu36 := Tryd.underlying36
  have HB := Aside0.mk (Below.refl w.heap.size w)
  have H : (if a0_0 = 5 then (prog_behind.j0 k a2 (a0_1 == a1) a0_0 a0_1 a0_2 a0_3 a0_4) else (prog_behind.j0 k a2 false a0_0 a0_1 a0_2 a0_3 a0_4)) = some r := h
  clear h
  have HC4 := Aside0.mk H
  clear H
  go_enter Tryd.func78, Tryd.ntmps78
  go_upto_region 1 with (first | ((with_reducible refine gate_dst (N := 3) rfl ?_); refine box_event ?hg (N := 3) ?hd (cs := #[.int .i64 a0_0, .int .i64 a0_1, .int .i64 a0_2, .int .i64 a0_3, .int .i64 a0_4]) (t := 36) ?hr ?_; (case hd => rfl); (case hg => rfl); (case hr => first | (go_simp; done) | (go_simp; rfl)); intro gb105 hg w5 hbox hb; have n0_ := Aside0.mk (below_step (by repeat (first | (with_reducible first | exact HB.out | apply below_alloc | apply pw_below_drewN | apply below_drew1) | exact HB.out)) hb); have n1_ := Aside0.mk (hbox); have n2_ := Aside0.mk ((by rw [hg]; exact (below_size (by repeat (first | (with_reducible first | exact HB.out | apply below_alloc | apply pw_below_drewN | apply below_drew1) | exact HB.out))) : w.heap.size ≤ gb105)); have n3_ := Aside0.mk ((by rw [hg]; exact (below_size (by repeat (first | (with_reducible first | exact HB.out | apply below_alloc | apply pw_below_drewN | apply below_drew1) | exact HB.out))) : w.heap.size ≤ gb105)); clear HB; have HB := n0_; have BK105 := n1_; have GW105 := n2_; have GE105 := n3_; clear n0_ n1_ n2_ n3_; clear hb hbox hg))
  (try simp only [Act.put, List.setIfInBounds_toArray, List.set_cons_zero, List.set_cons_succ])
  go_cut [7] (fun v7 wc => ∃ (kq : Nat) (x7_3 : Bool), v7 = .bool x7_3 ∧ Aside0 (prog_behind.j0 kq a2 x7_3 a0_0 a0_1 a0_2 a0_3 a0_4 = some r) ∧ Aside0 (kq ≤ k) ∧ Aside0 (wc.heap[gb105]? = some (.cells #[.int .i64 a0_0, .int .i64 a0_1, .int .i64 a0_2, .int .i64 a0_3, .int .i64 a0_4] 36 (0, 0))) ∧ Aside0 (Below w.heap.size w wc))
  case first =>
    have H := HC4.out
    clear HC4
    by_cases c6 : a0_0 = 5
    · rw [if_pos c6] at H
      have c6b0 : (a0_0 == 5) = true := beq_iff_eq.mpr c6
      have c6b1 : (a0_0 != 5) = false := bne_eq_false_iff_eq.mpr c6
      clear c6
      (first | rw [c6b0] | (simp only [i64_w, i32_w]; rw [c6b0]) | skip)
      have H' := Aside0.mk H
      clear H
      have hcz7_0 : w5.cell? ⟨gb105, 0, none⟩ = some (.int .i64 a0_0) := (blk_cell BK105.out 0).trans rfl
      have hcz7_1 : w5.cell? ⟨gb105, 1, none⟩ = some (.int .i64 a0_1) := (blk_cell BK105.out 1).trans rfl
      have hcz7_2 : w5.cell? ⟨gb105, 2, none⟩ = some (.int .i64 a0_2) := (blk_cell BK105.out 2).trans rfl
      have hcz7_3 : w5.cell? ⟨gb105, 3, none⟩ = some (.int .i64 a0_3) := (blk_cell BK105.out 3).trans rfl
      have hcz7_4 : w5.cell? ⟨gb105, 4, none⟩ = some (.int .i64 a0_4) := (blk_cell BK105.out 4).trans rfl
      have hfz7_0 := blk_frozen BK105.out 0
      have hfz7_1 := blk_frozen BK105.out 1
      have hfz7_2 := blk_frozen BK105.out 2
      have hfz7_3 := blk_frozen BK105.out 3
      have hfz7_4 := blk_frozen BK105.out 4
      go_wp2
      go_meet
      case rel => exact ⟨_, ((a0_1 == a1)), (by first | rfl | (simp; done) | (simp [*]; done)), H', ⟨by first | omega | exact Nat.le_refl _⟩, ⟨by (with_reducible repeat (first | refine blk_drewN ?_ _ | refine blk_drew ?_ | refine blk_alloc ?_ _)); exact BK105.out⟩, ⟨by repeat (first | (with_reducible first | exact HB.out | apply below_alloc | apply pw_below_drewN | apply below_drew1 | refine below_set ?_ GE105.out) | exact HB.out)⟩⟩
    · rw [if_neg c6] at H
      have c6b0 : (a0_0 == 5) = false := beq_eq_false_iff_ne.mpr c6
      have c6b1 : (a0_0 != 5) = true := bne_iff_ne.mpr c6
      (first | rw [c6b0] | (simp only [i64_w, i32_w]; rw [c6b0]) | skip)
      have H' := Aside0.mk H
      clear H
      have hcz8_0 : w5.cell? ⟨gb105, 0, none⟩ = some (.int .i64 a0_0) := (blk_cell BK105.out 0).trans rfl
      have hcz8_1 : w5.cell? ⟨gb105, 1, none⟩ = some (.int .i64 a0_1) := (blk_cell BK105.out 1).trans rfl
      have hcz8_2 : w5.cell? ⟨gb105, 2, none⟩ = some (.int .i64 a0_2) := (blk_cell BK105.out 2).trans rfl
      have hcz8_3 : w5.cell? ⟨gb105, 3, none⟩ = some (.int .i64 a0_3) := (blk_cell BK105.out 3).trans rfl
      have hcz8_4 : w5.cell? ⟨gb105, 4, none⟩ = some (.int .i64 a0_4) := (blk_cell BK105.out 4).trans rfl
      have hfz8_0 := blk_frozen BK105.out 0
      have hfz8_1 := blk_frozen BK105.out 1
      have hfz8_2 := blk_frozen BK105.out 2
      have hfz8_3 := blk_frozen BK105.out 3
      have hfz8_4 := blk_frozen BK105.out 4
      go_wp2
      go_meet
      case rel => exact ⟨_, (false), (by first | rfl | (simp; done) | (simp [*]; done)), H', ⟨by first | omega | exact Nat.le_refl _⟩, ⟨by (with_reducible repeat (first | refine blk_drewN ?_ _ | refine blk_drew ?_ | refine blk_alloc ?_ _)); exact BK105.out⟩, ⟨by repeat (first | (with_reducible first | exact HB.out | apply below_alloc | apply pw_below_drewN | apply below_drew1 | refine below_set ?_ GE105.out) | exact HB.out)⟩⟩
  case rest =>
    clear HC4
    try clear p2
    try clear c6
    try clear c6b0
    try clear c6b1
    try clear c7
    try clear hcz7_0
    try clear hcz7_1
    try clear hcz7_2
    try clear hcz7_3
    try clear hcz7_4
    try clear hcz8_0
    try clear hcz8_1
    try clear hcz8_2
    try clear hcz8_3
    try clear hcz8_4
    try clear hfz7_0
    try clear hfz7_1
    try clear hfz7_2
    try clear hfz7_3
    try clear hfz7_4
    try clear hfz8_0
    try clear hfz8_1
    try clear hfz8_2
    try clear hfz8_3
    try clear hfz8_4
    obtain ⟨kq, x7_3, rfl, HA, HJ3, BK105, HB⟩ := hcut
    cases kq with
    | zero => exact absurd HA.out (by simp [prog_behind.j0])
    | succ kj3 =>
      have H := HA.out
      clear HA
      simp only [prog_behind.j0] at H
      by_cases c9 : x7_3 = true
      · subst c9
        have H1 : (some 2) = some r := by rw [if_pos rfl] at H; exact H
        clear H
        have H := H1
        clear H1
        obtain rfl := Option.some.inj H
        go_wp2
        go_ret
        exact ⟨by first | rfl | (simp [errW_none, errW_some] <;> rfl) | (simp [*, errW_none, errW_some] <;> rfl), by repeat (first | (with_reducible first | exact HB.out | apply below_alloc | apply pw_below_drewN | apply below_drew1 | refine below_set ?_ GE105.out) | exact HB.out)⟩
      · replace c9 := Bool.eq_false_iff.mpr c9
        subst c9
        have H1 : (if a0_0 = 6 then (if a2 = 2 then (some 4) else (some a2)) else (some a2)) = some r := by rw [if_neg (show ¬ (false = true) by decide)] at H; exact H
        clear H
        have H := H1
        clear H1
        by_cases c10 : a0_0 = 6
        · rw [if_pos c10] at H
          have c10b0 : (a0_0 == 6) = true := beq_iff_eq.mpr c10
          have c10b1 : (a0_0 != 6) = false := bne_eq_false_iff_eq.mpr c10
          clear c10
          by_cases c11 : a2 = 2
          · rw [if_pos c11] at H
            have c11b0 : (a2 == 2) = true := beq_iff_eq.mpr c11
            have c11b1 : (a2 != 2) = false := bne_eq_false_iff_eq.mpr c11
            clear c11
            obtain rfl := Option.some.inj H
            have hcz12_0 : wc.cell? ⟨gb105, 0, none⟩ = some (.int .i64 a0_0) := (blk_cell BK105.out 0).trans rfl
            have hcz12_1 : wc.cell? ⟨gb105, 1, none⟩ = some (.int .i64 a0_1) := (blk_cell BK105.out 1).trans rfl
            have hcz12_2 : wc.cell? ⟨gb105, 2, none⟩ = some (.int .i64 a0_2) := (blk_cell BK105.out 2).trans rfl
            have hcz12_3 : wc.cell? ⟨gb105, 3, none⟩ = some (.int .i64 a0_3) := (blk_cell BK105.out 3).trans rfl
            have hcz12_4 : wc.cell? ⟨gb105, 4, none⟩ = some (.int .i64 a0_4) := (blk_cell BK105.out 4).trans rfl
            have hfz12_0 := blk_frozen BK105.out 0
            have hfz12_1 := blk_frozen BK105.out 1
            have hfz12_2 := blk_frozen BK105.out 2
            have hfz12_3 := blk_frozen BK105.out 3
            have hfz12_4 := blk_frozen BK105.out 4
            go_wp2
            go_ret
            exact ⟨by first | rfl | (simp [errW_none, errW_some] <;> rfl) | (simp [*, errW_none, errW_some] <;> rfl), by repeat (first | (with_reducible first | exact HB.out | apply below_alloc | apply pw_below_drewN | apply below_drew1 | refine below_set ?_ GE105.out) | exact HB.out)⟩
          · rw [if_neg c11] at H
            have c11b0 : (a2 == 2) = false := beq_eq_false_iff_ne.mpr c11
            have c11b1 : (a2 != 2) = true := bne_iff_ne.mpr c11
            obtain rfl := Option.some.inj H
            have hcz13_0 : wc.cell? ⟨gb105, 0, none⟩ = some (.int .i64 a0_0) := (blk_cell BK105.out 0).trans rfl
            have hcz13_1 : wc.cell? ⟨gb105, 1, none⟩ = some (.int .i64 a0_1) := (blk_cell BK105.out 1).trans rfl
            have hcz13_2 : wc.cell? ⟨gb105, 2, none⟩ = some (.int .i64 a0_2) := (blk_cell BK105.out 2).trans rfl
            have hcz13_3 : wc.cell? ⟨gb105, 3, none⟩ = some (.int .i64 a0_3) := (blk_cell BK105.out 3).trans rfl
            have hcz13_4 : wc.cell? ⟨gb105, 4, none⟩ = some (.int .i64 a0_4) := (blk_cell BK105.out 4).trans rfl
            have hfz13_0 := blk_frozen BK105.out 0
            have hfz13_1 := blk_frozen BK105.out 1
            have hfz13_2 := blk_frozen BK105.out 2
            have hfz13_3 := blk_frozen BK105.out 3
            have hfz13_4 := blk_frozen BK105.out 4
            go_wp2
            go_ret
            exact ⟨by first | rfl | (simp [errW_none, errW_some] <;> rfl) | (simp [*, errW_none, errW_some] <;> rfl), by repeat (first | (with_reducible first | exact HB.out | apply below_alloc | apply pw_below_drewN | apply below_drew1 | refine below_set ?_ GE105.out) | exact HB.out)⟩
        · rw [if_neg c10] at H
          have c10b0 : (a0_0 == 6) = false := beq_eq_false_iff_ne.mpr c10
          have c10b1 : (a0_0 != 6) = true := bne_iff_ne.mpr c10
          obtain rfl := Option.some.inj H
          have hcz14_0 : wc.cell? ⟨gb105, 0, none⟩ = some (.int .i64 a0_0) := (blk_cell BK105.out 0).trans rfl
          have hcz14_1 : wc.cell? ⟨gb105, 1, none⟩ = some (.int .i64 a0_1) := (blk_cell BK105.out 1).trans rfl
          have hcz14_2 : wc.cell? ⟨gb105, 2, none⟩ = some (.int .i64 a0_2) := (blk_cell BK105.out 2).trans rfl
          have hcz14_3 : wc.cell? ⟨gb105, 3, none⟩ = some (.int .i64 a0_3) := (blk_cell BK105.out 3).trans rfl
          have hcz14_4 : wc.cell? ⟨gb105, 4, none⟩ = some (.int .i64 a0_4) := (blk_cell BK105.out 4).trans rfl
          have hfz14_0 := blk_frozen BK105.out 0
          have hfz14_1 := blk_frozen BK105.out 1
          have hfz14_2 := blk_frozen BK105.out 2
          have hfz14_3 := blk_frozen BK105.out 3
          have hfz14_4 := blk_frozen BK105.out 4
          go_wp2
          go_ret
          exact ⟨by first | rfl | (simp [errW_none, errW_some] <;> rfl) | (simp [*, errW_none, errW_some] <;> rfl), by repeat (first | (with_reducible first | exact HB.out | apply below_alloc | apply pw_below_drewN | apply below_drew1 | refine below_set ?_ GE105.out) | exact HB.out)⟩

end Go.Proofs.YtcioegimmjppcaaDoor.P
/-! Words for walks by hand: the blocks that a call has made, each with its cells, and what goes on leaving them. -/
namespace Go.Proofs.YtcioegimmjppcaaDoor.P
open Go.RowKit Go.Proofs.YtcioegimmjppcaaDoorW.PrintWords Go.Proofs.YtcioegimmjppcaaDoorW.PrintLast Go.Proofs.YtcioegimmjppcaaDoorW.PrintMore
set_option linter.unusedVariables false

structure Locs (w W : World) (bs : List (Nat × Array Value × TypeId)) : Prop where
  below : Below w.heap.size w W
  blk : ∀ b ∈ bs, W.heap[b.1]? = some (.cells b.2.1 b.2.2 (0, 0))
  new : ∀ b ∈ bs, w.heap.size ≤ b.1
  apart : bs.Pairwise (fun a b => a.1 ≠ b.1)

def factsOf (W : World) : List (Nat × Array Value × TypeId) → Prop
  | [] => True
  | b :: r => ((∀ j, W.cell? ⟨b.1, j, none⟩ = b.2.1[j]?) ∧ (∀ j, W.frozen? ⟨b.1, j, none⟩ = false)) ∧ factsOf W r

theorem factsOf_all {W : World} : ∀ (bs : List (Nat × Array Value × TypeId)), (∀ b ∈ bs, W.heap[b.1]? = some (.cells b.2.1 b.2.2 (0, 0))) → factsOf W bs
  | [], _ => trivial
  | b :: r, h => ⟨⟨fun j => blk_cell (h b List.mem_cons_self) j, fun j => blk_frozen (h b List.mem_cons_self) j⟩, factsOf_all r (fun x hx => h x (List.mem_cons_of_mem _ hx))⟩

section
variable {w W W1 : World} {bs : List (Nat × Array Value × TypeId)}
theorem Locs.nil (w : World) : Locs w w [] := ⟨Below.refl _ _, fun b h => (List.not_mem_nil h).elim, fun b h => (List.not_mem_nil h).elim, List.Pairwise.nil⟩
theorem Locs.facts (h : Locs w W bs) : factsOf W bs := factsOf_all bs h.blk
theorem Locs.step (h : Locs w W bs) (k : Below W.heap.size W W1) : Locs w W1 bs :=
  ⟨below_step h.below k, fun b hb => blk_below (h.blk b hb) k, h.new, h.apart⟩
theorem Locs.drew (h : Locs w W bs) : Locs w W.drew bs := ⟨below_drew1 h.below, h.blk, h.new, h.apart⟩
theorem Locs.drewN (h : Locs w W bs) (n : Nat) : Locs w (W.drewN n) bs := ⟨pw_below_drewN h.below n, h.blk, h.new, h.apart⟩
theorem Locs.at (h : Locs w W bs) (i : Nat) {g : Nat} {cs : Array Value} {t : TypeId} (hi : bs[i]? = some (g, cs, t)) : W.heap[g]? = some (.cells cs t (0, 0)) := h.blk _ (List.mem_of_getElem? hi)
theorem Locs.ge (h : Locs w W bs) (i : Nat) {g : Nat} {cs : Array Value} {t : TypeId} (hi : bs[i]? = some (g, cs, t)) : w.heap.size ≤ g := h.new _ (List.mem_of_getElem? hi)
theorem Locs.lt (h : Locs w W bs) (b : Nat × Array Value × TypeId) (hb : b ∈ bs) : b.1 < W.heap.size := blk_lt (h.blk b hb)
theorem Locs.alloc (h : Locs w W bs) (cs : Array Value) (t : TypeId) : Locs w (W.alloc (.cells cs t (0, 0))) ((W.heap.size, cs, t) :: bs) := by
  refine ⟨below_alloc h.below _, fun b hb => ?_, fun b hb => ?_, List.Pairwise.cons (fun b hb => ?_) h.apart⟩
  · rcases List.mem_cons.1 hb with rfl | hb
    · exact blk_new W _
    · exact blk_alloc (h.blk b hb) _
  · rcases List.mem_cons.1 hb with rfl | hb
    · exact h.below.size
    · exact h.new b hb
  · exact Nat.ne_of_gt (h.lt b hb)
theorem Locs.set (h : Locs w W bs) (i : Nat) {g : Nat} {cs : Array Value} {t : TypeId} (hi : bs[i]? = some (g, cs, t)) (j : Nat) (v : Value) :
    Locs w (W.setCell ⟨g, j, none⟩ v) (bs.set i (g, cs.setIfInBounds j v, t)) := by
  have hlt : i < bs.length := (List.getElem?_eq_some_iff.1 hi).1
  have hgi : bs[i] = (g, cs, t) := (List.getElem?_eq_some_iff.1 hi).2
  have hkeys : (bs.set i (g, cs.setIfInBounds j v, t)).map (·.1) = bs.map (·.1) := by
    rw [List.map_set]
    have : (bs.map (·.1))[i]? = some g := by rw [List.getElem?_map, hi]; rfl
    apply List.ext_getElem?
    intro k
    by_cases hk : i = k
    · subst hk
      rw [List.getElem?_set_self (by simpa using hlt), this]
    · rw [List.getElem?_set_ne hk]
  refine ⟨below_set h.below (h.ge i hi), fun b hb => ?_, fun b hb => ?_, ?_⟩
  · obtain ⟨k, hk⟩ := List.mem_iff_getElem?.1 hb
    by_cases hki : i = k
    · subst hki
      rw [List.getElem?_set_self hlt] at hk
      injection hk with hk
      subst hk
      exact blk_set (h.at i hi) j v
    · rw [List.getElem?_set_ne hki] at hk
      have hkl : k < bs.length := (List.getElem?_eq_some_iff.1 hk).1
      have hne : b.1 ≠ g := by
        have hbk : bs[k] = b := (List.getElem?_eq_some_iff.1 hk).2
        have hp := List.pairwise_iff_getElem.1 h.apart
        rcases Nat.lt_or_gt_of_ne hki with hl | hl
        · have := hp i k hlt hkl hl
          rw [hgi, hbk] at this
          exact fun e => this e.symm
        · have := hp k i hkl hlt hl
          rw [hgi, hbk] at this
          exact this
      exact (Below.heap_setCell W ⟨g, j, none⟩ v b.1 hne).trans (h.blk b (List.mem_of_getElem? hk))
  · have : b.1 ∈ bs.map (·.1) := by rw [← hkeys]; exact List.mem_map.2 ⟨b, hb, rfl⟩
    obtain ⟨b2, hb2, e⟩ := List.mem_map.1 this
    rw [← e]; exact h.new b2 hb2
  · have h1 : (bs.map (·.1)).Pairwise (· ≠ ·) := List.pairwise_map.2 h.apart
    rw [← hkeys] at h1
    exact List.pairwise_map.1 h1
/-- some of them -/
theorem Locs.sub (h : Locs w W bs) {bs' : List (Nat × Array Value × TypeId)} (hs : bs'.Sublist bs) : Locs w W bs' :=
  ⟨h.below, fun b hb => h.blk b (hs.subset hb), fun b hb => h.new b (hs.subset hb), h.apart.sublist hs⟩
end
section
variable {P : Program} {ops : Array Oper} {rest : List Oper} {o : Oper} {a : Act} {Q : Exit → Act → World → Prop}
theorem box_locs {w W : World} {bs : List (Nat × Array Value × TypeId)} (HL : Locs w W bs) (hgd : o.guard = none) {N : Tmp} (_hd : o.dst = some N) {cs : Array Value} {t : TypeId}
    (hrun : (execOp a.eval o).run P W = .ok (.value (.pointer (some ⟨W.heap.size, 0, none⟩))) (W.alloc (.cells cs t (0, 0))))
    (h : ∀ g w1, Aside0 (Locs w w1 ((g, cs, t) :: bs)) → Aside0 (Below W.heap.size W w1) → wpList P ops Q rest (a.put o.dst (.pointer (some ⟨g, 0, none⟩))) w1) : wpList P ops Q (o :: rest) a W :=
  Kd.event_run hgd hrun (h _ _ ⟨HL.alloc cs t⟩ ⟨below_alloc (Below.refl _ _) _⟩)
end

theorem Locs.grown {w W W1 : World} {bs : List (Nat × Array Value × TypeId)} (h : Locs w W bs) {row : Option Nat} (hb : Below w.heap.size w W1) (hg : W.grownBy W1 row) (hne : ∀ b ∈ bs, some b.1 ≠ row) : Locs w W1 bs :=
  ⟨hb, fun b hb' => blk_grown (h.blk b hb') hg (hne b hb'), h.new, h.apart⟩

/-! ### the table of the kinds -/
def tabA (k : Int) : Int := if k = 3 then 3 else if k = 5 then 2 else if k = 6 then 0 else 1
def tabB (k : Int) : Int := if k = 1 then 1 else if k = 2 then 1 else if k = 4 then 3 else if k = 5 then 4 else if k = 7 then 2 else 0
def tabC (k : Int) : Int := if k = 2 then 1 else 0
def tabK (k : Int) : Int := if k = 2 then 5 else 0
def tabN (k : Int) : Bool := !(k == 3 || k == 9)

/-- the table lies in memory -/
def Tab (w : World) : Prop := ∀ k : Int, 0 ≤ k → k < 10 →
  w.cell? ⟨0, k.toNat * 5, none⟩ = some (.int .i64 (tabA k)) ∧ w.cell? ⟨0, k.toNat * 5 + 1, none⟩ = some (.int .i64 (tabB k)) ∧ w.cell? ⟨0, k.toNat * 5 + 2, none⟩ = some (.int .i64 (tabC k)) ∧
  w.cell? ⟨0, k.toNat * 5 + 3, none⟩ = some (.int .i64 (tabK k)) ∧ w.cell? ⟨0, k.toNat * 5 + 4, none⟩ = some (.bool (tabN k))

theorem Tab.size {w : World} (h : Tab w) : 0 < w.heap.size := by
  have h1 := (h 0 (by decide) (by decide)).1
  rcases Nat.lt_or_ge 0 w.heap.size with h2 | h2
  · exact h2
  · have : w.heap[0]? = none := Array.getElem?_eq_none (by omega)
    simp [World.cell?, this] at h1

theorem Tab.below {w W : World} (h : Tab w) (hb : Below w.heap.size w W) : Tab W := by
  intro k h0 h1
  have hc : ∀ j v, w.cell? ⟨0, j, none⟩ = some v → W.cell? ⟨0, j, none⟩ = some v := fun j v hv => by
    have e := hb.block 0 h.size
    simp only [World.cell?] at hv ⊢
    rw [e]
    exact hv
  obtain ⟨a, b, c, d, e⟩ := h k h0 h1
  exact ⟨hc _ _ a, hc _ _ b, hc _ _ c, hc _ _ d, hc _ _ e⟩

/-- an instruction of a list, its cells -/
theorem ins_cells {w W : World} {A : Option Addr} {l : List S36} (h : Kd.C k36 w A l.length l) (hb : Below w.heap.size w W) (i : Int) (h0 : 0 ≤ i) (h1 : i < l.length) : ∃ ad, A = some ad ∧ ∀ W, Below w.heap.size w W →
    W.cell? (ad.add (i.toNat * 5)) = some (.int .i64 (rd_T36 l i).f0) ∧ W.cell? ⟨(ad.add (i.toNat * 5)).block, (ad.add (i.toNat * 5)).off + 1, none⟩ = some (.int .i64 (rd_T36 l i).f1) ∧
    W.cell? ⟨(ad.add (i.toNat * 5)).block, (ad.add (i.toNat * 5)).off + 2, none⟩ = some (.int .i64 (rd_T36 l i).f2) ∧ W.cell? ⟨(ad.add (i.toNat * 5)).block, (ad.add (i.toNat * 5)).off + 3, none⟩ = some (.int .i64 (rd_T36 l i).f3) ∧
    W.cell? ⟨(ad.add (i.toNat * 5)).block, (ad.add (i.toNat * 5)).off + 4, none⟩ = some (.int .i64 (rd_T36 l i).f4) := by
  obtain ⟨ad, e0, -⟩ := at_T36 h i h0 h1
  refine ⟨ad, e0, fun W hW => ?_⟩
  obtain ⟨ad2, e0', e1, e2, e3, e4, e5⟩ := at_T36 (Kd.C_below h hW) i h0 h1
  rw [e0] at e0'
  cases e0'
  exact ⟨e1, e2, e3, e4, e5⟩
end Go.Proofs.YtcioegimmjppcaaDoor.P
/-! prog.follow (machine side): it answers the places where an instruction may go on. -/
namespace Go.Proofs.YtcioegimmjppcaaDoor.P
open Go.RowKit Go.Proofs.YtcioegimmjppcaaDoorW.PrintWords Go.Proofs.YtcioegimmjppcaaDoorW.PrintLast Go.Proofs.YtcioegimmjppcaaDoorW.PrintMore
set_option linter.unusedVariables false
set_option linter.unusedSimpArgs false
set_option maxHeartbeats 1000000
set_option maxRecDepth 100000

def insS (i : S36) : Ins := ⟨i.f0, i.f1, i.f2, i.f3, i.f4⟩
def fnS (f : S39) : Fn := ⟨f.f0, f.f1, f.f2, f.f3.map insS⟩

theorem insS_at (l : List S36) (i : Int) (h0 : 0 ≤ i) (h1 : i < l.length) : (l.map insS).getD i.toNat default = insS (rd_T36 l i) := by
  have hlt : i.toNat < l.length := by omega
  unfold rd_T36
  rw [List.getD_eq_getElem?_getD, List.getD_eq_getElem?_getD, List.getElem?_map, List.getElem?_eq_getElem hlt]
  rfl

def folA (k : S36) (at_ : Int) (n : Nat) : List Int := if tabN k.f0 = true ∧ at_ + 1 < (n : Int) then [at_ + 1] else []
def folB (k : S36) : List Int := if k.f0 = 3 then [k.f1] else if k.f0 = 4 then [k.f2] else []

theorem fol_nexts (l : List S36) (at_ : Int) (h0 : 0 ≤ at_) (h1 : at_ < l.length) (hk0 : 0 ≤ (rd_T36 l at_).f0) (hk1 : (rd_T36 l at_).f0 < 10) :
    nexts (l.map insS) at_ = folA (rd_T36 l at_) at_ l.length ++ folB (rd_T36 l at_) := by
  have hg : goesOn (rd_T36 l at_).f0 = tabN (rd_T36 l at_).f0 := by
    generalize (rd_T36 l at_).f0 = k at hk0 hk1
    have : k = 0 ∨ k = 1 ∨ k = 2 ∨ k = 3 ∨ k = 4 ∨ k = 5 ∨ k = 6 ∨ k = 7 ∨ k = 8 ∨ k = 9 := by omega
    rcases this with h | h | h | h | h | h | h | h | h | h <;> subst h <;> rfl
  unfold nexts folA folB
  rw [insS_at l at_ h0 h1, List.length_map]
  simp only [insS, hg]
  rfl

def FolPost (w : World) (xs : List Int) (e : Ending) (w' : World) : Prop := ∃ v, e = .returned v ∧ Kd.R (Kd.int .i64) 3 w' w.heap.size (fun _ => True) v xs ∧ Below w.heap.size w w'


theorem follow_calls (p0 p1 p2 : Int) (A : Option Addr) (c : Nat) (l : List S36) (at_ : Int) (w : World) (hr : Kd.C k36 w A l.length l) (hc : l.length ≤ c) (h0 : 0 ≤ at_) (h1 : at_ < l.length) (hlen : l.length ≤ 512)
   (hT : Tab w) (hk0 : 0 ≤ (rd_T36 l at_).f0) (hk1 : (rd_T36 l at_).f0 < 10) :
    Calls Tryd.prog 79 #[.agg #[.int .i64 p0, .int .i64 p1, .int .i64 p2, .slice A l.length c], .int .i64 at_] w (FolPost w (nexts (l.map insS) at_)) := by
  rw [fol_nexts l at_ h0 h1 hk0 hk1]
  obtain ⟨ad, rfl, HX⟩ := ins_cells hr (Below.refl _ _) at_ h0 h1
  obtain ⟨k, hk⟩ : ∃ k, rd_T36 l at_ = k := ⟨_, rfl⟩
  rw [hk] at hk0 hk1 HX ⊢
  have HL := Aside0.mk (Locs.nil w)
  have HT := Aside0.mk hT
  replace HX := Aside0.mk HX
  have HK0 := Aside0.mk hk0
  have HK1 := Aside0.mk hk1
  have HR := Aside0.mk (Kd.R_nil (Kd.int .i64) 3 w w.heap.size (fun _ => True))
  have HH1 := Aside0.mk h1
  have HHL := Aside0.mk hlen
  have hu39 := Tryd.underlying39
  have hu36 := Tryd.underlying36
  have hw1 : wrap64 (at_ + 1) = at_ + 1 := by unfold wrap64; omega
  clear hr hk hT hlen
  go_enter Tryd.func79, Tryd.ntmps79
  go_upto_region 2 with (first | ((with_reducible refine gate_dst (N := 2) rfl ?_); (try (refine gate_guard (by rfl) ?_; dsimp only)); refine box_locs (by repeat (first | exact HL.out | refine Locs.drew ?_ | refine Locs.drewN ?_ _)) ?hg (N := 2) ?hd (cs := #[.int .i64 p0, .int .i64 p1, .int .i64 p2, .slice (some ad) l.length c]) (t := 39) ?hr ?_; (case hd => rfl); (case hg => rfl); (case hr => first | (go_simp; done) | (go_simp; rfl)); intro g2 wb1 HLn HKb; clear HL; have HL := HLn; clear HLn HKb; (try clear hf); have hf := HL.out.facts; simp only [factsOf, List.cons_append, List.nil_append] at hf; (try clear e1 e2 e3 e4 e5); obtain ⟨e1, e2, e3, e4, e5⟩ := HX.out _ HL.out.below; (try clear hq); have hq := (HT.out.below HL.out.below k.f0 HK0.out HK1.out).2.2.2.2) | ((with_reducible refine gate_dst (N := 5) rfl ?_); (try (refine gate_guard (by rfl) ?_; dsimp only)); refine box_locs (by repeat (first | exact HL.out | refine Locs.drew ?_ | refine Locs.drewN ?_ _)) ?hg (N := 5) ?hd (cs := #[.int .i64 0, .int .i64 0, .int .i64 0, .int .i64 0, .int .i64 0]) (t := 36) ?hr ?_; (case hd => rfl); (case hg => rfl); (case hr => first | (go_simp; done) | (go_simp; rfl)); intro g5 wb2 HLn HKb; clear HL; have HL := HLn; clear HLn HKb; (try clear hf); have hf := HL.out.facts; simp only [factsOf, List.cons_append, List.nil_append] at hf; (try clear e1 e2 e3 e4 e5); obtain ⟨e1, e2, e3, e4, e5⟩ := HX.out _ HL.out.below; (try clear hq); have hq := (HT.out.below HL.out.below k.f0 HK0.out HK1.out).2.2.2.2))
  generalize hwt : World.setCell _ _ _ = w3
  have HLn : Aside0 (Locs w w3 [(g5, #[.int .i64 k.f0, .int .i64 k.f1, .int .i64 k.f2, .int .i64 k.f3, .int .i64 k.f4], 36), (g2, #[.int .i64 p0, .int .i64 p1, .int .i64 p2, .slice (some ad) l.length c], 39)]) := ⟨by rw [← hwt]; exact (((((HL.out.set 0 rfl 0 _).set 0 rfl 1 _).set 0 rfl 2 _).set 0 rfl 3 _).set 0 rfl 4 _)⟩
  clear HL hwt; have HL := HLn; clear HLn; (try clear hf); have hf := HL.out.facts; simp only [factsOf, List.cons_append, List.nil_append] at hf; (try clear e1 e2 e3 e4 e5); obtain ⟨e1, e2, e3, e4, e5⟩ := HX.out _ HL.out.below; (try clear hq); have hq := (HT.out.below HL.out.below k.f0 HK0.out HK1.out).2.2.2.2
  by_cases h3 : k.f0 = 3
  · have h3b : (k.f0 == 3) = true := beq_iff_eq.mpr h3
    have hn1 : tabN k.f0 = false := by rw [h3]; rfl
    have hF : folA k at_ l.length ++ folB k = [] ++ [k.f1] := by unfold folA folB; (try rw [if_neg (by rw [hn1]; exact fun h => Bool.noConfusion h.1), if_pos h3]); (try rfl)
    have HF := Aside0.mk hF
    clear h3 hF
    go_wp2_with (first | ((with_reducible refine gate_builtin (b := .append) (xs := #[.tmp 34, .tmp 37]) rfl ?_); at_builtin; refine Kd.R_append (Kd.int .i64) (w0 := w) w.heap.size rfl (.tmp 34) (.tmp 37) 52 3 (.int .i64 0) 8 rfl Tryd.underlying52 info3 rfl (by decide) (by omega) (.slice none 0 0) [] k.f1 [.int .i64 k.f1] (fun _ => True) (fun _ => False) rfl rfl ?aP (fun _ hk => hk.elim) ?aF ?aO ?aB ?aS ?aL ?_; (case aP => rfl); (case aB => first | exact HL.out.below | exact (HL.out.drewN _).below); (case aF => exact fun k hk => trivial); (case aO => first | exact Kd.R_nil _ _ _ _ _ | exact HR.out | exact Kd.R_drewN HR.out _); (case aS => exact HL.out.below.size); (case aL => simp); intro v1 wA ho hb hg hat; have HLn := Aside0.mk ((by first | exact HL.out | exact HL.out.drewN _ : Locs w _ _).grown hb hg (fun b hb => by simp [Value.ownBlock])); have HRn := Aside0.mk ho; clear HL HR ho hb hg hat; have HL := HLn; have HR := HRn; clear HLn HRn; (try clear hf); have hf := HL.out.facts; simp only [factsOf, List.cons_append, List.nil_append] at hf; (try clear e1 e2 e3 e4 e5); obtain ⟨e1, e2, e3, e4, e5⟩ := HX.out _ HL.out.below; (try clear hq); have hq := (HT.out.below HL.out.below k.f0 HK0.out HK1.out).2.2.2.2))
    go_ret
    exact ⟨_, rfl, by rw [HF.out]; exact HR.out, HL.out.below⟩
  have h3b : (k.f0 == 3) = false := beq_eq_false_iff_ne.mpr h3
  by_cases h4 : k.f0 = 4
  · have h4b : (k.f0 == 4) = true := beq_iff_eq.mpr h4
    have hn1 : tabN k.f0 = true := by rw [h4]; rfl
    by_cases hn2 : at_ + 1 < (l.length : Int)
    · have hF : folA k at_ l.length ++ folB k = ([] ++ [at_ + 1]) ++ [k.f2] := by unfold folA folB; (try rw [if_pos ⟨hn1, hn2⟩, if_neg h3, if_pos h4]); (try rfl)
      have HF := Aside0.mk hF
      clear h3 h4 hF
      go_wp2_with (first | ((with_reducible refine gate_builtin (b := .append) (xs := #[.tmp 25, .tmp 28]) rfl ?_); at_builtin; refine Kd.R_append (Kd.int .i64) (w0 := w) w.heap.size rfl (.tmp 25) (.tmp 28) 52 3 (.int .i64 0) 8 rfl Tryd.underlying52 info3 rfl (by decide) (by omega) (.slice none 0 0) [] (at_ + 1) [.int .i64 (at_ + 1)] (fun _ => True) (fun _ => False) rfl rfl ?aP (fun _ hk => hk.elim) ?aF ?aO ?aB ?aS ?aL ?_; (case aP => rfl); (case aB => first | exact HL.out.below | exact (HL.out.drewN _).below); (case aF => exact fun k hk => trivial); (case aO => first | exact Kd.R_nil _ _ _ _ _ | exact HR.out | exact Kd.R_drewN HR.out _); (case aS => exact HL.out.below.size); (case aL => simp); intro v1 wA ho hb hg hat; have HLn := Aside0.mk ((by first | exact HL.out | exact HL.out.drewN _ : Locs w _ _).grown hb hg (fun b hb => by simp [Value.ownBlock])); have HRn := Aside0.mk ho; clear HL HR ho hb hg hat; have HL := HLn; have HR := HRn; clear HLn HRn; (try clear hf); have hf := HL.out.facts; simp only [factsOf, List.cons_append, List.nil_append] at hf; (try clear e1 e2 e3 e4 e5); obtain ⟨e1, e2, e3, e4, e5⟩ := HX.out _ HL.out.below; (try clear hq); have hq := (HT.out.below HL.out.below k.f0 HK0.out HK1.out).2.2.2.2) | ((with_reducible refine gate_builtin (b := .append) (xs := #[.tmp 41, .tmp 44]) rfl ?_); at_builtin; refine Kd.R_append (Kd.int .i64) (w0 := w) w.heap.size rfl (.tmp 41) (.tmp 44) 52 3 (.int .i64 0) 8 rfl Tryd.underlying52 info3 rfl (by decide) (by omega) _ ([] ++ [at_ + 1]) k.f2 [.int .i64 k.f2] (fun _ => True) (fun _ => False) rfl rfl ?aP (fun _ hk => hk.elim) ?aF ?aO ?aB ?aS ?aL ?_; (case aP => rfl); (case aB => first | exact HL.out.below | exact (HL.out.drewN _).below); (case aF => exact fun k hk => trivial); (case aO => first | exact Kd.R_nil _ _ _ _ _ | exact HR.out | exact Kd.R_drewN HR.out _); (case aS => exact HL.out.below.size); (case aL => simp); intro v1 wA ho hb hg hat; have HLn := Aside0.mk ((by first | exact HL.out | exact HL.out.drewN _ : Locs w _ _).grown hb hg (fun b hb => by first | (rcases List.mem_cons.1 hb with rfl | hb; exact Kd.R_ne HR.out (HL.out.at 0 rfl) (by decide); rcases List.mem_cons.1 hb with rfl | hb; exact Kd.R_ne HR.out (HL.out.at 1 rfl) (by decide); cases hb) | (rcases List.mem_cons.1 hb with rfl | hb; exact Kd.R_ne (Kd.R_drewN HR.out _) ((HL.out.drewN _).at 0 rfl) (by decide); rcases List.mem_cons.1 hb with rfl | hb; exact Kd.R_ne (Kd.R_drewN HR.out _) ((HL.out.drewN _).at 1 rfl) (by decide); cases hb))); have HRn := Aside0.mk ho; clear HL HR ho hb hg hat; have HL := HLn; have HR := HRn; clear HLn HRn; (try clear hf); have hf := HL.out.facts; simp only [factsOf, List.cons_append, List.nil_append] at hf; (try clear e1 e2 e3 e4 e5); obtain ⟨e1, e2, e3, e4, e5⟩ := HX.out _ HL.out.below; (try clear hq); have hq := (HT.out.below HL.out.below k.f0 HK0.out HK1.out).2.2.2.2))
      go_ret
      exact ⟨_, rfl, by rw [HF.out]; exact HR.out, HL.out.below⟩
    · have hF : folA k at_ l.length ++ folB k = [] ++ [k.f2] := by unfold folA folB; (try rw [if_neg (fun h => hn2 h.2), if_neg h3, if_pos h4]); (try rfl)
      have HF := Aside0.mk hF
      clear h3 h4 hF
      go_wp2_with (first | ((with_reducible refine gate_builtin (b := .append) (xs := #[.tmp 41, .tmp 44]) rfl ?_); at_builtin; refine Kd.R_append (Kd.int .i64) (w0 := w) w.heap.size rfl (.tmp 41) (.tmp 44) 52 3 (.int .i64 0) 8 rfl Tryd.underlying52 info3 rfl (by decide) (by omega) (.slice none 0 0) [] k.f2 [.int .i64 k.f2] (fun _ => True) (fun _ => False) rfl rfl ?aP (fun _ hk => hk.elim) ?aF ?aO ?aB ?aS ?aL ?_; (case aP => rfl); (case aB => first | exact HL.out.below | exact (HL.out.drewN _).below); (case aF => exact fun k hk => trivial); (case aO => first | exact Kd.R_nil _ _ _ _ _ | exact HR.out | exact Kd.R_drewN HR.out _); (case aS => exact HL.out.below.size); (case aL => simp); intro v1 wA ho hb hg hat; have HLn := Aside0.mk ((by first | exact HL.out | exact HL.out.drewN _ : Locs w _ _).grown hb hg (fun b hb => by simp [Value.ownBlock])); have HRn := Aside0.mk ho; clear HL HR ho hb hg hat; have HL := HLn; have HR := HRn; clear HLn HRn; (try clear hf); have hf := HL.out.facts; simp only [factsOf, List.cons_append, List.nil_append] at hf; (try clear e1 e2 e3 e4 e5); obtain ⟨e1, e2, e3, e4, e5⟩ := HX.out _ HL.out.below; (try clear hq); have hq := (HT.out.below HL.out.below k.f0 HK0.out HK1.out).2.2.2.2))
      go_ret
      exact ⟨_, rfl, by rw [HF.out]; exact HR.out, HL.out.below⟩
  have h4b : (k.f0 == 4) = false := beq_eq_false_iff_ne.mpr h4
  by_cases hn1 : tabN k.f0 = true
  · by_cases hn2 : at_ + 1 < (l.length : Int)
    · have hF : folA k at_ l.length ++ folB k = [] ++ [at_ + 1] := by unfold folA folB; (try rw [if_pos ⟨hn1, hn2⟩, if_neg h3, if_neg h4]); (try rfl)
      have HF := Aside0.mk hF
      clear h3 h4 hF
      go_wp2_with (first | ((with_reducible refine gate_builtin (b := .append) (xs := #[.tmp 25, .tmp 28]) rfl ?_); at_builtin; refine Kd.R_append (Kd.int .i64) (w0 := w) w.heap.size rfl (.tmp 25) (.tmp 28) 52 3 (.int .i64 0) 8 rfl Tryd.underlying52 info3 rfl (by decide) (by omega) (.slice none 0 0) [] (at_ + 1) [.int .i64 (at_ + 1)] (fun _ => True) (fun _ => False) rfl rfl ?aP (fun _ hk => hk.elim) ?aF ?aO ?aB ?aS ?aL ?_; (case aP => rfl); (case aB => first | exact HL.out.below | exact (HL.out.drewN _).below); (case aF => exact fun k hk => trivial); (case aO => first | exact Kd.R_nil _ _ _ _ _ | exact HR.out | exact Kd.R_drewN HR.out _); (case aS => exact HL.out.below.size); (case aL => simp); intro v1 wA ho hb hg hat; have HLn := Aside0.mk ((by first | exact HL.out | exact HL.out.drewN _ : Locs w _ _).grown hb hg (fun b hb => by simp [Value.ownBlock])); have HRn := Aside0.mk ho; clear HL HR ho hb hg hat; have HL := HLn; have HR := HRn; clear HLn HRn; (try clear hf); have hf := HL.out.facts; simp only [factsOf, List.cons_append, List.nil_append] at hf; (try clear e1 e2 e3 e4 e5); obtain ⟨e1, e2, e3, e4, e5⟩ := HX.out _ HL.out.below; (try clear hq); have hq := (HT.out.below HL.out.below k.f0 HK0.out HK1.out).2.2.2.2))
      go_ret
      exact ⟨_, rfl, by rw [HF.out]; exact HR.out, HL.out.below⟩
    · have hF : folA k at_ l.length ++ folB k = [] := by unfold folA folB; (try rw [if_neg (fun h => hn2 h.2), if_neg h3, if_neg h4]); (try rfl)
      have HF := Aside0.mk hF
      clear h3 h4 hF
      go_wp2_with fail
      go_ret
      exact ⟨_, rfl, by rw [HF.out]; exact Kd.R_nil (Kd.int .i64) 3 _ _ _, HL.out.below⟩
  · have hF : folA k at_ l.length ++ folB k = [] := by unfold folA folB; (try rw [if_neg (fun h => hn1 h.1), if_neg h3, if_neg h4]); (try rfl)
    have HF := Aside0.mk hF
    clear h3 h4 hF
    go_wp2_with fail
    go_ret
    exact ⟨_, rfl, by rw [HF.out]; exact Kd.R_nil (Kd.int .i64) 3 _ _ _, HL.out.below⟩
end Go.Proofs.YtcioegimmjppcaaDoor.P
/-! prog.instrOK (machine side): it answers whether an instruction may be; the functions' shapes are sound. -/
namespace Go.Proofs.YtcioegimmjppcaaDoor.P
open Go.RowKit Go.Proofs.YtcioegimmjppcaaDoorW.PrintWords Go.Proofs.YtcioegimmjppcaaDoorW.PrintLast Go.Proofs.YtcioegimmjppcaaDoorW.PrintMore
set_option linter.unusedVariables false
set_option linter.unusedSimpArgs false
set_option maxHeartbeats 1000000
set_option maxRecDepth 100000

def fitB (r n : Int) (f : S39) (m : Int) : Bool := if r = 0 then true else if r = 1 then decide (0 ≤ n ∧ n < f.f1) else if r = 2 then decide (0 ≤ n ∧ n < f.f2) else if r = 3 then decide (0 ≤ n ∧ n < (f.f3.length : Int)) else if r = 5 then decide (0 ≤ n ∧ n < 16) else if r = 4 then decide (0 ≤ n ∧ n < m) else decide (0 ≤ n ∧ n < 0)

theorem fit_one (n b : Int) : (if n ≥ 0 then some (decide (n < b)) else some false) = some (decide (0 ≤ n ∧ n < b)) := by
  by_cases h : n ≥ 0
  · rw [if_pos h]; simp [h]
  · rw [if_neg h, decide_eq_false (fun e => h e.1)]

theorem fits_val (r n : Int) (f : S39) (m : Int) (hm : 0 ≤ m) : prog_fits.f r n f.f0 f.f1 f.f2 f.f3 m = some (fitB r n f m) := by
  unfold prog_fits.f fitB
  simp only [fit_one]
  rw [if_neg (show ¬ m < 0 by omega)]
  repeat' split
  all_goals rfl

def insB (i : S36) (f : S39) (L : List S39) : Bool :=
  if i.f0 < 0 then false else if 10 ≤ i.f0 then false else
  if fitB (tabA i.f0) i.f1 f L.length = false then false else if fitB (tabB i.f0) i.f2 f L.length = false then false else if fitB (tabC i.f0) i.f3 f L.length = false then false else
  if tabK i.f0 = 5 ∧ (i.f4 < 0 ∨ 16 ≤ i.f4) then false else
  if i.f0 = 5 then decide ((rd_T39 L i.f2).f0 = 0 ∨ (0 ≤ i.f3 ∧ i.f3 ≤ f.f1 - (rd_T39 L i.f2).f0)) else true

theorem fnOf_map (L : List S39) (b : Int) (h0 : 0 ≤ b) (h1 : b < (L.length : Int)) : fnOf (L.map fnS) b = fnS (rd_T39 L b) := by
  have hlt : b.toNat < L.length := by omega
  unfold fnOf rd_T39
  rw [List.getD_eq_getElem?_getD, List.getD_eq_getElem?_getD, List.getElem?_map, List.getElem?_eq_getElem hlt]
  rfl

theorem insB_ok (i : S36) (f : S39) (L : List S39) : insB i f L = true ↔ insOK (L.map fnS) (fnS f) (insS i) := by
  obtain ⟨k, a, b, c, K⟩ := i
  unfold insB insOK
  simp only [insS, fnS, List.length_map, inR]
  by_cases hk : k < 0 ∨ 10 ≤ k
  · constructor
    · intro h
      rcases hk with h1 | h1
      · rw [if_pos h1] at h; cases h
      · rw [if_neg (by omega), if_pos h1] at h; cases h
    · intro h; omega
  · rw [if_neg (by omega), if_neg (by omega)]
    have hc : k = 0 ∨ k = 1 ∨ k = 2 ∨ k = 3 ∨ k = 4 ∨ k = 5 ∨ k = 6 ∨ k = 7 ∨ k = 8 ∨ k = 9 := by omega
    rcases hc with h | h | h | h | h | h | h | h | h | h <;> subst h
    case inr.inr.inr.inr.inr.inl =>
      simp only [fitB, tabA, tabB, tabC, tabK, ↓reduceIte, Int.reduceEq, false_and, and_false, decide_eq_false_iff_not, forall_const, true_and, and_true, Int.reduceLE, false_implies, true_implies, implies_true]
      by_cases h1 : 0 ≤ a ∧ a < f.f2
      · by_cases h2 : 0 ≤ b ∧ b < (L.length : Int)
        · rw [if_neg (by simpa using h1), if_neg (by simpa using h2), fnOf_map L b h2.1 h2.2]
          simp [h1, h2, fnS]
        · rw [if_neg (by simpa using h1), if_pos (by simpa using h2)]
          simp only [Bool.false_eq_true, false_iff]
          exact fun h => h2 h.2.1
      · rw [if_pos (by simpa using h1)]
        simp only [Bool.false_eq_true, false_iff]
        exact fun h => h1 h.1
    all_goals
      simp only [fitB, tabA, tabB, tabC, tabK, ↓reduceIte, Int.reduceEq, false_and, and_false, decide_eq_false_iff_not, forall_const, true_and, and_true, Int.reduceLE, false_implies, true_implies, implies_true, Bool.true_eq_false]
      try ((repeat' split) <;> (try simp) <;> (try omega))
end Go.Proofs.YtcioegimmjppcaaDoor.P
/-! prog.instrOK (machine side), the walk. -/
namespace Go.Proofs.YtcioegimmjppcaaDoor.P
open Go.RowKit Go.Proofs.YtcioegimmjppcaaDoorW.PrintWords Go.Proofs.YtcioegimmjppcaaDoorW.PrintLast Go.Proofs.YtcioegimmjppcaaDoorW.PrintMore
set_option linter.unusedVariables false
set_option linter.unusedSimpArgs false
set_option maxHeartbeats 1000000
set_option maxRecDepth 100000


theorem instrOK_calls (i : S36) (f : S39) (L : List S39) (A : Option Addr) (c : Nat) (ad : Addr) (cL : Nat) (w : World) (hr : Kd.C k36 w A f.f3.length f.f3) (hc : f.f3.length ≤ c) (hL : Kd.C k39 w (some ad) L.length L) (hcL : L.length ≤ cL) (hlen : L.length ≤ 32)
   (hT : Tab w) (hf : 1 ≤ f.f1 ∧ f.f1 ≤ 16) (hP : ∀ g ∈ L, 0 ≤ g.f0 ∧ g.f0 ≤ 8) :
    Calls Tryd.prog 61 #[.agg #[.int .i64 i.f0, .int .i64 i.f1, .int .i64 i.f2, .int .i64 i.f3, .int .i64 i.f4], .agg #[.int .i64 f.f0, .int .i64 f.f1, .int .i64 f.f2, .slice A f.f3.length c], .slice (some ad) L.length cL] w
      fun e w' => e = .returned (.bool (insB i f L)) ∧ Below w.heap.size w w' := by
  have HL := Aside0.mk (Locs.nil w)
  have HT := Aside0.mk hT
  have HC := Aside0.mk hr
  have HCL := Aside0.mk hL
  have hu39 := Tryd.underlying39
  have hu36 := Tryd.underlying36
  have hEq : ∀ W, (binOp .eql 22 (.slice (some ad) L.length cL) (.slice none 0 0)).run Tryd.prog W = .ok (.bool false) W := fun W => Lib.run_eql_slice_nil W 22 39 (some ad) L.length cL 0 0 Tryd.underlying22
  have hNe : ∀ W, (binOp .neq 22 (.slice (some ad) L.length cL) (.slice none 0 0)).run Tryd.prog W = .ok (.bool true) W := fun W => run_neq_slice_nil_any W 22 39 (some ad) L.length cL 0 0 Tryd.underlying22
  clear hr hT hL
  by_cases hk0 : i.f0 < 0
  · have HF : insB i f L = false := by unfold insB; rw [if_pos hk0]
    have hk0b : decide (i.f0 < 0) = true := decide_eq_true hk0
    rw [HF]
    have HT5 : Aside0 (∀ W, Below w.heap.size w W → True) := ⟨fun _ _ => trivial⟩
    clear hk0 HF hP
    go_enter Tryd.func61, Tryd.ntmps61
    go_wp2_with (first | ((with_reducible refine gate_dst (N := 3) rfl ?_); (try (refine gate_guard (by rfl) ?_; dsimp only)); refine box_locs (by repeat (first | exact HL.out | refine Locs.drew ?_ | refine Locs.drewN ?_ _)) ?hg (N := 3) ?hd (cs := #[.int .i64 i.f0, .int .i64 i.f1, .int .i64 i.f2, .int .i64 i.f3, .int .i64 i.f4]) (t := 36) ?hr ?_; (case hd => rfl); (case hg => rfl); (case hr => first | (go_simp; done) | (go_simp; rfl)); intro g3 wb2 HLn HKb; clear HL; have HL := HLn; clear HLn HKb; (try clear hf); have hf := HL.out.facts; simp only [factsOf, List.cons_append, List.nil_append] at hf; (try clear ht); have ht := HT5.out _ HL.out.below) | ((with_reducible refine gate_dst (N := 4) rfl ?_); (try (refine gate_guard (by rfl) ?_; dsimp only)); refine box_locs (by repeat (first | exact HL.out | refine Locs.drew ?_ | refine Locs.drewN ?_ _)) ?hg (N := 4) ?hd (cs := #[.int .i64 f.f0, .int .i64 f.f1, .int .i64 f.f2, .slice A f.f3.length c]) (t := 39) ?hr ?_; (case hd => rfl); (case hg => rfl); (case hr => first | (go_simp; done) | (go_simp; rfl)); intro g4 wb4 HLn HKb; clear HL; have HL := HLn; clear HLn HKb; (try clear hf); have hf := HL.out.facts; simp only [factsOf, List.cons_append, List.nil_append] at hf; (try clear ht); have ht := HT5.out _ HL.out.below))
    go_ret
    exact ⟨rfl, HL.out.below⟩
  by_cases hk1 : 10 ≤ i.f0
  · have HF : insB i f L = false := by unfold insB; rw [if_neg hk0, if_pos hk1]
    have hk0b : decide (i.f0 < 0) = false := decide_eq_false hk0
    have hk1b : decide (10 ≤ i.f0) = true := decide_eq_true hk1
    rw [HF]
    have HT5 : Aside0 (∀ W, Below w.heap.size w W → True) := ⟨fun _ _ => trivial⟩
    clear hk0 hk1 HF hP
    go_enter Tryd.func61, Tryd.ntmps61
    go_wp2_with (first | ((with_reducible refine gate_dst (N := 3) rfl ?_); (try (refine gate_guard (by rfl) ?_; dsimp only)); refine box_locs (by repeat (first | exact HL.out | refine Locs.drew ?_ | refine Locs.drewN ?_ _)) ?hg (N := 3) ?hd (cs := #[.int .i64 i.f0, .int .i64 i.f1, .int .i64 i.f2, .int .i64 i.f3, .int .i64 i.f4]) (t := 36) ?hr ?_; (case hd => rfl); (case hg => rfl); (case hr => first | (go_simp; done) | (go_simp; rfl)); intro g3 wb6 HLn HKb; clear HL; have HL := HLn; clear HLn HKb; (try clear hf); have hf := HL.out.facts; simp only [factsOf, List.cons_append, List.nil_append] at hf; (try clear ht); have ht := HT5.out _ HL.out.below) | ((with_reducible refine gate_dst (N := 4) rfl ?_); (try (refine gate_guard (by rfl) ?_; dsimp only)); refine box_locs (by repeat (first | exact HL.out | refine Locs.drew ?_ | refine Locs.drewN ?_ _)) ?hg (N := 4) ?hd (cs := #[.int .i64 f.f0, .int .i64 f.f1, .int .i64 f.f2, .slice A f.f3.length c]) (t := 39) ?hr ?_; (case hd => rfl); (case hg => rfl); (case hr => first | (go_simp; done) | (go_simp; rfl)); intro g4 wb8 HLn HKb; clear HL; have HL := HLn; clear HLn HKb; (try clear hf); have hf := HL.out.facts; simp only [factsOf, List.cons_append, List.nil_append] at hf; (try clear ht); have ht := HT5.out _ HL.out.below))
    go_ret
    exact ⟨rfl, HL.out.below⟩
  have hk0b : decide (i.f0 < 0) = false := decide_eq_false hk0
  have hk1b : decide (10 ≤ i.f0) = false := decide_eq_false hk1
  have hk2 : 0 ≤ i.f0 := by omega
  have hk3 : i.f0 < 10 := by omega
  obtain ⟨ta, hta⟩ : ∃ x, tabA i.f0 = x := ⟨_, rfl⟩
  obtain ⟨tb, htb⟩ : ∃ x, tabB i.f0 = x := ⟨_, rfl⟩
  obtain ⟨tc, htc⟩ : ∃ x, tabC i.f0 = x := ⟨_, rfl⟩
  obtain ⟨tk, htk⟩ : ∃ x, tabK i.f0 = x := ⟨_, rfl⟩
  obtain ⟨tn, htn⟩ : ∃ x, tabN i.f0 = x := ⟨_, rfl⟩
  obtain ⟨r1, hr1⟩ : ∃ x, fitB ta i.f1 f L.length = x := ⟨_, rfl⟩
  obtain ⟨r2, hr2⟩ : ∃ x, fitB tb i.f2 f L.length = x := ⟨_, rfl⟩
  obtain ⟨r3, hr3⟩ : ∃ x, fitB tc i.f3 f L.length = x := ⟨_, rfl⟩
  have HT5 : Aside0 (∀ W, Below w.heap.size w W → W.cell? ⟨0, i.f0.toNat * 5, none⟩ = some (.int .i64 ta) ∧ W.cell? ⟨0, i.f0.toNat * 5 + 1, none⟩ = some (.int .i64 tb) ∧ W.cell? ⟨0, i.f0.toNat * 5 + 2, none⟩ = some (.int .i64 tc) ∧
      W.cell? ⟨0, i.f0.toNat * 5 + 3, none⟩ = some (.int .i64 tk) ∧ W.cell? ⟨0, i.f0.toNat * 5 + 4, none⟩ = some (.bool tn)) := ⟨fun W hW => by
    have h := HT.out.below hW i.f0 hk2 hk3
    rw [hta, htb, htc, htk, htn] at h
    exact h⟩
  have H1 : Aside0 (prog_fits.f ta i.f1 f.f0 f.f1 f.f2 f.f3 (L.length : Int) = some r1) := ⟨by rw [fits_val _ _ _ _ (by omega), hr1]⟩
  have H2 : Aside0 (prog_fits.f tb i.f2 f.f0 f.f1 f.f2 f.f3 (L.length : Int) = some r2) := ⟨by rw [fits_val _ _ _ _ (by omega), hr2]⟩
  have H3 : Aside0 (prog_fits.f tc i.f3 f.f0 f.f1 f.f2 f.f3 (L.length : Int) = some r3) := ⟨by rw [fits_val _ _ _ _ (by omega), hr3]⟩
  have HB : Aside0 (insB i f L = if r1 = false then false else if r2 = false then false else if r3 = false then false else if tk = 5 ∧ (i.f4 < 0 ∨ 16 ≤ i.f4) then false else if i.f0 = 5 then decide ((rd_T39 L i.f2).f0 = 0 ∨ (0 ≤ i.f3 ∧ i.f3 ≤ f.f1 - (rd_T39 L i.f2).f0)) else true) := ⟨by
    unfold insB
    rw [if_neg hk0, if_neg hk1, hta, htb, htc, htk, hr1, hr2, hr3]⟩
  have HTB := Aside0.mk htb
  have HTK := Aside0.mk htk
  have HR2 := Aside0.mk hr2
  have HF1 := Aside0.mk hf
  have HPP := Aside0.mk hP
  clear hk0 hk1 hta htb htc htk htn hr1 hr2 hr3 hf hP
  go_enter Tryd.func61, Tryd.ntmps61
  go_upto_region 4 with (first | ((with_reducible refine gate_dst (N := 3) rfl ?_); (try (refine gate_guard (by rfl) ?_; dsimp only)); refine box_locs (by repeat (first | exact HL.out | refine Locs.drew ?_ | refine Locs.drewN ?_ _)) ?hg (N := 3) ?hd (cs := #[.int .i64 i.f0, .int .i64 i.f1, .int .i64 i.f2, .int .i64 i.f3, .int .i64 i.f4]) (t := 36) ?hr ?_; (case hd => rfl); (case hg => rfl); (case hr => first | (go_simp; done) | (go_simp; rfl)); intro g3 wb10 HLn HKb; clear HL; have HL := HLn; clear HLn HKb; (try clear hf); have hf := HL.out.facts; simp only [factsOf, List.cons_append, List.nil_append] at hf; (try clear ht); have ht := HT5.out _ HL.out.below) | ((with_reducible refine gate_dst (N := 4) rfl ?_); (try (refine gate_guard (by rfl) ?_; dsimp only)); refine box_locs (by repeat (first | exact HL.out | refine Locs.drew ?_ | refine Locs.drewN ?_ _)) ?hg (N := 4) ?hd (cs := #[.int .i64 f.f0, .int .i64 f.f1, .int .i64 f.f2, .slice A f.f3.length c]) (t := 39) ?hr ?_; (case hd => rfl); (case hg => rfl); (case hr => first | (go_simp; done) | (go_simp; rfl)); intro g4 wb12 HLn HKb; clear HL; have HL := HLn; clear HLn HKb; (try clear hf); have hf := HL.out.facts; simp only [factsOf, List.cons_append, List.nil_append] at hf; (try clear ht); have ht := HT5.out _ HL.out.below) | ((with_reducible refine gate_dst (N := 7) rfl ?_); (try (refine gate_guard (by rfl) ?_; dsimp only)); refine box_locs (by repeat (first | exact HL.out | refine Locs.drew ?_ | refine Locs.drewN ?_ _)) ?hg (N := 7) ?hd (cs := #[.int .i64 0, .int .i64 0, .int .i64 0, .int .i64 0, .bool false]) (t := 111) ?hr ?_; (case hd => rfl); (case hg => rfl); (case hr => first | (go_simp; done) | (go_simp; rfl)); intro g7 wb14 HLn HKb; clear HL; have HL := HLn; clear HLn HKb; (try clear hf); have hf := HL.out.facts; simp only [factsOf, List.cons_append, List.nil_append] at hf; (try clear ht); have ht := HT5.out _ HL.out.below))
  generalize hwt : World.setCell _ _ _ = w3
  have HLn : Aside0 (Locs w w3 [(g7, #[.int .i64 ta, .int .i64 tb, .int .i64 tc, .int .i64 tk, .bool tn], 111), (g4, #[.int .i64 f.f0, .int .i64 f.f1, .int .i64 f.f2, .slice A f.f3.length c], 39), (g3, #[.int .i64 i.f0, .int .i64 i.f1, .int .i64 i.f2, .int .i64 i.f3, .int .i64 i.f4], 36)]) := ⟨by rw [← hwt]; exact (((((HL.out.set 0 rfl 0 _).set 0 rfl 1 _).set 0 rfl 2 _).set 0 rfl 3 _).set 0 rfl 4 _)⟩
  clear HL hwt; have HL := HLn; clear HLn; (try clear hf); have hf := HL.out.facts; simp only [factsOf, List.cons_append, List.nil_append] at hf; (try clear ht); have ht := HT5.out _ HL.out.below
  cases r1
  · have HF : Aside0 (insB i f L = false) := ⟨by rw [HB.out, if_pos rfl]⟩
    go_wp2_with (first | (go_at_call 68; have hcall := prog_fits.calls _ _ f.f0 f.f1 f.f2 A c f.f3 _ _ _ (Kd.C_below HC.out HL.out.below) hc H1.out; with_reducible refine hcall.mono ?_; clear hcall; rintro e_ wc18 ⟨rfl, hb_⟩; have HLn := Aside0.mk (Locs.step (by repeat (first | exact HL.out | refine Locs.drew ?_ | refine Locs.drewN ?_ _)) hb_); clear HL hb_; have HL := HLn; clear HLn; (try clear hf); have hf := HL.out.facts; simp only [factsOf, List.cons_append, List.nil_append] at hf; (try clear ht); have ht := HT5.out _ HL.out.below))
    go_ret
    exact ⟨by rw [HF.out]; rfl, HL.out.below⟩
  cases r2
  · have HF : Aside0 (insB i f L = false) := ⟨by rw [HB.out, if_neg (by decide), if_pos rfl]⟩
    go_wp2_with (first | (go_at_call 68; have hcall := prog_fits.calls _ _ f.f0 f.f1 f.f2 A c f.f3 _ _ _ (Kd.C_below HC.out HL.out.below) hc H1.out; with_reducible refine hcall.mono ?_; clear hcall; rintro e_ wc20 ⟨rfl, hb_⟩; have HLn := Aside0.mk (Locs.step (by repeat (first | exact HL.out | refine Locs.drew ?_ | refine Locs.drewN ?_ _)) hb_); clear HL hb_; have HL := HLn; clear HLn; (try clear hf); have hf := HL.out.facts; simp only [factsOf, List.cons_append, List.nil_append] at hf; (try clear ht); have ht := HT5.out _ HL.out.below) | (go_at_call 68; have hcall := prog_fits.calls _ _ f.f0 f.f1 f.f2 A c f.f3 _ _ _ (Kd.C_below HC.out HL.out.below) hc H2.out; with_reducible refine hcall.mono ?_; clear hcall; rintro e_ wc22 ⟨rfl, hb_⟩; have HLn := Aside0.mk (Locs.step (by repeat (first | exact HL.out | refine Locs.drew ?_ | refine Locs.drewN ?_ _)) hb_); clear HL hb_; have HL := HLn; clear HLn; (try clear hf); have hf := HL.out.facts; simp only [factsOf, List.cons_append, List.nil_append] at hf; (try clear ht); have ht := HT5.out _ HL.out.below))
    go_ret
    exact ⟨by rw [HF.out]; rfl, HL.out.below⟩
  cases r3
  · have HF : Aside0 (insB i f L = false) := ⟨by rw [HB.out, if_neg (by decide), if_neg (by decide), if_pos rfl]⟩
    go_wp2_with (first | (go_at_call 68; have hcall := prog_fits.calls _ _ f.f0 f.f1 f.f2 A c f.f3 _ _ _ (Kd.C_below HC.out HL.out.below) hc H1.out; with_reducible refine hcall.mono ?_; clear hcall; rintro e_ wc24 ⟨rfl, hb_⟩; have HLn := Aside0.mk (Locs.step (by repeat (first | exact HL.out | refine Locs.drew ?_ | refine Locs.drewN ?_ _)) hb_); clear HL hb_; have HL := HLn; clear HLn; (try clear hf); have hf := HL.out.facts; simp only [factsOf, List.cons_append, List.nil_append] at hf; (try clear ht); have ht := HT5.out _ HL.out.below) | (go_at_call 68; have hcall := prog_fits.calls _ _ f.f0 f.f1 f.f2 A c f.f3 _ _ _ (Kd.C_below HC.out HL.out.below) hc H2.out; with_reducible refine hcall.mono ?_; clear hcall; rintro e_ wc26 ⟨rfl, hb_⟩; have HLn := Aside0.mk (Locs.step (by repeat (first | exact HL.out | refine Locs.drew ?_ | refine Locs.drewN ?_ _)) hb_); clear HL hb_; have HL := HLn; clear HLn; (try clear hf); have hf := HL.out.facts; simp only [factsOf, List.cons_append, List.nil_append] at hf; (try clear ht); have ht := HT5.out _ HL.out.below) | (go_at_call 68; have hcall := prog_fits.calls _ _ f.f0 f.f1 f.f2 A c f.f3 _ _ _ (Kd.C_below HC.out HL.out.below) hc H3.out; with_reducible refine hcall.mono ?_; clear hcall; rintro e_ wc28 ⟨rfl, hb_⟩; have HLn := Aside0.mk (Locs.step (by repeat (first | exact HL.out | refine Locs.drew ?_ | refine Locs.drewN ?_ _)) hb_); clear HL hb_; have HL := HLn; clear HLn; (try clear hf); have hf := HL.out.facts; simp only [factsOf, List.cons_append, List.nil_append] at hf; (try clear ht); have ht := HT5.out _ HL.out.below))
    go_ret
    exact ⟨by rw [HF.out]; rfl, HL.out.below⟩
  by_cases h5 : tk = 5
  · have h5b : (tk == 5) = true := beq_iff_eq.mpr h5
    have hk2 : i.f0 = 2 := by
      have := HTK.out
      unfold tabK at this
      split at this
      · assumption
      · omega
    have hk5b : (i.f0 == 5) = false := by rw [hk2]; rfl
    by_cases hlo : i.f4 < 0
    · have hF : insB i f L = false := by rw [HB.out, if_neg (by decide), if_neg (by decide), if_neg (by decide), if_pos ⟨h5, Or.inl hlo⟩]
      have hlob : decide (i.f4 < 0) = true := decide_eq_true hlo
      have HF := Aside0.mk hF
      clear h5 hk2 hlo hF
      go_wp2_with (first | (go_at_call 68; have hcall := prog_fits.calls _ _ f.f0 f.f1 f.f2 A c f.f3 _ _ _ (Kd.C_below HC.out HL.out.below) hc H1.out; with_reducible refine hcall.mono ?_; clear hcall; rintro e_ wc30 ⟨rfl, hb_⟩; have HLn := Aside0.mk (Locs.step (by repeat (first | exact HL.out | refine Locs.drew ?_ | refine Locs.drewN ?_ _)) hb_); clear HL hb_; have HL := HLn; clear HLn; (try clear hf); have hf := HL.out.facts; simp only [factsOf, List.cons_append, List.nil_append] at hf; (try clear ht); have ht := HT5.out _ HL.out.below) | (go_at_call 68; have hcall := prog_fits.calls _ _ f.f0 f.f1 f.f2 A c f.f3 _ _ _ (Kd.C_below HC.out HL.out.below) hc H2.out; with_reducible refine hcall.mono ?_; clear hcall; rintro e_ wc32 ⟨rfl, hb_⟩; have HLn := Aside0.mk (Locs.step (by repeat (first | exact HL.out | refine Locs.drew ?_ | refine Locs.drewN ?_ _)) hb_); clear HL hb_; have HL := HLn; clear HLn; (try clear hf); have hf := HL.out.facts; simp only [factsOf, List.cons_append, List.nil_append] at hf; (try clear ht); have ht := HT5.out _ HL.out.below) | (go_at_call 68; have hcall := prog_fits.calls _ _ f.f0 f.f1 f.f2 A c f.f3 _ _ _ (Kd.C_below HC.out HL.out.below) hc H3.out; with_reducible refine hcall.mono ?_; clear hcall; rintro e_ wc34 ⟨rfl, hb_⟩; have HLn := Aside0.mk (Locs.step (by repeat (first | exact HL.out | refine Locs.drew ?_ | refine Locs.drewN ?_ _)) hb_); clear HL hb_; have HL := HLn; clear HLn; (try clear hf); have hf := HL.out.facts; simp only [factsOf, List.cons_append, List.nil_append] at hf; (try clear ht); have ht := HT5.out _ HL.out.below))
      go_ret
      exact ⟨by rw [HF.out]; rfl, HL.out.below⟩
    have hlob : decide (i.f4 < 0) = false := decide_eq_false hlo
    by_cases hhi : 16 ≤ i.f4
    · have hF : insB i f L = false := by rw [HB.out, if_neg (by decide), if_neg (by decide), if_neg (by decide), if_pos ⟨h5, Or.inr hhi⟩]
      have hhib : decide (16 ≤ i.f4) = true := decide_eq_true hhi
      have HF := Aside0.mk hF
      clear h5 hk2 hlo hF hhi
      go_wp2_with (first | (go_at_call 68; have hcall := prog_fits.calls _ _ f.f0 f.f1 f.f2 A c f.f3 _ _ _ (Kd.C_below HC.out HL.out.below) hc H1.out; with_reducible refine hcall.mono ?_; clear hcall; rintro e_ wc36 ⟨rfl, hb_⟩; have HLn := Aside0.mk (Locs.step (by repeat (first | exact HL.out | refine Locs.drew ?_ | refine Locs.drewN ?_ _)) hb_); clear HL hb_; have HL := HLn; clear HLn; (try clear hf); have hf := HL.out.facts; simp only [factsOf, List.cons_append, List.nil_append] at hf; (try clear ht); have ht := HT5.out _ HL.out.below) | (go_at_call 68; have hcall := prog_fits.calls _ _ f.f0 f.f1 f.f2 A c f.f3 _ _ _ (Kd.C_below HC.out HL.out.below) hc H2.out; with_reducible refine hcall.mono ?_; clear hcall; rintro e_ wc38 ⟨rfl, hb_⟩; have HLn := Aside0.mk (Locs.step (by repeat (first | exact HL.out | refine Locs.drew ?_ | refine Locs.drewN ?_ _)) hb_); clear HL hb_; have HL := HLn; clear HLn; (try clear hf); have hf := HL.out.facts; simp only [factsOf, List.cons_append, List.nil_append] at hf; (try clear ht); have ht := HT5.out _ HL.out.below) | (go_at_call 68; have hcall := prog_fits.calls _ _ f.f0 f.f1 f.f2 A c f.f3 _ _ _ (Kd.C_below HC.out HL.out.below) hc H3.out; with_reducible refine hcall.mono ?_; clear hcall; rintro e_ wc40 ⟨rfl, hb_⟩; have HLn := Aside0.mk (Locs.step (by repeat (first | exact HL.out | refine Locs.drew ?_ | refine Locs.drewN ?_ _)) hb_); clear HL hb_; have HL := HLn; clear HLn; (try clear hf); have hf := HL.out.facts; simp only [factsOf, List.cons_append, List.nil_append] at hf; (try clear ht); have ht := HT5.out _ HL.out.below))
      go_ret
      exact ⟨by rw [HF.out]; rfl, HL.out.below⟩
    · have hF : insB i f L = true := by rw [HB.out, if_neg (by decide), if_neg (by decide), if_neg (by decide), if_neg (fun h => h.2.elim hlo hhi), if_neg (by omega)]
      have hhib : decide (16 ≤ i.f4) = false := decide_eq_false hhi
      have HF := Aside0.mk hF
      clear h5 hk2 hlo hF hhi
      go_wp2_with (first | (go_at_call 68; have hcall := prog_fits.calls _ _ f.f0 f.f1 f.f2 A c f.f3 _ _ _ (Kd.C_below HC.out HL.out.below) hc H1.out; with_reducible refine hcall.mono ?_; clear hcall; rintro e_ wc42 ⟨rfl, hb_⟩; have HLn := Aside0.mk (Locs.step (by repeat (first | exact HL.out | refine Locs.drew ?_ | refine Locs.drewN ?_ _)) hb_); clear HL hb_; have HL := HLn; clear HLn; (try clear hf); have hf := HL.out.facts; simp only [factsOf, List.cons_append, List.nil_append] at hf; (try clear ht); have ht := HT5.out _ HL.out.below) | (go_at_call 68; have hcall := prog_fits.calls _ _ f.f0 f.f1 f.f2 A c f.f3 _ _ _ (Kd.C_below HC.out HL.out.below) hc H2.out; with_reducible refine hcall.mono ?_; clear hcall; rintro e_ wc44 ⟨rfl, hb_⟩; have HLn := Aside0.mk (Locs.step (by repeat (first | exact HL.out | refine Locs.drew ?_ | refine Locs.drewN ?_ _)) hb_); clear HL hb_; have HL := HLn; clear HLn; (try clear hf); have hf := HL.out.facts; simp only [factsOf, List.cons_append, List.nil_append] at hf; (try clear ht); have ht := HT5.out _ HL.out.below) | (go_at_call 68; have hcall := prog_fits.calls _ _ f.f0 f.f1 f.f2 A c f.f3 _ _ _ (Kd.C_below HC.out HL.out.below) hc H3.out; with_reducible refine hcall.mono ?_; clear hcall; rintro e_ wc46 ⟨rfl, hb_⟩; have HLn := Aside0.mk (Locs.step (by repeat (first | exact HL.out | refine Locs.drew ?_ | refine Locs.drewN ?_ _)) hb_); clear HL hb_; have HL := HLn; clear HLn; (try clear hf); have hf := HL.out.facts; simp only [factsOf, List.cons_append, List.nil_append] at hf; (try clear ht); have ht := HT5.out _ HL.out.below))
      go_ret
      exact ⟨by rw [HF.out]; rfl, HL.out.below⟩
  have h5b : (tk == 5) = false := beq_eq_false_iff_ne.mpr h5
  by_cases hk5 : i.f0 = 5
  · have hk5b : (i.f0 == 5) = true := beq_iff_eq.mpr hk5
    have hb : 0 ≤ i.f2 ∧ i.f2 < (L.length : Int) := by
      have h1 := HR2.out
      rw [← HTB.out, hk5] at h1
      exact of_decide_eq_true h1
    obtain ⟨n, hn⟩ : ∃ n, (rd_T39 L i.f2).f0 = n := ⟨_, rfl⟩
    have hnb : 0 ≤ n ∧ n ≤ 8 := by
      rw [← hn]
      have hlt : i.f2.toNat < L.length := by omega
      have hm : rd_T39 L i.f2 ∈ L := by
        unfold rd_T39
        rw [List.getD_eq_getElem?_getD, List.getElem?_eq_getElem hlt]
        exact List.getElem_mem hlt
      exact HPP.out _ hm
    have hF : insB i f L = decide (n = 0 ∨ (0 ≤ i.f3 ∧ i.f3 ≤ f.f1 - n)) := by rw [HB.out, if_neg (by decide), if_neg (by decide), if_neg (by decide), if_neg (fun h => h5 h.1), if_pos hk5, hn]
    have hwr : wrap64 (f.f1 - n) = f.f1 - n := by have := HF1.out; unfold wrap64; omega
    obtain ⟨q, hq⟩ : ∃ q, f.f1 - n = q := ⟨_, rfl⟩
    rw [hq] at hF
    replace hwr := hwr.trans hq
    have HX : Aside0 (∀ W, Below w.heap.size w W → W.cell? (ad.add (i.f2.toNat * 4)) = some (.int .i64 n)) := ⟨fun W hW => by
      obtain ⟨ad2, A3, c3, e0, e1, -⟩ := at_T39 (Kd.C_below HCL.out hW) i.f2 hb.1 hb.2
      cases e0
      rw [hn] at e1
      exact e1⟩
    have hb0 := hb.1
    have hb1 := hb.2
    have HF := Aside0.mk hF
    clear h5 hk5 hb hn hF hq
    by_cases hn0 : n = 0
    · have hn0b : (n == 0) = true := beq_iff_eq.mpr hn0
      have hD : decide (n = 0 ∨ (0 ≤ i.f3 ∧ i.f3 ≤ q)) = true := decide_eq_true (Or.inl hn0)
      have HD := Aside0.mk hD
      clear hn0 hD
      go_wp2_with (first | (go_at_call 68; have hcall := prog_fits.calls _ _ f.f0 f.f1 f.f2 A c f.f3 _ _ _ (Kd.C_below HC.out HL.out.below) hc H1.out; with_reducible refine hcall.mono ?_; clear hcall; rintro e_ wc48 ⟨rfl, hb_⟩; have HLn := Aside0.mk (Locs.step (by repeat (first | exact HL.out | refine Locs.drew ?_ | refine Locs.drewN ?_ _)) hb_); clear HL hb_; have HL := HLn; clear HLn; (try clear hf); have hf := HL.out.facts; simp only [factsOf, List.cons_append, List.nil_append] at hf; (try clear ht); have ht := HT5.out _ HL.out.below; (try clear hx); have hx := HX.out _ HL.out.below) | (go_at_call 68; have hcall := prog_fits.calls _ _ f.f0 f.f1 f.f2 A c f.f3 _ _ _ (Kd.C_below HC.out HL.out.below) hc H2.out; with_reducible refine hcall.mono ?_; clear hcall; rintro e_ wc50 ⟨rfl, hb_⟩; have HLn := Aside0.mk (Locs.step (by repeat (first | exact HL.out | refine Locs.drew ?_ | refine Locs.drewN ?_ _)) hb_); clear HL hb_; have HL := HLn; clear HLn; (try clear hf); have hf := HL.out.facts; simp only [factsOf, List.cons_append, List.nil_append] at hf; (try clear ht); have ht := HT5.out _ HL.out.below; (try clear hx); have hx := HX.out _ HL.out.below) | (go_at_call 68; have hcall := prog_fits.calls _ _ f.f0 f.f1 f.f2 A c f.f3 _ _ _ (Kd.C_below HC.out HL.out.below) hc H3.out; with_reducible refine hcall.mono ?_; clear hcall; rintro e_ wc52 ⟨rfl, hb_⟩; have HLn := Aside0.mk (Locs.step (by repeat (first | exact HL.out | refine Locs.drew ?_ | refine Locs.drewN ?_ _)) hb_); clear HL hb_; have HL := HLn; clear HLn; (try clear hf); have hf := HL.out.facts; simp only [factsOf, List.cons_append, List.nil_append] at hf; (try clear ht); have ht := HT5.out _ HL.out.below; (try clear hx); have hx := HX.out _ HL.out.below))
      go_ret
      exact ⟨by rw [HF.out, HD.out]; rfl, HL.out.below⟩
    have hn0b : (n == 0) = false := beq_eq_false_iff_ne.mpr hn0
    by_cases hc0 : 0 ≤ i.f3
    · have hc0b : decide (0 ≤ i.f3) = true := decide_eq_true hc0
      have HD : Aside0 (decide (n = 0 ∨ (0 ≤ i.f3 ∧ i.f3 ≤ q)) = decide (i.f3 ≤ q)) := ⟨by
        by_cases h : i.f3 ≤ q
        · rw [decide_eq_true h]; exact decide_eq_true (Or.inr ⟨hc0, h⟩)
        · rw [decide_eq_false h]; exact decide_eq_false (fun e => e.elim hn0 (fun e => h e.2))⟩
      clear hn0 hc0
      go_wp2_with (first | (go_at_call 68; have hcall := prog_fits.calls _ _ f.f0 f.f1 f.f2 A c f.f3 _ _ _ (Kd.C_below HC.out HL.out.below) hc H1.out; with_reducible refine hcall.mono ?_; clear hcall; rintro e_ wc54 ⟨rfl, hb_⟩; have HLn := Aside0.mk (Locs.step (by repeat (first | exact HL.out | refine Locs.drew ?_ | refine Locs.drewN ?_ _)) hb_); clear HL hb_; have HL := HLn; clear HLn; (try clear hf); have hf := HL.out.facts; simp only [factsOf, List.cons_append, List.nil_append] at hf; (try clear ht); have ht := HT5.out _ HL.out.below; (try clear hx); have hx := HX.out _ HL.out.below) | (go_at_call 68; have hcall := prog_fits.calls _ _ f.f0 f.f1 f.f2 A c f.f3 _ _ _ (Kd.C_below HC.out HL.out.below) hc H2.out; with_reducible refine hcall.mono ?_; clear hcall; rintro e_ wc56 ⟨rfl, hb_⟩; have HLn := Aside0.mk (Locs.step (by repeat (first | exact HL.out | refine Locs.drew ?_ | refine Locs.drewN ?_ _)) hb_); clear HL hb_; have HL := HLn; clear HLn; (try clear hf); have hf := HL.out.facts; simp only [factsOf, List.cons_append, List.nil_append] at hf; (try clear ht); have ht := HT5.out _ HL.out.below; (try clear hx); have hx := HX.out _ HL.out.below) | (go_at_call 68; have hcall := prog_fits.calls _ _ f.f0 f.f1 f.f2 A c f.f3 _ _ _ (Kd.C_below HC.out HL.out.below) hc H3.out; with_reducible refine hcall.mono ?_; clear hcall; rintro e_ wc58 ⟨rfl, hb_⟩; have HLn := Aside0.mk (Locs.step (by repeat (first | exact HL.out | refine Locs.drew ?_ | refine Locs.drewN ?_ _)) hb_); clear HL hb_; have HL := HLn; clear HLn; (try clear hf); have hf := HL.out.facts; simp only [factsOf, List.cons_append, List.nil_append] at hf; (try clear ht); have ht := HT5.out _ HL.out.below; (try clear hx); have hx := HX.out _ HL.out.below))
      go_ret
      exact ⟨by rw [HF.out, HD.out]; rfl, HL.out.below⟩
    · have hc0b : decide (0 ≤ i.f3) = false := decide_eq_false hc0
      have HD : Aside0 (decide (n = 0 ∨ (0 ≤ i.f3 ∧ i.f3 ≤ q)) = false) := ⟨decide_eq_false (fun e => e.elim hn0 (fun e => hc0 e.1))⟩
      clear hn0 hc0
      go_wp2_with (first | (go_at_call 68; have hcall := prog_fits.calls _ _ f.f0 f.f1 f.f2 A c f.f3 _ _ _ (Kd.C_below HC.out HL.out.below) hc H1.out; with_reducible refine hcall.mono ?_; clear hcall; rintro e_ wc60 ⟨rfl, hb_⟩; have HLn := Aside0.mk (Locs.step (by repeat (first | exact HL.out | refine Locs.drew ?_ | refine Locs.drewN ?_ _)) hb_); clear HL hb_; have HL := HLn; clear HLn; (try clear hf); have hf := HL.out.facts; simp only [factsOf, List.cons_append, List.nil_append] at hf; (try clear ht); have ht := HT5.out _ HL.out.below; (try clear hx); have hx := HX.out _ HL.out.below) | (go_at_call 68; have hcall := prog_fits.calls _ _ f.f0 f.f1 f.f2 A c f.f3 _ _ _ (Kd.C_below HC.out HL.out.below) hc H2.out; with_reducible refine hcall.mono ?_; clear hcall; rintro e_ wc62 ⟨rfl, hb_⟩; have HLn := Aside0.mk (Locs.step (by repeat (first | exact HL.out | refine Locs.drew ?_ | refine Locs.drewN ?_ _)) hb_); clear HL hb_; have HL := HLn; clear HLn; (try clear hf); have hf := HL.out.facts; simp only [factsOf, List.cons_append, List.nil_append] at hf; (try clear ht); have ht := HT5.out _ HL.out.below; (try clear hx); have hx := HX.out _ HL.out.below) | (go_at_call 68; have hcall := prog_fits.calls _ _ f.f0 f.f1 f.f2 A c f.f3 _ _ _ (Kd.C_below HC.out HL.out.below) hc H3.out; with_reducible refine hcall.mono ?_; clear hcall; rintro e_ wc64 ⟨rfl, hb_⟩; have HLn := Aside0.mk (Locs.step (by repeat (first | exact HL.out | refine Locs.drew ?_ | refine Locs.drewN ?_ _)) hb_); clear HL hb_; have HL := HLn; clear HLn; (try clear hf); have hf := HL.out.facts; simp only [factsOf, List.cons_append, List.nil_append] at hf; (try clear ht); have ht := HT5.out _ HL.out.below; (try clear hx); have hx := HX.out _ HL.out.below))
      go_ret
      exact ⟨by rw [HF.out, HD.out]; rfl, HL.out.below⟩
  have hk5b : (i.f0 == 5) = false := beq_eq_false_iff_ne.mpr hk5
  have hF : insB i f L = true := by rw [HB.out, if_neg (by decide), if_neg (by decide), if_neg (by decide), if_neg (fun h => h5 h.1), if_neg hk5]
  have HF := Aside0.mk hF
  clear h5 hk5 hF
  go_wp2_with (first | (go_at_call 68; have hcall := prog_fits.calls _ _ f.f0 f.f1 f.f2 A c f.f3 _ _ _ (Kd.C_below HC.out HL.out.below) hc H1.out; with_reducible refine hcall.mono ?_; clear hcall; rintro e_ wc66 ⟨rfl, hb_⟩; have HLn := Aside0.mk (Locs.step (by repeat (first | exact HL.out | refine Locs.drew ?_ | refine Locs.drewN ?_ _)) hb_); clear HL hb_; have HL := HLn; clear HLn; (try clear hf); have hf := HL.out.facts; simp only [factsOf, List.cons_append, List.nil_append] at hf; (try clear ht); have ht := HT5.out _ HL.out.below) | (go_at_call 68; have hcall := prog_fits.calls _ _ f.f0 f.f1 f.f2 A c f.f3 _ _ _ (Kd.C_below HC.out HL.out.below) hc H2.out; with_reducible refine hcall.mono ?_; clear hcall; rintro e_ wc68 ⟨rfl, hb_⟩; have HLn := Aside0.mk (Locs.step (by repeat (first | exact HL.out | refine Locs.drew ?_ | refine Locs.drewN ?_ _)) hb_); clear HL hb_; have HL := HLn; clear HLn; (try clear hf); have hf := HL.out.facts; simp only [factsOf, List.cons_append, List.nil_append] at hf; (try clear ht); have ht := HT5.out _ HL.out.below) | (go_at_call 68; have hcall := prog_fits.calls _ _ f.f0 f.f1 f.f2 A c f.f3 _ _ _ (Kd.C_below HC.out HL.out.below) hc H3.out; with_reducible refine hcall.mono ?_; clear hcall; rintro e_ wc70 ⟨rfl, hb_⟩; have HLn := Aside0.mk (Locs.step (by repeat (first | exact HL.out | refine Locs.drew ?_ | refine Locs.drewN ?_ _)) hb_); clear HL hb_; have HL := HLn; clear HLn; (try clear hf); have hf := HL.out.facts; simp only [factsOf, List.cons_append, List.nil_append] at hf; (try clear ht); have ht := HT5.out _ HL.out.below))
  go_ret
  exact ⟨by rw [HF.out]; rfl, HL.out.below⟩
end Go.Proofs.YtcioegimmjppcaaDoor.P
/-! prog.instructions (machine side): it ends as it should where all instructions may be and the last is one that may be last, else it gives up with a fault. -/
namespace Go.Proofs.YtcioegimmjppcaaDoor.P
open Go.RowKit Go.Proofs.YtcioegimmjppcaaDoorW.PrintWords Go.Proofs.YtcioegimmjppcaaDoorW.PrintLast Go.Proofs.YtcioegimmjppcaaDoorW.PrintMore
set_option linter.unusedVariables false
set_option linter.unusedSimpArgs false
set_option maxHeartbeats 1000000
set_option maxRecDepth 100000

def wrongV (e a b : Int) : List PanicEntry := [{ v := .iface 98 (.agg #[.int .i64 e, .int .i64 a, .int .i64 b]), recovered := false }]

/-- the end of a look: nothing, or a fault -/
def EndsB (w : World) (ok : Bool) (e : Ending) (w' : World) : Prop := (if ok = true then e = .returned (.tuple #[]) else ∃ x a b : Int, x ≠ 0 ∧ e = .panicked (wrongV x a b)) ∧ Below w.heap.size w w'
theorem EndsB.ok {w w' : World} {ok : Bool} (h : ok = true) (hb : Below w.heap.size w w') : EndsB w ok (.returned (.tuple #[])) w' := ⟨by rw [if_pos h], hb⟩
theorem EndsB.bad {w w' : World} {ok : Bool} (h : ok = false) (x a b : Int) (hx : x ≠ 0) (hb : Below w.heap.size w w') : EndsB w ok (.panicked (wrongV x a b)) w' := ⟨by rw [if_neg (by rw [h]; decide)]; exact ⟨x, a, b, hx, rfl⟩, hb⟩

def lastB (f : S39) : Bool := decide ((rd_T36 f.f3 (f.f3.length - 1 : Int)).f0 = 3 ∨ (rd_T36 f.f3 (f.f3.length - 1 : Int)).f0 = 9)
def codeB (L : List S39) (f : S39) : Bool := f.f3.all (fun i => insB i f L) && lastB f

theorem last_val (f : S39) (h1 : 1 ≤ f.f3.length) (h2 : f.f3.length ≤ 512) : prog_lastOK.f f.f0 f.f1 f.f2 f.f3 = some (lastB f) := by
  have hw : wrap64 ((f.f3.length : Int) - 1) = (f.f3.length : Int) - 1 := by unfold wrap64; omega
  unfold prog_lastOK.f lastB
  rw [hw, if_pos (by omega), if_pos (by omega)]
  by_cases h : (rd_T36 f.f3 (f.f3.length - 1 : Int)).f0 = 3
  · rw [if_pos h, decide_eq_true (Or.inl h)]
  · rw [if_neg h]
    congr 1
    by_cases h9 : (rd_T36 f.f3 (f.f3.length - 1 : Int)).f0 = 9
    · rw [decide_eq_true (Or.inr h9), h9]; rfl
    · rw [decide_eq_false (fun e => e.elim h h9)]; exact beq_eq_false_iff_ne.mpr h9

theorem take_succ_rd (l : List S36) (j : Nat) (h : j < l.length) : l.take (j + 1) = l.take j ++ [rd_T36 l (j : Int)] := by
  rw [List.take_add_one, rd_T36, List.getD_eq_getElem?_getD, Int.toNat_natCast, List.getElem?_eq_getElem h]
  rfl

theorem instructions_calls (n : Int) (f : S39) (L : List S39) (A : Option Addr) (c : Nat) (ad : Addr) (cL : Nat) (w : World) (hr : Kd.C k36 w A f.f3.length f.f3) (hc : f.f3.length ≤ c) (hL : Kd.C k39 w (some ad) L.length L) (hcL : L.length ≤ cL) (hlen : L.length ≤ 32)
   (hT : Tab w) (hf : 1 ≤ f.f1 ∧ f.f1 ≤ 16) (hP : ∀ g ∈ L, 0 ≤ g.f0 ∧ g.f0 ≤ 8) (h1 : 1 ≤ f.f3.length) (h2 : f.f3.length ≤ 512) :
    Calls Tryd.prog 50 #[.int .i64 n, .agg #[.int .i64 f.f0, .int .i64 f.f1, .int .i64 f.f2, .slice A f.f3.length c], .slice (some ad) L.length cL] w (EndsB w (codeB L f)) := by
  obtain ⟨ac, rfl, -⟩ := ins_cells hr (Below.refl _ _) 0 (by omega) (by omega)
  have HL := Aside0.mk (Locs.nil w)
  have HT := Aside0.mk hT
  have HC := Aside0.mk hr
  have HCL := Aside0.mk hL
  have HF1 := Aside0.mk hf
  have HPP := Aside0.mk hP
  have HLEN := Aside0.mk (And.intro h1 h2)
  have hu39 := Tryd.underlying39
  have hu36 := Tryd.underlying36
  clear hr hT hL hf hP h1 h2
  go_enter Tryd.func50, Tryd.ntmps50
  go_wp2_with (first | ((with_reducible refine gate_dst (N := 4) rfl ?_); (try (refine gate_guard (by rfl) ?_; dsimp only)); refine box_locs (by repeat (first | exact HL.out | refine Locs.drew ?_ | refine Locs.drewN ?_ _)) ?hg (N := 4) ?hd (cs := #[.int .i64 f.f0, .int .i64 f.f1, .int .i64 f.f2, .slice (some ac) f.f3.length c]) (t := 39) ?hr ?_; (case hd => rfl); (case hg => rfl); (case hr => first | (go_simp; done) | (go_simp; rfl)); intro g4 wb2 HLn HKb; clear HL; have HL := HLn; clear HLn HKb; (try clear hf); have hf := HL.out.facts; simp only [factsOf, List.cons_append, List.nil_append] at hf; skip))
  go_loopg [11] (f.f3.length + 1) (fun kq v11 w' => ∃ (j : Nat), v11 = .int .i64 (j : Int) ∧ Aside0 (f.f3.length - j < kq ∧ j ≤ f.f3.length ∧ ∀ x ∈ f.f3.take j, insB x f L = true) ∧ Aside0 (Locs w w' [(g4, #[.int .i64 f.f0, .int .i64 f.f1, .int .i64 f.f2, .slice (some ac) f.f3.length c], 39)]))
  case atStart => exact ⟨0, rfl, ⟨by omega, by omega, by intro x hx; simp at hx⟩, HL⟩
  case round =>
    clear HL hf
    obtain ⟨j, rfl, HJ, HL⟩ := hrel
    (try clear hf); have hf := HL.out.facts; simp only [factsOf, List.cons_append, List.nil_append] at hf; skip
    by_cases hin : j < f.f3.length
    · have hin2 : (j : Int) < (f.f3.length : Int) := by omega
      have HIN := Aside0.mk hin
      obtain ⟨i, hi⟩ : ∃ i, rd_T36 f.f3 (j : Int) = i := ⟨_, rfl⟩
      have HI := Aside0.mk hi
      have HX : Aside0 (∀ W, Below w.heap.size w W → W.cell? (ac.add (j * 5)) = some (.int .i64 i.f0) ∧ W.cell? ⟨(ac.add (j * 5)).block, (ac.add (j * 5)).off + 1, none⟩ = some (.int .i64 i.f1) ∧ W.cell? ⟨(ac.add (j * 5)).block, (ac.add (j * 5)).off + 2, none⟩ = some (.int .i64 i.f2) ∧ W.cell? ⟨(ac.add (j * 5)).block, (ac.add (j * 5)).off + 3, none⟩ = some (.int .i64 i.f3) ∧ W.cell? ⟨(ac.add (j * 5)).block, (ac.add (j * 5)).off + 4, none⟩ = some (.int .i64 i.f4)) := ⟨fun W hW => by
        obtain ⟨ad2, e0, e1⟩ := ins_cells HC.out (Below.refl _ _) (j : Int) (by omega) (by omega)
        cases e0
        have e2 := e1 W hW
        rw [hi, Int.toNat_natCast] at e2
        exact e2⟩
      clear hin hi
      (try clear hf); have hf := HL.out.facts; simp only [factsOf, List.cons_append, List.nil_append] at hf; (try clear hx); have hx := HX.out _ HL.out.below
      go_upto_region 4 with (first | ((with_reducible refine gate_dst (N := 7) rfl ?_); (try (refine gate_guard (by rfl) ?_; dsimp only)); refine box_locs (by repeat (first | exact HL.out | refine Locs.drew ?_ | refine Locs.drewN ?_ _)) ?hg (N := 7) ?hd (cs := #[.int .i64 0, .int .i64 0, .int .i64 0, .int .i64 0, .int .i64 0]) (t := 36) ?hr ?_; (case hd => rfl); (case hg => rfl); (case hr => first | (go_simp; done) | (go_simp; rfl)); intro g7 wb6 HLn HKb; clear HL; have HL := HLn; clear HLn HKb; (try clear hf); have hf := HL.out.facts; simp only [factsOf, List.cons_append, List.nil_append] at hf; (try clear hx); have hx := HX.out _ HL.out.below))
      generalize hwt : World.setCell _ _ _ = w3
      have HLn : Aside0 (Locs w w3 [(g7, #[.int .i64 i.f0, .int .i64 i.f1, .int .i64 i.f2, .int .i64 i.f3, .int .i64 i.f4], 36), (g4, #[.int .i64 f.f0, .int .i64 f.f1, .int .i64 f.f2, .slice (some ac) f.f3.length c], 39)]) := ⟨by rw [← hwt]; exact (((((HL.out.set 0 rfl 0 _).set 0 rfl 1 _).set 0 rfl 2 _).set 0 rfl 3 _).set 0 rfl 4 _)⟩
      clear HL hwt; have HL := HLn; clear HLn; (try clear hf); have hf := HL.out.facts; simp only [factsOf, List.cons_append, List.nil_append] at hf; (try clear hx); have hx := HX.out _ HL.out.below
      obtain ⟨b, hb⟩ : ∃ b, insB i f L = b := ⟨_, rfl⟩
      have HB := Aside0.mk hb
      clear hb
      cases b
      · go_wp2_with (first | (go_at_call 61; have hcall := instrOK_calls i f L (some ac) c ad cL _ (Kd.C_below HC.out HL.out.below) hc (Kd.C_below HCL.out HL.out.below) hcL hlen (HT.out.below HL.out.below) HF1.out HPP.out; with_reducible refine hcall.mono ?_; clear hcall; rintro e_ wc9 ⟨he_, hb_⟩; rw [HB.out] at he_; subst he_; have HLn := Aside0.mk (Locs.step (by repeat (first | exact HL.out | refine Locs.drew ?_ | refine Locs.drewN ?_ _)) hb_); clear HL hb_; have HL := HLn; clear HLn; (try clear hf); have hf := HL.out.facts; simp only [factsOf, List.cons_append, List.nil_append] at hf; (try clear hx); have hx := HX.out _ HL.out.below))
        refine ⟨rfl, EndsB.bad ?_ 52 n (j : Int) (by decide) HL.out.below⟩
        unfold codeB
        rw [Bool.and_eq_false_iff]
        refine Or.inl ?_
        rw [List.all_eq_false]
        have hlt := HIN.out
        refine ⟨i, ?_, by rw [HB.out]; decide⟩
        rw [← HI.out]
        unfold rd_T36
        rw [List.getD_eq_getElem?_getD, Int.toNat_natCast, List.getElem?_eq_getElem hlt]
        exact List.getElem_mem hlt
      · go_wp2_with (first | (go_at_call 61; have hcall := instrOK_calls i f L (some ac) c ad cL _ (Kd.C_below HC.out HL.out.below) hc (Kd.C_below HCL.out HL.out.below) hcL hlen (HT.out.below HL.out.below) HF1.out HPP.out; with_reducible refine hcall.mono ?_; clear hcall; rintro e_ wc10 ⟨he_, hb_⟩; rw [HB.out] at he_; subst he_; have HLn := Aside0.mk (Locs.step (by repeat (first | exact HL.out | refine Locs.drew ?_ | refine Locs.drewN ?_ _)) hb_); clear HL hb_; have HL := HLn; clear HLn; (try clear hf); have hf := HL.out.facts; simp only [factsOf, List.cons_append, List.nil_append] at hf; (try clear hx); have hx := HX.out _ HL.out.below))
        go_roundg (f.f3.length - (j + 1) + 1)
        case measure => have := HJ.out; have := HIN.out; omega
        case rel =>
          have hwc : wrap64 ((j : Int) + 1) = ((j + 1 : Nat) : Int) := by have := HIN.out; have := HLEN.out; unfold wrap64; omega
          refine ⟨j + 1, by rw [hwc], ⟨by have := HIN.out; omega, HIN.out, ?_⟩, ⟨HL.out.sub (List.Sublist.cons _ (List.Sublist.refl _))⟩⟩
          intro x hx
          rw [take_succ_rd _ _ HIN.out] at hx
          rcases List.mem_append.1 hx with hx | hx
          · exact HJ.out.2.2 x hx
          · rw [List.mem_singleton.1 hx, HI.out]; exact HB.out
    · have hin2 : (j : Int) = (f.f3.length : Int) := by have := HJ.out; omega
      have hall : f.f3.all (fun i => insB i f L) = true := by
        rw [List.all_eq_true]
        intro x hx
        refine HJ.out.2.2 x ?_
        rw [List.take_of_length_le (by omega)]
        exact hx
      have HALL := Aside0.mk hall
      have hlt : ¬ ((j : Int) < (f.f3.length : Int)) := by omega
      obtain ⟨b, hb⟩ : ∃ b, lastB f = b := ⟨_, rfl⟩
      have HB := Aside0.mk hb
      have HLV : Aside0 (prog_lastOK.f f.f0 f.f1 f.f2 f.f3 = some b) := ⟨by rw [last_val f HLEN.out.1 HLEN.out.2, hb]⟩
      clear hb hall hin hin2
      cases b
      · go_wp2_with (first | (go_at_call 62; have hcall := prog_lastOK.calls f.f0 f.f1 f.f2 (some ac) c f.f3 _ _ (Kd.C_below HC.out HL.out.below) hc HLV.out; with_reducible refine hcall.mono ?_; clear hcall; rintro e_ wc11 ⟨rfl, hb_⟩; have HLn := Aside0.mk (Locs.step (by repeat (first | exact HL.out | refine Locs.drew ?_ | refine Locs.drewN ?_ _)) hb_); clear HL hb_; have HL := HLn; clear HLn; (try clear hf); have hf := HL.out.facts; simp only [factsOf, List.cons_append, List.nil_append] at hf; skip))
        exact ⟨rfl, EndsB.bad (by unfold codeB; rw [HB.out, Bool.and_false]) 53 n _ (by decide) HL.out.below⟩
      · go_wp2_with (first | (go_at_call 62; have hcall := prog_lastOK.calls f.f0 f.f1 f.f2 (some ac) c f.f3 _ _ (Kd.C_below HC.out HL.out.below) hc HLV.out; with_reducible refine hcall.mono ?_; clear hcall; rintro e_ wc12 ⟨rfl, hb_⟩; have HLn := Aside0.mk (Locs.step (by repeat (first | exact HL.out | refine Locs.drew ?_ | refine Locs.drewN ?_ _)) hb_); clear HL hb_; have HL := HLn; clear HLn; (try clear hf); have hf := HL.out.facts; simp only [factsOf, List.cons_append, List.nil_append] at hf; skip))
        go_end0
        exact EndsB.ok (by unfold codeB; rw [HB.out, HALL.out]; rfl) HL.out.below
end Go.Proofs.YtcioegimmjppcaaDoor.P
/-! Words for the search of package prog: a map whose keys are points, read as a set; a queue of points that is sliced from ahead and appended to. -/
namespace Go.Proofs.YtcioegimmjppcaaDoor.P
open Go.RowKit Go.Maps Go.Proofs.YtcioegimmjppcaaDoorW.PrintWords Go.Proofs.YtcioegimmjppcaaDoorW.PrintLast Go.Proofs.YtcioegimmjppcaaDoorW.PrintMore
set_option linter.unusedVariables false
set_option maxRecDepth 100000

/-! ### points -/
def ptV (x : Int × Int) : Value := .agg #[.int .i64 x.1, .int .i64 x.2]
def wfI (a : Int) : Prop := -9223372036854775808 ≤ a ∧ a ≤ 9223372036854775807
def wfP (x : Int × Int) : Prop := wfI x.1 ∧ wfI x.2

theorem pt_laid : laidOutB Tryd.prog = true := by kernel_rfl
theorem pt_row : (117 : TypeId) < Tryd.prog.types.size := of_decide_eq_true (by kernel_rfl)
theorem pt_wide : (match Tryd.prog.underlying 117 with | some (.array _ _) | some (.struct _) => true | _ => false) = true := by rw [Tryd.underlying117]
theorem ptLaw : Keyed Tryd.prog 117 := Keyed.of_law (deep_law_laid pt_laid (m := 2) (by omega) pt_row (by kernel_rfl) pt_wide)
theorem pt_type : Tryd.prog.keyType 117 = true := by kernel_rfl
theorem pt_cells : Tryd.prog.cellsOf 117 = 2 := by kernel_rfl
theorem pt_cells3 : Tryd.prog.cellsOf 3 = 1 := by kernel_rfl
theorem pt_size : ∃ m, Tryd.prog.types.size = m + 1 := ⟨Tryd.prog.types.size - 1, (Nat.sub_add_cancel (Nat.lt_of_le_of_lt (Nat.zero_le _) pt_row)).symm⟩

theorem wf_lit {a : Int} (h : wfI a) : (Lit.int .i64 a).wf = true := by
  have h1 := h.1
  have h2 := h.2
  exact WalkArith.wf_i64 (by omega)

theorem ptKey (x : Int × Int) (h : wfP x) : ∃ kl, keyOf Tryd.prog 117 (ptV x) = some kl := by
  have w1 := wf_lit h.1
  have w2 := wf_lit h.2
  unfold keyOf
  rw [Tryd.underlying117]
  obtain ⟨m, hm⟩ := pt_size
  rw [hm]
  simp only [pt_type, ptV, Value.formed, Tryd.underlying117, pt_cells, Value.cells]
  simp [Program.keyLits, Tryd.underlying117, Tryd.underlying3, pt_cells, pt_cells3, w1, w2]


theorem one_int {m : Nat} {v : Value} {ls : List Lit} (h : Tryd.prog.keyLits (m + 1) 3 [v] = some ls) : ∃ a, v = .int .i64 a := by
  cases v <;> simp [Program.keyLits, Tryd.underlying3] at h
  exact ⟨_, by rw [h.1.1]⟩

theorem ptInv (key : Value) (kl : Lit) (h : keyOf Tryd.prog 117 key = some kl) : ∃ x, key = ptV x := by
  unfold keyOf at h
  rw [Tryd.underlying117] at h
  obtain ⟨m, hm⟩ := pt_size
  rw [hm] at h
  simp only [pt_type, Bool.true_and] at h
  split at h
  · rename_i hf
    unfold Value.formed at hf
    rw [Tryd.underlying117] at hf
    split at hf
    · rename_i cs
      simp only [pt_cells, beq_iff_eq] at hf
      obtain ⟨l⟩ := cs
      simp only [List.size_toArray] at hf
      obtain ⟨u, v, rfl⟩ : ∃ u v, l = [u, v] := by
        match l, hf with
        | [u, v], _ => exact ⟨u, v, rfl⟩
      obtain ⟨ls, hls, -⟩ := Option.map_eq_some_iff.1 h
      unfold Program.keyLits at hls
      simp [Tryd.underlying117, pt_cells, pt_cells3, Value.cells] at hls
      cases hu : Tryd.prog.keyLits (m + 1) 3 [u] with
      | none => rw [hu] at hls; simp at hls
      | some l1 =>
        cases hv : Tryd.prog.keyLits (m + 1) 3 [v] with
        | none => rw [hu, hv] at hls; simp at hls
        | some l2 =>
          obtain ⟨a, rfl⟩ := one_int hu
          obtain ⟨b, rfl⟩ := one_int hv
          exact ⟨(a, b), rfl⟩
    · cases hf
    · simp at hf
  · cases h

theorem ptV_inj {x y : Int × Int} (h : ptV x = ptV y) : x = y := by
  simp [ptV] at h
  exact Prod.ext h.1 h.2

def RT (v : Value) : Option (DataW Unit × List MemPlace) := match v with
  | .agg ⟨[.int .i64 _, .int .i64 _]⟩ => some (.lit (.bool true), [])
  | _ => none
theorem RT_mk (x : Int × Int) : RT (ptV x) = some (.lit (.bool true), []) := rfl
theorem RT_inv {v : Value} {y : DataW Unit × List MemPlace} (h : RT v = some y) : ∃ x, v = ptV x := by
  unfold RT at h
  split at h
  · exact ⟨(_, _), rfl⟩
  · cases h

/-! ### the map as a set of points -/
def PM (w : World) (B n : Nat) (seen : List (Int × Int)) : Prop :=
  ∃ D : DataW Unit, w.ownsMap Tryd.prog 117 RT B n D ∧ ∀ kl, Maps.has D kl = true ↔ ∃ p ∈ seen, keyOf Tryd.prog 117 (ptV p) = some kl

theorem PM.made (w : World) : PM (w.alloc (.map #[] 0)) w.heap.size 0 [] :=
  ⟨.map [], World.ownsMap_made w _ _ _, fun kl => by simp [Maps.has]⟩
theorem PM.lt {w : World} {B n : Nat} {seen : List (Int × Int)} (h : PM w B n seen) : B < w.heap.size := by obtain ⟨D, h1, -⟩ := h; exact h1.lt
theorem PM.same {w w1 : World} {B n : Nat} {seen : List (Int × Int)} (h : PM w B n seen) (hb : w1.heap[B]? = w.heap[B]?) : PM w1 B n seen := by
  obtain ⟨D, ⟨es, clock, h1, h2, h3, h4⟩, h5⟩ := h
  exact ⟨D, ⟨es, clock, hb.trans h1, h2, h3, h4⟩, h5⟩
theorem PM.below {w w1 : World} {B n : Nat} {seen : List (Int × Int)} (h : PM w B n seen) (hb : Below w.heap.size w w1) : PM w1 B n seen := h.same (hb.block B h.lt)
theorem PM.has {w : World} {B n : Nat} {seen : List (Int × Int)} {D : DataW Unit} (h : ∀ kl, Maps.has D kl = true ↔ ∃ p ∈ seen, keyOf Tryd.prog 117 (ptV p) = some kl) {p : Int × Int} {kl : Lit} (hk : keyOf Tryd.prog 117 (ptV p) = some kl) :
    Maps.has D kl = decide (p ∈ seen) := by
  by_cases hp : p ∈ seen
  · rw [decide_eq_true hp]; exact (h kl).2 ⟨p, hp, hk⟩
  · rw [decide_eq_false hp]
    cases hh : Maps.has D kl with
    | false => rfl
    | true =>
      obtain ⟨q, hq, hkq⟩ := (h kl).1 hh
      rw [ptV_inj (ptLaw.inj hk hkq)] at hp
      exact absurd hq hp

section
variable {P : Program} {ops : Array Oper} {rest : List Oper} {o : Oper} {a : Act} {Q : Exit → Act → World → Prop} {w : World} {B n : Nat} {seen : List (Int × Int)}
theorem pm_put (hg : o.guard = none) (m x v : Operand) (hop : o.op = .mapUpdate 114 m x v ∨ o.op = .insert 114 m x v) (hd : o.dst = none) (hm : a.eval m = .map (some B)) (h : PM w B n seen) (hn : n < maxLen) (p q : Int × Int) (hp : wfP p)
    (hx : a.eval x = ptV p) (hv : a.eval v = ptV q) (hK : ∀ w', PM w' B (n + 1) (seen ++ [p]) → w.grownBy w' (some B) → wpList Tryd.prog ops Q rest a w') : wpList Tryd.prog ops Q (o :: rest) a w := by
  refine wpList_plain hg fun K' hK' => ?_
  obtain ⟨D, hown, hhas⟩ := h
  obtain ⟨kl, hkey⟩ := ptKey p hp
  obtain ⟨w', hrun, r1, r2⟩ := hown.update ptLaw Tryd.underlying114 hn hkey (RT_mk q)
  have hK2 := hK w' ⟨_, r1, fun kl' => by
    by_cases e : kl' = kl
    · subst e
      rw [has_put_same hown.isMap (ptLaw.key hkey)]
      exact ⟨fun _ => ⟨p, by simp, hkey⟩, fun _ => rfl⟩
    · rw [has_put_other e, hhas]
      constructor
      · rintro ⟨y, hy, hky⟩
        exact ⟨y, List.mem_append_left _ hy, hky⟩
      · rintro ⟨y, hy, hky⟩
        rcases List.mem_append.1 hy with hy | hy
        · exact ⟨y, hy, hky⟩
        · rw [List.mem_singleton.1 hy, hkey] at hky
          exact absurd (Option.some.inj hky).symm e⟩ r2
  unfold Oper.wp
  rcases hop with hop | hop
  all_goals
    simp [execOp, hop, hm, hx, hv, hrun, Result.andThen]
    refine hK' _ _ ?_
    rw [hd]
    exact hK2

theorem pm_zero (w : World) : (zeroValue 117).run Tryd.prog w = .ok (ptV (0, 0)) w := by kernel_rfl

theorem pm_look (hg : o.guard = none) (m x : Operand) (hop : o.op = .lookup 114 m x true) (hm : a.eval m = .map (some B)) (h : PM w B n seen) (p : Int × Int) (hp : wfP p) (hx : a.eval x = ptV p) (r : Bool) (hr : decide (p ∈ seen) = r)
    (hK : ∀ q1 q2 : Int, wpList Tryd.prog ops Q rest (a.put o.dst (.tuple #[.agg #[.int .i64 q1, .int .i64 q2], .bool r])) w) : wpList Tryd.prog ops Q (o :: rest) a w := by
  refine wpList_plain hg fun K' hK' => ?_
  obtain ⟨D, hown, hhas⟩ := h
  obtain ⟨kl, hkey⟩ := ptKey p hp
  obtain ⟨v, ps, hrun, hv⟩ := hown.look_ok ptLaw Tryd.underlying114 (pm_zero w) (RT_mk (0, 0)) hkey
  obtain ⟨q, rfl⟩ := RT_inv hv
  rw [PM.has (w := w) (B := B) (n := n) hhas hkey, hr] at hrun
  unfold Oper.wp
  simp [execOp, hop, hm, hx, hrun, Result.andThen]
  exact hK' _ _ (hK q.1 q.2)
end

/-! ### the queue -/
def flatP (xs : List (Int × Int)) : List Value := xs.flatMap fun p => [.int .i64 p.1, .int .i64 p.2]
theorem flatP_len (xs : List (Int × Int)) : (flatP xs).length = 2 * xs.length := by
  induction xs with
  | nil => rfl
  | cons x xs ih => simp only [flatP, List.flatMap_cons, List.length_append, List.length_cons, List.length_nil] at ih ⊢; omega
theorem flatP_app (xs ys : List (Int × Int)) : flatP (xs ++ ys) = flatP xs ++ flatP ys := by simp [flatP]
theorem flatP_cons (x : Int × Int) (xs : List (Int × Int)) : flatP (x :: xs) = .int .i64 x.1 :: .int .i64 x.2 :: flatP xs := by simp [flatP]

structure Que (w : World) (base g off cap : Nat) (xs : List (Int × Int)) : Prop where
  blk : ∃ cur, w.heap[g]? = some (.cells cur 117 (0, 0)) ∧ off + cap * 2 ≤ cur.size
  cells : ∀ j u, (flatP xs)[j]? = some u → w.cell? ⟨g, off + j, none⟩ = some u
  le : xs.length ≤ cap
  base : base ≤ g

theorem Que.lt {w : World} {base g off cap : Nat} {xs : List (Int × Int)} (h : Que w base g off cap xs) : g < w.heap.size := by obtain ⟨cur, h1, -⟩ := h.blk; exact blk_lt h1
theorem Que.same {w w1 : World} {base g off cap : Nat} {xs : List (Int × Int)} (h : Que w base g off cap xs) (hb : w1.heap[g]? = w.heap[g]?) : Que w1 base g off cap xs := by
  obtain ⟨⟨cur, h1, h2⟩, h3, h4, h5⟩ := h
  refine ⟨⟨cur, hb.trans h1, h2⟩, fun j u hj => ?_, h4, h5⟩
  have := h3 j u hj
  simp only [World.cell?] at this ⊢
  rw [hb]
  exact this
theorem Que.below {w w1 : World} {base g off cap : Nat} {xs : List (Int × Int)} (h : Que w base g off cap xs) (hb : Below w.heap.size w w1) : Que w1 base g off cap xs := h.same (hb.block g h.lt)
theorem Que.frozen {w : World} {base g off cap : Nat} {xs : List (Int × Int)} (h : Que w base g off cap xs) (j : Nat) : w.frozen? ⟨g, j, none⟩ = false := by obtain ⟨cur, h1, -⟩ := h.blk; exact blk_frozen h1 j
theorem Que.head {w : World} {base g off cap : Nat} {x : Int × Int} {xs : List (Int × Int)} (h : Que w base g off cap (x :: xs)) : w.cell? ⟨g, off, none⟩ = some (.int .i64 x.1) ∧ w.cell? ⟨g, off + 1, none⟩ = some (.int .i64 x.2) :=
  ⟨h.cells 0 _ (by rw [flatP_cons]; rfl), h.cells 1 _ (by rw [flatP_cons]; rfl)⟩
/-- without its first -/
theorem Que.tail {w : World} {base g off cap : Nat} {x : Int × Int} {xs : List (Int × Int)} (h : Que w base g off cap (x :: xs)) : Que w base g (if cap = 1 then off else off + 2) (cap - 1) xs := by
  obtain ⟨⟨cur, h1, h2⟩, h3, h4, h5⟩ := h
  simp only [List.length_cons] at h4
  by_cases hc : cap = 1
  · subst hc
    have hx : xs = [] := List.eq_nil_of_length_eq_zero (by omega)
    subst hx
    exact ⟨⟨cur, h1, by rw [if_pos rfl]; omega⟩, fun j u hj => by simp [flatP] at hj, by simp, h5⟩
  · rw [if_neg hc]
    refine ⟨⟨cur, h1, by omega⟩, fun j u hj => ?_, by omega, h5⟩
    rw [Nat.add_assoc, Nat.add_comm 2 j]
    refine h3 (j + 2) u ?_
    rw [flatP_cons]
    exact hj

theorem info117 : (Tryd.prog.info? 117).map (fun i => (i.zero, i.size, i.bytes)) = some (some (.agg #[.int .i64 0, .int .i64 0]), 2, 16) := by kernel_rfl

/-- the queue's slice without its first -/
theorem que_slice (g off n cap : Nat) (hn : 1 ≤ n) : ∀ W : World, (Instr.slice 124 (.slice (some ⟨g, off, none⟩) n cap) (some (.int .i64 1)) none none).run Tryd.prog W = .ok (.slice (some ⟨g, if cap = 1 then off else off + 2, none⟩) (n - 1) (cap - 1)) W := by
  intro W
  obtain ⟨i0, hi, hzz⟩ := Option.map_eq_some_iff.1 info117
  simp only [Prod.mk.injEq] at hzz
  have hel : Tryd.prog.elem 124 = 117 := by simp [Program.elem, Tryd.underlying124]
  have hu : Tryd.prog.underlying 124 = some (.slice (Tryd.prog.elem 124)) := by rw [hel]; exact Tryd.underlying124
  have h := run_slice_l W 124 (some ⟨g, off, none⟩) n cap hu .i64 1 (by decide) (by omega)
  rw [hel] at h
  rw [h]
  simp [sizeOf, typeInfo, hi, hzz.2.1, sliced, Result.andThen]
  split <;> rfl

section
variable {ops : Array Oper} {rest : List Oper} {o : Oper} {a : Act} {Q : Exit → Act → World → Prop}
theorem que_append {W : World} {base g off cap : Nat} {xs : List (Int × Int)} (hgd : o.guard = none) (s x : Operand) (ho : o.op = .call { callee := .builtin .append, args := #[s, x], argTypes := #[124, 124] })
    (HQ : Que W base g off cap xs) (hs : a.eval s = .slice (some ⟨g, off, none⟩) xs.length cap) (p : Int × Int) (hx : a.eval x = .slice (some ⟨W.heap.size, 0, none⟩) 1 1) (hl : xs.length ≤ 1000000)
    (hbase : base ≤ W.heap.size)
    (h : ∀ g' off' cap' w1, Que w1 base g' off' cap' (xs ++ [p]) → W.grownBy w1 (some g) → (g' = g ∨ W.heap.size ≤ g') → wpList Tryd.prog ops Q rest (a.put o.dst (.slice (some ⟨g', off', none⟩) (xs.length + 1) cap')) w1) :
    wpList Tryd.prog ops Q (o :: rest) a (W.alloc (.cells #[.int .i64 p.1, .int .i64 p.2] 117 (0, 0))) := by
  obtain ⟨i0, hi, hzz⟩ := Option.map_eq_some_iff.1 info117
  simp only [Prod.mk.injEq] at hzz
  obtain ⟨hz0, hz1, hz2⟩ := hzz
  have HA := HQ.below (below_alloc (Below.refl _ _) (.cells #[.int .i64 p.1, .int .i64 p.2] 117 (0, 0)))
  obtain ⟨⟨cur, hb, hcur⟩, hcells, hle, hg⟩ := HA
  refine wpList_append_arg _ hgd s x 124 ho 117 i0 _ 2 16 Tryd.underlying124 hi hz0 hz1 hz2 rfl (by decide) g off xs.length cap (flatP xs) hs (by rw [flatP_len]; omega) hcells ⟨W.heap.size, 0, none⟩ 1 1 [.int .i64 p.1, .int .i64 p.2] hx rfl
    (by simpa using World.news_of_block (cs := #[.int .i64 p.1, .int .i64 p.2]) (t := 117) (fr := (0, 0)) (heap_alloc_new W (.cells #[.int .i64 p.1, .int .i64 p.2] 117 (0, 0)))) (by intro u hu; simp at hu; rcases hu with rfl | rfl <;> rfl)
    ?spare (by unfold maxLen; omega) (by omega) ?room ?grow
  case spare =>
    intro hroom j hj
    refine ⟨?_, blk_frozen hb _⟩
    rw [blk_cell hb]
    simp only [List.length_cons, List.length_nil] at hj
    rw [Array.getElem?_eq_getElem (by omega)]
    rfl
  case room =>
    intro hroom
    have hset : (World.setCells (W.alloc (.cells #[.int .i64 p.1, .int .i64 p.2] 117 (0, 0))) g (off + xs.length * 2) [.int .i64 p.1, .int .i64 p.2])
        = ((W.alloc (.cells #[.int .i64 p.1, .int .i64 p.2] 117 (0, 0))).setCell ⟨g, off + xs.length * 2, none⟩ (.int .i64 p.1)).setCell ⟨g, off + xs.length * 2 + 1, none⟩ (.int .i64 p.2) := rfl
    rw [hset]
    have hb2 := blk_set (blk_set hb (off + xs.length * 2) (.int .i64 p.1)) (off + xs.length * 2 + 1) (.int .i64 p.2)
    refine h g off cap _ ⟨⟨_, hb2, by simpa using hcur⟩, fun j u hj => ?_, by simp; omega, hg⟩ ⟨rfl, rfl, rfl, by simp [World.setCell], fun k hk hne => ?_⟩ ?_
    · rw [blk_cell hb2]
      rw [flatP_app] at hj
      have hjl : j < (flatP xs ++ flatP [p]).length := (List.getElem?_eq_some_iff.1 hj).1
      rw [List.length_append, flatP_len, flatP_len] at hjl
      simp only [List.length_cons, List.length_nil] at hjl
      by_cases h1 : j < 2 * xs.length
      · rw [List.getElem?_append_left (by rw [flatP_len]; exact h1)] at hj
        have := hcells j u hj
        rw [blk_cell hb] at this
        rw [Array.getElem?_setIfInBounds_ne (by omega), Array.getElem?_setIfInBounds_ne (by omega)]
        exact this
      · rw [List.getElem?_append_right (by rw [flatP_len]; omega), flatP_len] at hj
        by_cases h2 : j = 2 * xs.length
        · subst h2
          rw [Nat.sub_self] at hj
          have hu : u = .int .i64 p.1 := (Option.some.inj hj).symm
          subst hu
          rw [Array.getElem?_setIfInBounds_ne (by omega), show off + 2 * xs.length = off + xs.length * 2 by omega, Array.getElem?_setIfInBounds_self]
          rw [if_pos (by omega)]
        · obtain rfl : j = 2 * xs.length + 1 := by omega
          rw [show 2 * xs.length + 1 - 2 * xs.length = 1 by omega] at hj
          have hu : u = .int .i64 p.2 := (Option.some.inj hj).symm
          subst hu
          rw [show off + (2 * xs.length + 1) = off + xs.length * 2 + 1 by omega, Array.getElem?_setIfInBounds_self]
          rw [if_pos (by rw [Array.size_setIfInBounds]; omega)]
    · have hne' : k ≠ g := fun e => hne (by rw [e])
      exact (Below.heap_setCell _ _ _ k hne').trans ((Below.heap_setCell _ _ _ k hne').trans (Below.heap_alloc W _ k hk))
    · exact Or.inl rfl
  case grow =>
    intro hgrow v' w' hown hgr
    obtain ⟨h1, h2⟩ := hown
    rcases h2 with ⟨rfl, h2⟩ | ⟨g', cap', cur', rfl, hg', hb', hn', hm', hcs', ht'⟩
    · omega
    · have hsz : W.heap.size + 1 ≤ g' := by simpa using hg'
      refine h g' 0 cap' w' ⟨⟨cur', hb', by omega⟩, fun j u hj => ?_, by simp; omega, by omega⟩ ⟨hgr.os, hgr.tape, hgr.output, ?_, fun k hk hne => ?_⟩ (Or.inr (by omega))
      · rw [Nat.zero_add, blk_cell hb']
        rw [flatP_app] at hj
        have hjl : j < (flatP xs ++ flatP [p]).length := (List.getElem?_eq_some_iff.1 hj).1
        have e : flatP [p] = [.int .i64 p.1, .int .i64 p.2] := rfl
        rw [e, ← ht', List.getElem?_take] at hj
        split at hj
        · rwa [Array.getElem?_toList] at hj
        · cases hj
      · have := hgr.size; simp at this; omega
      · exact (hgr.block k (by simp; omega) (by simp)).trans (Below.heap_alloc W _ k hk)
end

/-! ### what stands in memory while the search runs -/
structure SI (w W : World) (bs : List (Nat × Array Value × TypeId)) (B g off cap : Nat) (vr : Value) (row : List Int) (seen work : List (Int × Int)) : Prop where
  L : Locs w W bs
  M : PM W B seen.length seen
  q : Que W w.heap.size g off cap work
  r : Kd.R (Kd.int .i64) 3 W w.heap.size (fun k => some k = vr.ownBlock) vr row
  gb : ∀ b ∈ bs, b.1 ≠ g
  Bge : w.heap.size ≤ B

theorem PM.isMap {w : World} {B n : Nat} {seen : List (Int × Int)} (h : PM w B n seen) : ∃ es clock, w.heap[B]? = some (.map es clock) := by
  obtain ⟨D, ⟨es, clock, h1, -⟩, -⟩ := h
  exact ⟨es, clock, h1⟩
theorem PM.ne {w : World} {B n : Nat} {seen : List (Int × Int)} (h : PM w B n seen) {k : Nat} {cs : Array Value} {t : TypeId} {fr : Nat × Nat} (hk : w.heap[k]? = some (.cells cs t fr)) : k ≠ B := by
  rintro rfl
  obtain ⟨es, clock, h1⟩ := h.isMap
  rw [hk] at h1
  cases h1

section
variable {w W W1 : World} {bs : List (Nat × Array Value × TypeId)} {B g off cap : Nat} {vr : Value} {row : List Int} {seen work : List (Int × Int)}
theorem SI.step (h : SI w W bs B g off cap vr row seen work) (k : Below W.heap.size W W1) : SI w W1 bs B g off cap vr row seen work :=
  ⟨h.L.step k, h.M.below k, h.q.below k, Kd.R_step h.r (fun i _ hi => k.block i hi), h.gb, h.Bge⟩
theorem SI.drewN (h : SI w W bs B g off cap vr row seen work) (n : Nat) : SI w (W.drewN n) bs B g off cap vr row seen work := h.step (pw_below_drewN (Below.refl _ _) n)
theorem SI.drew (h : SI w W bs B g off cap vr row seen work) : SI w W.drew bs B g off cap vr row seen work := h.step (below_drew1 (Below.refl _ _))
theorem SI.alloc (h : SI w W bs B g off cap vr row seen work) (cs : Array Value) (t : TypeId) : SI w (W.alloc (.cells cs t (0, 0))) ((W.heap.size, cs, t) :: bs) B g off cap vr row seen work := by
  have hs := h.step (below_alloc (Below.refl _ W) (.cells cs t (0, 0)))
  refine ⟨h.L.alloc cs t, hs.M, hs.q, hs.r, fun b hb => ?_, h.Bge⟩
  rcases List.mem_cons.1 hb with rfl | hb
  · exact Nat.ne_of_gt h.q.lt
  · exact h.gb b hb
theorem SI.set (h : SI w W bs B g off cap vr row seen work) (i : Nat) {g' : Nat} {cs : Array Value} {t : TypeId} (hi : bs[i]? = some (g', cs, t)) (ht : ∀ q, q ∈ 3 :: (Kd.int .i64).E → q ≠ t) (j : Nat) (v : Value) :
    SI w (W.setCell ⟨g', j, none⟩ v) (bs.set i (g', cs.setIfInBounds j v, t)) B g off cap vr row seen work := by
  have hblk := h.L.at i hi
  have hB := h.M.ne hblk
  have hg := h.gb _ (List.mem_of_getElem? hi)
  refine ⟨h.L.set i hi j v, h.M.same (Below.heap_setCell W ⟨g', j, none⟩ v B (fun e => hB e.symm)), h.q.same (Below.heap_setCell W ⟨g', j, none⟩ v g (fun e => hg e.symm)), Kd.R_set h.r hblk ht j v, fun b hb => ?_, h.Bge⟩
  rcases List.mem_or_eq_of_mem_set hb with hb | rfl
  · exact h.gb b hb
  · exact hg
theorem SI.row_ne (h : SI w W bs B g off cap vr row seen work) {k : Nat} (hk : vr.ownBlock = some k) : k ≠ g ∧ k ≠ B := by
  obtain ⟨cur, hq, -⟩ := h.q.blk
  obtain ⟨inner, ho⟩ := Kd.R_own h.r
  obtain ⟨cells, hc⟩ := own_typed ho k hk
  refine ⟨?_, h.M.ne hc⟩
  rintro rfl
  rw [hq] at hc
  injection hc with h1
  injection h1 with _ h2
  exact absurd h2 (by decide)
theorem SI.put (h : SI w W bs B g off cap vr row seen work) {p : Int × Int} (hg : W.grownBy W1 (some B)) (hm : PM W1 B (seen.length + 1) (seen ++ [p])) : SI w W1 bs B g off cap vr row (seen ++ [p]) work := by
  obtain ⟨cur, hq, -⟩ := h.q.blk
  have hbel : Below w.heap.size w W1 := h.L.below.grown hg h.L.below.size (fun k hk => by cases hk; exact h.Bge)
  refine ⟨h.L.grown hbel hg (fun b hb e => h.M.ne (h.L.blk b hb) (Option.some.inj e)), by rw [List.length_append]; exact hm, h.q.same (hg.block g h.q.lt (fun e => h.M.ne hq (Option.some.inj e))),
    Kd.R_step h.r (fun i hi hlt => hg.block i hlt (fun e => (h.row_ne hi.symm).2 (Option.some.inj e))), h.gb, h.Bge⟩
theorem SI.app (h : SI w W bs B g off cap vr row seen work) {p : Int × Int} {g' off' cap' : Nat} (hq : Que W1 w.heap.size g' off' cap' (work ++ [p])) (hg : W.grownBy W1 (some g)) (hd : g' = g ∨ W.heap.size ≤ g') :
    SI w W1 bs B g' off' cap' vr row seen (work ++ [p]) := by
  obtain ⟨cur, hqb, -⟩ := h.q.blk
  have hbel : Below w.heap.size w W1 := h.L.below.grown hg h.L.below.size (fun k hk => by cases hk; exact h.q.base)
  refine ⟨h.L.grown hbel hg (fun b hb e => h.gb b hb (Option.some.inj e)), h.M.same (hg.block B h.M.lt (fun e => h.M.ne hqb (Option.some.inj e).symm)), hq,
    Kd.R_step h.r (fun i hi hlt => hg.block i hlt (fun e => (h.row_ne hi.symm).1 (Option.some.inj e))), fun b hb => ?_, h.Bge⟩
  rcases hd with rfl | hd
  · exact h.gb b hb
  · have := h.L.lt b hb
    omega
theorem SI.sub (h : SI w W bs B g off cap vr row seen work) {bs' : List (Nat × Array Value × TypeId)} (hs : bs'.Sublist bs) : SI w W bs' B g off cap vr row seen work :=
  ⟨h.L.sub hs, h.M, h.q, h.r, fun b hb => h.gb b (hs.subset hb), h.Bge⟩
/-- the row gone over is another -/
theorem SI.turn (h : SI w W bs B g off cap vr row seen work) {vr' : Value} {row' : List Int} (hr : Kd.R (Kd.int .i64) 3 W w.heap.size (fun k => some k = vr'.ownBlock) vr' row') : SI w W bs B g off cap vr' row' seen work :=
  ⟨h.L, h.M, h.q, hr, h.gb, h.Bge⟩
/-- the first is taken from the queue -/
theorem SI.take {x : Int × Int} (h : SI w W bs B g off cap vr row seen (x :: work)) : SI w W bs B g (if cap = 1 then off else off + 2) (cap - 1) vr row seen work :=
  ⟨h.L, h.M, h.q.tail, h.r, h.gb, h.Bge⟩
end
section
variable {P : Program} {ops : Array Oper} {rest : List Oper} {o : Oper} {a : Act} {Q : Exit → Act → World → Prop}
theorem box_si {w W : World} {bs : List (Nat × Array Value × TypeId)} {B g off cap : Nat} {vr : Value} {row : List Int} {seen work : List (Int × Int)} (HS : SI w W bs B g off cap vr row seen work) (hgd : o.guard = none) {N : Tmp} (_hd : o.dst = some N) {cs : Array Value} {t : TypeId}
    (hrun : (execOp a.eval o).run P W = .ok (.value (.pointer (some ⟨W.heap.size, 0, none⟩))) (W.alloc (.cells cs t (0, 0))))
    (h : ∀ g' w1, Aside0 (SI w w1 ((g', cs, t) :: bs) B g off cap vr row seen work) → wpList P ops Q rest (a.put o.dst (.pointer (some ⟨g', 0, none⟩))) w1) : wpList P ops Q (o :: rest) a W :=
  Kd.event_run hgd hrun (h _ _ ⟨HS.alloc cs t⟩)
end
section
variable {P : Program} {ops : Array Oper} {rest : List Oper} {o : Oper} {a : Act} {Q : Exit → Act → World → Prop}
theorem map_locs {w W : World} {bs : List (Nat × Array Value × TypeId)} (HL : Locs w W bs) (hgd : o.guard = none) {N : Tmp} (_hd : o.dst = some N)
    (hrun : (execOp a.eval o).run P W = .ok (.value (.map (some W.heap.size))) (W.alloc (.map #[] 0)))
    (h : ∀ B w1, Aside0 (Locs w w1 bs) → Aside0 (PM w1 B 0 []) → Aside0 (w.heap.size ≤ B) → wpList P ops Q rest (a.put o.dst (.map (some B))) w1) : wpList P ops Q (o :: rest) a W :=
  Kd.event_run hgd hrun (h _ _ ⟨HL.step (below_alloc (Below.refl _ _) _)⟩ ⟨PM.made W⟩ ⟨HL.below.size⟩)
theorem put_locs {w W W1 : World} {bs : List (Nat × Array Value × TypeId)} {B n : Nat} {seen : List (Int × Int)} (HL : Locs w W bs) (HM : PM W B n seen) (hB : w.heap.size ≤ B) (hg : W.grownBy W1 (some B)) : Locs w W1 bs :=
  HL.grown (HL.below.grown hg HL.below.size (fun k hk => by cases hk; exact hB)) hg (fun b hb e => HM.ne (HL.blk b hb) (Option.some.inj e))
theorem si_start {w W : World} {bs : List (Nat × Array Value × TypeId)} {B : Nat} (HL : Locs w W bs) (HM : PM W B 1 [(0, 1)]) (hB : w.heap.size ≤ B) (hgd : o.guard = none) {N : Tmp} (_hd : o.dst = some N)
    (hrun : (execOp a.eval o).run P W = .ok (.value (.slice (some ⟨W.heap.size, 0, none⟩) 1 1)) (W.alloc (.cells #[.int .i64 0, .int .i64 1] 117 (0, 0))))
    (h : ∀ g w1, Aside0 (SI w w1 bs B g 0 1 (.slice none 0 0) [] [(0, 1)] [(0, 1)]) → wpList P ops Q rest (a.put o.dst (.slice (some ⟨g, 0, none⟩) 1 1)) w1) : wpList P ops Q (o :: rest) a W := by
  have hb := below_alloc (Below.refl _ W) (.cells #[.int .i64 0, .int .i64 1] 117 (0, 0))
  have hn := blk_new W (.cells #[.int .i64 0, .int .i64 1] 117 (0, 0))
  refine Kd.event_run hgd hrun (h _ _ ⟨⟨HL.step hb, HM.below hb, ⟨⟨_, hn, by simp⟩, fun j u hj => ?_, by simp, HL.below.size⟩, Kd.R_nil _ _ _ _ _, fun b hb' => Nat.ne_of_lt (HL.lt b hb'), hB⟩⟩)
  rw [Nat.zero_add, blk_cell hn]
  simpa [flatP] using hj
end
end Go.Proofs.YtcioegimmjppcaaDoor.P
/-! prog.search (machine side): it answers a map whose keys are the points that the plain search finds. -/
namespace Go.Proofs.YtcioegimmjppcaaDoor.P
open Go.RowKit Go.Maps Go.Proofs.YtcioegimmjppcaaDoorW.PrintWords Go.Proofs.YtcioegimmjppcaaDoorW.PrintLast Go.Proofs.YtcioegimmjppcaaDoorW.PrintMore
set_option linter.unusedVariables false
set_option linter.unusedSimpArgs false
set_option maxHeartbeats 1000000
set_option maxRecDepth 100000

theorem behind_val (i : S36) (slot s : Int) : prog_behind.f 1 i.f0 i.f1 i.f2 i.f3 i.f4 slot s = some (behind (insS i) slot s) := by
  have e : behind (insS i) slot s = if i.f0 = 5 ∧ i.f1 = slot then 2 else if i.f0 = 6 ∧ s = 2 then 4 else s := rfl
  rw [e]
  unfold prog_behind.f
  simp only [prog_behind.j0]
  by_cases h5 : i.f0 = 5
  · by_cases h1 : i.f1 = slot
    · simp [h5, h1]
    · simp [h5, h1]
  · by_cases h6 : i.f0 = 6
    · by_cases h2 : s = 2
      · simp [h6, h2]
      · simp [h6, h2]
    · simp [h5, h6]

theorem never_calls (a b : Int) (w : World) : Calls Tryd.prog 70 #[.agg #[.int .i64 a, .int .i64 b]] w fun e w' => e = .returned (.bool false) ∧ Below w.heap.size w w' := by
  go_enter Tryd.func70, Tryd.ntmps70
  go_wp2
  go_ret
  exact ⟨rfl, below_alloc (Below.refl _ _) _⟩

/-- the search on its way -/
structure Going (code : List Ins) (slot : Int) (S : List (Int × Int)) (kq : Nat) (seen work : List (Int × Int)) : Prop where
  eq : srch code slot kq seen work = S
  nodup : seen.Nodup
  sub : ∀ x ∈ work, x ∈ seen
  inb : ∀ x ∈ seen, inBox code.length x
  cnt : 3 * code.length + work.length ≤ kq + seen.length
  wl : work.length ≤ seen.length

theorem Going.len {code : List Ins} {slot : Int} {S seen work : List (Int × Int)} {kq : Nat} (h : Going code slot S kq seen work) : seen.length ≤ 3 * code.length := by
  have := nodup_sub_len seen (box code.length) h.nodup (fun x hx => mem_box (h.inb x hx))
  rwa [box_len] at this
theorem Going.pos {code : List Ins} {slot : Int} {S seen work : List (Int × Int)} {x : Int × Int} {kq : Nat} (h : Going code slot S kq seen (x :: work)) : ∃ k, kq = k + 1 := by
  have h1 := h.len
  have h2 := h.cnt
  simp only [List.length_cons] at h2
  exact ⟨kq - 1, by omega⟩
theorem Going.done {code : List Ins} {slot : Int} {S seen : List (Int × Int)} {kq : Nat} (h : Going code slot S kq seen []) : seen = S := by
  rw [← h.eq]
  cases kq <;> rfl
theorem Going.next {code : List Ins} (hp : placed code) {slot : Int} {S seen work : List (Int × Int)} {x : Int × Int} {k : Nat} (h : Going code slot S (k + 1) seen (x :: work)) :
    Going code slot S k ((nbrs code slot x).foldl push1 (seen, work)).1 ((nbrs code slot x).foldl push1 (seen, work)).2 := by
  obtain ⟨h1, h2, h3, h4, h5, h6⟩ := push1_fold (nbrs code slot x) seen work h.nodup (fun y hy => h.sub y (List.mem_cons_of_mem _ hy))
  have hx := h.inb x (h.sub x List.mem_cons_self)
  refine ⟨h.eq, h1, h2, fun y hy => ?_, ?_, ?_⟩
  · rcases (h3 y).1 hy with hy | hy
    · exact h.inb y hy
    · exact nbrs_box hp slot hx y hy
  · have := h.cnt
    simp only [List.length_cons] at this
    omega
  · have := h.wl
    simp only [List.length_cons] at this
    omega

/-- part of a round -/
theorem Going.part {code : List Ins} (hp : placed code) {slot : Int} {S seen work : List (Int × Int)} {x : Int × Int} {k : Nat} (h : Going code slot S k seen (x :: work)) (l : List (Int × Int)) (hl : ∀ y ∈ l, y ∈ nbrs code slot x) :
    (l.foldl push1 (seen, work)).1.length ≤ 3 * code.length ∧ (l.foldl push1 (seen, work)).2.length ≤ 3 * code.length := by
  obtain ⟨h1, h2, h3, h4, h5, h6⟩ := push1_fold l seen work h.nodup (fun y hy => h.sub y (List.mem_cons_of_mem _ hy))
  have hx := h.inb x (h.sub x List.mem_cons_self)
  have hb : (l.foldl push1 (seen, work)).1.length ≤ 3 * code.length := by
    have := nodup_sub_len _ (box code.length) h1 (fun y hy => by
      rcases (h3 y).1 hy with hy | hy
      · exact mem_box (h.inb y hy)
      · exact mem_box (nbrs_box hp slot hx y (hl y hy)))
    rwa [box_len] at this
  refine ⟨hb, ?_⟩
  have := h.wl
  simp only [List.length_cons] at this
  omega

theorem box_wf {n : Nat} {x : Int × Int} (h : inBox n x) (hn : n ≤ 512) : wfP x := by
  obtain ⟨h1, h2, h3⟩ := h
  exact ⟨⟨by omega, by omega⟩, ⟨by omega, by omega⟩⟩

/-- the row of a round -/
def ptsOf (s : Int) (row : List Int) (j : Nat) : List (Int × Int) := (row.take j).map fun n => (n, s)
theorem ptsOf_succ (s : Int) (row : List Int) (j : Nat) (h : j < row.length) : ptsOf s row (j + 1) = ptsOf s row j ++ [(row.getD j 0, s)] := by
  unfold ptsOf
  rw [List.take_add_one, List.map_append, List.getElem?_eq_getElem h, List.getD_eq_getElem?_getD, List.getElem?_eq_getElem h]
  rfl

theorem search_state {w W' : World} {g10 g7 g3 B g off cap c n : Nat} {xa xs p0 p1 p2 : Int} {ad : Addr} {i : S36} {seen work : List (Int × Int)} {vr : Value} {row : List Int} {xad : Addr}
    (h : SI w W' [(g10, #[.int .i64 xa, .int .i64 xs], 117), (g7, #[.int .i64 0, .int .i64 1], 117), (g3, #[.int .i64 p0, .int .i64 p1, .int .i64 p2, .slice (some ad) n c], 39)] B g off cap vr row seen work)
    (hx : ∀ W, Below w.heap.size w W → W.cell? xad = some (.int .i64 i.f0) ∧ W.cell? ⟨xad.block, xad.off + 1, none⟩ = some (.int .i64 i.f1) ∧ W.cell? ⟨xad.block, xad.off + 2, none⟩ = some (.int .i64 i.f2) ∧ W.cell? ⟨xad.block, xad.off + 3, none⟩ = some (.int .i64 i.f3) ∧ W.cell? ⟨xad.block, xad.off + 4, none⟩ = some (.int .i64 i.f4)) :
    ((∀ j, W'.cell? ⟨g10, j, none⟩ = #[Value.int .i64 xa, .int .i64 xs][j]?) ∧ (∀ j, W'.cell? ⟨g3, j, none⟩ = #[Value.int .i64 p0, .int .i64 p1, .int .i64 p2, .slice (some ad) n c][j]?) ∧ W'.cell? xad = some (.int .i64 i.f0) ∧ W'.cell? ⟨xad.block, xad.off + 1, none⟩ = some (.int .i64 i.f1) ∧ W'.cell? ⟨xad.block, xad.off + 2, none⟩ = some (.int .i64 i.f2) ∧ W'.cell? ⟨xad.block, xad.off + 3, none⟩ = some (.int .i64 i.f3) ∧ W'.cell? ⟨xad.block, xad.off + 4, none⟩ = some (.int .i64 i.f4)) ∧
      Aside0 (SI w W' [(g10, #[.int .i64 xa, .int .i64 xs], 117), (g7, #[.int .i64 0, .int .i64 1], 117), (g3, #[.int .i64 p0, .int .i64 p1, .int .i64 p2, .slice (some ad) n c], 39)] B g off cap vr row seen work) := by
  have hf := h.L.facts
  simp only [factsOf] at hf
  exact ⟨⟨hf.1.1, hf.2.2.1.1, hx _ h.L.below⟩, ⟨h⟩⟩

def SeaPost (w : World) (S : List (Int × Int)) (e : Ending) (w' : World) : Prop := ∃ B n, e = .returned (.map (some B)) ∧ PM w' B n S ∧ n ≤ 2000 ∧ w.heap.size ≤ B ∧ Below w.heap.size w w'

theorem search_calls (p0 p1 p2 : Int) (A : Option Addr) (c : Nat) (l : List S36) (slot : Int) (w : World) (hr : Kd.C k36 w A l.length l) (hc : l.length ≤ c) (hlen : l.length ≤ 512) (hT : Tab w)
   (hp : placed (l.map insS)) (hk : ∀ i ∈ l, 0 ≤ i.f0 ∧ i.f0 < 10) :
    Calls Tryd.prog 69 #[.agg #[.int .i64 p0, .int .i64 p1, .int .i64 p2, .slice A l.length c], .int .i64 slot, .func (.func 70) #[] #[]] w (SeaPost w (srch (l.map insS) slot (3 * l.length) [(0, 1)] [(0, 1)])) := by
  have hl0 : 0 < l.length := by have := hp.1; rwa [List.length_map] at this
  obtain ⟨ad, rfl, -⟩ := ins_cells hr (Below.refl _ _) 0 (by omega) (by omega)
  obtain ⟨S, hS⟩ : ∃ S, srch (l.map insS) slot (3 * l.length) [(0, 1)] [(0, 1)] = S := ⟨_, rfl⟩
  rw [hS]
  have HS0 := Aside0.mk hS
  have HL := Aside0.mk (Locs.nil w)
  have HT := Aside0.mk hT
  have HC := Aside0.mk hr
  have HP := Aside0.mk hp
  have HK := Aside0.mk hk
  have HLEN := Aside0.mk (And.intro hl0 hlen)
  have hu39 := Tryd.underlying39
  have hu36 := Tryd.underlying36
  have hu117 := Tryd.underlying117
  have hmm := @run_makeMap Tryd.prog
  clear hr hT hp hk hS hl0 hlen
  go_enter Tryd.func69, Tryd.ntmps69
  go_upto_region 1 with (first | ((with_reducible refine gate_dst (N := 3) rfl ?_); (try (refine gate_guard (by rfl) ?_; dsimp only)); refine box_locs (by repeat (first | exact HL.out | refine Locs.drew ?_ | refine Locs.drewN ?_ _)) ?hg (N := 3) ?hd (cs := #[.int .i64 p0, .int .i64 p1, .int .i64 p2, .slice (some ad) l.length c]) (t := 39) ?hr ?_; (case hd => rfl); (case hg => rfl); (case hr => first | (go_simp; done) | (go_simp; rfl)); intro g3 wb1 HLn HKb; clear HL; have HL := HLn; clear HLn HKb; (try clear hf); have hf := HL.out.facts; simp only [factsOf, List.cons_append, List.nil_append] at hf; skip) | fail)
  refine wp_scope_straight ?_
  go_upto_region 2 with (first | ((with_reducible refine gate_dst (N := 7) rfl ?_); (try (refine gate_guard (by rfl) ?_; dsimp only)); refine box_locs (by repeat (first | exact HL.out | refine Locs.drew ?_ | refine Locs.drewN ?_ _)) ?hg (N := 7) ?hd (cs := #[.int .i64 0, .int .i64 0]) (t := 117) ?hr ?_; (case hd => rfl); (case hg => rfl); (case hr => first | (go_simp; done) | (go_simp; rfl)); intro g7 wb2 HLn HKb; clear HL; have HL := HLn; clear HLn HKb; (try clear hf); have hf := HL.out.facts; simp only [factsOf, List.cons_append, List.nil_append] at hf; skip))
  generalize hwt : World.setCell _ _ _ = w3
  have HLn : Aside0 (Locs w w3 [(g7, #[.int .i64 0, .int .i64 1], 117), (g3, #[.int .i64 p0, .int .i64 p1, .int .i64 p2, .slice (some ad) l.length c], 39)]) := ⟨by rw [← hwt]; exact ((HL.out.set 0 rfl 0 _).set 0 rfl 1 _)⟩
  clear HL hwt; have HL := HLn; clear HLn; (try clear hf); have hf := HL.out.facts; simp only [factsOf, List.cons_append, List.nil_append] at hf; skip
  go_upto_region 4 with (first | ((with_reducible refine gate_dst (N := 18) rfl ?_); refine map_locs (by repeat (first | exact HL.out | refine Locs.drew ?_ | refine Locs.drewN ?_ _)) ?hg (N := 18) ?hd ?hr ?_; (case hd => rfl); (case hg => rfl); (case hr => first | (go_simp; done) | (go_simp; rfl)); intro B wB HLn HM HBG; clear HL; have HL := HLn; clear HLn; (try clear hf); have hf := HL.out.facts; simp only [factsOf, List.cons_append, List.nil_append] at hf; skip) | ((with_reducible refine gate_ (.insert 114 (.tmp 18) (.tmp 19) (.tmp 20)) rfl ?_); refine pm_put rfl (.tmp 18) (.tmp 19) (.tmp 20) (Or.inr rfl) rfl rfl HM.out (by decide) (0, 1) (-1, 0) ⟨⟨by decide, by decide⟩, ⟨by decide, by decide⟩⟩ rfl rfl ?_; intro wC HMn hgr; have HLn := Aside0.mk (put_locs HL.out HM.out HBG.out hgr); clear HL HM hgr; have HL := HLn; clear HLn; have HM := Aside0.mk HMn; clear HMn; (try clear hf); have hf := HL.out.facts; simp only [factsOf, List.cons_append, List.nil_append] at hf; skip) | ((with_reducible refine gate_dst (N := 23) rfl ?_); refine si_start (by repeat (first | exact HL.out | refine Locs.drew ?_ | refine Locs.drewN ?_ _)) (by first | exact HM.out | exact HM.out.below (pw_below_drewN (Below.refl _ _) _)) HBG.out ?hg (N := 23) ?hd ?hr ?_; (case hd => rfl); (case hg => rfl); (case hr => first | (go_simp; done) | (go_simp; rfl)); intro g9 wD HS; clear HL HM; (try clear hf)))
  refine wp_label ?_
  go_wp2_with (first | fail)
  go_loopg [9] (3 * l.length) (fun kq v9 w' => ∃ (g off cap n : Nat) (seen work : List (Int × Int)), v9 = .slice (some ⟨g, off, none⟩) n cap ∧ Aside0 (n = work.length) ∧ Aside0 (Going (l.map insS) slot S kq seen work) ∧ Aside0 (SI w w' [(g7, #[.int .i64 0, .int .i64 1], 117), (g3, #[.int .i64 p0, .int .i64 p1, .int .i64 p2, .slice (some ad) l.length c], 39)] B g off cap (.slice none 0 0) [] seen work))
  case atStart => exact ⟨g9, 0, 1, 1, _, _, rfl, ⟨rfl⟩, ⟨⟨HS0.out, by simp, fun x hx => hx, fun x hx => by rw [List.mem_singleton.1 hx]; exact ⟨by decide, by have := HLEN.out; rw [List.length_map]; simp only; omega, Or.inl rfl⟩, by rw [List.length_map]; simp, by simp⟩⟩, HS⟩
  case round =>
    clear HS
    obtain ⟨g, off, cap, n, seen, work, rfl, HN, HG, HS⟩ := hrel
    (try clear hf); have hf := HS.out.L.facts; simp only [factsOf, List.cons_append, List.nil_append] at hf; skip
    cases work with
    | nil =>
      have hn : n = 0 := HN.out
      subst hn
      go_wp2_with (first | fail)
      show bodyPost Tryd.prog Tryd.f69 (SeaPost w S) Exit.ret _ _
      go_ret
      have hS := HG.out.done
      subst hS
      have hl := HG.out.len
      rw [List.length_map] at hl
      exact ⟨B, _, rfl, HS.out.M, by have := HLEN.out; omega, HS.out.Bge, HS.out.L.below⟩
    | cons x work =>
      have hn : n = work.length + 1 := HN.out
      subst hn
      obtain ⟨kk, hkk⟩ := HG.out.pos
      subst hkk
      have hx := HG.out.inb x (HG.out.sub x List.mem_cons_self)
      obtain ⟨xa, xs⟩ := x
      have HX := Aside0.mk hx
      have hq0 := HS.out.q.head
      have hsl := que_slice g off (work.length + 1) cap (by omega)
      clear hx
      go_upto_region 6 with (first | ((with_reducible refine gate_dst (N := 10) rfl ?_); (try (refine gate_guard (by rfl) ?_; dsimp only)); refine box_si (by repeat (first | exact HS.out | refine SI.drew ?_ | refine SI.drewN ?_ _)) ?hg (N := 10) ?hd (cs := #[.int .i64 0, .int .i64 0]) (t := 117) ?hr ?_; (case hd => rfl); (case hg => rfl); (case hr => first | (go_simp; done) | (go_simp; rfl)); intro g10 wb12 HLn; clear HS; have HS := HLn; clear HLn; (try clear hf); have hf := HS.out.L.facts; simp only [factsOf, List.cons_append, List.nil_append] at hf; skip); have hq0 := HS.out.q.head)
      generalize hwt : World.setCell _ _ _ = w4
      have HSn : Aside0 (SI w w4 [(g10, #[.int .i64 xa, .int .i64 xs], 117), (g7, #[.int .i64 0, .int .i64 1], 117), (g3, #[.int .i64 p0, .int .i64 p1, .int .i64 p2, .slice (some ad) l.length c], 39)] B g off cap (.slice none 0 0) [] seen ((xa, xs) :: work)) := ⟨by rw [← hwt]; exact (HS.out.set 0 rfl (by decide) 0 _).set 0 rfl (by decide) 1 _⟩
      clear HS hwt hq0; have HS := HSn; clear HSn; (try clear hf); have hf := HS.out.L.facts; simp only [factsOf, List.cons_append, List.nil_append] at hf; skip
      go_upto_region 8 with (first | (go_at_call 70; have hcall := never_calls xa xs w4; with_reducible refine hcall.mono ?_; clear hcall; rintro e_ wc15 ⟨rfl, hb_⟩; have HLn := Aside0.mk (SI.step (by repeat (first | exact HS.out | refine SI.drew ?_ | refine SI.drewN ?_ _)) hb_); clear HS hb_; have HS := HLn; clear HLn; (try clear hf); have hf := HS.out.L.facts; simp only [factsOf, List.cons_append, List.nil_append] at hf; skip))
      have HSt := Aside0.mk HS.out.take
      clear HS hsl; have HS := HSt; clear HSt
      generalize (if cap = 1 then off else off + 2) = off at HS ⊢
      have hbx := HX.out
      obtain ⟨i, hi⟩ : ∃ i, rd_T36 l xa = i := ⟨_, rfl⟩
      have HI := Aside0.mk hi
      obtain ⟨ad2, he2, hxc⟩ := ins_cells HC.out (Below.refl _ _) xa hbx.1 (by have := hbx.2.1; rwa [List.length_map] at this)
      cases he2
      rw [hi] at hxc
      have HXC := Aside0.mk hxc
      have hb0 : 0 ≤ xa := hbx.1
      have hb1 : xa < (l.length : Int) := by have := hbx.2.1; rwa [List.length_map] at this
      obtain ⟨s, hs⟩ : ∃ s, behind (insS i) slot xs = s := ⟨_, rfl⟩
      have HBV : Aside0 (prog_behind.f 1 i.f0 i.f1 i.f2 i.f3 i.f4 slot xs = some s) := ⟨by rw [behind_val, hs]⟩
      have HBS := Aside0.mk hs
      clear hbx hi hxc hf hs
      go_region_held3 (fun W' => ((∀ j, W'.cell? ⟨g10, j, none⟩ = #[Value.int .i64 xa, .int .i64 xs][j]?) ∧ (∀ j, W'.cell? ⟨g3, j, none⟩ = #[Value.int .i64 p0, .int .i64 p1, .int .i64 p2, .slice (some ad) l.length c][j]?) ∧ W'.cell? (ad.add (xa.toNat * 5)) = some (.int .i64 i.f0) ∧ W'.cell? ⟨(ad.add (xa.toNat * 5)).block, (ad.add (xa.toNat * 5)).off + 1, none⟩ = some (.int .i64 i.f1) ∧ W'.cell? ⟨(ad.add (xa.toNat * 5)).block, (ad.add (xa.toNat * 5)).off + 2, none⟩ = some (.int .i64 i.f2) ∧ W'.cell? ⟨(ad.add (xa.toNat * 5)).block, (ad.add (xa.toNat * 5)).off + 3, none⟩ = some (.int .i64 i.f3) ∧ W'.cell? ⟨(ad.add (xa.toNat * 5)).block, (ad.add (xa.toNat * 5)).off + 4, none⟩ = some (.int .i64 i.f4)) ∧ Aside0 (SI w W' [(g10, #[.int .i64 xa, .int .i64 xs], 117), (g7, #[.int .i64 0, .int .i64 1], 117), (g3, #[.int .i64 p0, .int .i64 p1, .int .i64 p2, .slice (some ad) l.length c], 39)] B g off (cap - 1) (.slice none 0 0) [] seen work)) (first | exact search_state HS.out.drew HXC.out | exact search_state (HS.out.drew.step hb_) HXC.out) (first | (go_at_call 78; refine (prog_behind.calls 1 i.f0 i.f1 i.f2 i.f3 i.f4 slot xs _ _ HBV.out).mono ?_; rintro e_ wb_ ⟨rfl, hb_⟩))
      rename_i wS hS_
      clear HS
      have HS := hS_.2
      clear hS_
      (try clear hf); have hf := HS.out.L.facts; simp only [factsOf, List.cons_append, List.nil_append] at hf; skip
      obtain ⟨row, hrow⟩ : ∃ row, nexts (l.map insS) xa = row := ⟨_, rfl⟩
      have HROW := Aside0.mk hrow
      have HKI : Aside0 (0 ≤ (rd_T36 l xa).f0 ∧ (rd_T36 l xa).f0 < 10) := ⟨by
        have hlt : xa.toNat < l.length := by omega
        have hm : rd_T36 l xa ∈ l := by
          unfold rd_T36
          rw [List.getD_eq_getElem?_getD, List.getElem?_eq_getElem hlt]
          exact List.getElem_mem hlt
        exact HK.out _ hm⟩
      clear hrow
      go_wp2_with (first | (go_at_call 79; refine (follow_calls p0 p1 p2 (some ad) c l xa _ (Kd.C_below HC.out HS.out.L.below) hc hb0 hb1 HLEN.out.2 (HT.out.below HS.out.L.below) HKI.out.1 HKI.out.2).mono ?_; rintro e_ w5 ⟨vr, rfl, hR, hb_⟩; rw [HROW.out] at hR; have HSn := Aside0.mk ((HS.out.step hb_).turn (Kd.R_mono (Kd.R_tight rfl (Kd.R_lower hR HS.out.L.below.size)) (fun _ hk => hk))); clear HS hR hb_; have HS := HSn; clear HSn; obtain ⟨vA, vc, rfl⟩ := Kd.R_slice HS.out.r; (try clear hf)))
      have HG0 := HG
      go_loopg [9, 50] (row.length + 1) (fun kq v9 v50 w' => ∃ (j g off cap n : Nat) (seen' work' : List (Int × Int)), v9 = .slice (some ⟨g, off, none⟩) n cap ∧ v50 = .int .i64 (j : Int) ∧ Aside0 (n = work'.length) ∧ Aside0 (row.length - j < kq ∧ j ≤ row.length) ∧ Aside0 ((ptsOf s row j).foldl push1 (seen, work) = (seen', work')) ∧ Aside0 (SI w w' [(g10, #[.int .i64 xa, .int .i64 xs], 117), (g7, #[.int .i64 0, .int .i64 1], 117), (g3, #[.int .i64 p0, .int .i64 p1, .int .i64 p2, .slice (some ad) l.length c], 39)] B g off cap (.slice vA row.length vc) row seen' work'))
      case atStart => exact ⟨0, g, off, cap - 1, work.length, seen, work, rfl, rfl, ⟨rfl⟩, ⟨by omega, by omega⟩, ⟨rfl⟩, HS⟩
      case round =>
        clear HS
        obtain ⟨j, g, off, cap, n, seen', work', rfl, rfl, HN, HJ, HF, HS⟩ := hrel
        by_cases hin : j < row.length
        · have hin2 : (j : Int) < (row.length : Int) := by omega
          have HIN := Aside0.mk hin
          obtain ⟨gr, cr, er, -⟩ := Kd.R_form HS.out.r (by omega)
          obtain ⟨rfl, rfl⟩ : vA = some ⟨gr, 0, none⟩ ∧ vc = cr := by
            injection er with e1 e2 e3
            exact ⟨e1, e3⟩
          clear er
          obtain ⟨y, hy⟩ : ∃ y, row.getD j 0 = y := ⟨_, rfl⟩
          have HY := Aside0.mk hy
          have hyb : inBox l.length (y, s) := by
            have hm : (y, s) ∈ nbrs (l.map insS) slot (xa, xs) := by
              unfold nbrs
              rw [HROW.out]
              refine List.mem_map.2 ⟨y, ?_, ?_⟩
              · rw [← hy, List.getD_eq_getElem?_getD, List.getElem?_eq_getElem hin]
                exact List.getElem_mem hin
              · simp only
                rw [insS_at l xa hb0 hb1, HI.out, HBS.out]
            have h2 := nbrs_box HP.out slot (x := (xa, xs)) (by have := HX.out; exact this) _ hm
            rwa [List.length_map] at h2
          have HWF : Aside0 (wfP (y, s)) := ⟨box_wf hyb HLEN.out.2⟩
          have HPART : Aside0 (seen'.length ≤ 1536 ∧ work'.length ≤ 1536) := ⟨by
            have h1 := HG0.out.part HP.out (ptsOf s row j) (fun z hz => by
              unfold ptsOf at hz
              obtain ⟨n, hn, rfl⟩ := List.mem_map.1 hz
              unfold nbrs
              rw [HROW.out]
              refine List.mem_map.2 ⟨n, List.mem_of_mem_take hn, ?_⟩
              simp only
              rw [insS_at l xa hb0 hb1, HI.out, HBS.out])
            rw [HF.out, List.length_map] at h1
            have := HLEN.out.2
            simp only at h1
            omega⟩
          have HRC : ∀ W, Kd.R (Kd.int .i64) 3 W w.heap.size (fun k => some k = (Value.slice (some ⟨gr, 0, none⟩) row.length vc).ownBlock) (.slice (some ⟨gr, 0, none⟩) row.length vc) row → W.cell? ⟨gr, j, none⟩ = some (.int .i64 y) := fun W hR => by
            have h1 := (Kd.R_celln (0 : Int) hR (j : Int) (by omega) hin2).1
            rw [Int.toNat_natCast] at h1
            rw [h1, ← hy]
            rfl
          have HRCC := Aside0.mk HRC
          clear hin hy hyb HRC
          (try clear hf); have hf := HS.out.L.facts; simp only [factsOf, List.cons_append, List.nil_append] at hf; (try clear hrc); have hrc := HRCC.out _ HS.out.r
          have hn := HN.out
          subst hn
          go_upto_region 13 with (first | ((with_reducible refine gate_dst (N := 14) rfl ?_); (try (refine gate_guard (by rfl) ?_; dsimp only)); refine box_si (by repeat (first | exact HS.out | refine SI.drew ?_ | refine SI.drewN ?_ _)) ?hg (N := 14) ?hd (cs := #[.int .i64 0, .int .i64 0]) (t := 117) ?hr ?_; (case hd => rfl); (case hg => rfl); (case hr => first | (go_simp; done) | (go_simp; rfl)); intro g14 wb20 HLn; clear HS; have HS := HLn; clear HLn; (try clear hf); have hf := HS.out.L.facts; simp only [factsOf, List.cons_append, List.nil_append] at hf; (try clear hrc); have hrc := HRCC.out _ HS.out.r))
          generalize hwt : World.setCell _ _ _ = w6
          have HSn : Aside0 (SI w w6 [(g14, #[.int .i64 y, .int .i64 s], 117), (g10, #[.int .i64 xa, .int .i64 xs], 117), (g7, #[.int .i64 0, .int .i64 1], 117), (g3, #[.int .i64 p0, .int .i64 p1, .int .i64 p2, .slice (some ad) l.length c], 39)] B g off cap (.slice (some ⟨gr, 0, none⟩) row.length vc) row seen' work') := ⟨by rw [← hwt]; exact (HS.out.set 0 rfl (by decide) 0 _).set 0 rfl (by decide) 1 _⟩
          clear HS hwt; have HS := HSn; clear HSn; (try clear hf); have hf := HS.out.L.facts; simp only [factsOf, List.cons_append, List.nil_append] at hf; (try clear hrc); have hrc := HRCC.out _ HS.out.r
          have hwc : wrap64 ((j : Int) + 1) = ((j + 1 : Nat) : Int) := by have := HIN.out; have := Kd.C_max (Kd.R_reads' HS.out.r).2.2; unfold wrap64; omega
          by_cases hys : (y, s) ∈ seen'
          · have HYS := Aside0.mk hys
            have HD := Aside0.mk (decide_eq_true hys)
            clear hys
            go_upto_region 14 with (first | ((with_reducible refine gate_dst (N := 60) rfl ?_); refine pm_look rfl (.tmp 58) (.tmp 59) rfl rfl HS.out.M (y, s) HWF.out rfl true HD.out ?_; intro q1 q2) | ((with_reducible refine gate_dst (N := 15) rfl ?_); (try (refine gate_guard (by rfl) ?_; dsimp only)); refine box_si (by repeat (first | exact HS.out | refine SI.drew ?_ | refine SI.drewN ?_ _)) ?hg (N := 15) ?hd (cs := #[.int .i64 0, .int .i64 0]) (t := 117) ?hr ?_; (case hd => rfl); (case hg => rfl); (case hr => first | (go_simp; done) | (go_simp; rfl)); intro g15 wb24 HLn; clear HS; have HS := HLn; clear HLn; (try clear hf); have hf := HS.out.L.facts; simp only [factsOf, List.cons_append, List.nil_append] at hf; (try clear hrc); have hrc := HRCC.out _ HS.out.r))
            generalize hwt : World.setCell _ _ _ = w7
            have HSn : Aside0 (SI w w7 [(g15, #[.int .i64 q1, .int .i64 q2], 117), (g14, #[.int .i64 y, .int .i64 s], 117), (g10, #[.int .i64 xa, .int .i64 xs], 117), (g7, #[.int .i64 0, .int .i64 1], 117), (g3, #[.int .i64 p0, .int .i64 p1, .int .i64 p2, .slice (some ad) l.length c], 39)] B g off cap (.slice (some ⟨gr, 0, none⟩) row.length vc) row seen' work') := ⟨by rw [← hwt]; exact (HS.out.set 0 rfl (by decide) 0 _).set 0 rfl (by decide) 1 _⟩
            clear HS hwt; have HS := HSn; clear HSn; (try clear hf); have hf := HS.out.L.facts; simp only [factsOf, List.cons_append, List.nil_append] at hf; (try clear hrc); have hrc := HRCC.out _ HS.out.r
            go_wp2_with (first | fail)
            go_roundg (row.length - (j + 1) + 1)
            case measure => have := HJ.out; have := HIN.out; omega
            case rel =>
              refine ⟨j + 1, g, off, cap, work'.length, seen', work', rfl, (by first | rw [hwc] | simp), ⟨rfl⟩, ⟨by omega, HIN.out⟩, ⟨?_⟩, ⟨HS.out.sub ((List.Sublist.refl _).cons _ |>.cons _)⟩⟩
              rw [ptsOf_succ _ _ _ HIN.out, List.foldl_append, HF.out, HY.out]
              show push1 (seen', work') (y, s) = _
              unfold push1
              rw [if_pos HYS.out]
          · have HYS := Aside0.mk hys
            have HD := Aside0.mk (decide_eq_false hys)
            clear hys
            go_upto_region 14 with (first | ((with_reducible refine gate_dst (N := 60) rfl ?_); refine pm_look rfl (.tmp 58) (.tmp 59) rfl rfl HS.out.M (y, s) HWF.out rfl false HD.out ?_; intro q1 q2) | ((with_reducible refine gate_dst (N := 15) rfl ?_); (try (refine gate_guard (by rfl) ?_; dsimp only)); refine box_si (by repeat (first | exact HS.out | refine SI.drew ?_ | refine SI.drewN ?_ _)) ?hg (N := 15) ?hd (cs := #[.int .i64 0, .int .i64 0]) (t := 117) ?hr ?_; (case hd => rfl); (case hg => rfl); (case hr => first | (go_simp; done) | (go_simp; rfl)); intro g15 wb28 HLn; clear HS; have HS := HLn; clear HLn; (try clear hf); have hf := HS.out.L.facts; simp only [factsOf, List.cons_append, List.nil_append] at hf; (try clear hrc); have hrc := HRCC.out _ HS.out.r))
            generalize hwt : World.setCell _ _ _ = w7
            have HSn : Aside0 (SI w w7 [(g15, #[.int .i64 q1, .int .i64 q2], 117), (g14, #[.int .i64 y, .int .i64 s], 117), (g10, #[.int .i64 xa, .int .i64 xs], 117), (g7, #[.int .i64 0, .int .i64 1], 117), (g3, #[.int .i64 p0, .int .i64 p1, .int .i64 p2, .slice (some ad) l.length c], 39)] B g off cap (.slice (some ⟨gr, 0, none⟩) row.length vc) row seen' work') := ⟨by rw [← hwt]; exact (HS.out.set 0 rfl (by decide) 0 _).set 0 rfl (by decide) 1 _⟩
            clear HS hwt; have HS := HSn; clear HSn; (try clear hf); have hf := HS.out.L.facts; simp only [factsOf, List.cons_append, List.nil_append] at hf; (try clear hrc); have hrc := HRCC.out _ HS.out.r
            go_wp2_with (first | ((with_reducible refine gate_ (.mapUpdate 114 (.tmp 64) (.tmp 65) (.tmp 66)) rfl ?_); refine pm_put rfl (.tmp 64) (.tmp 65) (.tmp 66) (Or.inl rfl) rfl rfl HS.out.M (by have := HPART.out; unfold maxLen; omega) (y, s) (xa, xs) HWF.out rfl rfl ?_; intro w8 HMn hgr; have HSn := Aside0.mk (HS.out.put hgr HMn); clear HS HMn hgr; have HS := HSn; clear HSn; (try clear hf); have hf := HS.out.L.facts; simp only [factsOf, List.cons_append, List.nil_append] at hf; (try clear hrc); have hrc := HRCC.out _ HS.out.r) | ((with_reducible refine gate_builtin (b := .append) (xs := #[.tmp 67, .tmp 69]) rfl ?_); at_builtin; refine que_append rfl (.tmp 67) (.tmp 69) rfl HS.out.q rfl (y, s) rfl (by have := HPART.out; omega) HS.out.L.below.size ?_; intro g2 off2 cap2 w9 hq2 hgr hd; have HSn := Aside0.mk (HS.out.app hq2 hgr hd); clear HS hq2 hgr hd; have HS := HSn; clear HSn; (try clear hf); have hf := HS.out.L.facts; simp only [factsOf, List.cons_append, List.nil_append] at hf; (try clear hrc); have hrc := HRCC.out _ HS.out.r))
            go_roundg (row.length - (j + 1) + 1)
            case measure => have := HJ.out; have := HIN.out; omega
            case rel =>
              refine ⟨j + 1, g2, off2, cap2, work'.length + 1, seen' ++ [(y, s)], work' ++ [(y, s)], rfl, (by first | rw [hwc] | simp), ⟨by rw [List.length_append]; rfl⟩, ⟨by omega, HIN.out⟩, ⟨?_⟩, ⟨HS.out.sub ((List.Sublist.refl _).cons _ |>.cons _)⟩⟩
              rw [ptsOf_succ _ _ _ HIN.out, List.foldl_append, HF.out, HY.out]
              show push1 (seen', work') (y, s) = _
              unfold push1
              rw [if_neg HYS.out]
        · have hje : (j : Int) = (row.length : Int) := by have := HJ.out; omega
          have hlt : ¬ ((j : Int) < (row.length : Int)) := by omega
          have HJE := Aside0.mk hje
          clear hin hje
          go_wp2_with (first | fail)
          go_roundg kk
          case measure => exact Nat.lt_succ_self kk
          case rel =>
            have hjr : ptsOf s row j = nbrs (l.map insS) slot (xa, xs) := by
              unfold ptsOf nbrs
              rw [List.take_of_length_le (by have := HJE.out; omega), HROW.out]
              simp only
              rw [insS_at l xa hb0 hb1, HI.out, HBS.out]
            have hnx := HG0.out.next HP.out
            rw [← hjr, HF.out] at hnx
            exact ⟨g, off, cap, n, seen', work', rfl, HN, ⟨hnx⟩, ⟨(HS.out.sub ((List.Sublist.refl _).cons _)).turn (Kd.R_nil _ _ _ _ _)⟩⟩
end Go.Proofs.YtcioegimmjppcaaDoor.P
/-! Words for states of package prog: a range over a map of points, and a grid of rows that the call has made. -/
namespace Go.Proofs.YtcioegimmjppcaaDoor.P
open Go.RowKit Go.Maps Go.Proofs.YtcioegimmjppcaaDoorW.PrintWords Go.Proofs.YtcioegimmjppcaaDoorW.PrintLast Go.Proofs.YtcioegimmjppcaaDoorW.PrintMore
set_option linter.unusedVariables false
set_option maxRecDepth 100000

/-! ### ranging over a map of points -/
def PR (w : World) (B r : Nat) (todo : List (Int × Int)) : Prop :=
  ∃ (D : DataW Unit) (left : Lit → Bool) (cnt n : Nat), w.ranges Tryd.prog 117 RT B r n D left cnt ∧ (∀ p ∈ todo, wfP p) ∧ ∀ kl, left kl = true ↔ ∃ p ∈ todo, keyOf Tryd.prog 117 (ptV p) = some kl

theorem PR.blocks {w : World} {B r : Nat} {todo : List (Int × Int)} (h : PR w B r todo) : (∃ es clock, w.heap[B]? = some (.map es clock)) ∧ ∃ a b c d, w.heap[r]? = some (.mapIter a b c d) := by
  obtain ⟨D, left, cnt, n, ⟨es, clock, since, seen, c0, h1, _, _, _, h2, _⟩, _⟩ := h
  exact ⟨⟨es, clock, h1⟩, ⟨_, _, _, _, h2⟩⟩
theorem PR.same {w w1 : World} {B r : Nat} {todo : List (Int × Int)} (h : PR w B r todo) (hB : w1.heap[B]? = w.heap[B]?) (hr : w1.heap[r]? = w.heap[r]?) : PR w1 B r todo := by
  obtain ⟨D, left, cnt, n, ⟨es, clock, since, seen, c0, h1, h2, h3, h4, h5, h6⟩, h7⟩ := h
  exact ⟨D, left, cnt, n, ⟨es, clock, since, seen, c0, hB.trans h1, h2, h3, h4, hr.trans h5, h6⟩, h7⟩
theorem PR.lt {w : World} {B r : Nat} {todo : List (Int × Int)} (h : PR w B r todo) : B < w.heap.size ∧ r < w.heap.size := by
  obtain ⟨⟨es, clock, h1⟩, a, b, c, d, h2⟩ := h.blocks
  exact ⟨(Array.getElem?_eq_some_iff.1 h1).1, (Array.getElem?_eq_some_iff.1 h2).1⟩
theorem PR.below {w w1 : World} {B r : Nat} {todo : List (Int × Int)} (h : PR w B r todo) (hb : Below w.heap.size w w1) : PR w1 B r todo := h.same (hb.block B h.lt.1) (hb.block r h.lt.2)
theorem PR.ne {w : World} {B r : Nat} {todo : List (Int × Int)} (h : PR w B r todo) {k : Nat} {cs : Array Value} {t : TypeId} {fr : Nat × Nat} (hk : w.heap[k]? = some (.cells cs t fr)) : k ≠ B ∧ k ≠ r := by
  obtain ⟨⟨es, clock, h1⟩, a, b, c, d, h2⟩ := h.blocks
  refine ⟨?_, ?_⟩
  · rintro rfl; rw [hk] at h1; cases h1
  · rintro rfl; rw [hk] at h2; cases h2

theorem PR.setCell {w : World} {B r : Nat} {todo : List (Int × Int)} (h : PR w B r todo) {k : Nat} {cs : Array Value} {t : TypeId} {fr : Nat × Nat} (hk : w.heap[k]? = some (.cells cs t fr)) (j : Nat) (v : Value) : PR (w.setCell ⟨k, j, none⟩ v) B r todo :=
  h.same (Below.heap_setCell w ⟨k, j, none⟩ v B (fun e => (h.ne hk).1 e.symm)) (Below.heap_setCell w ⟨k, j, none⟩ v r (fun e => (h.ne hk).2 e.symm))

def without (l : List (Int × Int)) (p : Int × Int) : List (Int × Int) := l.filter (fun x => decide (x ≠ p))
theorem mem_without {l : List (Int × Int)} {p x : Int × Int} : x ∈ without l p ↔ x ∈ l ∧ x ≠ p := by simp [without]
theorem filter_less (l : List (Int × Int)) (p : Int × Int) (h : p ∈ l) : (without l p).length < l.length := by
  unfold without
  refine Nat.lt_of_le_of_ne (List.length_filter_le _ _) fun e => ?_
  have := (List.length_filter_eq_length_iff.1 e) p h
  simp at this

section
variable {ops : Array Oper} {rest : List Oper} {o : Oper} {a : Act} {Q : Exit → Act → World → Prop} {w : World} {B r : Nat} {todo : List (Int × Int)}
theorem pr_range {n : Nat} {seen : List (Int × Int)} (hg : o.guard = none) (m : Operand) (hop : o.op = .range 114 m) (hm : a.eval m = .map (some B)) (h : PM w B n seen) (hw : ∀ p ∈ seen, wfP p)
    (hK : ∀ r w', PR w' B r seen → w.grownBy w' none → w.heap.size ≤ r → wpList Tryd.prog ops Q rest (a.put o.dst (.pointer (some ⟨r, 0, none⟩))) w') : wpList Tryd.prog ops Q (o :: rest) a w := by
  refine wpList_plain hg fun K' hK' => ?_
  obtain ⟨D, hown, hhas⟩ := h
  obtain ⟨w', hrun, r1, r2, r3⟩ := hown.range ptLaw Tryd.underlying114
  unfold Oper.wp
  simp [execOp, hop, hm, hrun, Result.andThen]
  exact hK' _ _ (hK w.heap.size w' ⟨D, _, _, n, r1, hw, hhas⟩ r2 (Nat.le_refl _))

theorem pr_next (hg : o.guard = none) (it : Operand) (hop : o.op = .next it false) (hit : a.eval it = .pointer (some ⟨r, 0, none⟩)) (h : PR w B r todo)
    (hDone : todo = [] → wpList Tryd.prog ops Q rest (a.put o.dst (.tuple #[.bool false])) w)
    (hMore : ∀ (p1 p2 q1 q2 : Int) (w' : World), (p1, p2) ∈ todo → PR w' B r (without todo (p1, p2)) → w.grownBy w' (some r) →
      (Instr.entry (.pointer (some ⟨r, 0, none⟩))).run Tryd.prog w' = .ok (.tuple #[.agg #[.int .i64 p1, .int .i64 p2], .agg #[.int .i64 q1, .int .i64 q2]]) w' →
      wpList Tryd.prog ops Q rest (a.put o.dst (.tuple #[.bool true, .agg #[.int .i64 p1, .int .i64 p2], .agg #[.int .i64 q1, .int .i64 q2]])) w') : wpList Tryd.prog ops Q (o :: rest) a w := by
  refine wpList_plain hg fun K' hK' => ?_
  obtain ⟨D, left, cnt, n, hr, hwf, hl⟩ := h
  unfold Oper.wp
  rcases hr.next ptLaw o.type with ⟨h0, hnone, hrun⟩ | ⟨key, v, kl, y, w', cnt', hkey, hlk, hv, hat, hrun, hrg, hlt, hgr, hsz, hen⟩
  · simp [execOp, hop, hit, hrun, Result.andThen]
    refine hK' _ _ (hDone ?_)
    refine List.eq_nil_iff_forall_not_mem.2 fun p hp => ?_
    obtain ⟨kl, hk⟩ := ptKey p (hwf p hp)
    have := (hl kl).2 ⟨p, hp, hk⟩
    rw [hnone kl] at this
    cases this
  · obtain ⟨p, rfl⟩ := ptInv key kl hkey
    obtain ⟨q, rfl⟩ := RT_inv hv
    obtain ⟨p', hp', hkp⟩ := (hl kl).1 hlk
    have hpp : p = p' := ptV_inj (ptLaw.inj hkey hkp)
    subst hpp
    simp [execOp, hop, hit, hrun, Result.andThen]
    refine hK' _ _ (hMore p.1 p.2 q.1 q.2 w' hp' ⟨D, _, cnt', n, hrg, fun x hx => hwf x (List.mem_filter.1 hx).1, fun kl' => ?_⟩ hgr hen)
    constructor
    · intro h1
      simp only [Bool.and_eq_true, Bool.not_eq_true'] at h1
      obtain ⟨x, hx, hkx⟩ := (hl kl').1 h1.1
      refine ⟨x, List.mem_filter.2 ⟨hx, decide_eq_true ?_⟩, hkx⟩
      rintro rfl
      have e : kl' = kl := Option.some.inj (hkx.symm.trans hkey)
      subst e
      rw [WideAt.sameKey_self (ptLaw.key hkey)] at h1
      cases h1.2
    · rintro ⟨x, hx, hkx⟩
      obtain ⟨hx1, hx2⟩ := List.mem_filter.1 hx
      have hne := of_decide_eq_true hx2
      rw [(hl kl').2 ⟨x, hx1, hkx⟩, Bool.true_and, Bool.not_eq_true', sameKey_ne]
      rintro rfl
      exact hne (ptV_inj (ptLaw.inj hkx hkey))
end

/-! ### a grid of rows -/
def rowC (m : Nat) (g : Nat → Int) : Array Value := (Array.range m).map fun s => .int .i64 (g s)
theorem rowC_get (m : Nat) (g : Nat → Int) (j : Nat) (h : j < m) : (rowC m g)[j]? = some (.int .i64 (g j)) := by simp [rowC, h]
theorem rowC_size (m : Nat) (g : Nat → Int) : (rowC m g).size = m := by simp [rowC]
theorem rowC_made (m : Nat) : madeCells #[Value.int .i64 0] m = rowC m (fun _ => 0) := by
  apply Array.ext_getElem?
  intro j
  simp [madeCells, rowC, Nat.mod_one]
theorem rowC_set (m : Nat) (g : Nat → Int) (s : Nat) (v : Int) (h : s < m) : (rowC m g).setIfInBounds s (.int .i64 v) = rowC m (fun j => if j = s then v else g j) := by
  apply Array.ext_getElem?
  intro j
  by_cases hj : j = s
  · subst hj
    rw [Array.getElem?_setIfInBounds_self, rowC_get _ _ _ h, if_pos (by rw [rowC_size]; exact h), if_pos rfl]
  · rw [Array.getElem?_setIfInBounds_ne (fun e => hj e.symm)]
    by_cases hm : j < m
    · rw [rowC_get _ _ _ hm, rowC_get _ _ _ hm, if_neg hj]
    · rw [Array.getElem?_eq_none (by rw [rowC_size]; omega), Array.getElem?_eq_none (by rw [rowC_size]; omega)]

def outC (n m : Nat) (ks : List Nat) : Array Value := ((ks.map fun k => Value.slice (some ⟨k, 0, none⟩) m m) ++ List.replicate (n - ks.length) (Value.slice none 0 0)).toArray
theorem outC_get (n m : Nat) (ks : List Nat) (i k : Nat) (h : ks[i]? = some k) : (outC n m ks)[i]? = some (.slice (some ⟨k, 0, none⟩) m m) := by
  have hl : i < ks.length := (List.getElem?_eq_some_iff.1 h).1
  unfold outC
  rw [List.getElem?_toArray, List.getElem?_append_left (by rw [List.length_map]; exact hl), List.getElem?_map, h]
  rfl
theorem outC_new (n m : Nat) (ks : List Nat) (h : ks.length < n) : (outC n m ks)[ks.length]? = some (.slice none 0 0) := by
  obtain ⟨d, hd⟩ : ∃ d, n - ks.length = d + 1 := ⟨n - ks.length - 1, by omega⟩
  unfold outC
  rw [List.getElem?_toArray, List.getElem?_append_right (by rw [List.length_map]; exact Nat.le_refl _), List.length_map, Nat.sub_self, hd]
  rfl
theorem outC_made (n m : Nat) : madeCells #[Value.slice none 0 0] n = outC n m [] := by
  apply Array.ext_getElem?
  intro j
  unfold outC madeCells
  by_cases hj : j < n
  · simp [hj, Nat.mod_one]
  · simp [hj]
theorem outC_add (n m : Nat) (ks : List Nat) (k : Nat) (h : ks.length < n) : (outC n m ks).setIfInBounds ks.length (.slice (some ⟨k, 0, none⟩) m m) = outC n m (ks ++ [k]) := by
  apply Array.ext'
  unfold outC
  obtain ⟨d, hd⟩ : ∃ d, n - ks.length = d + 1 := ⟨n - ks.length - 1, by omega⟩
  have hd2 : n - (ks ++ [k]).length = d := by simp; omega
  rw [hd, hd2]
  simp [List.replicate_succ]

/-- the rows' blocks -/
def rowsB (m : Nat) (ks : List Nat) (G : Nat → Nat → Int) : List (Nat × Array Value × TypeId) := ks.zipIdx.map fun x => (x.1, rowC m (G x.2), 3)
def gridBs (go n m : Nat) (ks : List Nat) (G : Nat → Nat → Int) : List (Nat × Array Value × TypeId) := (go, outC n m ks, 52) :: rowsB m ks G
def upd (G : Nat → Nat → Int) (i s : Nat) (v : Int) : Nat → Nat → Int := fun i' s' => if i' = i ∧ s' = s then v else G i' s'

theorem rowsB_get (m : Nat) (ks : List Nat) (G : Nat → Nat → Int) (i k : Nat) (h : ks[i]? = some k) : (rowsB m ks G)[i]? = some (k, rowC m (G i), 3) := by
  unfold rowsB
  rw [List.getElem?_map, List.getElem?_zipIdx, h]
  simp
theorem rowsB_set (m : Nat) (ks : List Nat) (G : Nat → Nat → Int) (i k s : Nat) (v : Int) (h : ks[i]? = some k) (hs : s < m) : (rowsB m ks G).set i (k, (rowC m (G i)).setIfInBounds s (.int .i64 v), 3) = rowsB m ks (upd G i s v) := by
  have hl : i < ks.length := (List.getElem?_eq_some_iff.1 h).1
  apply List.ext_getElem?
  intro j
  by_cases hj : i = j
  · subst hj
    rw [List.getElem?_set_self (by simp [rowsB]; exact hl), rowsB_get _ _ _ _ _ h, rowC_set _ _ _ _ hs]
    congr 4
    funext j
    unfold upd
    by_cases e : j = s
    · rw [if_pos e, if_pos ⟨rfl, e⟩]
    · rw [if_neg e, if_neg (fun x => e x.2)]
  · rw [List.getElem?_set_ne hj]
    cases hk : ks[j]? with
    | none =>
      have : ks.length ≤ j := List.getElem?_eq_none_iff.1 hk
      rw [List.getElem?_eq_none (by simp [rowsB]; exact this), List.getElem?_eq_none (by simp [rowsB]; exact this)]
    | some kj =>
      rw [rowsB_get _ _ _ _ _ hk, rowsB_get _ _ _ _ _ hk]
      congr 4
      funext s'
      unfold upd
      rw [if_neg (fun x => hj x.1.symm)]
theorem rowsB_add (m : Nat) (ks : List Nat) (G : Nat → Nat → Int) (k : Nat) : rowsB m (ks ++ [k]) G = rowsB m ks G ++ [(k, rowC m (G ks.length), 3)] := by
  unfold rowsB
  rw [List.zipIdx_append, List.map_append]
  simp

section
variable {w W W1 : World} {bs bs' pre : List (Nat × Array Value × TypeId)} {go n m : Nat} {ks : List Nat} {G : Nat → Nat → Int}
theorem Locs.perm (h : Locs w W bs) (hp : bs.Perm bs') : Locs w W bs' :=
  ⟨h.below, fun b hb => h.blk b (hp.mem_iff.2 hb), fun b hb => h.new b (hp.mem_iff.2 hb), (hp.pairwise_iff (fun {a b} (e : a.1 ≠ b.1) => e.symm)).1 h.apart⟩
/-- two walks, one behind the other -/
theorem Locs.join (h : Locs w W bs) (k : Locs W W1 bs') : Locs w W1 (bs' ++ bs) := by
  have h1 := h.step k.below
  refine ⟨h1.below, fun b hb => ?_, fun b hb => ?_, List.pairwise_append.2 ⟨k.apart, h.apart, fun a ha b hb => ?_⟩⟩
  · rcases List.mem_append.1 hb with hb | hb
    · exact k.blk b hb
    · exact h1.blk b hb
  · rcases List.mem_append.1 hb with hb | hb
    · exact Nat.le_trans h.below.size (k.new b hb)
    · exact h.new b hb
  · have h2 := k.new a ha
    have h3 := h.lt b hb
    omega
theorem Locs.row (h : Locs w W (pre ++ gridBs go n m ks G)) {i k : Nat} (hk : ks[i]? = some k) : W.heap[k]? = some (.cells (rowC m (G i)) 3 (0, 0)) := by
  refine h.blk (k, rowC m (G i), 3) (List.mem_append_right _ (List.mem_cons_of_mem _ (List.mem_of_getElem? (rowsB_get m ks G i k hk))))
theorem Locs.out (h : Locs w W (pre ++ gridBs go n m ks G)) : W.heap[go]? = some (.cells (outC n m ks) 52 (0, 0)) := h.blk (go, outC n m ks, 52) (List.mem_append_right _ List.mem_cons_self)
theorem Locs.outCell (h : Locs w W (pre ++ gridBs go n m ks G)) {i k : Nat} (hk : ks[i]? = some k) : W.cell? ⟨go, i, none⟩ = some (.slice (some ⟨k, 0, none⟩) m m) := (blk_cell h.out i).trans (outC_get n m ks i k hk)
theorem Locs.rowCell (h : Locs w W (pre ++ gridBs go n m ks G)) {i k s : Nat} (hk : ks[i]? = some k) (hs : s < m) : W.cell? ⟨k, s, none⟩ = some (.int .i64 (G i s)) ∧ W.frozen? ⟨k, s, none⟩ = false :=
  ⟨(blk_cell (h.row hk) s).trans (rowC_get m _ s hs), blk_frozen (h.row hk) s⟩
theorem Locs.setRow (h : Locs w W (pre ++ gridBs go n m ks G)) {i k s : Nat} (hk : ks[i]? = some k) (hs : s < m) (v : Int) : Locs w (W.setCell ⟨k, s, none⟩ (.int .i64 v)) (pre ++ gridBs go n m ks (upd G i s v)) := by
  have hi : (pre ++ gridBs go n m ks G)[pre.length + (i + 1)]? = some (k, rowC m (G i), 3) := by
    rw [List.getElem?_append_right (by omega), Nat.add_sub_cancel_left]
    exact rowsB_get m ks G i k hk
  have h1 := h.set _ hi s (.int .i64 v)
  rw [List.set_append_right _ _ (by omega), Nat.add_sub_cancel_left] at h1
  have e : (gridBs go n m ks G).set (i + 1) (k, (rowC m (G i)).setIfInBounds s (.int .i64 v), 3) = gridBs go n m ks (upd G i s v) := by
    unfold gridBs
    rw [List.set_cons_succ, rowsB_set _ _ _ _ _ _ _ hk hs]
  rwa [e] at h1
end

/-! ### what the states come to -/
def stV (X : List (Int × Int)) (i : Nat) : Int := (if ((i : Int), (1 : Int)) ∈ X then 1 else 0) + (if ((i : Int), (2 : Int)) ∈ X then 2 else 0) + (if ((i : Int), (4 : Int)) ∈ X then 4 else 0)
theorem stV_same (X Y : List (Int × Int)) (i : Nat) (h : ∀ s, ((i : Int), s) ∈ X ↔ ((i : Int), s) ∈ Y) : stV X i = stV Y i := by
  unfold stV
  simp only [h]
theorem stV_or (X : List (Int × Int)) (i : Nat) (s : Int) (hs : s = 1 ∨ s = 2 ∨ s = 4) : Go.bits .or .i64 (stV X i) s = stV (((i : Int), s) :: X) i := by
  unfold stV
  by_cases h1 : ((i : Int), (1 : Int)) ∈ X
  all_goals by_cases h2 : ((i : Int), (2 : Int)) ∈ X
  all_goals by_cases h4 : ((i : Int), (4 : Int)) ∈ X
  all_goals rcases hs with rfl | rfl | rfl
  all_goals simp [h1, h2, h4, List.mem_cons] <;> decide
theorem stV_other (X : List (Int × Int)) (i j : Nat) (s : Int) (h : j ≠ i) : stV (((i : Int), s) :: X) j = stV X j := by
  refine stV_same _ _ _ fun t => ?_
  rw [List.mem_cons]
  constructor
  · rintro (e | e)
    · injection e with e1 e2; omega
    · exact e
  · exact Or.inr

def GSp (S : Nat → List (Int × Int)) (s : Nat) (dn : List (Int × Int)) : Nat → Nat → Int := fun i s' => if s' < s then stV (S s') i else if s' = s then stV dn i else 0
def GS (S : Nat → List (Int × Int)) (s : Nat) : Nat → Nat → Int := fun i s' => if s' < s then stV (S s') i else 0
theorem GS_zero (S : Nat → List (Int × Int)) : GS S 0 = fun _ _ => 0 := by funext i s; rfl
theorem GSp_start (S : Nat → List (Int × Int)) (s : Nat) : GSp S s [] = GS S s := by
  funext i s'
  unfold GSp GS
  by_cases h : s' < s
  · rw [if_pos h, if_pos h]
  · rw [if_neg h, if_neg h]
    by_cases e : s' = s
    · rw [if_pos e]; rfl
    · rw [if_neg e]
theorem GSp_end (S : Nat → List (Int × Int)) (s : Nat) (dn : List (Int × Int)) (h : ∀ p, p ∈ dn ↔ p ∈ S s) : GSp S s dn = GS S (s + 1) := by
  funext i s'
  unfold GSp GS
  by_cases h1 : s' < s
  · rw [if_pos h1, if_pos (by omega)]
  · rw [if_neg h1]
    by_cases e : s' = s
    · rw [if_pos e, if_pos (by omega), e]
      exact stV_same _ _ _ fun t => h _
    · rw [if_neg e, if_neg (by omega)]
theorem GSp_upd (S : Nat → List (Int × Int)) (s : Nat) (dn : List (Int × Int)) (i : Nat) (t : Int) : upd (GSp S s dn) i s (stV (((i : Int), t) :: dn) i) = GSp S s (((i : Int), t) :: dn) := by
  funext i' s'
  unfold upd GSp
  by_cases h : i' = i ∧ s' = s
  · rw [if_pos h, h.1, h.2, if_neg (by omega), if_pos rfl]
  · rw [if_neg h]
    by_cases h1 : s' < s
    · rw [if_pos h1, if_pos h1]
    · rw [if_neg h1, if_neg h1]
      by_cases e : s' = s
      · rw [if_pos e, if_pos e, stV_other _ _ _ _ (fun x => h ⟨x, e⟩)]
      · rw [if_neg e, if_neg e]
theorem GSp_at (S : Nat → List (Int × Int)) (s : Nat) (dn : List (Int × Int)) (i : Nat) : GSp S s dn i s = stV dn i := by
  unfold GSp
  rw [if_neg (by omega), if_pos rfl]

section
variable {P : Program} {ops : Array Oper} {rest : List Oper} {o : Oper} {a : Act} {Q : Exit → Act → World → Prop}
theorem slice_locs {w W : World} {bs : List (Nat × Array Value × TypeId)} (HL : Locs w W bs) (hgd : o.guard = none) {N : Tmp} (_hd : o.dst = some N) {cs : Array Value} {t : TypeId} {n m : Nat}
    (hrun : (execOp a.eval o).run P W = .ok (.value (.slice (some ⟨W.heap.size, 0, none⟩) n m)) (W.alloc (.cells cs t (0, 0))))
    (h : ∀ g w1, Aside0 (Locs w w1 ((g, cs, t) :: bs)) → wpList P ops Q rest (a.put o.dst (.slice (some ⟨g, 0, none⟩) n m)) w1) : wpList P ops Q (o :: rest) a W :=
  Kd.event_run hgd hrun (h _ _ ⟨HL.alloc cs t⟩)
end
theorem info52 : (Tryd.prog.info? 52).map (fun i => (i.zero, i.size, i.bytes)) = some (some (.slice none 0 0), 1, 24) := by kernel_rfl
theorem make105 (n : Nat) (h : n ≤ 1000000) : ∀ W : World, (Instr.makeSlice 105 (.int .i64 (n : Int)) (.int .i64 (n : Int))).run Tryd.prog W = .ok (.slice (some ⟨W.heap.size, 0, none⟩) n n) (W.alloc (.cells (outC n 0 []) 52)) := by
  rw [← outC_made]
  exact print_make_of 105 52 (.slice none 0 0) 24 Tryd.underlying105 info52 rfl (by decide) n (by omega)
theorem make52 (n : Nat) (h : n ≤ 1000000) : ∀ W : World, (Instr.makeSlice 52 (.int .i64 (n : Int)) (.int .i64 (n : Int))).run Tryd.prog W = .ok (.slice (some ⟨W.heap.size, 0, none⟩) n n) (W.alloc (.cells (rowC n (fun _ => 0)) 3)) := by
  rw [← rowC_made]
  exact print_make_of 52 3 (.int .i64 0) 8 Tryd.underlying52 info3 rfl (by decide) n (by omega)
end Go.Proofs.YtcioegimmjppcaaDoor.P
/-! prog.states (machine side): a grid of rows that holds at each place, for each slot, the states that the plain search finds. -/
namespace Go.Proofs.YtcioegimmjppcaaDoor.P
open Go.RowKit Go.Maps Go.Proofs.YtcioegimmjppcaaDoorW.PrintWords Go.Proofs.YtcioegimmjppcaaDoorW.PrintLast Go.Proofs.YtcioegimmjppcaaDoorW.PrintMore
set_option linter.unusedVariables false
set_option linter.unusedSimpArgs false
set_option maxHeartbeats 1000000
set_option maxRecDepth 100000

/-- what the search for a slot finds -/
def foundS (code : List Ins) (s : Nat) : List (Int × Int) := srch code (s : Int) (3 * code.length) [(0, 1)] [(0, 1)]

def StaPost (w : World) (code : List Ins) (m : Nat) (e : Ending) (w' : World) : Prop :=
  ∃ go ks, e = .returned (.slice (some ⟨go, 0, none⟩) code.length code.length) ∧ ks.length = code.length ∧ Locs w w' (gridBs go code.length m ks (GS (foundS code) m))

theorem states_calls (p0 p1 : Int) (m : Nat) (A : Option Addr) (c : Nat) (l : List S36) (w : World) (hr : Kd.C k36 w A l.length l) (hc : l.length ≤ c) (hlen : l.length ≤ 512) (hm : m ≤ 8) (hT : Tab w)
   (hp : placed (l.map insS)) (hk : ∀ i ∈ l, 0 ≤ i.f0 ∧ i.f0 < 10) :
    Calls Tryd.prog 63 #[.agg #[.int .i64 p0, .int .i64 p1, .int .i64 (m : Int), .slice A l.length c]] w (StaPost w (l.map insS) m) := by
  have hl0 : 0 < l.length := by have := hp.1; rwa [List.length_map] at this
  obtain ⟨ad, rfl, -⟩ := ins_cells hr (Below.refl _ _) 0 (by omega) (by omega)
  have HL := Aside0.mk (Locs.nil w)
  have HT := Aside0.mk hT
  have HC := Aside0.mk hr
  have HP := Aside0.mk hp
  have HK := Aside0.mk hk
  have HLEN := Aside0.mk (And.intro hl0 hlen)
  have HM := Aside0.mk hm
  have hu39 := Tryd.underlying39
  have hu117 := Tryd.underlying117
  have hmk1 := make105 l.length (by omega)
  have hmk2 := make52 m (by omega)
  clear hr hT hp hk hl0 hlen hm
  go_enter Tryd.func63, Tryd.ntmps63
  go_wp2_with (first | ((with_reducible refine gate_dst (N := 1) rfl ?_); (try (refine gate_guard (by rfl) ?_; dsimp only)); refine box_locs (by repeat (first | exact HL.out | refine Locs.drew ?_ | refine Locs.drewN ?_ _)) ?hg (N := 1) ?hd (cs := #[.int .i64 p0, .int .i64 p1, .int .i64 (m : Int), .slice (some ad) l.length c]) (t := 39) ?hr ?_; (case hd => rfl); (case hg => rfl); (case hr => first | (go_simp; done) | (go_simp; rfl)); intro g1 wb1 HLn HKb; clear HL; have HL := HLn; clear HLn HKb; (try clear hf); have hf := HL.out.facts; simp only [factsOf, List.cons_append, List.nil_append] at hf; skip) | ((with_reducible refine gate_dst (N := 10) rfl ?_); refine slice_locs (by repeat (first | exact HL.out | refine Locs.drew ?_ | refine Locs.drewN ?_ _)) ?hg (N := 10) ?hd (cs := outC l.length 0 []) (t := 52) (n := l.length) (m := l.length) ?hr ?_; (case hd => rfl); (case hg => rfl); (case hr => first | (go_simp; done) | (go_simp; rfl)); intro go wm HLn; clear HL; have HL := HLn; clear HLn; (try clear hf); have hf := HL.out.facts; simp only [factsOf, List.cons_append, List.nil_append] at hf; skip))
  have HLn : Aside0 (Locs w wm ([(g1, #[.int .i64 p0, .int .i64 p1, .int .i64 (m : Int), .slice (some ad) l.length c], 39)] ++ gridBs go l.length m [] (fun _ _ => 0))) := ⟨HL.out.perm (List.Perm.swap _ _ _)⟩
  clear HL; have HL := HLn; clear HLn
  go_loopg [13] (l.length + 1) (fun kq v13 w' => ∃ (j : Nat) (ks : List Nat), v13 = .int .i64 (j : Int) ∧ Aside0 (l.length - j < kq ∧ j ≤ l.length ∧ ks.length = j) ∧ Aside0 (Locs w w' ([(g1, #[.int .i64 p0, .int .i64 p1, .int .i64 (m : Int), .slice (some ad) l.length c], 39)] ++ gridBs go l.length m ks (fun _ _ => 0))))
  case atStart => exact ⟨0, [], rfl, ⟨by omega, by omega, rfl⟩, HL⟩
  case round =>
    clear HL
    obtain ⟨j, ks, rfl, HJ, HL⟩ := hrel
    (try clear hf)
    (try clear hf); have hf := HL.out.facts; simp only [factsOf, List.cons_append, List.nil_append] at hf; skip
    by_cases hin : j < l.length
    · have hin2 : (j : Int) < (l.length : Int) := by omega
      have HIN := Aside0.mk hin
      clear hin
      go_wp2_with (first | ((with_reducible refine gate_dst (N := 20) rfl ?_); refine slice_locs (by repeat (first | exact HL.out | refine Locs.drew ?_ | refine Locs.drewN ?_ _)) ?hg (N := 20) ?hd (cs := rowC m (fun _ => 0)) (t := 3) (n := m) (m := m) ?hr ?_; (case hd => rfl); (case hg => rfl); (case hr => first | (go_simp; done) | (go_simp; rfl)); intro k wm HLn; clear HL; have HL := HLn; clear HLn; (try clear hf); have hf := HL.out.facts; simp only [factsOf, List.cons_append, List.nil_append] at hf; skip); have hco : wm.cell? ⟨go, j, none⟩ = some (.slice none 0 0) := (blk_cell (HL.out.at 2 rfl) j).trans (by rw [← HJ.out.2.2]; exact outC_new _ _ _ (by rw [HJ.out.2.2]; exact HIN.out)); have hfo := blk_frozen (HL.out.at 2 rfl) j)
      generalize hwt : World.setCell _ _ _ = w5
      have HLn : Aside0 (Locs w w5 ([(g1, #[.int .i64 p0, .int .i64 p1, .int .i64 (m : Int), .slice (some ad) l.length c], 39)] ++ gridBs go l.length m (ks ++ [k]) (fun _ _ => 0))) := ⟨by
        have h1 := HL.out.set 2 rfl j (.slice (some ⟨k, 0, none⟩) m m)
        rw [hwt] at h1
        have e1 := outC_add l.length m ks k (by have := HJ.out.2.2; have := HIN.out; omega)
        rw [HJ.out.2.2] at e1
        rw [e1] at h1
        refine h1.perm ?_
        show List.Perm ((k, rowC m (fun _ => 0), 3) :: ([(g1, #[.int .i64 p0, .int .i64 p1, .int .i64 (m : Int), .slice (some ad) l.length c], 39)] ++ ((go, outC l.length m (ks ++ [k]), 52) :: rowsB m ks (fun _ _ => 0)))) ([(g1, #[.int .i64 p0, .int .i64 p1, .int .i64 (m : Int), .slice (some ad) l.length c], 39)] ++ ((go, outC l.length m (ks ++ [k]), 52) :: rowsB m (ks ++ [k]) (fun _ _ => 0)))
        rw [rowsB_add]
        have e2 : ∀ (x : Nat × Array Value × TypeId) (L : List (Nat × Array Value × TypeId)), List.Perm (x :: L) (L ++ [x]) := fun x L => (List.perm_append_singleton x L).symm
        exact e2 _ _⟩
      clear HL hwt; have HL := HLn; clear HLn hco hfo; (try clear hf)
      go_wp2_with (first | fail)
      go_roundg (l.length - (j + 1) + 1)
      case measure => have := HJ.out; have := HIN.out; omega
      case rel =>
        have hwc : wrap64 ((j : Int) + 1) = ((j + 1 : Nat) : Int) := by have := HIN.out; have := HLEN.out; unfold wrap64; omega
        exact ⟨j + 1, ks ++ [k], (by first | rw [hwc] | simp), ⟨by omega, HIN.out, by rw [List.length_append, HJ.out.2.2]; rfl⟩, HL⟩
    · have hlt : ¬ ((j : Int) < (l.length : Int)) := by omega
      have HKS : Aside0 (ks.length = l.length) := ⟨by have := HJ.out; omega⟩
      clear hin
      go_wp2_with (first | fail)
      go_loopg [25] (m + 1) (fun kq v25 w' => ∃ (s : Nat), v25 = .int .i64 (s : Int) ∧ Aside0 (m - s < kq ∧ s ≤ m) ∧ Aside0 (Locs w w' ([(g1, #[.int .i64 p0, .int .i64 p1, .int .i64 (m : Int), .slice (some ad) l.length c], 39)] ++ gridBs go l.length m ks (GS (foundS (l.map insS)) s))))
      case atStart => exact ⟨0, rfl, ⟨by omega, by omega⟩, by rw [GS_zero]; exact HL⟩
      case round =>
        clear HL
        obtain ⟨s, rfl, HI, HL⟩ := hrel
        (try clear hf)
        (try clear hf); have hf := HL.out.facts; simp only [factsOf, List.cons_append, List.nil_append] at hf; skip
        by_cases hs : s < m
        · have hs2 : (s : Int) < (m : Int) := by omega
          have HSM := Aside0.mk hs
          obtain ⟨seen, hseen⟩ : ∃ S, foundS (l.map insS) s = S := ⟨_, rfl⟩
          have HSE := Aside0.mk hseen
          have HFB : Aside0 (∀ p ∈ seen, inBox l.length p) := ⟨fun p hp' => by
            rw [← hseen] at hp'
            have h1 := reach_box HP.out ((srch_reach HP.out (s : Int) (Nat.le_refl _) p).1 hp')
            rwa [List.length_map] at h1⟩
          clear hs hseen
          go_wp2_with (first | (go_at_call 69; refine (search_calls p0 p1 (m : Int) (some ad) c l (s : Int) _ (Kd.C_below HC.out HL.out.below) hc HLEN.out.2 (HT.out.below HL.out.below) HP.out HK.out).mono ?_; rintro e_ w6 ⟨B, nn, rfl, hM, hnn, hB, hb_⟩; have hM2 : PM w6 B nn seen := (by have h0 := HSE.out; unfold foundS at h0; rw [List.length_map] at h0; rw [h0] at hM; exact hM); have HM6 := Aside0.mk hM2; have HLn := Aside0.mk (HL.out.step hb_); clear HL hM hM2 hnn hB hb_; have HL := HLn; clear HLn; (try clear hf); have hf := HL.out.facts; simp only [factsOf, List.cons_append, List.nil_append] at hf; skip) | ((with_reducible refine gate_dst (N := 31) rfl ?_); refine pr_range rfl (.tmp 30) rfl rfl HM6.out (fun p hp => box_wf (HFB.out p hp) HLEN.out.2) ?_; intro r w7 hPR hgr hrr; have HPR := Aside0.mk hPR; have HRR := Aside0.mk (Nat.le_trans HL.out.below.size hrr); have HLn := Aside0.mk (HL.out.grown (HL.out.below.grown hgr HL.out.below.size (fun k hk => by cases hk)) hgr (fun b hb => by simp)); clear HL HM6 hPR hgr hrr; have HL := HLn; clear HLn; (try clear hf)))
          go_frame
          go_loopg [32] (seen.length + 1) (fun kq v32 w' => ∃ (todo dn : List (Int × Int)), Aside0 (todo.length < kq) ∧ Aside0 (∀ p, p ∈ seen ↔ p ∈ dn ∨ p ∈ todo) ∧ Aside0 (PR w' B r todo) ∧ Aside0 (Locs w w' ([(g1, #[.int .i64 p0, .int .i64 p1, .int .i64 (m : Int), .slice (some ad) l.length c], 39)] ++ gridBs go l.length m ks (GSp (foundS (l.map insS)) s dn))))
          case atStart => exact ⟨seen, [], ⟨by omega⟩, ⟨fun p => by simp⟩, HPR, by rw [GSp_start]; exact HL⟩
          case round =>
            clear HL HPR
            obtain ⟨todo, dn, HTD, HSD, HPR, HL⟩ := hrel
            go_wp2_with (first | ((with_reducible refine gate_dst (N := 32) rfl ?_); refine pr_next rfl (.tmp 31) rfl rfl HPR.out ?hdone ?hmore))
            case hdone =>
              intro htd
              go_wp2_with (first | fail)
              go_roundg (m - (s + 1) + 1)
              case measure => have := HI.out; have := HSM.out; omega
              case rel =>
                have hwc : wrap64 ((s : Int) + 1) = ((s + 1 : Nat) : Int) := by have := HSM.out; have := HM.out; unfold wrap64; omega
                refine ⟨s + 1, (by first | rw [hwc] | simp), ⟨by omega, HSM.out⟩, ?_⟩
                have e := GSp_end (foundS (l.map insS)) s dn (fun p => by rw [HSE.out, HSD.out p, htd]; simp)
                rw [e] at HL
                exact HL
            case hmore =>
              intro q1 st q2 q3 w8 hmem hPR2 hgr hen
              have hbx : inBox l.length (q1, st) := HFB.out _ ((HSD.out _).2 (Or.inr hmem))
              obtain ⟨i, hi⟩ : ∃ i : Nat, q1 = (i : Int) := ⟨q1.toNat, by have := hbx.1; simp only at this; omega⟩
              subst hi
              have hil : i < l.length := by have := hbx.2.1; simp only at this; omega
              have hil2 : (i : Int) < (l.length : Int) := by omega
              obtain ⟨k, hk⟩ : ∃ k, ks[i]? = some k := ⟨_, List.getElem?_eq_getElem (by rw [HKS.out]; exact hil)⟩
              have HKI := Aside0.mk hk
              have HMEM := Aside0.mk hmem
              have HST : Aside0 (st = 1 ∨ st = 2 ∨ st = 4) := ⟨hbx.2.2⟩
              have hblkr := HPR.out.blocks.2
              have HLn : Aside0 (Locs w w8 ([(g1, #[.int .i64 p0, .int .i64 p1, .int .i64 (m : Int), .slice (some ad) l.length c], 39)] ++ gridBs go l.length m ks (GSp (foundS (l.map insS)) s dn))) := ⟨HL.out.grown (HL.out.below.grown hgr HL.out.below.size (fun k hk => by cases hk; exact HRR.out)) hgr (fun b hb e => (HPR.out.ne (HL.out.blk b hb)).2 (Option.some.inj e))⟩
              have HPRn := Aside0.mk hPR2
              clear HL HPR hPR2 hgr hbx hk hblkr hil hmem; have HL := HLn; have HPR := HPRn; clear HLn HPRn
              obtain ⟨v0, hv0⟩ : ∃ v0, stV dn i = v0 := ⟨_, rfl⟩
              have HV0 := Aside0.mk hv0
              clear hv0
              go_upto_region 13 with (first | ((with_reducible refine gate_dst (N := 6) rfl ?_); (try (refine gate_guard (by rfl) ?_; dsimp only)); refine box_locs (by repeat (first | exact HL.out | refine Locs.drew ?_ | refine Locs.drewN ?_ _)) ?hg (N := 6) ?hd (cs := #[.int .i64 0, .int .i64 0]) (t := 117) ?hr ?_; (case hd => rfl); (case hg => rfl); (case hr => first | (go_simp; done) | (go_simp; rfl)); intro g6 wb19 HLn HKb; have HPRn := Aside0.mk (HPR.out.below HKb.out); clear HPR; have HPR := HPRn; clear HPRn; clear HL; have HL := HLn; clear HLn HKb; (try clear hf); have hf := HL.out.facts; simp only [factsOf, List.cons_append, List.nil_append] at hf; skip))
              generalize hwt : World.setCell _ _ _ = w9
              have HLn : Aside0 (Locs w w9 ([(g6, #[.int .i64 (i : Int), .int .i64 st], 117), (g1, #[.int .i64 p0, .int .i64 p1, .int .i64 (m : Int), .slice (some ad) l.length c], 39)] ++ gridBs go l.length m ks (GSp (foundS (l.map insS)) s dn))) := ⟨by rw [← hwt]; exact (HL.out.set 0 rfl 0 _).set 0 rfl 1 _⟩
              have HPRn : Aside0 (PR w9 B r (without todo ((i : Int), st))) := ⟨by rw [← hwt]; exact (HPR.out.setCell (HL.out.at 0 rfl) 0 _).setCell (blk_set (HL.out.at 0 rfl) 0 _) 1 _⟩
              clear HL HPR hwt; have HL := HLn; have HPR := HPRn; clear HLn HPRn
              have hx1 := HL.out.outCell HKI.out
              have hx2 := HL.out.rowCell HKI.out HSM.out
              rw [GSp_at, HV0.out] at hx2
              (try clear hf); have hf := HL.out.facts; simp only [factsOf, List.cons_append, List.nil_append] at hf; skip
              go_region
              generalize hwt : World.drew _ = w10
              have HLn : Aside0 (Locs w w10 ([(g1, #[.int .i64 p0, .int .i64 p1, .int .i64 (m : Int), .slice (some ad) l.length c], 39)] ++ gridBs go l.length m ks (GSp (foundS (l.map insS)) s (((i : Int), st) :: dn)))) := ⟨by
                rw [← hwt]
                have h1 := HL.out.setRow HKI.out HSM.out (Go.bits .or .i64 v0 st)
                rw [← HV0.out, stV_or dn i st HST.out, GSp_upd, ← stV_or dn i st HST.out, HV0.out] at h1
                exact (h1.sub (List.sublist_cons_self _ _)).drew⟩
              have HPRn : Aside0 (PR w10 B r (without todo ((i : Int), st))) := ⟨by
                rw [← hwt]
                exact (HPR.out.setCell (HL.out.row HKI.out) s _).below (below_drew1 (Below.refl _ _))⟩
              clear HL HPR hwt hx1 hx2 hf; have HL := HLn; have HPR := HPRn; clear HLn HPRn
              go_wp2_with (first | fail)
              go_roundg ((without todo ((i : Int), st)).length + 1)
              case measure => have h1 := filter_less todo ((i : Int), st) HMEM.out; have := HTD.out; omega
              case rel =>
                refine ⟨without todo ((i : Int), st), ((i : Int), st) :: dn, ⟨Nat.lt_succ_self _⟩, ⟨fun p => ?_⟩, HPR, HL⟩
                rw [HSD.out p, List.mem_cons, mem_without]
                by_cases e : p = ((i : Int), st)
                · subst e; simp [HMEM.out]
                · simp [e]
        · have hlt2 : ¬ ((s : Int) < (m : Int)) := by omega
          have hsm : s = m := by have := HI.out; omega
          clear hs
          go_wp2_with (first | fail)
          go_ret
          subst hsm
          refine ⟨go, ks, ?_, by rw [List.length_map]; exact HKS.out, ?_⟩
          · rw [List.length_map]; rfl
          · rw [List.length_map]; exact HL.out.sub (List.sublist_append_right _ _)
end Go.Proofs.YtcioegimmjppcaaDoor.P
/-! prog.slots (machine side): it ends as it should where no instruction meets a state that it may not, else it gives up with a fault. -/
namespace Go.Proofs.YtcioegimmjppcaaDoor.P
open Go.RowKit Go.Maps Go.Proofs.YtcioegimmjppcaaDoorW.PrintWords Go.Proofs.YtcioegimmjppcaaDoorW.PrintLast Go.Proofs.YtcioegimmjppcaaDoorW.PrintMore
set_option linter.unusedVariables false
set_option linter.unusedSimpArgs false
set_option maxHeartbeats 1000000
set_option maxRecDepth 100000

theorem stV_and2 (X : List (Int × Int)) (i : Nat) : Go.bits .and .i64 (stV X i) 2 = if ((i : Int), (2 : Int)) ∈ X then 2 else 0 := by
  unfold stV
  by_cases h1 : ((i : Int), (1 : Int)) ∈ X
  all_goals by_cases h2 : ((i : Int), (2 : Int)) ∈ X
  all_goals by_cases h4 : ((i : Int), (4 : Int)) ∈ X
  all_goals simp only [h1, h2, h4, ↓reduceIte] <;> decide
theorem stV_and3 (X : List (Int × Int)) (i : Nat) : Go.bits .and .i64 (stV X i) 3 = (if ((i : Int), (1 : Int)) ∈ X then 1 else 0) + (if ((i : Int), (2 : Int)) ∈ X then 2 else 0) := by
  unfold stV
  by_cases h1 : ((i : Int), (1 : Int)) ∈ X
  all_goals by_cases h2 : ((i : Int), (2 : Int)) ∈ X
  all_goals by_cases h4 : ((i : Int), (4 : Int)) ∈ X
  all_goals simp only [h1, h2, h4, ↓reduceIte] <;> decide
theorem and2_ne (X : List (Int × Int)) (i : Nat) (v : Int) (hv : stV X i = v) : (Go.bits .and .i64 v 2 != 0) = decide (((i : Int), (2 : Int)) ∈ X) := by
  rw [← hv, stV_and2]
  by_cases h : ((i : Int), (2 : Int)) ∈ X <;> simp [h]
theorem and3_ne (X : List (Int × Int)) (i : Nat) (v : Int) (hv : stV X i = v) : (Go.bits .and .i64 v 3 != 0) = decide (((i : Int), (1 : Int)) ∈ X ∨ ((i : Int), (2 : Int)) ∈ X) := by
  rw [← hv, stV_and3]
  by_cases h1 : ((i : Int), (1 : Int)) ∈ X <;> by_cases h2 : ((i : Int), (2 : Int)) ∈ X <;> simp [h1, h2]

def badAt (code : List Ins) (m : Nat) (j : Nat) : Bool :=
  if (code.getD j default).kind = 5 then decide (((j : Int), (2 : Int)) ∈ foundS code (code.getD j default).a.toNat)
  else if (code.getD j default).kind = 7 then decide (((j : Int), (1 : Int)) ∈ foundS code (code.getD j default).b.toNat ∨ ((j : Int), (2 : Int)) ∈ foundS code (code.getD j default).b.toNat)
  else if (code.getD j default).kind = 9 then (List.range m).any (fun s => decide (((j : Int), (2 : Int)) ∈ foundS code s)) else false
def slotsB (code : List Ins) (m : Nat) : Bool := (List.range code.length).all fun j => !badAt code m j

theorem GS_at (S : Nat → List (Int × Int)) (m s i : Nat) (h : s < m) : GS S m i s = stV (S s) i := by unfold GS; rw [if_pos h]

theorem slots_calls (n p0 p1 : Int) (m : Nat) (A : Option Addr) (c : Nat) (l : List S36) (w : World) (hr : Kd.C k36 w A l.length l) (hc : l.length ≤ c) (hlen : l.length ≤ 512) (hm : m ≤ 8) (hT : Tab w)
   (hp : placed (l.map insS)) (hk : ∀ i ∈ l, 0 ≤ i.f0 ∧ i.f0 < 10) (hI : ∀ i ∈ l, (i.f0 = 5 → 0 ≤ i.f1 ∧ i.f1 < (m : Int)) ∧ (i.f0 = 7 → 0 ≤ i.f2 ∧ i.f2 < (m : Int))) :
    Calls Tryd.prog 51 #[.int .i64 n, .agg #[.int .i64 p0, .int .i64 p1, .int .i64 (m : Int), .slice A l.length c]] w (EndsB w (slotsB (l.map insS) m)) := by
  have hl0 : 0 < l.length := by have := hp.1; rwa [List.length_map] at this
  obtain ⟨ad, rfl, -⟩ := ins_cells hr (Below.refl _ _) 0 (by omega) (by omega)
  have HL := Aside0.mk (Locs.nil w)
  have HT := Aside0.mk hT
  have HC := Aside0.mk hr
  have HP := Aside0.mk hp
  have HK := Aside0.mk hk
  have HI := Aside0.mk hI
  have HLEN := Aside0.mk (And.intro hl0 hlen)
  have HM := Aside0.mk hm
  have hu39 := Tryd.underlying39
  have hu36 := Tryd.underlying36
  clear hr hT hp hk hl0 hlen hm hI
  go_enter Tryd.func51, Tryd.ntmps51
  go_wp2_with (first | ((with_reducible refine gate_dst (N := 3) rfl ?_); (try (refine gate_guard (by rfl) ?_; dsimp only)); refine box_locs (by repeat (first | exact HL.out | refine Locs.drew ?_ | refine Locs.drewN ?_ _)) ?hg (N := 3) ?hd (cs := #[.int .i64 p0, .int .i64 p1, .int .i64 (m : Int), .slice (some ad) l.length c]) (t := 39) ?hr ?_; (case hd => rfl); (case hg => rfl); (case hr => first | (go_simp; done) | (go_simp; rfl)); intro g3 wb1 HLn HKb; clear HL; have HL := HLn; clear HLn HKb; (try clear hf); have hf := HL.out.facts; simp only [factsOf, List.cons_append, List.nil_append] at hf; skip) | (go_at_call 63; refine (states_calls p0 p1 m (some ad) c l _ (Kd.C_below HC.out HL.out.below) hc HLEN.out.2 HM.out (HT.out.below HL.out.below) HP.out HK.out).mono ?_; rintro e_ w5 ⟨go, ks, rfl, hks, hL2⟩; rw [List.length_map] at hks hL2 ⊢; have HKS := Aside0.mk hks; have HLn : Aside0 (Locs w w5 ([(g3, #[.int .i64 p0, .int .i64 p1, .int .i64 (m : Int), .slice (some ad) l.length c], 39)] ++ gridBs go l.length m ks (GS (foundS (l.map insS)) m))) := ⟨(HL.out.join hL2).perm List.perm_append_comm⟩; clear HL hks hL2; have HL := HLn; clear HLn; (try clear hf); have hf := HL.out.facts; simp only [factsOf, List.cons_append, List.nil_append] at hf; skip))
  go_loopg [15] (l.length + 1) (fun kq v15 w' => ∃ (j : Nat), v15 = .int .i64 (j : Int) ∧ Aside0 (l.length - j < kq ∧ j ≤ l.length ∧ ∀ x, x < j → badAt (l.map insS) m x = false) ∧ Aside0 (Locs w w' ([(g3, #[.int .i64 p0, .int .i64 p1, .int .i64 (m : Int), .slice (some ad) l.length c], 39)] ++ gridBs go l.length m ks (GS (foundS (l.map insS)) m))))
  case atStart => exact ⟨0, rfl, ⟨by omega, by omega, fun x hx => by omega⟩, HL⟩
  case round =>
    clear HL hf
    obtain ⟨j, rfl, HJ, HL⟩ := hrel
    (try clear hf); have hf := HL.out.facts; simp only [factsOf, List.cons_append, List.nil_append] at hf; skip
    by_cases hin : j < l.length
    · have hin2 : (j : Int) < (l.length : Int) := by omega
      have HIN := Aside0.mk hin
      obtain ⟨i, hi⟩ : ∃ i, rd_T36 l (j : Int) = i := ⟨_, rfl⟩
      have him : i ∈ l := by
        rw [← hi]
        unfold rd_T36
        rw [List.getD_eq_getElem?_getD, Int.toNat_natCast, List.getElem?_eq_getElem hin]
        exact List.getElem_mem hin
      have hat := insS_at l (j : Int) (by omega) hin2
      rw [hi, Int.toNat_natCast] at hat
      have hII := HI.out i him
      have HX : Aside0 (∀ W, Below w.heap.size w W → W.cell? (ad.add (j * 5)) = some (.int .i64 i.f0) ∧ W.cell? ⟨(ad.add (j * 5)).block, (ad.add (j * 5)).off + 1, none⟩ = some (.int .i64 i.f1) ∧ W.cell? ⟨(ad.add (j * 5)).block, (ad.add (j * 5)).off + 2, none⟩ = some (.int .i64 i.f2) ∧ W.cell? ⟨(ad.add (j * 5)).block, (ad.add (j * 5)).off + 3, none⟩ = some (.int .i64 i.f3) ∧ W.cell? ⟨(ad.add (j * 5)).block, (ad.add (j * 5)).off + 4, none⟩ = some (.int .i64 i.f4)) := ⟨fun W hW => by
        obtain ⟨ad2, e0, e1⟩ := ins_cells HC.out (Below.refl _ _) (j : Int) (by omega) (by omega)
        cases e0
        have e2 := e1 W hW
        rw [hi, Int.toNat_natCast] at e2
        exact e2⟩
      obtain ⟨k0, k1, k2, k3, k4⟩ := i
      simp only at hII HX
      obtain ⟨k, hk⟩ : ∃ k, ks[j]? = some k := ⟨_, List.getElem?_eq_getElem (by rw [HKS.out]; exact hin)⟩
      have HKJ := Aside0.mk hk
      have HAT := Aside0.mk hat
      have HII := Aside0.mk hII
      clear hin hi him hat hII hk
      (try clear hf); have hf := HL.out.facts; simp only [factsOf, List.cons_append, List.nil_append] at hf; (try clear hx); have hx := HX.out _ HL.out.below
      go_upto_region 6 with (first | ((with_reducible refine gate_dst (N := 6) rfl ?_); (try (refine gate_guard (by rfl) ?_; dsimp only)); refine box_locs (by repeat (first | exact HL.out | refine Locs.drew ?_ | refine Locs.drewN ?_ _)) ?hg (N := 6) ?hd (cs := #[.int .i64 0, .int .i64 0, .int .i64 0, .int .i64 0, .int .i64 0]) (t := 36) ?hr ?_; (case hd => rfl); (case hg => rfl); (case hr => first | (go_simp; done) | (go_simp; rfl)); intro g6 wb7 HLn HKb; clear HL; have HL := HLn; clear HLn HKb; (try clear hf); have hf := HL.out.facts; simp only [factsOf, List.cons_append, List.nil_append] at hf; (try clear hx); have hx := HX.out _ HL.out.below))
      generalize hwt : World.setCell _ _ _ = w7
      have HLn : Aside0 (Locs w w7 ([(g6, #[.int .i64 k0, .int .i64 k1, .int .i64 k2, .int .i64 k3, .int .i64 k4], 36), (g3, #[.int .i64 p0, .int .i64 p1, .int .i64 (m : Int), .slice (some ad) l.length c], 39)] ++ gridBs go l.length m ks (GS (foundS (l.map insS)) m))) := ⟨by rw [← hwt]; exact (((((HL.out.set 0 rfl 0 _).set 0 rfl 1 _).set 0 rfl 2 _).set 0 rfl 3 _).set 0 rfl 4 _)⟩
      clear HL hwt hx; have HL := HLn; clear HLn; (try clear hf); have hf := HL.out.facts; simp only [factsOf, List.cons_append, List.nil_append] at hf; (try clear hx1); have hx1 := HL.out.outCell HKJ.out
      have hwc : wrap64 ((j : Int) + 1) = ((j + 1 : Nat) : Int) := by have := HIN.out; have := HLEN.out; unfold wrap64; omega
      have HREL : Aside0 (badAt (l.map insS) m j = false → ∀ x, x < j + 1 → badAt (l.map insS) m x = false) := ⟨fun h x hx => by
        by_cases e : x = j
        · rw [e]; exact h
        · exact HJ.out.2.2 x (by omega)⟩
      have HBAD : Aside0 (badAt (l.map insS) m j = true → slotsB (l.map insS) m = false) := ⟨fun h => by
        unfold slotsB
        rw [List.all_eq_false]
        exact ⟨j, List.mem_range.2 (by rw [List.length_map]; exact HIN.out), by rw [h]; decide⟩⟩
      by_cases h5 : k0 = 5
      · have h5b : (k0 == 5) = true := beq_iff_eq.mpr h5
        have hr := HII.out.1 h5
        obtain ⟨a, rfl⟩ : ∃ a : Nat, k1 = (a : Int) := ⟨k1.toNat, by omega⟩
        have ham : a < m := by omega
        have ham2 : (a : Int) < (m : Int) := by omega
        obtain ⟨v, hv⟩ : ∃ v, stV (foundS (l.map insS) a) j = v := ⟨_, rfl⟩
        have hx2 := HL.out.rowCell HKJ.out ham
        rw [GS_at _ _ _ _ ham, hv] at hx2
        have hne := and2_ne (foundS (l.map insS) a) j v hv
        have hbad : badAt (l.map insS) m j = decide (((j : Int), (2 : Int)) ∈ foundS (l.map insS) a) := by
          unfold badAt
          rw [HAT.out, if_pos (show (insS ⟨k0, (a : Int), k2, k3, k4⟩).kind = 5 from h5)]
          rfl
        obtain ⟨b, hb⟩ : ∃ b, decide (((j : Int), (2 : Int)) ∈ foundS (l.map insS) a) = b := ⟨_, rfl⟩
        rw [hb] at hne hbad
        have HBB := Aside0.mk hbad
        clear h5 hr ham hv hb hbad
        cases b
        · go_wp2_with (first | fail)
          go_quiet (fail)
          go_wp2_with (first | fail)
          go_roundg (l.length - (j + 1) + 1)
          case measure => have := HJ.out; have := HIN.out; omega
          case rel => exact ⟨j + 1, (by first | rw [hwc] | simp), ⟨by omega, HIN.out, HREL.out HBB.out⟩, by first | exact ⟨(HL.out.sub (List.sublist_cons_self _ _)).drewN _⟩ | exact ⟨HL.out.sub (List.sublist_cons_self _ _)⟩⟩
        · go_wp2_with (first | fail)
          go_quiet (fail)
          go_wp2_with (first | fail)
          exact ⟨rfl, EndsB.bad (HBAD.out HBB.out) 54 n (j : Int) (by decide) (by first | exact (HL.out.drewN _).below | exact HL.out.below)⟩
      have h5b : (k0 == 5) = false := beq_eq_false_iff_ne.mpr h5
      by_cases h7 : k0 = 7
      · have h7b : (k0 == 7) = true := beq_iff_eq.mpr h7
        have hr := HII.out.2 h7
        obtain ⟨a, rfl⟩ : ∃ a : Nat, k2 = (a : Int) := ⟨k2.toNat, by omega⟩
        have ham : a < m := by omega
        have ham2 : (a : Int) < (m : Int) := by omega
        obtain ⟨v, hv⟩ : ∃ v, stV (foundS (l.map insS) a) j = v := ⟨_, rfl⟩
        have hx2 := HL.out.rowCell HKJ.out ham
        rw [GS_at _ _ _ _ ham, hv] at hx2
        have hne := and3_ne (foundS (l.map insS) a) j v hv
        have hbad : badAt (l.map insS) m j = decide (((j : Int), (1 : Int)) ∈ foundS (l.map insS) a ∨ ((j : Int), (2 : Int)) ∈ foundS (l.map insS) a) := by
          unfold badAt
          rw [HAT.out, if_neg (show ¬ (insS ⟨k0, k1, (a : Int), k3, k4⟩).kind = 5 from h5), if_pos (show (insS ⟨k0, k1, (a : Int), k3, k4⟩).kind = 7 from h7)]
          rfl
        obtain ⟨b, hb⟩ : ∃ b, decide (((j : Int), (1 : Int)) ∈ foundS (l.map insS) a ∨ ((j : Int), (2 : Int)) ∈ foundS (l.map insS) a) = b := ⟨_, rfl⟩
        rw [hb] at hne hbad
        have HBB := Aside0.mk hbad
        clear h5 h7 hr ham hv hb hbad
        cases b
        · go_wp2_with (first | fail)
          go_quiet (fail)
          go_wp2_with (first | fail)
          go_roundg (l.length - (j + 1) + 1)
          case measure => have := HJ.out; have := HIN.out; omega
          case rel => exact ⟨j + 1, (by first | rw [hwc] | simp), ⟨by omega, HIN.out, HREL.out HBB.out⟩, by first | exact ⟨(HL.out.sub (List.sublist_cons_self _ _)).drewN _⟩ | exact ⟨HL.out.sub (List.sublist_cons_self _ _)⟩⟩
        · go_wp2_with (first | fail)
          go_quiet (fail)
          go_wp2_with (first | fail)
          exact ⟨rfl, EndsB.bad (HBAD.out HBB.out) 55 n (j : Int) (by decide) (by first | exact (HL.out.drewN _).below | exact HL.out.below)⟩
      have h7b : (k0 == 7) = false := beq_eq_false_iff_ne.mpr h7
      by_cases h9 : k0 = 9
      · have h9b : (k0 == 9) = true := beq_iff_eq.mpr h9
        have hbad : badAt (l.map insS) m j = (List.range m).any (fun s => decide (((j : Int), (2 : Int)) ∈ foundS (l.map insS) s)) := by
          unfold badAt
          rw [HAT.out, if_neg (show ¬ (insS ⟨k0, k1, k2, k3, k4⟩).kind = 5 from h5), if_neg (show ¬ (insS ⟨k0, k1, k2, k3, k4⟩).kind = 7 from h7), if_pos (show (insS ⟨k0, k1, k2, k3, k4⟩).kind = 9 from h9)]
        have HB9 := Aside0.mk hbad
        clear h5 h7 h9 hbad
        go_wp2_with (first | fail)
        go_loopg [7, 53] (m + 1) (fun kq v7 v53 w' => ∃ (s : Nat), v53 = .int .i64 (s : Int) ∧ v7 = .int .i64 (if (List.range s).any (fun s => decide (((j : Int), (2 : Int)) ∈ foundS (l.map insS) s)) = true then 56 else 0) ∧ Aside0 (m - s < kq ∧ s ≤ m) ∧ Aside0 (Locs w w' ([(g6, #[.int .i64 k0, .int .i64 k1, .int .i64 k2, .int .i64 k3, .int .i64 k4], 36), (g3, #[.int .i64 p0, .int .i64 p1, .int .i64 (m : Int), .slice (some ad) l.length c], 39)] ++ gridBs go l.length m ks (GS (foundS (l.map insS)) m))))
        case atStart => exact ⟨0, rfl, rfl, ⟨by omega, by omega⟩, HL⟩
        case round =>
          clear HL hf hx1
          obtain ⟨s, rfl, rfl, HS, HL⟩ := hrel
          obtain ⟨e0, he0⟩ : ∃ e0 : Int, (if (List.range s).any (fun s => decide (((j : Int), (2 : Int)) ∈ foundS (l.map insS) s)) = true then 56 else 0) = e0 := ⟨_, rfl⟩
          rw [he0]
          have HE0 := Aside0.mk he0
          clear he0
          by_cases hs : s < m
          · have hs2 : (s : Int) < (m : Int) := by omega
            have HSM := Aside0.mk hs
            obtain ⟨v, hv⟩ : ∃ v, stV (foundS (l.map insS) s) j = v := ⟨_, rfl⟩
            have hx2 := HL.out.rowCell HKJ.out hs
            rw [GS_at _ _ _ _ hs, hv] at hx2
            have hne := and2_ne (foundS (l.map insS) s) j v hv
            obtain ⟨b, hb⟩ : ∃ b, decide (((j : Int), (2 : Int)) ∈ foundS (l.map insS) s) = b := ⟨_, rfl⟩
            rw [hb] at hne
            have HBS := Aside0.mk hb
            have hws : wrap64 ((s : Int) + 1) = ((s + 1 : Nat) : Int) := by have := HSM.out; have := HM.out; unfold wrap64; omega
            have hany : (List.range (s + 1)).any (fun s => decide (((j : Int), (2 : Int)) ∈ foundS (l.map insS) s)) = ((List.range s).any (fun s => decide (((j : Int), (2 : Int)) ∈ foundS (l.map insS) s)) || b) := by
              rw [List.range_succ, List.any_append, ← hb]
              simp
            have HANY := Aside0.mk hany
            clear hs hv hb hany
            cases b
            · go_wp2_with (first | fail)
              go_roundg (m - (s + 1) + 1)
              case measure => have := HS.out; have := HSM.out; omega
              case rel => exact ⟨s + 1, (by first | rw [hws] | simp), by rw [HANY.out, Bool.or_false, HE0.out], ⟨by omega, HSM.out⟩, HL⟩
            · go_wp2_with (first | fail)
              go_roundg (m - (s + 1) + 1)
              case measure => have := HS.out; have := HSM.out; omega
              case rel => exact ⟨s + 1, (by first | rw [hws] | simp), by rw [HANY.out, Bool.or_true]; rfl, ⟨by omega, HSM.out⟩, HL⟩
          · have hlt : ¬ ((s : Int) < (m : Int)) := by omega
            have hsm : s = m := by have := HS.out; omega
            have HE : Aside0 ((if badAt (l.map insS) m j = true then (56 : Int) else 0) = e0) := ⟨by rw [HB9.out, ← hsm]; exact HE0.out⟩
            clear hs hsm
            obtain ⟨b, hb⟩ : ∃ b, badAt (l.map insS) m j = b := ⟨_, rfl⟩
            have HBB := Aside0.mk hb
            have hee := HE.out
            rw [hb] at hee
            clear hb
            cases b
            · have he0 : e0 = 0 := by rw [← hee]; rfl
              subst he0
              clear hee
              go_wp2_with (first | fail)
              go_roundg (l.length - (j + 1) + 1)
              case measure => have := HJ.out; have := HIN.out; omega
              case rel => exact ⟨j + 1, (by first | rw [hwc] | simp), ⟨by omega, HIN.out, HREL.out HBB.out⟩, by first | exact ⟨(HL.out.sub (List.sublist_cons_self _ _)).drewN _⟩ | exact ⟨HL.out.sub (List.sublist_cons_self _ _)⟩⟩
            · have he0 : e0 = 56 := by rw [← hee]; rfl
              subst he0
              clear hee
              go_wp2_with (first | fail)
              exact ⟨rfl, EndsB.bad (HBAD.out HBB.out) 56 n (j : Int) (by decide) (by first | exact (HL.out.drewN _).below | exact HL.out.below)⟩
      have h9b : (k0 == 9) = false := beq_eq_false_iff_ne.mpr h9
      have hbad : badAt (l.map insS) m j = false := by
        unfold badAt
        rw [HAT.out, if_neg (show ¬ (insS ⟨k0, k1, k2, k3, k4⟩).kind = 5 from h5), if_neg (show ¬ (insS ⟨k0, k1, k2, k3, k4⟩).kind = 7 from h7), if_neg (show ¬ (insS ⟨k0, k1, k2, k3, k4⟩).kind = 9 from h9)]
      have HBB := Aside0.mk hbad
      clear h5 h7 h9 hbad
      go_wp2_with (first | fail)
      go_roundg (l.length - (j + 1) + 1)
      case measure => have := HJ.out; have := HIN.out; omega
      case rel => exact ⟨j + 1, (by first | rw [hwc] | simp), ⟨by omega, HIN.out, HREL.out HBB.out⟩, by first | exact ⟨(HL.out.sub (List.sublist_cons_self _ _)).drewN _⟩ | exact ⟨HL.out.sub (List.sublist_cons_self _ _)⟩⟩
    · have hlt : ¬ ((j : Int) < (l.length : Int)) := by omega
      have hall : slotsB (l.map insS) m = true := by
        unfold slotsB
        rw [List.all_eq_true]
        intro x hx
        have hx2 := List.mem_range.1 hx
        rw [List.length_map] at hx2
        rw [HJ.out.2.2 x (by omega)]
        rfl
      have HALL := Aside0.mk hall
      clear hin hall
      go_wp2_with (first | fail)
      go_end0
      exact EndsB.ok HALL.out HL.out.below
end Go.Proofs.YtcioegimmjppcaaDoor.P
/-! prog.Check's deferred function (machine side). -/
namespace Go.Proofs.YtcioegimmjppcaaDoor.P
open Go.RowKit Go.Proofs.YtcioegimmjppcaaDoorW.PrintWords Go.Proofs.YtcioegimmjppcaaDoorW.PrintLast Go.Proofs.YtcioegimmjppcaaDoorW.PrintMore
set_option linter.unusedVariables false
set_option linter.unusedSimpArgs false
set_option maxHeartbeats 1000000
set_option maxRecDepth 100000

theorem check1_idle (p : Addr) (w : World) :
    CallsD Tryd.prog 48 #[.pointer (some p)] .returning w fun e u' w' => e = .returned (.tuple #[]) ∧ u' = .returning ∧ w' = w := by
  refine callsD_of_wpS Tryd.func48 rfl fun c₀ cs hu => ?_
  apply wpS_seq
  apply wpS_region
  simp [wpOpsS, go_sem, recoverD, hu, Tryd.ntmps48, Exit.thenS]
  refine wpS_of_wp ?_
  go_wp2
  cases c₀
  simp_all [bodyPostS, results, Tryd.results48]

theorem assert98 (v : Value) (W : World) : (Instr.typeAssert (.iface 98 v) 20 98 true).run Tryd.prog W = .ok (.tuple #[v, .bool true]) W := by
  simp [Instr.typeAssert, run_underlying Tryd.underlying98, Result.andThen]

theorem check1_panicking (w0 w : World) (bs : List (Nat × Array Value × TypeId)) (g : Nat) (x y z e a b : Int) (older : List PanicEntry) (HL0 : Locs w0 w ((g, #[.int .i64 x, .int .i64 y, .int .i64 z], 90) :: bs)) :
    CallsD Tryd.prog 48 #[.pointer (some ⟨g, 0, none⟩)] (.panicking ({ v := .iface 98 (.agg #[.int .i64 e, .int .i64 a, .int .i64 b]), recovered := false } :: older)) w fun en u' w' =>
      en = .returned (.tuple #[]) ∧ u' = .panicking ({ v := .iface 98 (.agg #[.int .i64 e, .int .i64 a, .int .i64 b]), recovered := true } :: older) ∧ Locs w0 w' ((g, #[.int .i64 e, .int .i64 a, .int .i64 b], 90) :: bs) := by
  have HL := Aside0.mk HL0
  have hu98 := Tryd.underlying98
  have hu90 := Tryd.underlying90
  have has := assert98
  clear HL0
  refine callsD_of_wpS Tryd.func48 rfl fun c₀ cs hu => ?_
  apply wpS_seq
  apply wpS_region
  simp [wpOpsS, go_sem, recoverD, hu, Tryd.ntmps48, Exit.thenS]
  refine wpS_of_wp ?_
  (try clear hf); have hf := HL.out.facts; simp only [factsOf, List.cons_append, List.nil_append] at hf; skip
  go_upto_region 7 with (first | ((with_reducible refine gate_dst (N := 2) rfl ?_); (try (refine gate_guard (by rfl) ?_; dsimp only)); refine box_locs (by repeat (first | exact HL.out | refine Locs.drew ?_ | refine Locs.drewN ?_ _)) ?hg (N := 2) ?hd (cs := #[.int .i64 0, .int .i64 0, .int .i64 0]) (t := 98) ?hr ?_; (case hd => rfl); (case hg => rfl); (case hr => first | (go_simp; done) | (go_simp; rfl)); intro g2 wb2 HLn HKb; clear HL; have HL := HLn; clear HLn HKb; (try clear hf); have hf := HL.out.facts; simp only [factsOf, List.cons_append, List.nil_append] at hf; skip))
  generalize hwt : World.setCell _ _ _ = w3
  have HLn : Aside0 (Locs w0 w3 ((g2, #[.int .i64 e, .int .i64 a, .int .i64 b], 98) :: (g, #[.int .i64 x, .int .i64 y, .int .i64 z], 90) :: bs)) := ⟨by rw [← hwt]; exact ((HL.out.set 0 rfl 0 _).set 0 rfl 1 _).set 0 rfl 2 _⟩
  clear HL hwt; have HL := HLn; clear HLn; (try clear hf); have hf := HL.out.facts; simp only [factsOf, List.cons_append, List.nil_append] at hf; skip
  go_wp2_with (first | fail)
  generalize hwt : World.setCell _ _ _ = w4
  have HLn : Locs w0 w4 ((g, #[.int .i64 e, .int .i64 a, .int .i64 b], 90) :: bs) := by
    rw [← hwt]
    exact (((HL.out.set 1 rfl 0 _).set 1 rfl 1 _).set 1 rfl 2 _).sub (List.sublist_cons_self _ _)
  clear hf HL hwt
  cases c₀
  simp_all [bodyPostS, results, Tryd.results48]
end Go.Proofs.YtcioegimmjppcaaDoor.P
/-! prog.Check (machine side): it answers a fault, or none where the plain look finds none. -/
namespace Go.Proofs.YtcioegimmjppcaaDoor.P
open Go.RowKit Go.Proofs.YtcioegimmjppcaaDoorW.PrintWords Go.Proofs.YtcioegimmjppcaaDoorW.PrintLast Go.Proofs.YtcioegimmjppcaaDoorW.PrintMore
set_option linter.unusedVariables false
set_option linter.unusedSimpArgs false
set_option maxHeartbeats 1000000
set_option maxRecDepth 100000

def shapeB (f : S39) : Bool := decide (shapeOK (fnS f))
theorem shape_val (f : S39) : prog_shapeOK.f f.f0 f.f1 f.f2 f.f3 = some (shapeB f) := by
  unfold prog_shapeOK.f shapeB shapeOK
  simp only [fnS, List.length_map]
  repeat' split
  all_goals (congr 1; first | (symm; exact decide_eq_false (by omega)) | (rw [decide_eq_decide]; omega))
def slotsF (f : S39) : Bool := slotsB (f.f3.map insS) f.f2.toNat
def checkB (L : List S39) : Bool := decide (1 ≤ L.length ∧ L.length ≤ 32) && (L.all shapeB && (L.all (codeB L) && L.all slotsF))

theorem cell_below {w W : World} (h : Below w.heap.size w W) {a : Addr} {v : Value} (hc : w.cell? a = some v) : W.cell? a = some v := by
  have hlt := World.block_lt_of_cell? w a hc
  have e := h.block a.block hlt
  simp only [World.cell?] at hc ⊢
  rw [e]
  exact hc

theorem fun_cells {w : World} {A : Option Addr} {L : List S39} (h : Kd.C k39 w A L.length L) (i : Nat) (h1 : i < L.length) : ∃ ad A3 c3, A = some ad ∧ (rd_T39 L (i : Int)).f3.length ≤ c3 ∧ Kd.C k36 w A3 (rd_T39 L (i : Int)).f3.length (rd_T39 L (i : Int)).f3 ∧ ∀ W, Below w.heap.size w W →
    W.cell? (ad.add (i * 4)) = some (.int .i64 (rd_T39 L (i : Int)).f0) ∧ W.cell? ⟨(ad.add (i * 4)).block, (ad.add (i * 4)).off + 1, none⟩ = some (.int .i64 (rd_T39 L (i : Int)).f1) ∧
    W.cell? ⟨(ad.add (i * 4)).block, (ad.add (i * 4)).off + 2, none⟩ = some (.int .i64 (rd_T39 L (i : Int)).f2) ∧ W.cell? ⟨(ad.add (i * 4)).block, (ad.add (i * 4)).off + 3, none⟩ = some (.slice A3 (rd_T39 L (i : Int)).f3.length c3) := by
  obtain ⟨ad, A3, c3, e0, e1, e2, e3, e4, e5, e6⟩ := at_T39 h (i : Int) (by omega) (by omega)
  rw [Int.toNat_natCast] at e1 e2 e3 e4
  exact ⟨ad, A3, c3, e0, e5, e6, fun W hW => ⟨cell_below hW e1, cell_below hW e2, cell_below hW e3, cell_below hW e4⟩⟩
end Go.Proofs.YtcioegimmjppcaaDoor.P
/-! prog.Check (machine side), the walk. -/
namespace Go.Proofs.YtcioegimmjppcaaDoor.P
open Go.RowKit Go.Proofs.YtcioegimmjppcaaDoorW.PrintWords Go.Proofs.YtcioegimmjppcaaDoorW.PrintLast Go.Proofs.YtcioegimmjppcaaDoorW.PrintMore
set_option linter.unusedVariables false
set_option linter.unusedSimpArgs false
set_option maxHeartbeats 1000000
set_option maxRecDepth 100000

def CkPost (w : World) (ok : Bool) (e : Ending) (w' : World) : Prop := ∃ x a b : Int, e = .returned (.agg #[.int .i64 x, .int .i64 a, .int .i64 b]) ∧ (x = 0 ↔ ok = true) ∧ Below w.heap.size w w'

theorem res43 (tmps : Array Value) (g : Nat) (h2 : tmps[2]? = some (.pointer (some ⟨g, 0, none⟩))) {w W : World} {bs : List (Nat × Array Value × TypeId)} {x a b : Int} (HL : Locs w W ((g, #[.int .i64 x, .int .i64 a, .int .i64 b], 90) :: bs)) :
    (results Tryd.f43 tmps).run Tryd.prog W = .ok (.agg #[.int .i64 x, .int .i64 a, .int .i64 b]) W := by
  have hf := HL.facts
  simp only [factsOf] at hf
  have hu90 := Tryd.underlying90
  have hc := hf.1.1
  have hi : (Tryd.prog.info? 90).map (·.size) = some 3 := by kernel_rfl
  simp [results, Tryd.results43, h2, go_sem, hc]

theorem bad_iff {x : Int} {ok : Bool} (hx : x ≠ 0) (h : ok = false) : x = 0 ↔ ok = true := ⟨fun e => absurd e hx, fun e => by rw [h] at e; cases e⟩
theorem leave_ret {tmps : Array Value} {g : Nat} (h2 : tmps[2]? = some (.pointer (some ⟨g, 0, none⟩))) {w W : World} {bs : List (Nat × Array Value × TypeId)} {x a b : Int} {ok : Bool} (HL : Locs w W ((g, #[.int .i64 x, .int .i64 a, .int .i64 b], 90) :: bs)) (hx : x = 0 ↔ ok = true) :
    Leaves Tryd.prog Tryd.f43 tmps (CkPost w ok) [{ target := .fn (.func 48) #[.pointer (some ⟨g, 0, none⟩)], args := #[] }] .returning W := by
  refine leaves_cons (f := 48) (args := #[.pointer (some ⟨g, 0, none⟩)]) (by simp) (by simp [go_sem]) ?_
  refine (check1_idle ⟨g, 0, none⟩ _).mono ?_
  rintro e u' w'' ⟨rfl, rfl, rfl⟩
  exact ⟨_, res43 tmps g h2 HL, x, a, b, rfl, hx, HL.below⟩

theorem leave_panic {tmps : Array Value} {g : Nat} (h2 : tmps[2]? = some (.pointer (some ⟨g, 0, none⟩))) {w W : World} {bs : List (Nat × Array Value × TypeId)} {x y z e a b : Int} {ok : Bool} (HL : Locs w W ((g, #[.int .i64 x, .int .i64 y, .int .i64 z], 90) :: bs)) (hx : e ≠ 0) (hok : ok = false) :
    Leaves Tryd.prog Tryd.f43 tmps (CkPost w ok) [{ target := .fn (.func 48) #[.pointer (some ⟨g, 0, none⟩)], args := #[] }] (.panicking (wrongV e a b)) W := by
  refine leaves_cons (f := 48) (args := #[.pointer (some ⟨g, 0, none⟩)]) (by simp [wrongV]) (by simp [go_sem]) ?_
  refine (check1_panicking w _ _ g x y z e a b [] HL).mono ?_
  rintro en u' w'' ⟨rfl, rfl, HL2⟩
  exact ⟨_, res43 tmps g h2 HL2, e, a, b, rfl, ⟨fun h => absurd h hx, fun h => by rw [hok] at h; cases h⟩, HL2.below⟩

theorem check_calls (A : Option Addr) (c : Nat) (L : List S39) (w : World) (hr : Kd.C k39 w A L.length L) (hc : L.length ≤ c) (hT : Tab w) :
    Calls Tryd.prog 43 #[.agg #[.slice A L.length c]] w (CkPost w (checkB L)) := by
  have hmf : ∀ (fn : Go.Fn) (first cap : Array Value) (w : World), (Instr.makeFunc fn first cap).run Tryd.prog w = .ok (.func fn first cap) w := fun _ _ _ _ => rfl
  have HL := Aside0.mk (Locs.nil w)
  have HT := Aside0.mk hT
  have HC := Aside0.mk hr
  have hu39 := Tryd.underlying39
  have hu24 := Tryd.underlying24
  have hu90 := Tryd.underlying90
  clear hr hT
  by_cases h1 : L.length < 1
  · have h1b : decide ((L.length : Int) < 1) = true := decide_eq_true (by omega)
    have HOK : Aside0 (checkB L = false) := ⟨by unfold checkB; rw [decide_eq_false (by omega)]; rfl⟩
    clear h1
    go_enter_defers Tryd.func43, Tryd.ntmps43
    go_wp2_with (first | ((with_reducible refine gate_dst (N := 1) rfl ?_); (try (refine gate_guard (by rfl) ?_; dsimp only)); refine box_locs (by repeat (first | exact HL.out | refine Locs.drew ?_ | refine Locs.drewN ?_ _)) ?hg (N := 1) ?hd (cs := #[.slice A L.length c]) (t := 24) ?hr ?_; (case hd => rfl); (case hg => rfl); (case hr => first | (go_simp; done) | (go_simp; rfl)); intro g1 wb2 HLn HKb; clear HL; have HL := HLn; clear HLn HKb; (try clear hf); have hf := HL.out.facts; simp only [factsOf, List.cons_append, List.nil_append] at hf; skip) | ((with_reducible refine gate_dst (N := 2) rfl ?_); (try (refine gate_guard (by rfl) ?_; dsimp only)); refine box_locs (by repeat (first | exact HL.out | refine Locs.drew ?_ | refine Locs.drewN ?_ _)) ?hg (N := 2) ?hd (cs := #[.int .i64 0, .int .i64 0, .int .i64 0]) (t := 90) ?hr ?_; (case hd => rfl); (case hg => rfl); (case hr => first | (go_simp; done) | (go_simp; rfl)); intro g2 wb3 HLn HKb; clear HL; have HL := HLn; clear HLn HKb; (try clear hf); have hf := HL.out.facts; simp only [factsOf, List.cons_append, List.nil_append] at hf; skip))
    generalize hwt : World.setCell _ _ _ = w3
    have HLn : Aside0 (Locs w w3 [(g2, #[.int .i64 50, .int .i64 0, .int .i64 0], 90), (g1, #[.slice A L.length c], 24)]) := ⟨by rw [← hwt]; exact (((HL.out.set 0 rfl 0 _).set 0 rfl 1 _).set 0 rfl 2 _)⟩
    exact leave_ret rfl HLn.out (bad_iff (by decide) HOK.out)
  have h1b : decide ((L.length : Int) < 1) = false := decide_eq_false (by omega)
  by_cases h2 : 32 < L.length
  · have h2b : decide (32 < (L.length : Int)) = true := decide_eq_true (by omega)
    have HOK : Aside0 (checkB L = false) := ⟨by unfold checkB; rw [decide_eq_false (by omega)]; rfl⟩
    clear h1 h2
    go_enter_defers Tryd.func43, Tryd.ntmps43
    go_wp2_with (first | ((with_reducible refine gate_dst (N := 1) rfl ?_); (try (refine gate_guard (by rfl) ?_; dsimp only)); refine box_locs (by repeat (first | exact HL.out | refine Locs.drew ?_ | refine Locs.drewN ?_ _)) ?hg (N := 1) ?hd (cs := #[.slice A L.length c]) (t := 24) ?hr ?_; (case hd => rfl); (case hg => rfl); (case hr => first | (go_simp; done) | (go_simp; rfl)); intro g1 wb7 HLn HKb; clear HL; have HL := HLn; clear HLn HKb; (try clear hf); have hf := HL.out.facts; simp only [factsOf, List.cons_append, List.nil_append] at hf; skip) | ((with_reducible refine gate_dst (N := 2) rfl ?_); (try (refine gate_guard (by rfl) ?_; dsimp only)); refine box_locs (by repeat (first | exact HL.out | refine Locs.drew ?_ | refine Locs.drewN ?_ _)) ?hg (N := 2) ?hd (cs := #[.int .i64 0, .int .i64 0, .int .i64 0]) (t := 90) ?hr ?_; (case hd => rfl); (case hg => rfl); (case hr => first | (go_simp; done) | (go_simp; rfl)); intro g2 wb8 HLn HKb; clear HL; have HL := HLn; clear HLn HKb; (try clear hf); have hf := HL.out.facts; simp only [factsOf, List.cons_append, List.nil_append] at hf; skip))
    generalize hwt : World.setCell _ _ _ = w3
    have HLn : Aside0 (Locs w w3 [(g2, #[.int .i64 50, .int .i64 0, .int .i64 0], 90), (g1, #[.slice A L.length c], 24)]) := ⟨by rw [← hwt]; exact (((HL.out.set 0 rfl 0 _).set 0 rfl 1 _).set 0 rfl 2 _)⟩
    exact leave_ret rfl HLn.out (bad_iff (by decide) HOK.out)
  have h2b : decide (32 < (L.length : Int)) = false := decide_eq_false (by omega)
  have HN := Aside0.mk (And.intro h1 h2)
  obtain ⟨ad, -, -, rfl, -⟩ := fun_cells HC.out 0 (by omega)
  clear h1 h2
  go_enter_defers Tryd.func43, Tryd.ntmps43
  go_wp2_with (first | ((with_reducible refine gate_dst (N := 1) rfl ?_); (try (refine gate_guard (by rfl) ?_; dsimp only)); refine box_locs (by repeat (first | exact HL.out | refine Locs.drew ?_ | refine Locs.drewN ?_ _)) ?hg (N := 1) ?hd (cs := #[.slice (some ad) L.length c]) (t := 24) ?hr ?_; (case hd => rfl); (case hg => rfl); (case hr => first | (go_simp; done) | (go_simp; rfl)); intro g1 wb12 HLn HKb; clear HL; have HL := HLn; clear HLn HKb; (try clear hf); have hf := HL.out.facts; simp only [factsOf, List.cons_append, List.nil_append] at hf; skip) | ((with_reducible refine gate_dst (N := 2) rfl ?_); (try (refine gate_guard (by rfl) ?_; dsimp only)); refine box_locs (by repeat (first | exact HL.out | refine Locs.drew ?_ | refine Locs.drewN ?_ _)) ?hg (N := 2) ?hd (cs := #[.int .i64 0, .int .i64 0, .int .i64 0]) (t := 90) ?hr ?_; (case hd => rfl); (case hg => rfl); (case hr => first | (go_simp; done) | (go_simp; rfl)); intro g2 wb13 HLn HKb; clear HL; have HL := HLn; clear HLn HKb; (try clear hf); have hf := HL.out.facts; simp only [factsOf, List.cons_append, List.nil_append] at hf; skip))
  clear hf
  go_loopg [24] (L.length + 1) (fun kq v24 w' => ∃ (j : Nat), v24 = .int .i64 (j : Int) ∧ Aside0 (L.length - j < kq ∧ j ≤ L.length ∧ ∀ x ∈ L.take j, shapeB x = true) ∧ Aside0 (Locs w w' [(g2, #[.int .i64 0, .int .i64 0, .int .i64 0], 90), (g1, #[.slice (some ad) L.length c], 24)]))
  case atStart => exact ⟨0, rfl, ⟨by omega, by omega, by intro x hx; simp at hx⟩, HL⟩
  case round =>
    clear HL
    obtain ⟨j, rfl, HJ, HL⟩ := hrel
    (try clear hf); have hf := HL.out.facts; simp only [factsOf, List.cons_append, List.nil_append] at hf; skip
    by_cases hin : j < L.length
    · have hin2 : (j : Int) < (L.length : Int) := (by omega); have HIN := Aside0.mk hin; obtain ⟨ad2, A3, c3, e0, hc3, hC3, hx3⟩ := fun_cells HC.out j hin; cases e0; obtain ⟨f, hfj⟩ : ∃ f, rd_T39 L (j : Int) = f := ⟨_, rfl⟩; rw [hfj] at hc3 hC3 hx3; have HFJ := Aside0.mk hfj; have HX := Aside0.mk hx3; have HC3 := Aside0.mk hC3; have hx := HX.out _ HL.out.below; clear hfj hx3 hC3 hin
      go_upto_region 7 with (first | ((with_reducible refine gate_dst (N := 4) rfl ?_); (try (refine gate_guard (by rfl) ?_; dsimp only)); refine box_locs (by repeat (first | exact HL.out | refine Locs.drew ?_ | refine Locs.drewN ?_ _)) ?hg (N := 4) ?hd (cs := #[.int .i64 0, .int .i64 0, .int .i64 0, .slice none 0 0]) (t := 39) ?hr ?_; (case hd => rfl); (case hg => rfl); (case hr => first | (go_simp; done) | (go_simp; rfl)); intro g4 wb17 HLn HKb; clear HL; have HL := HLn; clear HLn HKb; (try clear hf); have hf := HL.out.facts; simp only [factsOf, List.cons_append, List.nil_append] at hf; skip))
      generalize hwt : World.setCell _ _ _ = w4
      have HLn : Aside0 (Locs w w4 ((g4, #[.int .i64 f.f0, .int .i64 f.f1, .int .i64 f.f2, .slice A3 f.f3.length c3], 39) :: [(g2, #[.int .i64 0, .int .i64 0, .int .i64 0], 90), (g1, #[.slice (some ad) L.length c], 24)])) := ⟨by rw [← hwt]; exact ((((HL.out.set 0 rfl 0 _).set 0 rfl 1 _).set 0 rfl 2 _).set 0 rfl 3 _)⟩
      clear HL hwt hx; have HL := HLn; clear HLn; (try clear hf); have hf := HL.out.facts; simp only [factsOf, List.cons_append, List.nil_append] at hf; skip
      have hwc : wrap64 ((j : Int) + 1) = ((j + 1 : Nat) : Int) := by have := HIN.out; have := HN.out; unfold wrap64; omega
      have HREL : Aside0 (∀ P : S39 → Bool, (∀ x ∈ L.take j, P x = true) → P f = true → ∀ x ∈ L.take (j + 1), P x = true) := ⟨fun P h1 h2 x hx => by
        rw [List.take_add_one, List.getElem?_eq_getElem HIN.out] at hx
        rcases List.mem_append.1 hx with hx | hx
        · exact h1 x hx
        · have hx2 : x = L[j]'HIN.out := by simpa using hx
          have h3 := HFJ.out
          unfold rd_T39 at h3
          rw [List.getD_eq_getElem?_getD, Int.toNat_natCast, List.getElem?_eq_getElem HIN.out] at h3
          rw [hx2, show L[j]'HIN.out = f from h3]
          exact h2⟩
      have HMEM : Aside0 (f ∈ L) := ⟨by
        have h3 := HFJ.out
        unfold rd_T39 at h3
        rw [List.getD_eq_getElem?_getD, Int.toNat_natCast, List.getElem?_eq_getElem HIN.out] at h3
        rw [← show L[j]'HIN.out = f from h3]
        exact List.getElem_mem HIN.out⟩
      obtain ⟨b, hb⟩ : ∃ b, shapeB f = b := ⟨_, rfl⟩
      have HV := Aside0.mk hb
      have HSV : Aside0 (prog_shapeOK.f f.f0 f.f1 f.f2 f.f3 = some b) := ⟨by rw [shape_val, hb]⟩
      clear hb
      cases b
      · go_wp2_with (first | (go_at_call 49; have hcall := prog_shapeOK.calls f.f0 f.f1 f.f2 A3 c3 f.f3 _ _ (Kd.C_below HC3.out HL.out.below) hc3 HSV.out; with_reducible refine hcall.mono ?_; clear hcall; rintro e_ wc21 ⟨rfl, hb_⟩; have HLn := Aside0.mk (Locs.step (by repeat (first | exact HL.out | refine Locs.drew ?_ | refine Locs.drewN ?_ _)) hb_); clear HL hb_; have HL := HLn; clear HLn; (try clear hf); have hf := HL.out.facts; simp only [factsOf, List.cons_append, List.nil_append] at hf; skip))
        generalize hwt : World.setCell _ _ _ = w5
        have HLn : Aside0 (Locs w w5 [(g2, #[.int .i64 51, .int .i64 (j : Int), .int .i64 0], 90), (g1, #[.slice (some ad) L.length c], 24)]) := ⟨by rw [← hwt]; exact (((HL.out.set 1 rfl 0 _).set 1 rfl 1 _).set 1 rfl 2 _).sub (List.sublist_cons_self _ _)⟩
        refine leave_ret rfl HLn.out (bad_iff (by decide) ?_)
        unfold checkB
        rw [Bool.and_eq_false_iff]
        refine Or.inr ?_
        rw [Bool.and_eq_false_iff]
        refine Or.inl ?_
        rw [List.all_eq_false]
        exact ⟨f, HMEM.out, by rw [HV.out]; decide⟩
      · go_wp2_with (first | (go_at_call 49; have hcall := prog_shapeOK.calls f.f0 f.f1 f.f2 A3 c3 f.f3 _ _ (Kd.C_below HC3.out HL.out.below) hc3 HSV.out; with_reducible refine hcall.mono ?_; clear hcall; rintro e_ wc23 ⟨rfl, hb_⟩; have HLn := Aside0.mk (Locs.step (by repeat (first | exact HL.out | refine Locs.drew ?_ | refine Locs.drewN ?_ _)) hb_); clear HL hb_; have HL := HLn; clear HLn; (try clear hf); have hf := HL.out.facts; simp only [factsOf, List.cons_append, List.nil_append] at hf; skip))
        go_roundg (L.length - (j + 1) + 1)
        case measure => have := HJ.out; have := HIN.out; omega
        case rel => exact ⟨j + 1, (by first | rw [hwc] | simp), ⟨by omega, HIN.out, HREL.out _ HJ.out.2.2 HV.out⟩, ⟨HL.out.sub (List.sublist_cons_self _ _)⟩⟩
    · have HSH : Aside0 (∀ x ∈ L, shapeB x = true) := ⟨fun x hx => by
        have h1 := HJ.out.2.2
        rw [List.take_of_length_le (by omega)] at h1
        exact h1 x hx⟩
      have hlt : ¬ ((j : Int) < (L.length : Int)) := by omega
      clear hin
      go_wp2_with (first | fail)
      have HSS : Aside0 (∀ x ∈ L, shapeOK (fnS x)) := ⟨fun x hx => of_decide_eq_true (HSH.out x hx)⟩
      have HP8 : Aside0 (∀ g ∈ L, 0 ≤ g.f0 ∧ g.f0 ≤ 8) := ⟨fun g hg => by have h := HSS.out g hg; unfold shapeOK at h; simp only [fnS] at h; omega⟩
      clear hf
      go_loopg [38] (L.length + 1) (fun kq v38 w' => ∃ (j : Nat), v38 = .int .i64 (j : Int) ∧ Aside0 (L.length - j < kq ∧ j ≤ L.length ∧ ∀ x ∈ L.take j, codeB L x = true) ∧ Aside0 (Locs w w' [(g2, #[.int .i64 0, .int .i64 0, .int .i64 0], 90), (g1, #[.slice (some ad) L.length c], 24)]))
      case atStart => exact ⟨0, rfl, ⟨by omega, by omega, by intro x hx; simp at hx⟩, HL⟩
      case round =>
        clear HL
        obtain ⟨j, rfl, HJ, HL⟩ := hrel
        (try clear hf); have hf := HL.out.facts; simp only [factsOf, List.cons_append, List.nil_append] at hf; skip
        by_cases hin : j < L.length
        · have hin2 : (j : Int) < (L.length : Int) := (by omega); have HIN := Aside0.mk hin; obtain ⟨ad2, A3, c3, e0, hc3, hC3, hx3⟩ := fun_cells HC.out j hin; cases e0; obtain ⟨f, hfj⟩ : ∃ f, rd_T39 L (j : Int) = f := ⟨_, rfl⟩; rw [hfj] at hc3 hC3 hx3; have HFJ := Aside0.mk hfj; have HX := Aside0.mk hx3; have HC3 := Aside0.mk hC3; have hx := HX.out _ HL.out.below; clear hfj hx3 hC3 hin
          go_upto_region 13 with (first | ((with_reducible refine gate_dst (N := 6) rfl ?_); (try (refine gate_guard (by rfl) ?_; dsimp only)); refine box_locs (by repeat (first | exact HL.out | refine Locs.drew ?_ | refine Locs.drewN ?_ _)) ?hg (N := 6) ?hd (cs := #[.int .i64 0, .int .i64 0, .int .i64 0, .slice none 0 0]) (t := 39) ?hr ?_; (case hd => rfl); (case hg => rfl); (case hr => first | (go_simp; done) | (go_simp; rfl)); intro g4 wb27 HLn HKb; clear HL; have HL := HLn; clear HLn HKb; (try clear hf); have hf := HL.out.facts; simp only [factsOf, List.cons_append, List.nil_append] at hf; skip))
          generalize hwt : World.setCell _ _ _ = w4
          have HLn : Aside0 (Locs w w4 ((g4, #[.int .i64 f.f0, .int .i64 f.f1, .int .i64 f.f2, .slice A3 f.f3.length c3], 39) :: [(g2, #[.int .i64 0, .int .i64 0, .int .i64 0], 90), (g1, #[.slice (some ad) L.length c], 24)])) := ⟨by rw [← hwt]; exact ((((HL.out.set 0 rfl 0 _).set 0 rfl 1 _).set 0 rfl 2 _).set 0 rfl 3 _)⟩
          clear HL hwt hx; have HL := HLn; clear HLn; (try clear hf); have hf := HL.out.facts; simp only [factsOf, List.cons_append, List.nil_append] at hf; skip
          have hwc : wrap64 ((j : Int) + 1) = ((j + 1 : Nat) : Int) := by have := HIN.out; have := HN.out; unfold wrap64; omega
          have HREL : Aside0 (∀ P : S39 → Bool, (∀ x ∈ L.take j, P x = true) → P f = true → ∀ x ∈ L.take (j + 1), P x = true) := ⟨fun P h1 h2 x hx => by
            rw [List.take_add_one, List.getElem?_eq_getElem HIN.out] at hx
            rcases List.mem_append.1 hx with hx | hx
            · exact h1 x hx
            · have hx2 : x = L[j]'HIN.out := by simpa using hx
              have h3 := HFJ.out
              unfold rd_T39 at h3
              rw [List.getD_eq_getElem?_getD, Int.toNat_natCast, List.getElem?_eq_getElem HIN.out] at h3
              rw [hx2, show L[j]'HIN.out = f from h3]
              exact h2⟩
          have HMEM : Aside0 (f ∈ L) := ⟨by
            have h3 := HFJ.out
            unfold rd_T39 at h3
            rw [List.getD_eq_getElem?_getD, Int.toNat_natCast, List.getElem?_eq_getElem HIN.out] at h3
            rw [← show L[j]'HIN.out = f from h3]
            exact List.getElem_mem HIN.out⟩
          have HSF : Aside0 (1 ≤ f.f1 ∧ f.f1 ≤ 16 ∧ 1 ≤ f.f3.length ∧ f.f3.length ≤ 512) := ⟨by have h := HSS.out f HMEM.out; unfold shapeOK at h; simp only [fnS, List.length_map] at h; omega⟩
          obtain ⟨b, hb⟩ : ∃ b, codeB L f = b := ⟨_, rfl⟩
          have HV := Aside0.mk hb
          clear hb
          cases b
          · go_wp2_with (first | (go_at_call 50; have hcall := instructions_calls (j : Int) f L A3 c3 ad c _ (Kd.C_below HC3.out HL.out.below) hc3 (Kd.C_below HC.out HL.out.below) hc (by have := HN.out; omega) (HT.out.below HL.out.below) ⟨HSF.out.1, HSF.out.2.1⟩ HP8.out HSF.out.2.2.1 HSF.out.2.2.2; with_reducible refine hcall.mono ?_; clear hcall; rintro e_ wc31 hE_; unfold EndsB at hE_; obtain ⟨he_, hb_⟩ := hE_; rw [HV.out, if_neg (by decide)] at he_; obtain ⟨x, a, b, hx, rfl⟩ := he_; have HLn := Aside0.mk (Locs.step (by repeat (first | exact HL.out | refine Locs.drew ?_ | refine Locs.drewN ?_ _)) hb_); clear HL hb_; have HL := HLn; clear HLn; (try clear hf); have hf := HL.out.facts; simp only [factsOf, List.cons_append, List.nil_append] at hf; skip))
            refine leave_panic rfl (HL.out.sub (List.sublist_cons_self _ _)) hx ?_
            unfold checkB
            rw [Bool.and_eq_false_iff]
            refine Or.inr ?_
            rw [Bool.and_eq_false_iff]
            refine Or.inr ?_
            rw [Bool.and_eq_false_iff]
            refine Or.inl ?_
            rw [List.all_eq_false]
            exact ⟨f, HMEM.out, by rw [HV.out]; decide⟩
          · go_wp2_with (first | (go_at_call 50; have hcall := instructions_calls (j : Int) f L A3 c3 ad c _ (Kd.C_below HC3.out HL.out.below) hc3 (Kd.C_below HC.out HL.out.below) hc (by have := HN.out; omega) (HT.out.below HL.out.below) ⟨HSF.out.1, HSF.out.2.1⟩ HP8.out HSF.out.2.2.1 HSF.out.2.2.2; with_reducible refine hcall.mono ?_; clear hcall; rintro e_ wc32 hE_; unfold EndsB at hE_; obtain ⟨he_, hb_⟩ := hE_; rw [HV.out, if_pos rfl] at he_; subst he_; have HLn := Aside0.mk (Locs.step (by repeat (first | exact HL.out | refine Locs.drew ?_ | refine Locs.drewN ?_ _)) hb_); clear HL hb_; have HL := HLn; clear HLn; (try clear hf); have hf := HL.out.facts; simp only [factsOf, List.cons_append, List.nil_append] at hf; skip))
            go_roundg (L.length - (j + 1) + 1)
            case measure => have := HJ.out; have := HIN.out; omega
            case rel => exact ⟨j + 1, (by first | rw [hwc] | simp), ⟨by omega, HIN.out, HREL.out _ HJ.out.2.2 HV.out⟩, ⟨HL.out.sub (List.sublist_cons_self _ _)⟩⟩
        · have HCO : Aside0 (∀ x ∈ L, codeB L x = true) := ⟨fun x hx => by
            have h1 := HJ.out.2.2
            rw [List.take_of_length_le (by omega)] at h1
            exact h1 x hx⟩
          have hlt : ¬ ((j : Int) < (L.length : Int)) := by omega
          clear hin
          go_wp2_with (first | fail)
          clear hf
          go_loopg [52] (L.length + 1) (fun kq v52 w' => ∃ (j : Nat), v52 = .int .i64 (j : Int) ∧ Aside0 (L.length - j < kq ∧ j ≤ L.length ∧ ∀ x ∈ L.take j, slotsF x = true) ∧ Aside0 (Locs w w' [(g2, #[.int .i64 0, .int .i64 0, .int .i64 0], 90), (g1, #[.slice (some ad) L.length c], 24)]))
          case atStart => exact ⟨0, rfl, ⟨by omega, by omega, by intro x hx; simp at hx⟩, HL⟩
          case round =>
            clear HL
            obtain ⟨j, rfl, HJ, HL⟩ := hrel
            (try clear hf); have hf := HL.out.facts; simp only [factsOf, List.cons_append, List.nil_append] at hf; skip
            by_cases hin : j < L.length
            · have hin2 : (j : Int) < (L.length : Int) := (by omega); have HIN := Aside0.mk hin; obtain ⟨ad2, A3, c3, e0, hc3, hC3, hx3⟩ := fun_cells HC.out j hin; cases e0; obtain ⟨f, hfj⟩ : ∃ f, rd_T39 L (j : Int) = f := ⟨_, rfl⟩; rw [hfj] at hc3 hC3 hx3; have HFJ := Aside0.mk hfj; have HX := Aside0.mk hx3; have HC3 := Aside0.mk hC3; have hx := HX.out _ HL.out.below; clear hfj hx3 hC3 hin
              go_upto_region 18 with (first | ((with_reducible refine gate_dst (N := 8) rfl ?_); (try (refine gate_guard (by rfl) ?_; dsimp only)); refine box_locs (by repeat (first | exact HL.out | refine Locs.drew ?_ | refine Locs.drewN ?_ _)) ?hg (N := 8) ?hd (cs := #[.int .i64 0, .int .i64 0, .int .i64 0, .slice none 0 0]) (t := 39) ?hr ?_; (case hd => rfl); (case hg => rfl); (case hr => first | (go_simp; done) | (go_simp; rfl)); intro g4 wb36 HLn HKb; clear HL; have HL := HLn; clear HLn HKb; (try clear hf); have hf := HL.out.facts; simp only [factsOf, List.cons_append, List.nil_append] at hf; skip))
              generalize hwt : World.setCell _ _ _ = w4
              have HLn : Aside0 (Locs w w4 ((g4, #[.int .i64 f.f0, .int .i64 f.f1, .int .i64 f.f2, .slice A3 f.f3.length c3], 39) :: [(g2, #[.int .i64 0, .int .i64 0, .int .i64 0], 90), (g1, #[.slice (some ad) L.length c], 24)])) := ⟨by rw [← hwt]; exact ((((HL.out.set 0 rfl 0 _).set 0 rfl 1 _).set 0 rfl 2 _).set 0 rfl 3 _)⟩
              clear HL hwt hx; have HL := HLn; clear HLn; (try clear hf); have hf := HL.out.facts; simp only [factsOf, List.cons_append, List.nil_append] at hf; skip
              have hwc : wrap64 ((j : Int) + 1) = ((j + 1 : Nat) : Int) := by have := HIN.out; have := HN.out; unfold wrap64; omega
              have HREL : Aside0 (∀ P : S39 → Bool, (∀ x ∈ L.take j, P x = true) → P f = true → ∀ x ∈ L.take (j + 1), P x = true) := ⟨fun P h1 h2 x hx => by
                rw [List.take_add_one, List.getElem?_eq_getElem HIN.out] at hx
                rcases List.mem_append.1 hx with hx | hx
                · exact h1 x hx
                · have hx2 : x = L[j]'HIN.out := by simpa using hx
                  have h3 := HFJ.out
                  unfold rd_T39 at h3
                  rw [List.getD_eq_getElem?_getD, Int.toNat_natCast, List.getElem?_eq_getElem HIN.out] at h3
                  rw [hx2, show L[j]'HIN.out = f from h3]
                  exact h2⟩
              have HMEM : Aside0 (f ∈ L) := ⟨by
                have h3 := HFJ.out
                unfold rd_T39 at h3
                rw [List.getD_eq_getElem?_getD, Int.toNat_natCast, List.getElem?_eq_getElem HIN.out] at h3
                rw [← show L[j]'HIN.out = f from h3]
                exact List.getElem_mem HIN.out⟩
              have HSF : Aside0 (0 ≤ f.f2 ∧ f.f2 ≤ 8 ∧ f.f3.length ≤ 512) := ⟨by have h := HSS.out f HMEM.out; unfold shapeOK at h; simp only [fnS, List.length_map] at h; omega⟩
              have HIO : Aside0 (∀ i ∈ f.f3, insOK (L.map fnS) (fnS f) (insS i)) := ⟨fun i hi => (insB_ok i f L).1 (by
                have h := HCO.out f HMEM.out
                unfold codeB at h
                rw [Bool.and_eq_true, List.all_eq_true] at h
                exact h.1 i hi)⟩
              have HPL : Aside0 (placed (f.f3.map insS)) := ⟨placed_of (P := L.map fnS) (f := fnS f) (HSS.out f HMEM.out) (fun i hi => by
                obtain ⟨x, hx, rfl⟩ := List.mem_map.1 (show i ∈ f.f3.map insS from hi)
                exact HIO.out x hx)⟩
              obtain ⟨b, hb⟩ : ∃ b, slotsF f = b := ⟨_, rfl⟩
              have HV := Aside0.mk hb
              obtain ⟨f0, f1, f2, code⟩ := f
              simp only at HSF HIO HPL HC3 HX HL hc3 hf
              obtain ⟨m, rfl⟩ : ∃ m : Nat, f2 = (m : Int) := ⟨f2.toNat, by have := HSF.out; omega⟩
              have HVV : Aside0 (slotsB (code.map insS) m = b) := ⟨by rw [← hb]; rfl⟩
              have HKK : Aside0 ((∀ i ∈ code, 0 ≤ i.f0 ∧ i.f0 < 10) ∧ ∀ i ∈ code, (i.f0 = 5 → 0 ≤ i.f1 ∧ i.f1 < (m : Int)) ∧ (i.f0 = 7 → 0 ≤ i.f2 ∧ i.f2 < (m : Int))) := ⟨fun i hi => by
                have h := HIO.out i hi
                unfold insOK inR at h
                simp only [insS, fnS] at h
                omega, fun i hi => by
                have h := HIO.out i hi
                unfold insOK inR at h
                simp only [insS, fnS] at h
                exact ⟨fun e => (h.2.2.2.2.2.2.2.1 e).1, fun e => (h.2.2.2.2.2.2.2.2.1 e).2⟩⟩
              clear hb
              cases b
              · go_wp2_with (first | (go_at_call 51; have hcall := slots_calls (j : Int) f0 f1 m A3 c3 code _ (Kd.C_below HC3.out HL.out.below) hc3 HSF.out.2.2 (by have := HSF.out; omega) (HT.out.below HL.out.below) HPL.out HKK.out.1 HKK.out.2; with_reducible refine hcall.mono ?_; clear hcall; rintro e_ wc40 hE_; unfold EndsB at hE_; obtain ⟨he_, hb_⟩ := hE_; rw [HVV.out, if_neg (by decide)] at he_; obtain ⟨x, a, b, hx, rfl⟩ := he_; have HLn := Aside0.mk (Locs.step (by repeat (first | exact HL.out | refine Locs.drew ?_ | refine Locs.drewN ?_ _)) hb_); clear HL hb_; have HL := HLn; clear HLn; (try clear hf); have hf := HL.out.facts; simp only [factsOf, List.cons_append, List.nil_append] at hf; skip))
                refine leave_panic rfl (HL.out.sub (List.sublist_cons_self _ _)) hx ?_
                unfold checkB
                rw [Bool.and_eq_false_iff]
                refine Or.inr ?_
                rw [Bool.and_eq_false_iff]
                refine Or.inr ?_
                rw [Bool.and_eq_false_iff]
                refine Or.inr ?_
                rw [List.all_eq_false]
                exact ⟨_, HMEM.out, by rw [HV.out]; decide⟩
              · go_wp2_with (first | (go_at_call 51; have hcall := slots_calls (j : Int) f0 f1 m A3 c3 code _ (Kd.C_below HC3.out HL.out.below) hc3 HSF.out.2.2 (by have := HSF.out; omega) (HT.out.below HL.out.below) HPL.out HKK.out.1 HKK.out.2; with_reducible refine hcall.mono ?_; clear hcall; rintro e_ wc41 hE_; unfold EndsB at hE_; obtain ⟨he_, hb_⟩ := hE_; rw [HVV.out, if_pos rfl] at he_; subst he_; have HLn := Aside0.mk (Locs.step (by repeat (first | exact HL.out | refine Locs.drew ?_ | refine Locs.drewN ?_ _)) hb_); clear HL hb_; have HL := HLn; clear HLn; (try clear hf); have hf := HL.out.facts; simp only [factsOf, List.cons_append, List.nil_append] at hf; skip))
                go_roundg (L.length - (j + 1) + 1)
                case measure => have := HJ.out; have := HIN.out; omega
                case rel => exact ⟨j + 1, (by first | rw [hwc] | simp), ⟨by omega, HIN.out, HREL.out _ HJ.out.2.2 HV.out⟩, ⟨HL.out.sub (List.sublist_cons_self _ _)⟩⟩
            · have HSL : Aside0 (∀ x ∈ L, slotsF x = true) := ⟨fun x hx => by
                have h1 := HJ.out.2.2
                rw [List.take_of_length_le (by omega)] at h1
                exact h1 x hx⟩
              have hlt : ¬ ((j : Int) < (L.length : Int)) := by omega
              clear hin
              go_wp2_with (first | fail)
              generalize hwt : World.setCell _ _ _ = w5
              have HLn : Aside0 (Locs w w5 [(g2, #[.int .i64 0, .int .i64 0, .int .i64 0], 90), (g1, #[.slice (some ad) L.length c], 24)]) := ⟨by rw [← hwt]; exact ((HL.out.set 0 rfl 0 _).set 0 rfl 1 _).set 0 rfl 2 _⟩
              refine leave_ret rfl HLn.out ⟨fun _ => ?_, fun _ => rfl⟩
              unfold checkB
              rw [decide_eq_true (by have := HN.out; omega), List.all_eq_true.2 HSH.out, List.all_eq_true.2 HCO.out, List.all_eq_true.2 HSL.out]
              rfl
end Go.Proofs.YtcioegimmjppcaaDoor.P
/-! Plain law: what prog.Check looks at is what a program that may be is. -/
namespace Go.Proofs.YtcioegimmjppcaaDoor.P
open Go.RowKit Go.Proofs.YtcioegimmjppcaaDoorW.PrintWords Go.Proofs.YtcioegimmjppcaaDoorW.PrintLast Go.Proofs.YtcioegimmjppcaaDoorW.PrintMore
set_option linter.unusedVariables false

theorem found_reach {code : List Ins} (hp : placed code) (s : Nat) (x : Int × Int) : x ∈ foundS code s ↔ Reach code (s : Int) x := srch_reach hp (s : Int) (Nat.le_refl _) x

theorem slotsB_iff {P : List Fn} {f : Fn} (hs : shapeOK f) (hi : ∀ i ∈ f.code, insOK P f i) (m : Nat) (hm : f.slots = (m : Int)) : slotsB f.code m = true ↔ flowOK f := by
  have hp := placed_of hs hi
  have hmem : ∀ j : Nat, j < f.code.length → f.code.getD j default ∈ f.code := fun j hj => by
    rw [List.getD_eq_getElem?_getD, List.getElem?_eq_getElem hj]; exact List.getElem_mem hj
  unfold slotsB
  rw [List.all_eq_true]
  constructor
  · intro h slot hsl x hx
    obtain ⟨s, rfl⟩ : ∃ s : Nat, slot = (s : Int) := ⟨slot.toNat, by have := hsl.1; omega⟩
    have hb := reach_box hp hx
    obtain ⟨xa, st⟩ := x
    obtain ⟨j, rfl⟩ : ∃ j : Nat, xa = (j : Int) := ⟨xa.toNat, by have := hb.1; simp only at this; omega⟩
    have hj : j < f.code.length := by have := hb.2.1; simp only at this; omega
    have hst := hb.2.2
    simp only at hst
    have h1 := h j (List.mem_range.2 hj)
    have hbad : badAt f.code m j = false := by cases hq : badAt f.code m j with | false => rfl | true => rw [hq] at h1; cases h1
    have hsm : s < m := by have := hsl.2; omega
    unfold badAt at hbad
    unfold flowAt
    simp only [Int.toNat_natCast]
    refine ⟨fun h5 ha e => ?_, fun h7 hb' => ?_, fun h9 e => ?_⟩
    · rw [if_pos h5, ha, Int.toNat_natCast] at hbad
      exact of_decide_eq_false hbad ((found_reach hp s _).2 (by rw [← e]; exact hx))
    · rw [if_neg (by omega), if_pos h7, hb', Int.toNat_natCast] at hbad
      have h2 := of_decide_eq_false hbad
      rcases hst with e | e | e
      · exact absurd (Or.inl ((found_reach hp s _).2 (by rw [← e]; exact hx))) h2
      · exact absurd (Or.inr ((found_reach hp s _).2 (by rw [← e]; exact hx))) h2
      · exact e
    · rw [if_neg (by omega), if_neg (by omega), if_pos h9] at hbad
      have h2 := (List.any_eq_false.1 hbad) s (List.mem_range.2 hsm)
      exact h2 (decide_eq_true ((found_reach hp s _).2 (by rw [← e]; exact hx)))
  · intro h j hj
    have hjl := List.mem_range.1 hj
    have hok := hi _ (hmem j hjl)
    have hfl : ∀ (s : Nat) (st : Int), s < m → ((j : Int), st) ∈ foundS f.code s → flowAt (f.code.getD j default) (s : Int) st := fun s st hsm hm2 => by
      have h1 := h (s : Int) ⟨by omega, by omega⟩ ((j : Int), st) ((found_reach hp s _).1 hm2)
      simpa using h1
    have hF : badAt f.code m j = false := by
      unfold badAt
      unfold insOK inR at hok
      by_cases h5 : (f.code.getD j default).kind = 5
      · rw [if_pos h5]
        have ha := (hok.2.2.2.2.2.2.2.1 h5).1
        refine decide_eq_false fun hm2 => ?_
        have h1 := hfl _ 2 (by omega) hm2
        exact h1.1 h5 (by omega) rfl
      · rw [if_neg h5]
        by_cases h7 : (f.code.getD j default).kind = 7
        · rw [if_pos h7]
          have hb := (hok.2.2.2.2.2.2.2.2.1 h7).2
          refine decide_eq_false fun hm2 => ?_
          rcases hm2 with hm2 | hm2
          · have h1 := (hfl _ 1 (by omega) hm2).2.1 h7 (by omega)
            exact absurd h1 (by decide)
          · have h1 := (hfl _ 2 (by omega) hm2).2.1 h7 (by omega)
            exact absurd h1 (by decide)
        · rw [if_neg h7]
          by_cases h9 : (f.code.getD j default).kind = 9
          · rw [if_pos h9]
            refine List.any_eq_false.2 fun s hs2 => ?_
            intro hm2
            exact (hfl s 2 (List.mem_range.1 hs2) (of_decide_eq_true hm2)).2.2 h9 rfl
          · rw [if_neg h9]
    rw [hF]
    rfl

theorem lastB_iff (f : S39) (h1 : 1 ≤ f.f3.length) : lastB f = true ↔ lastOK (fnS f) := by
  have hat := insS_at f.f3 (f.f3.length - 1 : Int) (by omega) (by omega)
  have e : ((f.f3.length : Int) - 1).toNat = f.f3.length - 1 := by omega
  rw [e] at hat
  unfold lastB lastOK
  rw [decide_eq_true_iff]
  show _ ↔ ((f.f3.map insS).getD ((f.f3.map insS).length - 1) default).kind = 3 ∨ ((f.f3.map insS).getD ((f.f3.map insS).length - 1) default).kind = 9
  rw [List.length_map, hat]
  rfl

theorem checkB_iff (L : List S39) : checkB L = true ↔ Valid (L.map fnS) := by
  unfold checkB
  rw [Bool.and_eq_true, Bool.and_eq_true, Bool.and_eq_true, List.all_eq_true, List.all_eq_true, List.all_eq_true, decide_eq_true_iff]
  have hcode : ∀ f ∈ L, shapeOK (fnS f) → (codeB L f = true ↔ (∀ i ∈ (fnS f).code, insOK (L.map fnS) (fnS f) i) ∧ lastOK (fnS f)) := fun f hf hsh => by
    have hl : 1 ≤ f.f3.length := by unfold shapeOK at hsh; simp only [fnS, List.length_map] at hsh; omega
    unfold codeB
    rw [Bool.and_eq_true, List.all_eq_true, lastB_iff f hl]
    constructor
    · rintro ⟨h1, h2⟩
      refine ⟨fun i hi => ?_, h2⟩
      obtain ⟨x, hx, rfl⟩ := List.mem_map.1 (show i ∈ f.f3.map insS from hi)
      exact (insB_ok x f L).1 (h1 x hx)
    · rintro ⟨h1, h2⟩
      exact ⟨fun x hx => (insB_ok x f L).2 (h1 (insS x) (List.mem_map.2 ⟨x, hx, rfl⟩)), h2⟩
  have hslot : ∀ f, shapeOK (fnS f) → (fnS f).slots = ((f.f2.toNat : Nat) : Int) := fun f hsh => by
    unfold shapeOK at hsh
    show f.f2 = _
    have : (fnS f).slots = f.f2 := rfl
    omega
  constructor
  · rintro ⟨h1, h2, h3, h4⟩
    refine ⟨by rw [List.length_map]; exact h1.1, by rw [List.length_map]; exact h1.2, fun g hg => ?_⟩
    obtain ⟨f, hf, rfl⟩ := List.mem_map.1 hg
    have hsh : shapeOK (fnS f) := of_decide_eq_true (h2 f hf)
    have hc := (hcode f hf hsh).1 (h3 f hf)
    exact ⟨hsh, hc.1, hc.2, (slotsB_iff hsh hc.1 _ (hslot f hsh)).1 (h4 f hf)⟩
  · intro h
    have hff : ∀ f ∈ L, FnOK (L.map fnS) (fnS f) := fun f hf => h.each _ (List.mem_map.2 ⟨f, hf, rfl⟩)
    refine ⟨⟨by have := h.some; rwa [List.length_map] at this, by have := h.few; rwa [List.length_map] at this⟩, fun f hf => decide_eq_true (hff f hf).shape, fun f hf => (hcode f hf (hff f hf).shape).2 ⟨(hff f hf).ins, (hff f hf).last⟩, fun f hf => ?_⟩
    exact (slotsB_iff (hff f hf).shape (hff f hf).ins _ (hslot f (hff f hf).shape)).2 (hff f hf).flow

theorem checkB_valid (L : List S39) : checkB L = validB (L.map fnS) := by
  have h := (checkB_iff L).trans (validB_iff (L.map fnS)).symm
  cases h1 : checkB L with
  | true => exact (h.1 h1).symm
  | false =>
    cases h2 : validB (L.map fnS) with
    | false => rfl
    | true => rw [h.2 h2] at h1; cases h1
end Go.Proofs.YtcioegimmjppcaaDoor.P
