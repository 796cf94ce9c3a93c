/- Written by a program: plain Lean functions that answer as Go functions of this seat do, and the proofs that the calls come to these answers. -/
import Derived.Test.YtbahnialbffkeaaGPx0
import Derived.Test.YtbahnialbffkeaaGPx11
import Derived.Test.YtbahnialbffkeaaGPx18
import Derived.Test.YtbahnialbffkeaaGPx23
import Derived.Test.YtbahnialbffkeaaGPx24
import Derived.Test.YtbahnialbffkeaaGGreedy
import Derived.Test.YtbahnialbffkeaaGJudge
namespace Go.Proofs.Ytbahnialbffkeaa.P
open Go.RowKit Go.Proofs.YtbahnialbffkeaaW.PrintWords Go.Proofs.YtbahnialbffkeaaW.PrintLast Go.Proofs.YtbahnialbffkeaaW.PrintMore
attribute [local go_sem] max2_int min2_int max_two min_two max_three min_three max_four min_four   -- for this text's walks alone
set_option linter.unusedVariables false
set_option linter.unusedSimpArgs false

def plunderlaw7_DagGraham.j0 : Nat → Int → List Int → Int → Bool → Int → List (S50) → Option (Bool)
  | 0, _, _, _, _, _, _ => none
  | k + 1, x8, x9, x13, x61, x510000, x510001 => if x61 = true then (some false) else ((plunderlaw7_length.f k x9).bind fun t519 => (if x8 = 0 then (none) else ((plunderlaw7_bounds.f x510000 x13 x8 t519).bind fun t520 => (if t520 = true then (some (decide (t519 ≤ (wrap64 (2 * (mx x13 (wrap64 (Int.tdiv (wrap64 ((wrap64 (x510000 + x8)) - 1)) x8)))))))) else (some false)))))
def plunderlaw7_DagGraham.f (k : Nat) (a0 : Int) (l1 : List (S50)) (a2 : Int) : Option (Bool) := (plunderlaw7_fit.f k a0 l1).bind fun bt505 => ((plunderlaw7_mod.f a2 64).bind fun t510 => ((dag_Greedy.f k bt505.1 bt505.2 (wrap64 (1 + t510))).bind fun bt511 => ((dag_Judge.f k bt505.1 bt505.2 (wrap64 (1 + t510)) bt511.1).bind fun bt515 => ((dag_Span.f k bt505.1 bt505.2).bind fun bt517 => (if bt511.2 = 0 then (if bt515.2 = 0 then (if bt517.2 = 0 then (if bt515.1 = 2 then (plunderlaw7_DagGraham.j0 k (wrap64 (1 + t510)) bt511.1 bt517.1 ((bt511.1.length : Int) != bt505.1) bt505.1 bt505.2) else (plunderlaw7_DagGraham.j0 k (wrap64 (1 + t510)) bt511.1 bt517.1 true bt505.1 bt505.2)) else (plunderlaw7_DagGraham.j0 k (wrap64 (1 + t510)) bt511.1 bt517.1 true bt505.1 bt505.2)) else (plunderlaw7_DagGraham.j0 k (wrap64 (1 + t510)) bt511.1 bt517.1 true bt505.1 bt505.2)) else (plunderlaw7_DagGraham.j0 k (wrap64 (1 + t510)) bt511.1 bt517.1 true bt505.1 bt505.2))))))
set_option maxHeartbeats 8000000 in
set_option maxRecDepth 100000 in
theorem plunderlaw7_DagGraham.calls (k : Nat) (a0 : Int) (A1 : Option Addr) (c1 : Nat) (l1 : List (S50)) (a2 : Int) (r : Bool) (w : World) (hr1 : Kd.C k50 w A1 l1.length l1) (hc1 : l1.length ≤ c1) (h : plunderlaw7_DagGraham.f k a0 l1 a2 = some r) :
    Calls Try.prog 14 #[.int .i64 a0, .slice A1 l1.length c1, .int .i64 a2] w fun e w' => e = .returned (.bool r) ∧ Below w.heap.size w w' := by
  have hu26 := Try.underlying26
  have HR1 := Aside0.mk hr1
  have HC1 := Aside0.mk hc1
  clear hr1 hc1
  have HB := Aside0.mk (Below.refl w.heap.size w)
  have H : ((plunderlaw7_fit.f k a0 l1).bind fun bt505 => ((plunderlaw7_mod.f a2 64).bind fun t510 => ((dag_Greedy.f k bt505.1 bt505.2 (wrap64 (1 + t510))).bind fun bt511 => ((dag_Judge.f k bt505.1 bt505.2 (wrap64 (1 + t510)) bt511.1).bind fun bt515 => ((dag_Span.f k bt505.1 bt505.2).bind fun bt517 => (if bt511.2 = 0 then (if bt515.2 = 0 then (if bt517.2 = 0 then (if bt515.1 = 2 then (plunderlaw7_DagGraham.j0 k (wrap64 (1 + t510)) bt511.1 bt517.1 ((bt511.1.length : Int) != bt505.1) bt505.1 bt505.2) else (plunderlaw7_DagGraham.j0 k (wrap64 (1 + t510)) bt511.1 bt517.1 true bt505.1 bt505.2)) else (plunderlaw7_DagGraham.j0 k (wrap64 (1 + t510)) bt511.1 bt517.1 true bt505.1 bt505.2)) else (plunderlaw7_DagGraham.j0 k (wrap64 (1 + t510)) bt511.1 bt517.1 true bt505.1 bt505.2)) else (plunderlaw7_DagGraham.j0 k (wrap64 (1 + t510)) bt511.1 bt517.1 true bt505.1 bt505.2))))))) = some r := h
  clear h
  replace H := Option.bind_eq_some_iff.mp H
  obtain ⟨⟨t505, t506⟩, A40, H⟩ := H
  replace H : ((plunderlaw7_mod.f a2 64).bind fun t510 => ((dag_Greedy.f k t505 t506 (wrap64 (1 + t510))).bind fun bt511 => ((dag_Judge.f k t505 t506 (wrap64 (1 + t510)) bt511.1).bind fun bt515 => ((dag_Span.f k t505 t506).bind fun bt517 => (if bt511.2 = 0 then (if bt515.2 = 0 then (if bt517.2 = 0 then (if bt515.1 = 2 then (plunderlaw7_DagGraham.j0 k (wrap64 (1 + t510)) bt511.1 bt517.1 ((bt511.1.length : Int) != t505) t505 t506) else (plunderlaw7_DagGraham.j0 k (wrap64 (1 + t510)) bt511.1 bt517.1 true t505 t506)) else (plunderlaw7_DagGraham.j0 k (wrap64 (1 + t510)) bt511.1 bt517.1 true t505 t506)) else (plunderlaw7_DagGraham.j0 k (wrap64 (1 + t510)) bt511.1 bt517.1 true t505 t506)) else (plunderlaw7_DagGraham.j0 k (wrap64 (1 + t510)) bt511.1 bt517.1 true t505 t506)))))) = some r := H
  have A4 := Aside0.mk A40
  clear A40
  replace H := Option.bind_eq_some_iff.mp H
  obtain ⟨t510, A50, H⟩ := H
  replace H : ((dag_Greedy.f k t505 t506 (wrap64 (1 + t510))).bind fun bt511 => ((dag_Judge.f k t505 t506 (wrap64 (1 + t510)) bt511.1).bind fun bt515 => ((dag_Span.f k t505 t506).bind fun bt517 => (if bt511.2 = 0 then (if bt515.2 = 0 then (if bt517.2 = 0 then (if bt515.1 = 2 then (plunderlaw7_DagGraham.j0 k (wrap64 (1 + t510)) bt511.1 bt517.1 ((bt511.1.length : Int) != t505) t505 t506) else (plunderlaw7_DagGraham.j0 k (wrap64 (1 + t510)) bt511.1 bt517.1 true t505 t506)) else (plunderlaw7_DagGraham.j0 k (wrap64 (1 + t510)) bt511.1 bt517.1 true t505 t506)) else (plunderlaw7_DagGraham.j0 k (wrap64 (1 + t510)) bt511.1 bt517.1 true t505 t506)) else (plunderlaw7_DagGraham.j0 k (wrap64 (1 + t510)) bt511.1 bt517.1 true t505 t506))))) = some r := H
  have A5 := Aside0.mk A50
  clear A50
  replace H := Option.bind_eq_some_iff.mp H
  obtain ⟨⟨t511, t514⟩, A60, H⟩ := H
  replace H : ((dag_Judge.f k t505 t506 (wrap64 (1 + t510)) t511).bind fun bt515 => ((dag_Span.f k t505 t506).bind fun bt517 => (if t514 = 0 then (if bt515.2 = 0 then (if bt517.2 = 0 then (if bt515.1 = 2 then (plunderlaw7_DagGraham.j0 k (wrap64 (1 + t510)) t511 bt517.1 ((t511.length : Int) != t505) t505 t506) else (plunderlaw7_DagGraham.j0 k (wrap64 (1 + t510)) t511 bt517.1 true t505 t506)) else (plunderlaw7_DagGraham.j0 k (wrap64 (1 + t510)) t511 bt517.1 true t505 t506)) else (plunderlaw7_DagGraham.j0 k (wrap64 (1 + t510)) t511 bt517.1 true t505 t506)) else (plunderlaw7_DagGraham.j0 k (wrap64 (1 + t510)) t511 bt517.1 true t505 t506)))) = some r := H
  have A6 := Aside0.mk A60
  clear A60
  replace H := Option.bind_eq_some_iff.mp H
  obtain ⟨⟨t515, t516⟩, A70, H⟩ := H
  replace H : ((dag_Span.f k t505 t506).bind fun bt517 => (if t514 = 0 then (if t516 = 0 then (if bt517.2 = 0 then (if t515 = 2 then (plunderlaw7_DagGraham.j0 k (wrap64 (1 + t510)) t511 bt517.1 ((t511.length : Int) != t505) t505 t506) else (plunderlaw7_DagGraham.j0 k (wrap64 (1 + t510)) t511 bt517.1 true t505 t506)) else (plunderlaw7_DagGraham.j0 k (wrap64 (1 + t510)) t511 bt517.1 true t505 t506)) else (plunderlaw7_DagGraham.j0 k (wrap64 (1 + t510)) t511 bt517.1 true t505 t506)) else (plunderlaw7_DagGraham.j0 k (wrap64 (1 + t510)) t511 bt517.1 true t505 t506))) = some r := H
  have A7 := Aside0.mk A70
  clear A70
  replace H := Option.bind_eq_some_iff.mp H
  obtain ⟨⟨t517, t518⟩, A80, H⟩ := H
  replace H : (if t514 = 0 then (if t516 = 0 then (if t518 = 0 then (if t515 = 2 then (plunderlaw7_DagGraham.j0 k (wrap64 (1 + t510)) t511 t517 ((t511.length : Int) != t505) t505 t506) else (plunderlaw7_DagGraham.j0 k (wrap64 (1 + t510)) t511 t517 true t505 t506)) else (plunderlaw7_DagGraham.j0 k (wrap64 (1 + t510)) t511 t517 true t505 t506)) else (plunderlaw7_DagGraham.j0 k (wrap64 (1 + t510)) t511 t517 true t505 t506)) else (plunderlaw7_DagGraham.j0 k (wrap64 (1 + t510)) t511 t517 true t505 t506)) = some r := H
  have A8 := Aside0.mk A80
  clear A80
  have HC9 := Aside0.mk H
  clear H
  go_enter Try.func14, Try.ntmps14
  go_upto_region 6 with (first | ((with_reducible refine gate_callee (f := 33) rfl ?_); refine goesL_ (some 19) rfl rfl Try.func33 (by kernel_rfl) rfl #[.int .i64 a0, .slice A1 l1.length c1] rfl (by (try simp only [List.map_toArray, List.map_cons, List.map_nil]); first | done | rfl | (simp only [List.length_drop, List.length_take]; rfl)) ?_; (with_reducible refine (plunderlaw7_fit.calls k a0 _ _ l1 t505 t506 _ ?side1 ?side2 A4.out).mono ?_); (case side1 => repeat (first | exact HR1.out | (with_reducible refine Kd.C_alloc ?_ _) | (with_reducible refine Kd.C_drewN ?_ _) | (with_reducible refine Kd.C_drew ?_))); (case side2 => exact HC1.out); rintro e w10 ⟨v507, rfl, ho0, hb⟩; refine ⟨_, rfl, ?_⟩; have n0_ := Aside0.mk (Kd.R_lower ho0 (below_size (by repeat (first | (with_reducible first | exact HB.out | apply below_alloc | apply pw_below_drewN | apply below_drew1) | exact HB.out)))); have n1_ := Aside0.mk (below_step (by repeat (first | (with_reducible first | exact HB.out | apply below_alloc | apply pw_below_drewN | apply below_drew1) | exact HB.out)) hb); clear HB; have HO508 := n0_; have HB := n1_; clear n0_ n1_; (try clear hb); (try clear hb2); (try clear hk); (try clear hi); (try clear ho0)) | ((with_reducible refine gate_dst (N := 7) rfl ?_); (try (refine gate_guard (by rfl) ?_; dsimp only)); refine box_event ?hg (N := 7) ?hd (cs := #[.int .i64 0, .slice none 0 0]) (t := 26) ?hr ?_; (case hd => rfl); (case hg => rfl); (case hr => first | (go_simp; done) | (go_simp; rfl)); intro gb509 hg w11 hbox hb; have n0_ := Aside0.mk (Kd.R_below (by (with_reducible repeat (first | apply Kd.R_alloc | apply Kd.R_drewN | apply Kd.R_drew)); exact HO508.out) hb); have n1_ := Aside0.mk (below_step (by repeat (first | (with_reducible first | exact HB.out | apply below_alloc | apply pw_below_drewN | apply below_drew1) | exact HB.out)) hb); have n2_ := Aside0.mk (hbox); have n3_ := Aside0.mk ((by rw [hg]; exact (below_size (by repeat (first | (with_reducible first | exact HB.out | apply below_alloc | apply pw_below_drewN | apply below_drew1) | exact HB.out))) : w.heap.size ≤ gb509)); have n4_ := Aside0.mk ((by rw [hg]; exact (below_size (by repeat (first | (with_reducible first | exact HB.out | apply below_alloc | apply pw_below_drewN | apply below_drew1) | exact HB.out))) : w.heap.size ≤ gb509)); clear HO508; clear HB; have HO508 := n0_; have HB := n1_; have BK509 := n2_; have GW509 := n3_; have GE509 := n4_; clear n0_ n1_ n2_ n3_ n4_; clear hb hbox hg; have hcz12_0 : w11.cell? ⟨gb509, 0, none⟩ = some (.int .i64 0) := (blk_cell BK509.out 0).trans rfl; have hcz12_1 : w11.cell? ⟨gb509, 1, none⟩ = some (.slice none 0 0) := (blk_cell BK509.out 1).trans rfl; have hfz12_0 := blk_frozen BK509.out 0; have hfz12_1 := blk_frozen BK509.out 1; obtain ⟨Ao13, co13, eo13⟩ := Kd.R_slice HO508.out; subst eo13) | ((with_reducible refine gate_callee (f := 34) rfl ?_); refine goesL_ (some 21) rfl rfl Try.func34 (by kernel_rfl) rfl #[.int .i64 a2, .int .i64 64] rfl (by (try simp only [List.map_toArray, List.map_cons, List.map_nil]); first | done | rfl | (simp only [List.length_drop, List.length_take]; rfl)) ?_; (with_reducible refine (plunderlaw7_mod.calls a2 64 t510 _ A5.out).mono ?_); rintro e w' ⟨rfl, ⟨nd, rfl⟩⟩; refine ⟨_, rfl, ?_⟩) | ((with_reducible refine gate_callee (f := 31) rfl ?_); refine goesL_ (some 26) rfl rfl Try.func31 (by kernel_rfl) rfl #[.agg #[.int .i64 t505, .slice Ao13 t506.length co13], .int .i64 (wrap64 (1 + t510))] rfl (by (try simp only [List.map_toArray, List.map_cons, List.map_nil]); first | done | rfl | (simp only [List.length_drop, List.length_take]; rfl)) ?_; (with_reducible refine (dag_Greedy.calls k t505 _ _ t506 (wrap64 (1 + t510)) t511 t514 _ ?side1 ?side2 A6.out).mono ?_); (case side1 => refine (Kd.R_reads' (e := 50) (base := w.heap.size) (ok := fun k_ => True) (n := t506.length) (c := co13) ?_).2.2; exact (by (with_reducible repeat (first | apply Kd.R_alloc | apply Kd.R_drewN | apply Kd.R_drew)); exact (Kd.R_mono (Kd.R_far (p := ⟨gb509, 1, none⟩) (Kd.R_far (p := ⟨gb509, 0, none⟩) (Kd.R_types HO508.out BK509.out (by decide)) (fun _ hk => hk.2) (.int .i64 t505)) (fun _ hk => hk.2) (.slice Ao13 t506.length co13)) (fun _ h_ => h_.1)))); (case side2 => exact (Kd.R_reads' HO508.out).2.1); rintro e w14 ⟨v512, rfl, ho0, hb⟩; refine ⟨_, rfl, ?_⟩; have n0_ := Aside0.mk (Kd.R_below (by (with_reducible repeat (first | apply Kd.R_alloc | apply Kd.R_drewN | apply Kd.R_drew)); exact (Kd.R_mono (Kd.R_far (p := ⟨gb509, 1, none⟩) (Kd.R_far (p := ⟨gb509, 0, none⟩) (Kd.R_types HO508.out BK509.out (by decide)) (fun _ hk => hk.2) (.int .i64 t505)) (fun _ hk => hk.2) (.slice Ao13 t506.length co13)) (fun _ h_ => h_.1))) hb); have n1_ := Aside0.mk (Kd.R_lower ho0 (below_size (by repeat (first | (with_reducible first | exact HB.out | apply below_alloc | apply pw_below_drewN | apply below_drew1 | refine below_set ?_ GE509.out) | exact HB.out)))); have n2_ := Aside0.mk (blk_below (g := gb509) (o := .cells #[.int .i64 t505, .slice Ao13 t506.length co13] 26 (0, 0)) (by (with_reducible repeat (first | refine blk_drewN ?_ _ | refine blk_drew ?_ | refine blk_alloc ?_ _)); refine blk_put (cs := #[.int .i64 t505, .slice none 0 0]) ?_ 1 _ rfl; (with_reducible repeat (first | refine blk_drewN ?_ _ | refine blk_drew ?_ | refine blk_alloc ?_ _)); refine blk_put (cs := #[.int .i64 0, .slice none 0 0]) ?_ 0 _ rfl; (with_reducible repeat (first | refine blk_drewN ?_ _ | refine blk_drew ?_ | refine blk_alloc ?_ _)); exact BK509.out) hb); have n3_ := Aside0.mk (below_step (by repeat (first | (with_reducible first | exact HB.out | apply below_alloc | apply pw_below_drewN | apply below_drew1 | refine below_set ?_ GE509.out) | exact HB.out)) hb); clear HO508; clear BK509; clear HB; have HO508 := n0_; have HO513 := n1_; have BK509 := n2_; have HB := n3_; clear n0_ n1_ n2_ n3_; (try clear hb); (try clear hb2); (try clear hk); (try clear hi); (try clear ho0); have hcz15_0 : w14.cell? ⟨gb509, 0, none⟩ = some (.int .i64 t505) := (blk_cell BK509.out 0).trans rfl; have hcz15_1 : w14.cell? ⟨gb509, 1, none⟩ = some (.slice Ao13 t506.length co13) := (blk_cell BK509.out 1).trans rfl; have hfz15_0 := blk_frozen BK509.out 0; have hfz15_1 := blk_frozen BK509.out 1; obtain ⟨Ao16, co16, eo16⟩ := Kd.R_slice HO513.out; subst eo16) | ((with_reducible refine gate_callee (f := 35) rfl ?_); refine goesL_ (some 33) rfl rfl Try.func35 (by kernel_rfl) rfl #[.agg #[.int .i64 t505, .slice Ao13 t506.length co13], .int .i64 (wrap64 (1 + t510)), .slice Ao16 t511.length co16] rfl (by (try simp only [List.map_toArray, List.map_cons, List.map_nil]); first | done | rfl | (simp only [List.length_drop, List.length_take]; rfl)) ?_; (with_reducible refine (dag_Judge.calls k t505 _ _ t506 (wrap64 (1 + t510)) _ _ t511 t515 t516 _ ?side1 ?side2 ?side3 ?side4 A7.out).mono ?_); (case side1 => repeat (first | exact (Kd.R_reads' HO508.out).2.2 | (with_reducible refine Kd.C_alloc ?_ _) | (with_reducible refine Kd.C_drewN ?_ _) | (with_reducible refine Kd.C_drew ?_))); (case side2 => exact (Kd.R_reads' HO508.out).2.1); (case side3 => repeat (first | exact (Kd.R_reads' HO513.out).2.2 | (with_reducible refine Kd.C_alloc ?_ _) | (with_reducible refine Kd.C_drewN ?_ _) | (with_reducible refine Kd.C_drew ?_))); (case side4 => exact (Kd.R_reads' HO513.out).2.1); rintro e w17 ⟨rfl, hb⟩; refine ⟨_, rfl, ?_⟩; have n0_ := Aside0.mk (Kd.R_below (by (with_reducible repeat (first | apply Kd.R_alloc | apply Kd.R_drewN | apply Kd.R_drew)); exact HO508.out) hb); have n1_ := Aside0.mk (Kd.R_below (by (with_reducible repeat (first | apply Kd.R_alloc | apply Kd.R_drewN | apply Kd.R_drew)); exact HO513.out) hb); have n2_ := Aside0.mk (blk_below (g := gb509) (o := .cells #[.int .i64 t505, .slice Ao13 t506.length co13] 26 (0, 0)) (by (with_reducible repeat (first | refine blk_drewN ?_ _ | refine blk_drew ?_ | refine blk_alloc ?_ _)); exact BK509.out) hb); have n3_ := Aside0.mk (below_step (by repeat (first | (with_reducible first | exact HB.out | apply below_alloc | apply pw_below_drewN | apply below_drew1 | refine below_set ?_ GE509.out) | exact HB.out)) hb); clear HO508; clear HO513; clear BK509; clear HB; have HO508 := n0_; have HO513 := n1_; have BK509 := n2_; have HB := n3_; clear n0_ n1_ n2_ n3_; (try clear hb); (try clear hb2); (try clear hk); (try clear hi); have hcz18_0 : w17.cell? ⟨gb509, 0, none⟩ = some (.int .i64 t505) := (blk_cell BK509.out 0).trans rfl; have hcz18_1 : w17.cell? ⟨gb509, 1, none⟩ = some (.slice Ao13 t506.length co13) := (blk_cell BK509.out 1).trans rfl; have hfz18_0 := blk_frozen BK509.out 0; have hfz18_1 := blk_frozen BK509.out 1) | ((with_reducible refine gate_callee (f := 27) rfl ?_); refine goesL_ (some 38) rfl rfl Try.func27 (by kernel_rfl) rfl #[.agg #[.int .i64 t505, .slice Ao13 t506.length co13]] rfl (by (try simp only [List.map_toArray, List.map_cons, List.map_nil]); first | done | rfl | (simp only [List.length_drop, List.length_take]; rfl)) ?_; (with_reducible refine (dag_Span.calls k t505 _ _ t506 t517 t518 _ ?side1 ?side2 A8.out).mono ?_); (case side1 => repeat (first | exact (Kd.R_reads' HO508.out).2.2 | (with_reducible refine Kd.C_alloc ?_ _) | (with_reducible refine Kd.C_drewN ?_ _) | (with_reducible refine Kd.C_drew ?_))); (case side2 => exact (Kd.R_reads' HO508.out).2.1); rintro e w19 ⟨rfl, hb⟩; refine ⟨_, rfl, ?_⟩; have n0_ := Aside0.mk (Kd.R_below (by (with_reducible repeat (first | apply Kd.R_alloc | apply Kd.R_drewN | apply Kd.R_drew)); exact HO508.out) hb); have n1_ := Aside0.mk (Kd.R_below (by (with_reducible repeat (first | apply Kd.R_alloc | apply Kd.R_drewN | apply Kd.R_drew)); exact HO513.out) hb); have n2_ := Aside0.mk (blk_below (g := gb509) (o := .cells #[.int .i64 t505, .slice Ao13 t506.length co13] 26 (0, 0)) (by (with_reducible repeat (first | refine blk_drewN ?_ _ | refine blk_drew ?_ | refine blk_alloc ?_ _)); exact BK509.out) hb); have n3_ := Aside0.mk (below_step (by repeat (first | (with_reducible first | exact HB.out | apply below_alloc | apply pw_below_drewN | apply below_drew1 | refine below_set ?_ GE509.out) | exact HB.out)) hb); clear HO508; clear HO513; clear BK509; clear HB; have HO508 := n0_; have HO513 := n1_; have BK509 := n2_; have HB := n3_; clear n0_ n1_ n2_ n3_; (try clear hb); (try clear hb2); (try clear hk); (try clear hi)))
  (try simp only [Act.put, List.setIfInBounds_toArray, List.set_cons_zero, List.set_cons_succ])
  go_cut [61] (fun v61 wc => ∃ (kq : Nat) (x61_8 : Bool), v61 = .bool x61_8 ∧ Aside0 (plunderlaw7_DagGraham.j0 kq (wrap64 (1 + t510)) t511 t517 x61_8 t505 t506 = some r) ∧ Aside0 (kq ≤ k) ∧ Aside0 (Kd.R (Kd.int .i64) 3 wc w.heap.size (fun _ => True) (.slice Ao16 t511.length co16) t511) ∧ Aside0 (Kd.R k50 50 wc w.heap.size (fun _ => True) (.slice Ao13 t506.length co13) t506) ∧ Aside0 (wc.heap[gb509]? = some (.cells #[.int .i64 t505, (.slice Ao13 t506.length co13)] 26 (0, 0))) ∧ Aside0 (Below w.heap.size w wc))
  case first =>
    have H := HC9.out
    clear HC9
    by_cases c20 : t514 = 0
    · rw [if_pos c20] at H
      have c20b0 : (t514 == 0) = true := beq_iff_eq.mpr c20
      have c20b1 : (t514 != 0) = false := bne_eq_false_iff_eq.mpr c20
      clear c20
      (first | rw [c20b0] | (simp only [i64_w, i32_w]; rw [c20b0]) | skip)
      by_cases c21 : t516 = 0
      · rw [if_pos c21] at H
        have c21b0 : (t516 == 0) = true := beq_iff_eq.mpr c21
        have c21b1 : (t516 != 0) = false := bne_eq_false_iff_eq.mpr c21
        clear c21
        by_cases c22 : t518 = 0
        · rw [if_pos c22] at H
          have c22b0 : (t518 == 0) = true := beq_iff_eq.mpr c22
          have c22b1 : (t518 != 0) = false := bne_eq_false_iff_eq.mpr c22
          clear c22
          by_cases c23 : t515 = 2
          · rw [if_pos c23] at H
            have c23b0 : (t515 == 2) = true := beq_iff_eq.mpr c23
            have c23b1 : (t515 != 2) = false := bne_eq_false_iff_eq.mpr c23
            clear c23
            have H' := Aside0.mk H
            clear H
            have hcz24_0 : w19.cell? ⟨gb509, 0, none⟩ = some (.int .i64 t505) := (blk_cell BK509.out 0).trans rfl
            have hcz24_1 : w19.cell? ⟨gb509, 1, none⟩ = some (.slice Ao13 t506.length co13) := (blk_cell BK509.out 1).trans rfl
            have hfz24_0 := blk_frozen BK509.out 0
            have hfz24_1 := blk_frozen BK509.out 1
            go_wp2
            go_meet
            case rel => exact ⟨_, (((t511.length : Int) != t505)), (by first | rfl | (simp; done) | (simp [*]; done)), H', ⟨by first | omega | exact Nat.le_refl _⟩, ⟨by (with_reducible repeat (first | apply Kd.R_alloc | apply Kd.R_drewN | apply Kd.R_drew)); exact HO513.out⟩, ⟨by (with_reducible repeat (first | apply Kd.R_alloc | apply Kd.R_drewN | apply Kd.R_drew)); exact HO508.out⟩, ⟨by (with_reducible repeat (first | refine blk_drewN ?_ _ | refine blk_drew ?_ | refine blk_alloc ?_ _)); exact BK509.out⟩, ⟨by repeat (first | (with_reducible first | exact HB.out | apply below_alloc | apply pw_below_drewN | apply below_drew1 | refine below_set ?_ GE509.out) | exact HB.out)⟩⟩
          · rw [if_neg c23] at H
            have c23b0 : (t515 == 2) = false := beq_eq_false_iff_ne.mpr c23
            have c23b1 : (t515 != 2) = true := bne_iff_ne.mpr c23
            have H' := Aside0.mk H
            clear H
            go_wp2
            go_meet
            case rel => exact ⟨_, (true), (by first | rfl | (simp; done) | (simp [*]; done)), H', ⟨by first | omega | exact Nat.le_refl _⟩, ⟨by (with_reducible repeat (first | apply Kd.R_alloc | apply Kd.R_drewN | apply Kd.R_drew)); exact HO513.out⟩, ⟨by (with_reducible repeat (first | apply Kd.R_alloc | apply Kd.R_drewN | apply Kd.R_drew)); exact HO508.out⟩, ⟨by (with_reducible repeat (first | refine blk_drewN ?_ _ | refine blk_drew ?_ | refine blk_alloc ?_ _)); exact BK509.out⟩, ⟨by repeat (first | (with_reducible first | exact HB.out | apply below_alloc | apply pw_below_drewN | apply below_drew1 | refine below_set ?_ GE509.out) | exact HB.out)⟩⟩
        · rw [if_neg c22] at H
          have c22b0 : (t518 == 0) = false := beq_eq_false_iff_ne.mpr c22
          have c22b1 : (t518 != 0) = true := bne_iff_ne.mpr c22
          have H' := Aside0.mk H
          clear H
          go_wp2
          go_meet
          case rel => exact ⟨_, (true), (by first | rfl | (simp; done) | (simp [*]; done)), H', ⟨by first | omega | exact Nat.le_refl _⟩, ⟨by (with_reducible repeat (first | apply Kd.R_alloc | apply Kd.R_drewN | apply Kd.R_drew)); exact HO513.out⟩, ⟨by (with_reducible repeat (first | apply Kd.R_alloc | apply Kd.R_drewN | apply Kd.R_drew)); exact HO508.out⟩, ⟨by (with_reducible repeat (first | refine blk_drewN ?_ _ | refine blk_drew ?_ | refine blk_alloc ?_ _)); exact BK509.out⟩, ⟨by repeat (first | (with_reducible first | exact HB.out | apply below_alloc | apply pw_below_drewN | apply below_drew1 | refine below_set ?_ GE509.out) | exact HB.out)⟩⟩
      · rw [if_neg c21] at H
        have c21b0 : (t516 == 0) = false := beq_eq_false_iff_ne.mpr c21
        have c21b1 : (t516 != 0) = true := bne_iff_ne.mpr c21
        have H' := Aside0.mk H
        clear H
        go_wp2
        go_meet
        case rel => exact ⟨_, (true), (by first | rfl | (simp; done) | (simp [*]; done)), H', ⟨by first | omega | exact Nat.le_refl _⟩, ⟨by (with_reducible repeat (first | apply Kd.R_alloc | apply Kd.R_drewN | apply Kd.R_drew)); exact HO513.out⟩, ⟨by (with_reducible repeat (first | apply Kd.R_alloc | apply Kd.R_drewN | apply Kd.R_drew)); exact HO508.out⟩, ⟨by (with_reducible repeat (first | refine blk_drewN ?_ _ | refine blk_drew ?_ | refine blk_alloc ?_ _)); exact BK509.out⟩, ⟨by repeat (first | (with_reducible first | exact HB.out | apply below_alloc | apply pw_below_drewN | apply below_drew1 | refine below_set ?_ GE509.out) | exact HB.out)⟩⟩
    · rw [if_neg c20] at H
      have c20b0 : (t514 == 0) = false := beq_eq_false_iff_ne.mpr c20
      have c20b1 : (t514 != 0) = true := bne_iff_ne.mpr c20
      (first | rw [c20b0] | (simp only [i64_w, i32_w]; rw [c20b0]) | skip)
      have H' := Aside0.mk H
      clear H
      go_wp2
      go_meet
      case rel => exact ⟨_, (true), (by first | rfl | (simp; done) | (simp [*]; done)), H', ⟨by first | omega | exact Nat.le_refl _⟩, ⟨by (with_reducible repeat (first | apply Kd.R_alloc | apply Kd.R_drewN | apply Kd.R_drew)); exact HO513.out⟩, ⟨by (with_reducible repeat (first | apply Kd.R_alloc | apply Kd.R_drewN | apply Kd.R_drew)); exact HO508.out⟩, ⟨by (with_reducible repeat (first | refine blk_drewN ?_ _ | refine blk_drew ?_ | refine blk_alloc ?_ _)); exact BK509.out⟩, ⟨by repeat (first | (with_reducible first | exact HB.out | apply below_alloc | apply pw_below_drewN | apply below_drew1 | refine below_set ?_ GE509.out) | exact HB.out)⟩⟩
  case rest =>
    clear HC9
    try clear c1
    try clear c2
    try clear p2
    try clear c3
    try clear p6
    try clear c14
    try clear c20
    try clear c20b0
    try clear c20b1
    try clear c21
    try clear c21b0
    try clear c21b1
    try clear c22
    try clear c22b0
    try clear c22b1
    try clear c23
    try clear c23b0
    try clear c23b1
    try clear hcz12_0
    try clear hcz12_1
    try clear hcz15_0
    try clear hcz15_1
    try clear hcz18_0
    try clear hcz18_1
    try clear hcz24_0
    try clear hcz24_1
    try clear hfz12_0
    try clear hfz12_1
    try clear hfz15_0
    try clear hfz15_1
    try clear hfz18_0
    try clear hfz18_1
    try clear hfz24_0
    try clear hfz24_1
    obtain ⟨kq, x61_8, rfl, HA, HJ8, HO_9, HO_510001, BK509, HB⟩ := hcut
    cases kq with
    | zero => exact absurd HA.out (by simp [plunderlaw7_DagGraham.j0])
    | succ kj8 =>
      have H := HA.out
      clear HA
      simp only [plunderlaw7_DagGraham.j0] at H
      by_cases c25 : x61_8 = true
      · subst c25
        have H1 : (some false) = some r := by rw [if_pos rfl] at H; exact H
        clear H
        have H := H1
        clear H1
        obtain rfl := Option.some.inj H
        go_wp2
        go_ret
        exact ⟨by first | rfl | (simp [errW_none, errW_some] <;> rfl) | (simp [*, errW_none, errW_some] <;> rfl), by repeat (first | (with_reducible first | exact HB.out | apply below_alloc | apply pw_below_drewN | apply below_drew1 | refine below_set ?_ GE509.out) | exact HB.out)⟩
      · replace c25 := Bool.eq_false_iff.mpr c25
        subst c25
        have H1 : ((plunderlaw7_length.f kj8 t511).bind fun t519 => (if (wrap64 (1 + t510)) = 0 then (none) else ((plunderlaw7_bounds.f t505 t517 (wrap64 (1 + t510)) t519).bind fun t520 => (if t520 = true then (some (decide (t519 ≤ (wrap64 (2 * (mx t517 (wrap64 (Int.tdiv (wrap64 ((wrap64 (t505 + (wrap64 (1 + t510)))) - 1)) (wrap64 (1 + t510)))))))))) else (some false))))) = some r := by rw [if_neg (show ¬ (false = true) by decide)] at H; exact H
        clear H
        have H := H1
        clear H1
        replace H := Option.bind_eq_some_iff.mp H
        obtain ⟨t519, A260, H⟩ := H
        replace H : (if (wrap64 (1 + t510)) = 0 then (none) else ((plunderlaw7_bounds.f t505 t517 (wrap64 (1 + t510)) t519).bind fun t520 => (if t520 = true then (some (decide (t519 ≤ (wrap64 (2 * (mx t517 (wrap64 (Int.tdiv (wrap64 ((wrap64 (t505 + (wrap64 (1 + t510)))) - 1)) (wrap64 (1 + t510)))))))))) else (some false)))) = some r := H
        have A26 := Aside0.mk A260
        clear A260
        by_cases c27 : (wrap64 (1 + t510)) = 0
        · rw [if_pos c27] at H
          exact absurd H (by simp)
        · rw [if_neg c27] at H
          have c27b0 : ((wrap64 (1 + t510)) == 0) = false := beq_eq_false_iff_ne.mpr c27
          have c27b1 : ((wrap64 (1 + t510)) != 0) = true := bne_iff_ne.mpr c27
          obtain ⟨ji28, hji28⟩ : ∃ j_ : Int, (mx t517 (wrap64 (Int.tdiv (wrap64 ((wrap64 (t505 + (wrap64 (1 + t510)))) - 1)) (wrap64 (1 + t510))))) = j_ := ⟨_, rfl⟩
          replace H : ((plunderlaw7_bounds.f t505 t517 (wrap64 (1 + t510)) t519).bind fun t520 => (if t520 = true then (some (decide (t519 ≤ (wrap64 (2 * (ji28)))))) else (some false))) = some r := by first | (rw [hji28] at H; exact H) | (simp only [hji28] at H ⊢; exact H)
          (try rw [hji28] at A26)
          have hji28_ : (if t517 < (wrap64 (Int.tdiv (wrap64 ((wrap64 (t505 + (wrap64 (1 + t510)))) - 1)) (wrap64 (1 + t510)))) then (wrap64 (Int.tdiv (wrap64 ((wrap64 (t505 + (wrap64 (1 + t510)))) - 1)) (wrap64 (1 + t510)))) else t517) = ji28 := hji28
          replace H := Option.bind_eq_some_iff.mp H
          obtain ⟨t520, A290, H⟩ := H
          replace H : (if t520 = true then (some (decide (t519 ≤ (wrap64 (2 * (ji28)))))) else (some false)) = some r := H
          have A29 := Aside0.mk A290
          clear A290
          by_cases c30 : t520 = true
          · subst c30
            have H1 : (some (decide (t519 ≤ (wrap64 (2 * (ji28)))))) = some r := by rw [if_pos rfl] at H; exact H
            clear H
            have H := H1
            clear H1
            obtain rfl := Option.some.inj H
            go_wp2_with (first | ((with_reducible refine gate_callee (f := 39) rfl ?_); refine goesL_ (some 63) rfl rfl Try.func39 (by kernel_rfl) rfl #[.slice Ao16 t511.length co16] rfl (by (try simp only [List.map_toArray, List.map_cons, List.map_nil]); first | done | rfl | (simp only [List.length_drop, List.length_take]; rfl)) ?_; (with_reducible refine (plunderlaw7_length.calls kj8 _ _ t511 t519 _ ?side1 ?side2 A26.out).mono ?_); (case side1 => repeat (first | exact (Kd.R_reads' HO_9.out).2.2 | (with_reducible refine Kd.C_alloc ?_ _) | (with_reducible refine Kd.C_drewN ?_ _) | (with_reducible refine Kd.C_drew ?_))); (case side2 => exact (Kd.R_reads' HO_9.out).2.1); rintro e w31 ⟨rfl, hb⟩; refine ⟨_, rfl, ?_⟩; have n0_ := Aside0.mk (Kd.R_below (by (with_reducible repeat (first | apply Kd.R_alloc | apply Kd.R_drewN | apply Kd.R_drew)); exact HO_9.out) hb); have n1_ := Aside0.mk (Kd.R_below (by (with_reducible repeat (first | apply Kd.R_alloc | apply Kd.R_drewN | apply Kd.R_drew)); exact HO_510001.out) hb); have n2_ := Aside0.mk (blk_below (g := gb509) (o := .cells #[.int .i64 t505, .slice Ao13 t506.length co13] 26 (0, 0)) (by (with_reducible repeat (first | refine blk_drewN ?_ _ | refine blk_drew ?_ | refine blk_alloc ?_ _)); exact BK509.out) hb); have n3_ := Aside0.mk (below_step (by repeat (first | (with_reducible first | exact HB.out | apply below_alloc | apply pw_below_drewN | apply below_drew1 | refine below_set ?_ GE509.out) | exact HB.out)) hb); clear HO_9; clear HO_510001; clear BK509; clear HB; have HO_9 := n0_; have HO_510001 := n1_; have BK509 := n2_; have HB := n3_; clear n0_ n1_ n2_ n3_; (try clear hb); (try clear hb2); (try clear hk); (try clear hi); have hcz32_0 : w31.cell? ⟨gb509, 0, none⟩ = some (.int .i64 t505) := (blk_cell BK509.out 0).trans rfl; have hcz32_1 : w31.cell? ⟨gb509, 1, none⟩ = some (.slice Ao13 t506.length co13) := (blk_cell BK509.out 1).trans rfl; have hfz32_0 := blk_frozen BK509.out 0; have hfz32_1 := blk_frozen BK509.out 1) | ((with_reducible refine gate_callee (f := 38) rfl ?_); refine goesL_ (some 78) rfl rfl Try.func38 (by kernel_rfl) rfl #[.int .i64 t505, .int .i64 t517, .int .i64 (wrap64 (1 + t510)), .int .i64 t519] rfl (by (try simp only [List.map_toArray, List.map_cons, List.map_nil]); first | done | rfl | (simp only [List.length_drop, List.length_take]; rfl)) ?_; (with_reducible refine (plunderlaw7_bounds.calls t505 t517 (wrap64 (1 + t510)) t519 true _ A29.out).mono ?_); rintro e w' ⟨rfl, ⟨nd, rfl⟩⟩; refine ⟨_, rfl, ?_⟩))
            go_ret
            exact ⟨by first | rfl | (simp [errW_none, errW_some] <;> rfl) | (simp only [← hji28]; first | rfl | (simp [errW_none, errW_some] <;> rfl)) | (simp [*, errW_none, errW_some] <;> rfl), by repeat (first | (with_reducible first | exact HB.out | apply below_alloc | apply pw_below_drewN | apply below_drew1 | refine below_set ?_ GE509.out) | exact HB.out)⟩
          · replace c30 := Bool.eq_false_iff.mpr c30
            subst c30
            have H1 : (some false) = some r := by rw [if_neg (show ¬ (false = true) by decide)] at H; exact H
            clear H
            have H := H1
            clear H1
            obtain rfl := Option.some.inj H
            go_wp2_with (first | ((with_reducible refine gate_callee (f := 39) rfl ?_); refine goesL_ (some 63) rfl rfl Try.func39 (by kernel_rfl) rfl #[.slice Ao16 t511.length co16] rfl (by (try simp only [List.map_toArray, List.map_cons, List.map_nil]); first | done | rfl | (simp only [List.length_drop, List.length_take]; rfl)) ?_; (with_reducible refine (plunderlaw7_length.calls kj8 _ _ t511 t519 _ ?side1 ?side2 A26.out).mono ?_); (case side1 => repeat (first | exact (Kd.R_reads' HO_9.out).2.2 | (with_reducible refine Kd.C_alloc ?_ _) | (with_reducible refine Kd.C_drewN ?_ _) | (with_reducible refine Kd.C_drew ?_))); (case side2 => exact (Kd.R_reads' HO_9.out).2.1); rintro e w33 ⟨rfl, hb⟩; refine ⟨_, rfl, ?_⟩; have n0_ := Aside0.mk (Kd.R_below (by (with_reducible repeat (first | apply Kd.R_alloc | apply Kd.R_drewN | apply Kd.R_drew)); exact HO_9.out) hb); have n1_ := Aside0.mk (Kd.R_below (by (with_reducible repeat (first | apply Kd.R_alloc | apply Kd.R_drewN | apply Kd.R_drew)); exact HO_510001.out) hb); have n2_ := Aside0.mk (blk_below (g := gb509) (o := .cells #[.int .i64 t505, .slice Ao13 t506.length co13] 26 (0, 0)) (by (with_reducible repeat (first | refine blk_drewN ?_ _ | refine blk_drew ?_ | refine blk_alloc ?_ _)); exact BK509.out) hb); have n3_ := Aside0.mk (below_step (by repeat (first | (with_reducible first | exact HB.out | apply below_alloc | apply pw_below_drewN | apply below_drew1 | refine below_set ?_ GE509.out) | exact HB.out)) hb); clear HO_9; clear HO_510001; clear BK509; clear HB; have HO_9 := n0_; have HO_510001 := n1_; have BK509 := n2_; have HB := n3_; clear n0_ n1_ n2_ n3_; (try clear hb); (try clear hb2); (try clear hk); (try clear hi); have hcz34_0 : w33.cell? ⟨gb509, 0, none⟩ = some (.int .i64 t505) := (blk_cell BK509.out 0).trans rfl; have hcz34_1 : w33.cell? ⟨gb509, 1, none⟩ = some (.slice Ao13 t506.length co13) := (blk_cell BK509.out 1).trans rfl; have hfz34_0 := blk_frozen BK509.out 0; have hfz34_1 := blk_frozen BK509.out 1) | ((with_reducible refine gate_callee (f := 38) rfl ?_); refine goesL_ (some 78) rfl rfl Try.func38 (by kernel_rfl) rfl #[.int .i64 t505, .int .i64 t517, .int .i64 (wrap64 (1 + t510)), .int .i64 t519] rfl (by (try simp only [List.map_toArray, List.map_cons, List.map_nil]); first | done | rfl | (simp only [List.length_drop, List.length_take]; rfl)) ?_; (with_reducible refine (plunderlaw7_bounds.calls t505 t517 (wrap64 (1 + t510)) t519 false _ A29.out).mono ?_); rintro e w' ⟨rfl, ⟨nd, rfl⟩⟩; refine ⟨_, rfl, ?_⟩))
            go_ret
            exact ⟨by first | rfl | (simp [errW_none, errW_some] <;> rfl) | (simp only [← hji28]; first | rfl | (simp [errW_none, errW_some] <;> rfl)) | (simp [*, errW_none, errW_some] <;> rfl), by repeat (first | (with_reducible first | exact HB.out | apply below_alloc | apply pw_below_drewN | apply below_drew1 | refine below_set ?_ GE509.out) | exact HB.out)⟩

end Go.Proofs.Ytbahnialbffkeaa.P
