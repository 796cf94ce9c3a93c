/- DagLazy: the walk of the law's function (machine side): where the plain function answers, the call answers so. -/
import Derived.Test.YtbahnialbffkeaaLPx18
import Derived.Test.YtbahnialbffkeaaLPx23
import Derived.Test.YtbahnialbffkeaaLJudge
import Derived.BigRegion
import Derived.Outline
namespace Go.Proofs.Ytbahnialbffkeaa.P
open Go.RowKit Go.Proofs.YtbahnialbffkeaaW.PrintWords Go.Proofs.YtbahnialbffkeaaW.PrintLast Go.Proofs.YtbahnialbffkeaaW.PrintMore
attribute [local go_sem] max2_int min2_int max_two min_two max_three min_three max_four min_four   -- for this text's walks alone
set_option linter.unusedVariables false
set_option linter.unusedSimpArgs false

def plunderlaw7_DagLazy.l0 : Nat → Int → Int → Int → List Int → List Int → Int → Int → List (S50) → Option (Bool)
  | 0, _, _, _, _, _, _, _, _ => none
  | k + 1, x4, x12, x13, x14, x15, x16, x138000, x138001 => if x16 < x138000 then (if 0 ≤ x16 then (if x16 < (x14.length : Int) then (if x15.length < 17592186044416 then (plunderlaw7_DagLazy.l0 k x4 x12 x13 x14 (x15 ++ [wrap64 ((rd x14 x16) + x13)]) (wrap64 (x16 + 1)) x138000 x138001) else (none)) else (none)) else (none)) else ((dag_Judge.f k x138000 x138001 x12 x15).bind fun bt147 => (if bt147.2 = 0 then (if x138000 = 0 then (some (bt147.1 == 2)) else (if bt147.1 = 1 then (if (x138001.length : Int) = 0 then (some true) else ((plunderlaw7_mod.f x4 (x138001.length : Int)).bind fun t149 => (if 0 ≤ t149 then (if t149 < (x138001.length : Int) then (if 0 ≤ ((rd_T50 x138001 t149).f1) then (if ((rd_T50 x138001 t149).f1) < (x14.length : Int) then (if 0 ≤ ((rd_T50 x138001 t149).f0) then (if ((rd_T50 x138001 t149).f0) < (x14.length : Int) then (if ((rd_T50 x138001 t149).f0) = ((rd_T50 x138001 t149).f1) then (none) else ((dag_Judge.f k x138000 x138001 x12 ((x14.set (((rd_T50 x138001 t149).f0) : Int).toNat (rd x14 ((rd_T50 x138001 t149).f1))).set (((rd_T50 x138001 t149).f1) : Int).toNat (rd x14 ((rd_T50 x138001 t149).f0)))).bind fun bt156 => (if bt156.2 = 0 then (some (bt156.1 == 0)) else (none)))) else (none)) else (none)) else (none)) else (none)) else (none)) else (none)))) else (some false))) else (some false)))
def plunderlaw7_DagLazy.f (k : Nat) (a0 : Int) (l1 : List (S50)) (a2 : Int) (l3 : List Int) (a4 : Int) : Option (Bool) := (plunderlaw7_fit.f k a0 l1).bind fun bt133 => ((plunderlaw7_mod.f a2 64).bind fun t138 => ((plunderlaw7_mod.f a4 1099511627776).bind fun t139 => ((plunderlaw7_listed.f k bt133.1 bt133.2 (wrap64 (1 + t138)) l3).bind fun t140 => (plunderlaw7_DagLazy.l0 k a4 (wrap64 (1 + t138)) (wrap64 (1 + t139)) t140 ([] : List Int) 0 bt133.1 bt133.2))))
def plunderlaw7_DagLazy.T19 : Bool × List (List Nat × List Nat) := (true, [([], []), ([0], [0]), ([], []), ([], []), ([3], [3]), ([4], [4]), ([2, 5], [2, 5]), ([1, 6], [1, 6]), ([7], [7]), ([], []), ([9, 8, 6, 0, 1, 2, 3, 4, 5, 6, 7, 8, 9], [8, 9])])
def plunderlaw7_DagLazy.B19 : List Nat := [0, 1, 0, 0, 8, 24, 60, 127, 255, 0, 1023]
theorem plunderlaw7_DagLazy.tab19 : rtab .any (opsOf Try.f11 19) = plunderlaw7_DagLazy.T19 := by kernel_rfl
theorem plunderlaw7_DagLazy.bits19 : waitsOk plunderlaw7_DagLazy.T19.2 plunderlaw7_DagLazy.B19 = true := by kernel_rfl
set_option maxHeartbeats 8000000 in
set_option maxRecDepth 100000 in
theorem plunderlaw7_DagLazy.calls (k : Nat) (a0 : Int) (A1 : Option Addr) (c1 : Nat) (l1 : List (S50)) (a2 : Int) (A3 : Option Addr) (c3 : Nat) (l3 : List Int) (a4 : Int) (r : Bool) (w : World) (hr1 : Kd.C k50 w A1 l1.length l1) (hc1 : l1.length ≤ c1) (hr3 : Kd.C (Kd.int .i64) w A3 l3.length l3) (hc3 : l3.length ≤ c3) (h : plunderlaw7_DagLazy.f k a0 l1 a2 l3 a4 = some r) :
    Calls Try.prog 11 #[.int .i64 a0, .slice A1 l1.length c1, .int .i64 a2, .slice A3 l3.length c3, .int .i64 a4] w fun e w' => e = .returned (.bool r) ∧ Below w.heap.size w w' := by
  have hu26 := Try.underlying26
  have hu50 := Try.underlying50
  have HR1 := Aside0.mk hr1
  have HC1 := Aside0.mk hc1
  clear hr1 hc1
  have HR3 := Aside0.mk hr3
  have HC3 := Aside0.mk hc3
  clear hr3 hc3
  have HB := Aside0.mk (Below.refl w.heap.size w)
  have H : ((plunderlaw7_fit.f k a0 l1).bind fun bt133 => ((plunderlaw7_mod.f a2 64).bind fun t138 => ((plunderlaw7_mod.f a4 1099511627776).bind fun t139 => ((plunderlaw7_listed.f k bt133.1 bt133.2 (wrap64 (1 + t138)) l3).bind fun t140 => (plunderlaw7_DagLazy.l0 k a4 (wrap64 (1 + t138)) (wrap64 (1 + t139)) t140 ([] : List Int) 0 bt133.1 bt133.2))))) = some r := h
  clear h
  replace H := Option.bind_eq_some_iff.mp H
  obtain ⟨⟨t133, t134⟩, A60, H⟩ := H
  replace H : ((plunderlaw7_mod.f a2 64).bind fun t138 => ((plunderlaw7_mod.f a4 1099511627776).bind fun t139 => ((plunderlaw7_listed.f k t133 t134 (wrap64 (1 + t138)) l3).bind fun t140 => (plunderlaw7_DagLazy.l0 k a4 (wrap64 (1 + t138)) (wrap64 (1 + t139)) t140 ([] : List Int) 0 t133 t134)))) = some r := H
  have A6 := Aside0.mk A60
  clear A60
  replace H := Option.bind_eq_some_iff.mp H
  obtain ⟨t138, A70, H⟩ := H
  replace H : ((plunderlaw7_mod.f a4 1099511627776).bind fun t139 => ((plunderlaw7_listed.f k t133 t134 (wrap64 (1 + t138)) l3).bind fun t140 => (plunderlaw7_DagLazy.l0 k a4 (wrap64 (1 + t138)) (wrap64 (1 + t139)) t140 ([] : List Int) 0 t133 t134))) = some r := H
  have A7 := Aside0.mk A70
  clear A70
  replace H := Option.bind_eq_some_iff.mp H
  obtain ⟨t139, A80, H⟩ := H
  replace H : ((plunderlaw7_listed.f k t133 t134 (wrap64 (1 + t138)) l3).bind fun t140 => (plunderlaw7_DagLazy.l0 k a4 (wrap64 (1 + t138)) (wrap64 (1 + t139)) t140 ([] : List Int) 0 t133 t134)) = some r := H
  have A8 := Aside0.mk A80
  clear A80
  replace H := Option.bind_eq_some_iff.mp H
  obtain ⟨t140, A90, H⟩ := H
  replace H : (plunderlaw7_DagLazy.l0 k a4 (wrap64 (1 + t138)) (wrap64 (1 + t139)) t140 ([] : List Int) 0 t133 t134) = some r := H
  have A9 := Aside0.mk A90
  clear A90
  have H' := Aside0.mk H
  clear H
  go_enter Try.func11, Try.ntmps11
  go_wp2_with (first | ((with_reducible refine gate_callee (f := 33) rfl ?_); refine goesL_ (some 22) rfl rfl Try.func33 (by kernel_rfl) rfl #[.int .i64 a0, .slice A1 l1.length c1] rfl (by (try simp only [List.map_toArray, List.map_cons, List.map_nil]); first | done | rfl | (simp only [List.length_drop, List.length_take]; rfl)) ?_; (with_reducible refine (plunderlaw7_fit.calls k a0 _ _ l1 t133 t134 _ ?side1 ?side2 A6.out).mono ?_); (case side1 => repeat (first | exact HR1.out | (with_reducible refine Kd.C_alloc ?_ _) | (with_reducible refine Kd.C_drewN ?_ _) | (with_reducible refine Kd.C_drew ?_))); (case side2 => exact HC1.out); rintro e w10 ⟨v135, rfl, ho0, hb⟩; refine ⟨_, rfl, ?_⟩; have n0_ := Aside0.mk (Kd.R_lower ho0 (below_size (by repeat (first | (with_reducible first | exact HB.out | apply below_alloc | apply pw_below_drewN | apply below_drew1) | exact HB.out)))); have n1_ := Aside0.mk (below_step (by repeat (first | (with_reducible first | exact HB.out | apply below_alloc | apply pw_below_drewN | apply below_drew1) | exact HB.out)) hb); clear HB; have HO136 := n0_; have HB := n1_; clear n0_ n1_; (try clear hb); (try clear hb2); (try clear hk); (try clear hi); (try clear ho0)) | ((with_reducible refine gate_dst (N := 11) rfl ?_); refine box_event ?hg (N := 11) ?hd (cs := #[.int .i64 0, .slice none 0 0]) (t := 26) ?hr ?_; (case hd => rfl); (case hg => rfl); (case hr => first | (go_simp; done) | (go_simp; rfl)); intro gb137 hg w11 hbox hb; have n0_ := Aside0.mk (Kd.R_below (by (with_reducible repeat (first | apply Kd.R_alloc | apply Kd.R_drewN | apply Kd.R_drew)); exact HO136.out) hb); have n1_ := Aside0.mk (below_step (by repeat (first | (with_reducible first | exact HB.out | apply below_alloc | apply pw_below_drewN | apply below_drew1) | exact HB.out)) hb); have n2_ := Aside0.mk (hbox); have n3_ := Aside0.mk ((by rw [hg]; exact (below_size (by repeat (first | (with_reducible first | exact HB.out | apply below_alloc | apply pw_below_drewN | apply below_drew1) | exact HB.out))) : w.heap.size ≤ gb137)); have n4_ := Aside0.mk ((by rw [hg]; exact (below_size (by repeat (first | (with_reducible first | exact HB.out | apply below_alloc | apply pw_below_drewN | apply below_drew1) | exact HB.out))) : w.heap.size ≤ gb137)); clear HO136; clear HB; have HO136 := n0_; have HB := n1_; have BK137 := n2_; have GW137 := n3_; have GE137 := n4_; clear n0_ n1_ n2_ n3_ n4_; clear hb hbox hg; have hcz12_0 : w11.cell? ⟨gb137, 0, none⟩ = some (.int .i64 0) := (blk_cell BK137.out 0).trans rfl; have hcz12_1 : w11.cell? ⟨gb137, 1, none⟩ = some (.slice none 0 0) := (blk_cell BK137.out 1).trans rfl; have hfz12_0 := blk_frozen BK137.out 0; have hfz12_1 := blk_frozen BK137.out 1; obtain ⟨Ao13, co13, eo13⟩ := Kd.R_slice HO136.out; subst eo13) | ((with_reducible refine gate_callee (f := 34) rfl ?_); refine goesL_ (some 24) rfl rfl Try.func34 (by kernel_rfl) rfl #[.int .i64 a2, .int .i64 64] rfl (by (try simp only [List.map_toArray, List.map_cons, List.map_nil]); first | done | rfl | (simp only [List.length_drop, List.length_take]; rfl)) ?_; (with_reducible refine (plunderlaw7_mod.calls a2 64 t138 _ A7.out).mono ?_); rintro e w' ⟨rfl, ⟨nd, rfl⟩⟩; refine ⟨_, rfl, ?_⟩) | ((with_reducible refine gate_callee (f := 34) rfl ?_); refine goesL_ (some 27) rfl rfl Try.func34 (by kernel_rfl) rfl #[.int .i64 a4, .int .i64 1099511627776] rfl (by (try simp only [List.map_toArray, List.map_cons, List.map_nil]); first | done | rfl | (simp only [List.length_drop, List.length_take]; rfl)) ?_; (with_reducible refine (plunderlaw7_mod.calls a4 1099511627776 t139 _ A8.out).mono ?_); rintro e w' ⟨rfl, ⟨nd, rfl⟩⟩; refine ⟨_, rfl, ?_⟩) | ((with_reducible refine gate_callee (f := 37) rfl ?_); refine goesL_ (some 32) rfl rfl Try.func37 (by kernel_rfl) rfl #[.agg #[.int .i64 t133, .slice Ao13 t134.length co13], .int .i64 (wrap64 (1 + t138)), .slice A3 l3.length c3] rfl (by (try simp only [List.map_toArray, List.map_cons, List.map_nil]); first | done | rfl | (simp only [List.length_drop, List.length_take]; rfl)) ?_; (with_reducible refine (plunderlaw7_listed.calls k t133 _ _ t134 (wrap64 (1 + t138)) _ _ l3 t140 _ ?side1 ?side2 ?side3 ?side4 A9.out).mono ?_); (case side1 => refine (Kd.R_reads' (e := 50) (base := w.heap.size) (ok := fun k_ => True) (n := t134.length) (c := co13) ?_).2.2; exact (by (with_reducible repeat (first | apply Kd.R_alloc | apply Kd.R_drewN | apply Kd.R_drew)); exact (Kd.R_mono (Kd.R_far (p := ⟨gb137, 1, none⟩) (Kd.R_far (p := ⟨gb137, 0, none⟩) (Kd.R_types HO136.out BK137.out (by decide)) (fun _ hk => hk.2) (.int .i64 t133)) (fun _ hk => hk.2) (.slice Ao13 t134.length co13)) (fun _ h_ => h_.1)))); (case side2 => exact (Kd.R_reads' HO136.out).2.1); (case side3 => exact Kd.C_below HR3.out (by repeat (first | (with_reducible first | exact HB.out | apply below_alloc | apply pw_below_drewN | apply below_drew1 | refine below_set ?_ GE137.out) | exact HB.out))); (case side4 => exact HC3.out); rintro e w14 ⟨v141, rfl, ho0, hb⟩; refine ⟨_, rfl, ?_⟩; have n0_ := Aside0.mk (Kd.R_below (by (with_reducible repeat (first | apply Kd.R_alloc | apply Kd.R_drewN | apply Kd.R_drew)); exact (Kd.R_mono (Kd.R_far (p := ⟨gb137, 1, none⟩) (Kd.R_far (p := ⟨gb137, 0, none⟩) (Kd.R_types HO136.out BK137.out (by decide)) (fun _ hk => hk.2) (.int .i64 t133)) (fun _ hk => hk.2) (.slice Ao13 t134.length co13)) (fun _ h_ => h_.1))) hb); have n1_ := Aside0.mk (Kd.R_lower ho0 (below_size (by repeat (first | (with_reducible first | exact HB.out | apply below_alloc | apply pw_below_drewN | apply below_drew1 | refine below_set ?_ GE137.out) | exact HB.out)))); have n2_ := Aside0.mk (blk_below (g := gb137) (o := .cells #[.int .i64 t133, .slice Ao13 t134.length co13] 26 (0, 0)) (by (with_reducible repeat (first | refine blk_drewN ?_ _ | refine blk_drew ?_ | refine blk_alloc ?_ _)); refine blk_put (cs := #[.int .i64 t133, .slice none 0 0]) ?_ 1 _ rfl; (with_reducible repeat (first | refine blk_drewN ?_ _ | refine blk_drew ?_ | refine blk_alloc ?_ _)); refine blk_put (cs := #[.int .i64 0, .slice none 0 0]) ?_ 0 _ rfl; (with_reducible repeat (first | refine blk_drewN ?_ _ | refine blk_drew ?_ | refine blk_alloc ?_ _)); exact BK137.out) hb); have n3_ := Aside0.mk (below_step (by repeat (first | (with_reducible first | exact HB.out | apply below_alloc | apply pw_below_drewN | apply below_drew1 | refine below_set ?_ GE137.out) | exact HB.out)) hb); clear HO136; clear BK137; clear HB; have HO136 := n0_; have HO142 := n1_; have BK137 := n2_; have HB := n3_; clear n0_ n1_ n2_ n3_; (try clear hb); (try clear hb2); (try clear hk); (try clear hi); (try clear ho0)))
  go_loopg [15, 16] k (fun kq v15 v16 w' => ∃ (x15_1 : List Int) (x16_1 : Int), v16 = .int .i64 x16_1 ∧ Aside0 (plunderlaw7_DagLazy.l0 kq a4 (wrap64 (1 + t138)) (wrap64 (1 + t139)) t140 x15_1 x16_1 t133 t134 = some r) ∧ Aside0 (kq ≤ k) ∧ Aside0 (Kd.R (Kd.int .i64) 3 w' w.heap.size (fun k_ => some k_ ≠ (v15 : Value).ownBlock) v141 t140) ∧ Aside0 (Kd.R (Kd.int .i64) 3 w' w.heap.size (fun k_ => some k_ ≠ (v141 : Value).ownBlock) v15 x15_1) ∧ Aside0 (Kd.R k50 50 w' w.heap.size (fun _ => True) (.slice Ao13 t134.length co13) t134) ∧ Aside0 (w'.heap[gb137]? = some (.cells #[.int .i64 t133, (.slice Ao13 t134.length co13)] 26 (0, 0))) ∧ Aside0 (Below w.heap.size w w'))
  case atStart => exact ⟨(([] : List Int)), (0), (by first | rfl | (simp; done) | (simp [*]; done)), H', ⟨Nat.le_refl _⟩, ⟨by (with_reducible repeat (first | apply Kd.R_alloc | apply Kd.R_drewN | apply Kd.R_drew)); exact Kd.R_mono HO142.out (fun _ hk => (by simp [Value.ownBlock]))⟩, ⟨by first | exact Kd.R_nil _ _ _ _ _ | exact Kd.N_nil _ _ _ _ _ | exact Kd.V_nil _ _ _ _ _ | exact Kd.Q_nil _ _ _ _ _ | exact Kd.S_nil _ _ _ _ _⟩, ⟨by (with_reducible repeat (first | apply Kd.R_alloc | apply Kd.R_drewN | apply Kd.R_drew)); exact HO136.out⟩, ⟨by (with_reducible repeat (first | refine blk_drewN ?_ _ | refine blk_drew ?_ | refine blk_alloc ?_ _)); exact BK137.out⟩, ⟨by repeat (first | (with_reducible first | exact HB.out | apply below_alloc | apply pw_below_drewN | apply below_drew1 | refine below_set ?_ GE137.out) | exact HB.out)⟩⟩
  case round =>
    clear H'
    try clear c1
    try clear p2
    try clear c3
    try clear c4
    try clear c5
    try clear c6
    try clear p6
    try clear hcz12_0
    try clear hcz12_1
    try clear hfz12_0
    try clear hfz12_1
    obtain ⟨x15_1, x16_1, rfl, HA, HK1, HO_14, HO_15, HO_138001, BK137, HB⟩ := hrel
    cases gk with
    | zero => exact absurd HA.out (by simp [plunderlaw7_DagLazy.l0])
    | succ k1 =>
      have H := HA.out
      clear HA
      simp only [plunderlaw7_DagLazy.l0] at H
      by_cases c15 : x16_1 < t133
      · rw [if_pos c15] at H
        have c15b0 : decide (x16_1 < t133) = true := decide_eq_true c15
        clear c15
        by_cases c16 : 0 ≤ x16_1
        · rw [if_pos c16] at H
          have c16b0 : decide (0 ≤ x16_1) = true := decide_eq_true c16
          clear c16
          by_cases c17 : x16_1 < (t140.length : Int)
          · rw [if_pos c17] at H
            have c17b0 : decide (x16_1 < (t140.length : Int)) = true := decide_eq_true c17
            clear c17
            by_cases c18 : x15_1.length < 17592186044416
            · rw [if_pos c18] at H
              have LMc18 := Aside0.mk c18
              clear c18
              obtain ⟨y144, hy144⟩ : ∃ y_ : List Int, y_ = (x15_1 ++ [wrap64 ((rd t140 x16_1) + (wrap64 (1 + t139)))]) := ⟨_, rfl⟩
              replace H : (plunderlaw7_DagLazy.l0 k1 a4 (wrap64 (1 + t138)) (wrap64 (1 + t139)) t140 y144 (wrap64 (x16_1 + 1)) t133 t134) = some r := by first | (rw [hy144]; with_reducible exact H) | (have H2_ := (Option.bind_some _ _).symm.trans H; rw [hy144]; with_reducible exact H2_) | (have H2_ := (Option.bind_some _ _).symm.trans H; with_reducible exact H2_) | with_reducible exact H | (rw [hy144]; exact H) | exact H
              have Ny144 := Aside0.mk hy144
              clear hy144
              have H' := Aside0.mk H
              clear H
              have hcz19_0 : wr.cell? ⟨gb137, 0, none⟩ = some (.int .i64 t133) := (blk_cell BK137.out 0).trans rfl
              have hcz19_1 : wr.cell? ⟨gb137, 1, none⟩ = some (.slice Ao13 t134.length co13) := (blk_cell BK137.out 1).trans rfl
              have hfz19_0 := blk_frozen BK137.out 0
              have hfz19_1 := blk_frozen BK137.out 1
              obtain ⟨Ao20, co20, eo20⟩ := Kd.R_slice HO_14.out
              subst eo20
              have p143 : 0 ≤ (x16_1 : Int) := of_decide_eq_true (by first | (with_reducible assumption) | assumption)
              have q143 : x16_1 < (t140.length : Int) := of_decide_eq_true (by first | (with_reducible assumption) | assumption)
              obtain ⟨ad143, e143, hx143_0⟩ := Kd.at_int (Kd.R_reads' HO_14.out).2.2 x16_1 p143 q143
              cases e143
              replace p143 := eq_true p143
              replace q143 := eq_true q143
              go_wp2_with (first | ((with_reducible refine gate_builtin (b := .append) (xs := #[.tmp 39, .tmp 46]) rfl ?_); at_builtin; refine Kd.R_append (Kd.int .i64) (w0 := w) w.heap.size rfl (.tmp 39) (.tmp 46) 33 3 (.int .i64 0) 8 rfl Try.underlying33 info3 rfl (by decide) (by omega) u15 x15_1 (wrap64 ((rd t140 x16_1) + (wrap64 (1 + t139)))) [.int .i64 (wrap64 ((rd t140 x16_1) + (wrap64 (1 + t139))))] (fun k_ => some k_ ≠ (.slice (some ad143) t140.length co20 : Value).ownBlock) (fun _ => False) rfl rfl ?aP (fun _ hk => hk.elim) ?aF ?aO ?aB ?aS ?aL ?_; (case aP => exact rfl); (case aB => exact (by repeat (first | (with_reducible first | exact HB.out | apply below_alloc | apply pw_below_drewN | apply below_drew1 | refine below_set ?_ GE137.out) | exact HB.out))); (case aF => exact (fun k_ hk => Kd.fresh' (Kd.R_lt (by (with_reducible repeat (first | apply Kd.R_alloc | apply Kd.R_drewN | apply Kd.R_drew)); exact HO_14.out)) k_ hk)); (case aO => exact (by (with_reducible repeat (first | apply Kd.R_alloc | apply Kd.R_drewN | apply Kd.R_drew)); exact HO_15.out)); (case aS => exact (below_size (by repeat (first | (with_reducible first | exact HB.out | apply below_alloc | apply pw_below_drewN | apply below_drew1 | refine below_set ?_ GE137.out) | exact HB.out)))); (case aL => have := LMc18.out; omega); intro v145 w21 ho hb hg hat; rw [← Ny144.out] at ho; have n0_ := Aside0.mk (Kd.R_after (ok := (fun _ => True)) (by (with_reducible repeat (first | apply Kd.R_alloc | apply Kd.R_drewN | apply Kd.R_drew)); exact Kd.R_mono HO_14.out (fun _ hk => ⟨trivial, (by first | exact hk | exact hk.1.2 | exact hk.1.1 | exact hk.1 | exact hk.2 | exact own_len hk.1.2 | exact own_len hk.1.1 | exact own_len hk.1 | exact own_len hk.2 | exact own_len hk)⟩)) hg hat); have n1_ := Aside0.mk (Kd.R_over' (by (with_reducible repeat (first | apply Kd.R_alloc | apply Kd.R_drewN | apply Kd.R_drew)); exact HO_138001.out) (Kd.R_typed (by (with_reducible repeat (first | apply Kd.R_alloc | apply Kd.R_drewN | apply Kd.R_drew)); exact HO_15.out)) (by decide) hg); have n2_ := Aside0.mk (blk_grown (g := gb137) (o := .cells #[.int .i64 t133, .slice Ao13 t134.length co13] 26 (0, 0)) (by (with_reducible repeat (first | refine blk_drewN ?_ _ | refine blk_drew ?_ | refine blk_alloc ?_ _)); exact BK137.out) hg (Kd.R_ne HO_15.out BK137.out (by decide))); have n3_ := Aside0.mk (hb); have n4_ := Aside0.mk (ho); clear HO_14; clear HO_138001; clear BK137; clear HB; clear HO_15; have HO_14 := n0_; have HO_138001 := n1_; have BK137 := n2_; have HB := n3_; have HO146 := n4_; clear n0_ n1_ n2_ n3_ n4_; clear ho hb hg hat))
              go_roundg k1
              case measure => have := HK1.out; omega
              case rel => exact ⟨(y144), (wrap64 (x16_1 + 1)), (by first | rfl | (simp; done) | (simp [*]; done)), H', ⟨by have := HK1.out; omega⟩, ⟨by (with_reducible repeat (first | apply Kd.R_alloc | apply Kd.R_drewN | apply Kd.R_drew)); exact Kd.R_mono HO_14.out (fun _ hk => (by first | exact hk.2 | exact hk.1.2 | exact hk.1.1 | exact hk.1 | exact hk | exact own_len hk.1.2 | exact own_len hk.1.1 | exact own_len hk.1 | exact own_len hk.2 | exact own_len hk))⟩, ⟨by (with_reducible repeat (first | apply Kd.R_alloc | apply Kd.R_drewN | apply Kd.R_drew)); exact HO146.out⟩, ⟨by (with_reducible repeat (first | apply Kd.R_alloc | apply Kd.R_drewN | apply Kd.R_drew)); exact HO_138001.out⟩, ⟨by (with_reducible repeat (first | refine blk_drewN ?_ _ | refine blk_drew ?_ | refine blk_alloc ?_ _)); exact BK137.out⟩, ⟨by repeat (first | (with_reducible first | exact HB.out | apply below_alloc | apply pw_below_drewN | apply below_drew1 | refine below_set ?_ GE137.out) | exact HB.out)⟩⟩
            · rw [if_neg c18] at H
              exact absurd H (by simp)
          · rw [if_neg c17] at H
            exact absurd H (by simp)
        · rw [if_neg c16] at H
          exact absurd H (by simp)
      · rw [if_neg c15] at H
        have c15b0 : decide (x16_1 < t133) = false := decide_eq_false c15
        clear c15
        replace H := Option.bind_eq_some_iff.mp H
        obtain ⟨⟨t147, t148⟩, A220, H⟩ := H
        replace H : (if t148 = 0 then (if t133 = 0 then (some (t147 == 2)) else (if t147 = 1 then (if (t134.length : Int) = 0 then (some true) else ((plunderlaw7_mod.f a4 (t134.length : Int)).bind fun t149 => (if 0 ≤ t149 then (if t149 < (t134.length : Int) then (if 0 ≤ ((rd_T50 t134 t149).f1) then (if ((rd_T50 t134 t149).f1) < (t140.length : Int) then (if 0 ≤ ((rd_T50 t134 t149).f0) then (if ((rd_T50 t134 t149).f0) < (t140.length : Int) then (if ((rd_T50 t134 t149).f0) = ((rd_T50 t134 t149).f1) then (none) else ((dag_Judge.f k1 t133 t134 (wrap64 (1 + t138)) ((t140.set (((rd_T50 t134 t149).f0) : Int).toNat (rd t140 ((rd_T50 t134 t149).f1))).set (((rd_T50 t134 t149).f1) : Int).toNat (rd t140 ((rd_T50 t134 t149).f0)))).bind fun bt156 => (if bt156.2 = 0 then (some (bt156.1 == 0)) else (none)))) else (none)) else (none)) else (none)) else (none)) else (none)) else (none)))) else (some false))) else (some false)) = some r := H
        have A22 := Aside0.mk A220
        clear A220
        by_cases c23 : t148 = 0
        · rw [if_pos c23] at H
          have c23b0 : (t148 == 0) = true := beq_iff_eq.mpr c23
          have c23b1 : (t148 != 0) = false := bne_eq_false_iff_eq.mpr c23
          clear c23
          by_cases c24 : t133 = 0
          · rw [if_pos c24] at H
            have c24b0 : (t133 == 0) = true := beq_iff_eq.mpr c24
            have c24b1 : (t133 != 0) = false := bne_eq_false_iff_eq.mpr c24
            clear c24
            obtain rfl := Option.some.inj H
            have hcz25_0 : wr.cell? ⟨gb137, 0, none⟩ = some (.int .i64 t133) := (blk_cell BK137.out 0).trans rfl
            have hcz25_1 : wr.cell? ⟨gb137, 1, none⟩ = some (.slice Ao13 t134.length co13) := (blk_cell BK137.out 1).trans rfl
            have hfz25_0 := blk_frozen BK137.out 0
            have hfz25_1 := blk_frozen BK137.out 1
            obtain ⟨Ao26, co26, eo26⟩ := Kd.R_slice HO_15.out
            subst eo26
            go_wp2_with (first | ((with_reducible refine gate_callee (f := 35) rfl ?_); refine goesL_ (some 52) rfl rfl Try.func35 (by kernel_rfl) rfl #[.agg #[.int .i64 t133, .slice Ao13 t134.length co13], .int .i64 (wrap64 (1 + t138)), .slice Ao26 x15_1.length co26] rfl (by (try simp only [List.map_toArray, List.map_cons, List.map_nil]); first | done | rfl | (simp only [List.length_drop, List.length_take]; rfl)) ?_; (with_reducible refine (dag_Judge.calls k1 t133 _ _ t134 (wrap64 (1 + t138)) _ _ x15_1 t147 t148 _ ?side1 ?side2 ?side3 ?side4 A22.out).mono ?_); (case side1 => repeat (first | exact (Kd.R_reads' HO_138001.out).2.2 | (with_reducible refine Kd.C_alloc ?_ _) | (with_reducible refine Kd.C_drewN ?_ _) | (with_reducible refine Kd.C_drew ?_))); (case side2 => exact (Kd.R_reads' HO_138001.out).2.1); (case side3 => repeat (first | exact (Kd.R_reads' HO_15.out).2.2 | (with_reducible refine Kd.C_alloc ?_ _) | (with_reducible refine Kd.C_drewN ?_ _) | (with_reducible refine Kd.C_drew ?_))); (case side4 => exact (Kd.R_reads' HO_15.out).2.1); rintro e w27 ⟨rfl, hb⟩; refine ⟨_, rfl, ?_⟩; have n0_ := Aside0.mk (Kd.R_below (by (with_reducible repeat (first | apply Kd.R_alloc | apply Kd.R_drewN | apply Kd.R_drew)); exact HO_14.out) hb); have n1_ := Aside0.mk (Kd.R_below (by (with_reducible repeat (first | apply Kd.R_alloc | apply Kd.R_drewN | apply Kd.R_drew)); exact HO_15.out) hb); have n2_ := Aside0.mk (Kd.R_below (by (with_reducible repeat (first | apply Kd.R_alloc | apply Kd.R_drewN | apply Kd.R_drew)); exact HO_138001.out) hb); have n3_ := Aside0.mk (blk_below (g := gb137) (o := .cells #[.int .i64 t133, .slice Ao13 t134.length co13] 26 (0, 0)) (by (with_reducible repeat (first | refine blk_drewN ?_ _ | refine blk_drew ?_ | refine blk_alloc ?_ _)); exact BK137.out) hb); have n4_ := Aside0.mk (below_step (by repeat (first | (with_reducible first | exact HB.out | apply below_alloc | apply pw_below_drewN | apply below_drew1 | refine below_set ?_ GE137.out) | exact HB.out)) hb); clear HO_14; clear HO_15; clear HO_138001; clear BK137; clear HB; have HO_14 := n0_; have HO_15 := n1_; have HO_138001 := n2_; have BK137 := n3_; have HB := n4_; clear n0_ n1_ n2_ n3_ n4_; (try clear hb); (try clear hb2); (try clear hk); (try clear hi); have hcz28_0 : w27.cell? ⟨gb137, 0, none⟩ = some (.int .i64 t133) := (blk_cell BK137.out 0).trans rfl; have hcz28_1 : w27.cell? ⟨gb137, 1, none⟩ = some (.slice Ao13 t134.length co13) := (blk_cell BK137.out 1).trans rfl; have hfz28_0 := blk_frozen BK137.out 0; have hfz28_1 := blk_frozen BK137.out 1))
            go_ret
            exact ⟨by first | rfl | (simp [errW_none, errW_some] <;> rfl) | (simp [*, errW_none, errW_some] <;> rfl), by repeat (first | (with_reducible first | exact HB.out | apply below_alloc | apply pw_below_drewN | apply below_drew1 | refine below_set ?_ GE137.out) | exact HB.out)⟩
          · rw [if_neg c24] at H
            have c24b0 : (t133 == 0) = false := beq_eq_false_iff_ne.mpr c24
            have c24b1 : (t133 != 0) = true := bne_iff_ne.mpr c24
            by_cases c29 : t147 = 1
            · rw [if_pos c29] at H
              have c29b0 : (t147 == 1) = true := beq_iff_eq.mpr c29
              have c29b1 : (t147 != 1) = false := bne_eq_false_iff_eq.mpr c29
              clear c29
              by_cases c30 : (t134.length : Int) = 0
              · rw [if_pos c30] at H
                have c30b0 : ((t134.length : Int) == 0) = true := beq_iff_eq.mpr c30
                have c30b1 : ((t134.length : Int) != 0) = false := bne_eq_false_iff_eq.mpr c30
                clear c30
                obtain rfl := Option.some.inj H
                have hcz31_0 : wr.cell? ⟨gb137, 0, none⟩ = some (.int .i64 t133) := (blk_cell BK137.out 0).trans rfl
                have hcz31_1 : wr.cell? ⟨gb137, 1, none⟩ = some (.slice Ao13 t134.length co13) := (blk_cell BK137.out 1).trans rfl
                have hfz31_0 := blk_frozen BK137.out 0
                have hfz31_1 := blk_frozen BK137.out 1
                obtain ⟨Ao32, co32, eo32⟩ := Kd.R_slice HO_15.out
                subst eo32
                go_wp2_with (first | ((with_reducible refine gate_callee (f := 35) rfl ?_); refine goesL_ (some 52) rfl rfl Try.func35 (by kernel_rfl) rfl #[.agg #[.int .i64 t133, .slice Ao13 t134.length co13], .int .i64 (wrap64 (1 + t138)), .slice Ao32 x15_1.length co32] rfl (by (try simp only [List.map_toArray, List.map_cons, List.map_nil]); first | done | rfl | (simp only [List.length_drop, List.length_take]; rfl)) ?_; (with_reducible refine (dag_Judge.calls k1 t133 _ _ t134 (wrap64 (1 + t138)) _ _ x15_1 t147 t148 _ ?side1 ?side2 ?side3 ?side4 A22.out).mono ?_); (case side1 => repeat (first | exact (Kd.R_reads' HO_138001.out).2.2 | (with_reducible refine Kd.C_alloc ?_ _) | (with_reducible refine Kd.C_drewN ?_ _) | (with_reducible refine Kd.C_drew ?_))); (case side2 => exact (Kd.R_reads' HO_138001.out).2.1); (case side3 => repeat (first | exact (Kd.R_reads' HO_15.out).2.2 | (with_reducible refine Kd.C_alloc ?_ _) | (with_reducible refine Kd.C_drewN ?_ _) | (with_reducible refine Kd.C_drew ?_))); (case side4 => exact (Kd.R_reads' HO_15.out).2.1); rintro e w33 ⟨rfl, hb⟩; refine ⟨_, rfl, ?_⟩; have n0_ := Aside0.mk (Kd.R_below (by (with_reducible repeat (first | apply Kd.R_alloc | apply Kd.R_drewN | apply Kd.R_drew)); exact HO_14.out) hb); have n1_ := Aside0.mk (Kd.R_below (by (with_reducible repeat (first | apply Kd.R_alloc | apply Kd.R_drewN | apply Kd.R_drew)); exact HO_15.out) hb); have n2_ := Aside0.mk (Kd.R_below (by (with_reducible repeat (first | apply Kd.R_alloc | apply Kd.R_drewN | apply Kd.R_drew)); exact HO_138001.out) hb); have n3_ := Aside0.mk (blk_below (g := gb137) (o := .cells #[.int .i64 t133, .slice Ao13 t134.length co13] 26 (0, 0)) (by (with_reducible repeat (first | refine blk_drewN ?_ _ | refine blk_drew ?_ | refine blk_alloc ?_ _)); exact BK137.out) hb); have n4_ := Aside0.mk (below_step (by repeat (first | (with_reducible first | exact HB.out | apply below_alloc | apply pw_below_drewN | apply below_drew1 | refine below_set ?_ GE137.out) | exact HB.out)) hb); clear HO_14; clear HO_15; clear HO_138001; clear BK137; clear HB; have HO_14 := n0_; have HO_15 := n1_; have HO_138001 := n2_; have BK137 := n3_; have HB := n4_; clear n0_ n1_ n2_ n3_ n4_; (try clear hb); (try clear hb2); (try clear hk); (try clear hi); have hcz34_0 : w33.cell? ⟨gb137, 0, none⟩ = some (.int .i64 t133) := (blk_cell BK137.out 0).trans rfl; have hcz34_1 : w33.cell? ⟨gb137, 1, none⟩ = some (.slice Ao13 t134.length co13) := (blk_cell BK137.out 1).trans rfl; have hfz34_0 := blk_frozen BK137.out 0; have hfz34_1 := blk_frozen BK137.out 1))
                go_ret
                exact ⟨by first | rfl | (simp [errW_none, errW_some] <;> rfl) | (simp [*, errW_none, errW_some] <;> rfl), by repeat (first | (with_reducible first | exact HB.out | apply below_alloc | apply pw_below_drewN | apply below_drew1 | refine below_set ?_ GE137.out) | exact HB.out)⟩
              · rw [if_neg c30] at H
                have c30b0 : ((t134.length : Int) == 0) = false := beq_eq_false_iff_ne.mpr c30
                have c30b1 : ((t134.length : Int) != 0) = true := bne_iff_ne.mpr c30
                have c30b2 : ¬ (t134 = []) := fun h_ => c30 (by rw [h_]; rfl)
                replace H := Option.bind_eq_some_iff.mp H
                obtain ⟨t149, A350, H⟩ := H
                replace H : (if 0 ≤ t149 then (if t149 < (t134.length : Int) then (if 0 ≤ ((rd_T50 t134 t149).f1) then (if ((rd_T50 t134 t149).f1) < (t140.length : Int) then (if 0 ≤ ((rd_T50 t134 t149).f0) then (if ((rd_T50 t134 t149).f0) < (t140.length : Int) then (if ((rd_T50 t134 t149).f0) = ((rd_T50 t134 t149).f1) then (none) else ((dag_Judge.f k1 t133 t134 (wrap64 (1 + t138)) ((t140.set (((rd_T50 t134 t149).f0) : Int).toNat (rd t140 ((rd_T50 t134 t149).f1))).set (((rd_T50 t134 t149).f1) : Int).toNat (rd t140 ((rd_T50 t134 t149).f0)))).bind fun bt156 => (if bt156.2 = 0 then (some (bt156.1 == 0)) else (none)))) else (none)) else (none)) else (none)) else (none)) else (none)) else (none)) = some r := H
                have A35 := Aside0.mk A350
                clear A350
                by_cases c36 : 0 ≤ t149
                · rw [if_pos c36] at H
                  have c36b0 : decide (0 ≤ t149) = true := decide_eq_true c36
                  clear c36
                  by_cases c37 : t149 < (t134.length : Int)
                  · rw [if_pos c37] at H
                    have c37b0 : decide (t149 < (t134.length : Int)) = true := decide_eq_true c37
                    clear c37
                    by_cases c38 : 0 ≤ ((rd_T50 t134 t149).f1)
                    · rw [if_pos c38] at H
                      have c38b0 : decide (0 ≤ ((rd_T50 t134 t149).f1)) = true := decide_eq_true c38
                      clear c38
                      by_cases c39 : ((rd_T50 t134 t149).f1) < (t140.length : Int)
                      · rw [if_pos c39] at H
                        have c39b0 : decide (((rd_T50 t134 t149).f1) < (t140.length : Int)) = true := decide_eq_true c39
                        clear c39
                        by_cases c40 : 0 ≤ ((rd_T50 t134 t149).f0)
                        · rw [if_pos c40] at H
                          have c40b0 : decide (0 ≤ ((rd_T50 t134 t149).f0)) = true := decide_eq_true c40
                          clear c40
                          by_cases c41 : ((rd_T50 t134 t149).f0) < (t140.length : Int)
                          · rw [if_pos c41] at H
                            have c41b0 : decide (((rd_T50 t134 t149).f0) < (t140.length : Int)) = true := decide_eq_true c41
                            clear c41
                            by_cases cne : ((rd_T50 t134 t149).f0) = ((rd_T50 t134 t149).f1)
                            · rw [if_pos cne] at H
                              exact absurd H (by simp)
                            rw [if_neg cne] at H
                            have HNE := Aside0.mk cne
                            clear cne
                            obtain ⟨y154, hy154⟩ : ∃ y_ : List Int, y_ = (t140.set (((rd_T50 t134 t149).f0) : Int).toNat (rd t140 ((rd_T50 t134 t149).f1))) := ⟨_, rfl⟩
                            replace H : ((dag_Judge.f k1 t133 t134 (wrap64 (1 + t138)) (y154.set (((rd_T50 t134 t149).f1) : Int).toNat (rd t140 ((rd_T50 t134 t149).f0)))).bind fun bt156 => (if bt156.2 = 0 then (some (bt156.1 == 0)) else (none))) = some r := by first | (rw [hy154]; with_reducible exact H) | (have H2_ := (Option.bind_some _ _).symm.trans H; rw [hy154]; with_reducible exact H2_) | (have H2_ := (Option.bind_some _ _).symm.trans H; with_reducible exact H2_) | with_reducible exact H | (rw [hy154]; exact H) | exact H
                            have Ny154 := Aside0.mk hy154
                            clear hy154
                            obtain ⟨y155, hy155⟩ : ∃ y_ : List Int, y_ = (y154.set (((rd_T50 t134 t149).f1) : Int).toNat (rd t140 ((rd_T50 t134 t149).f0))) := ⟨_, rfl⟩
                            replace H : ((dag_Judge.f k1 t133 t134 (wrap64 (1 + t138)) y155).bind fun bt156 => (if bt156.2 = 0 then (some (bt156.1 == 0)) else (none))) = some r := by first | (rw [hy155]; with_reducible exact H) | (have H2_ := (Option.bind_some _ _).symm.trans H; rw [hy155]; with_reducible exact H2_) | (have H2_ := (Option.bind_some _ _).symm.trans H; with_reducible exact H2_) | with_reducible exact H | (rw [hy155]; exact H) | exact H
                            have Ny155 := Aside0.mk hy155
                            clear hy155
                            replace H := Option.bind_eq_some_iff.mp H
                            obtain ⟨⟨t156, t157⟩, A440, H⟩ := H
                            replace H : (if t157 = 0 then (some (t156 == 0)) else (none)) = some r := H
                            have A44 := Aside0.mk A440
                            clear A440
                            by_cases c45 : t157 = 0
                            · rw [if_pos c45] at H
                              have c45b0 : (t157 == 0) = true := beq_iff_eq.mpr c45
                              have c45b1 : (t157 != 0) = false := bne_eq_false_iff_eq.mpr c45
                              clear c45
                              obtain rfl := Option.some.inj H
                              have hcz46_0 : wr.cell? ⟨gb137, 0, none⟩ = some (.int .i64 t133) := (blk_cell BK137.out 0).trans rfl
                              have hcz46_1 : wr.cell? ⟨gb137, 1, none⟩ = some (.slice Ao13 t134.length co13) := (blk_cell BK137.out 1).trans rfl
                              have hfz46_0 := blk_frozen BK137.out 0
                              have hfz46_1 := blk_frozen BK137.out 1
                              obtain ⟨Ao47, co47, eo47⟩ := Kd.R_slice HO_15.out
                              subst eo47
                              try go_wp2_with (first | ((with_reducible refine gate_callee (f := 35) rfl ?_); refine goesL_ (some 52) rfl rfl Try.func35 (by kernel_rfl) rfl #[.agg #[.int .i64 t133, .slice Ao13 t134.length co13], .int .i64 (wrap64 (1 + t138)), .slice Ao47 x15_1.length co47] rfl (by (try simp only [List.map_toArray, List.map_cons, List.map_nil]); first | done | rfl | (simp only [List.length_drop, List.length_take]; rfl)) ?_; (with_reducible refine (dag_Judge.calls k1 t133 _ _ t134 (wrap64 (1 + t138)) _ _ x15_1 t147 t148 _ ?side1 ?side2 ?side3 ?side4 A22.out).mono ?_); (case side1 => repeat (first | exact (Kd.R_reads' HO_138001.out).2.2 | (with_reducible refine Kd.C_alloc ?_ _) | (with_reducible refine Kd.C_drewN ?_ _) | (with_reducible refine Kd.C_drew ?_))); (case side2 => exact (Kd.R_reads' HO_138001.out).2.1); (case side3 => repeat (first | exact (Kd.R_reads' HO_15.out).2.2 | (with_reducible refine Kd.C_alloc ?_ _) | (with_reducible refine Kd.C_drewN ?_ _) | (with_reducible refine Kd.C_drew ?_))); (case side4 => exact (Kd.R_reads' HO_15.out).2.1); rintro e w48 ⟨rfl, hb⟩; refine ⟨_, rfl, ?_⟩; have n0_ := Aside0.mk (Kd.R_below (by (with_reducible repeat (first | apply Kd.R_alloc | apply Kd.R_drewN | apply Kd.R_drew)); exact HO_14.out) hb); have n1_ := Aside0.mk (Kd.R_below (by (with_reducible repeat (first | apply Kd.R_alloc | apply Kd.R_drewN | apply Kd.R_drew)); exact HO_15.out) hb); have n2_ := Aside0.mk (Kd.R_below (by (with_reducible repeat (first | apply Kd.R_alloc | apply Kd.R_drewN | apply Kd.R_drew)); exact HO_138001.out) hb); have n3_ := Aside0.mk (blk_below (g := gb137) (o := .cells #[.int .i64 t133, .slice Ao13 t134.length co13] 26 (0, 0)) (by (with_reducible repeat (first | refine blk_drewN ?_ _ | refine blk_drew ?_ | refine blk_alloc ?_ _)); exact BK137.out) hb); have n4_ := Aside0.mk (below_step (by repeat (first | (with_reducible first | exact HB.out | apply below_alloc | apply pw_below_drewN | apply below_drew1 | refine below_set ?_ GE137.out) | exact HB.out)) hb); clear HO_14; clear HO_15; clear HO_138001; clear BK137; clear HB; have HO_14 := n0_; have HO_15 := n1_; have HO_138001 := n2_; have BK137 := n3_; have HB := n4_; clear n0_ n1_ n2_ n3_ n4_; (try clear hb); (try clear hb2); (try clear hk); (try clear hi); have hcz49_0 : w48.cell? ⟨gb137, 0, none⟩ = some (.int .i64 t133) := (blk_cell BK137.out 0).trans rfl; have hcz49_1 : w48.cell? ⟨gb137, 1, none⟩ = some (.slice Ao13 t134.length co13) := (blk_cell BK137.out 1).trans rfl; have hfz49_0 := blk_frozen BK137.out 0; have hfz49_1 := blk_frozen BK137.out 1))
                              have n0_ := Aside0.mk (Kd.R_drew HO_14.out)
                              have n1_ := Aside0.mk (Kd.R_drew HO_15.out)
                              have n2_ := Aside0.mk (Kd.R_drew HO_138001.out)
                              have n3_ := Aside0.mk (blk_drew BK137.out)
                              have n4_ := Aside0.mk (below_drew1 HB.out)
                              clear HO_14
                              clear HO_15
                              clear HO_138001
                              clear BK137
                              clear HB
                              have HO_14 := n0_
                              have HO_15 := n1_
                              have HO_138001 := n2_
                              have BK137 := n3_
                              have HB := n4_
                              clear n0_ n1_ n2_ n3_ n4_
                              have p150 : 0 ≤ (t149 : Int) := of_decide_eq_true (by first | (with_reducible assumption) | assumption)
                              have q150 : t149 < (t134.length : Int) := of_decide_eq_true (by first | (with_reducible assumption) | assumption)
                              obtain ⟨ad150, e150, hx150_0, hx150_1⟩ := at_T50 (Kd.R_reads' HO_138001.out).2.2 t149 p150 q150
                              cases e150
                              replace p150 := eq_true p150
                              replace q150 := eq_true q150
                              refine start_ (n := 11) (S := fun w' => w'.cell? ⟨gb137, 0, none⟩ = some (.int .i64 t133) ∧ w'.cell? ⟨gb137, 1, none⟩ = some (.slice (some ad150) t134.length co13) ∧ w'.cell? (ad150.add ((t149).toNat * 2)) = some (.int .i64 ((rd_T50 t134 t149).f0)) ∧ w'.cell? ⟨(ad150.add ((t149).toNat * 2)).block, (ad150.add ((t149).toNat * 2)).off + 1, none⟩ = some (.int .i64 ((rd_T50 t134 t149).f1))) (ds := []) #[false, false, false, false, false, false, false, false, false, false, false] (by kernel_rfl) rfl rfl ⟨(blk_cell BK137.out 0).trans rfl, (blk_cell BK137.out 1).trans rfl, hx150_0, hx150_1⟩ (fun hHeld => ?_); refine with_tabW plunderlaw7_DagLazy.tab19 plunderlaw7_DagLazy.bits19 (fun HT_ HW_ => ?_)
                              generalize w48.drew = w50 at HO_14 HO_15 HO_138001 BK137 HB hx150_0 hx150_1 hHeld ⊢
                              refine pure_ (i := 0) (N := some 68) (v := ?_) (a' := ?_) #[true, false, false, false, false, false, false, false, false, false, false] rfl rfl (any_of HT_.out (by kernel_rfl)) (fun _ _ _ h => h) (Or.inl ⟨by rfl, ?_⟩) ?_ ?_
                              rotate_left
                              · intro w'
                                go_simp
                                with_reducible rfl
                              rotate_left
                              · simp only [Act.put, List.setIfInBounds_toArray, List.set_cons_zero, List.set_cons_succ, i64_w, i32_w]
                                rfl
                              refine pure_ (i := 2) (N := some 70) (v := ?_) (a' := ?_) #[true, false, true, false, false, false, false, false, false, false, false] rfl rfl (any_of HT_.out (by kernel_rfl)) (fun _ _ _ h => h) (Or.inl ⟨by rfl, ?_⟩) ?_ ?_
                              rotate_left
                              · intro w'
                                go_simp
                                with_reducible rfl
                              rotate_left
                              · simp only [Act.put, List.setIfInBounds_toArray, List.set_cons_zero, List.set_cons_succ, i64_w, i32_w]
                                rfl
                              refine pure_ (i := 3) (N := some 71) (v := ?_) (a' := ?_) #[true, false, true, true, false, false, false, false, false, false, false] rfl rfl (any_of HT_.out (by kernel_rfl)) (fun _ _ _ h => h) (Or.inl ⟨by rfl, ?_⟩) ?_ ?_
                              rotate_left
                              · intro w'
                                go_simp
                                with_reducible rfl
                              rotate_left
                              · simp only [Act.put, List.setIfInBounds_toArray, List.set_cons_zero, List.set_cons_succ, i64_w, i32_w]
                                rfl
                              refine take_ (i := 1) (N := some 69) (v := ?_) (a' := ?_) #[true, true, true, true, false, false, false, false, false, false, false] rfl rfl (take_ofW HT_.out HW_.out (by kernel_rfl)) (fun _ _ _ h => h) (Or.inl ⟨by rfl, ?_⟩) hHeld ?_ ?_
                              rotate_left
                              · rintro w' ⟨s0, s1, s2, s3⟩
                                go_simp
                                with_reducible rfl
                              rotate_left
                              · simp only [Act.put, List.setIfInBounds_toArray, List.set_cons_zero, List.set_cons_succ, i64_w, i32_w]
                                rfl
                              refine take_ (i := 4) (N := some 72) (v := ?_) (a' := ?_) #[true, true, true, true, true, false, false, false, false, false, false] rfl rfl (take_ofW HT_.out HW_.out (by kernel_rfl)) (fun _ _ _ h => h) (Or.inl ⟨by rfl, ?_⟩) hHeld ?_ ?_
                              rotate_left
                              · rintro w' ⟨s0, s1, s2, s3⟩
                                go_simp
                                with_reducible rfl
                              rotate_left
                              · simp only [Act.put, List.setIfInBounds_toArray, List.set_cons_zero, List.set_cons_succ, i64_w, i32_w]
                                rfl
                              refine pure_ (i := 5) (N := some 73) (v := ?_) (a' := ?_) #[true, true, true, true, true, true, false, false, false, false, false] rfl rfl (any_of HT_.out (by kernel_rfl)) (fun _ _ _ h => h) (Or.inl ⟨by rfl, ?_⟩) ?_ ?_
                              rotate_left
                              · intro w'
                                go_simp
                                with_reducible rfl
                              rotate_left
                              · simp only [Act.put, List.setIfInBounds_toArray, List.set_cons_zero, List.set_cons_succ, i64_w, i32_w]
                                rfl
                              refine join_ (σ := Nat) 1 #[true, true, true, true, true, true, true, true, true, true, false] (fun s_ => [(74, .int .i64 t149), (19, .pointer (some ⟨s_, 0, none⟩)), (75, .pointer (some (ad150.add ((t149).toNat * 2)))), (76, .agg #[.int .i64 ((rd_T50 t134 t149).f0), .int .i64 ((rd_T50 t134 t149).f1)])]) (fun s_ w' => (w'.cell? ⟨gb137, 0, none⟩ = some (.int .i64 t133) ∧ w'.cell? ⟨gb137, 1, none⟩ = some (.slice (some ad150) t134.length co13) ∧ w'.cell? (ad150.add ((t149).toNat * 2)) = some (.int .i64 ((rd_T50 t134 t149).f0)) ∧ w'.cell? ⟨(ad150.add ((t149).toNat * 2)).block, (ad150.add ((t149).toNat * 2)).off + 1, none⟩ = some (.int .i64 ((rd_T50 t134 t149).f1))) ∧ (Kd.R k50 50 w' w.heap.size (fun k_ => k_ ≠ s_) (.slice (some ad150) t134.length co13) t134) ∧ (Kd.R (Kd.int .i64) 3 w' w.heap.size (fun k_ => some k_ ≠ (.slice Ao47 x15_1.length co47 : Value).ownBlock) v141 t140) ∧ (Kd.R (Kd.int .i64) 3 w' w.heap.size (fun k_ => some k_ ≠ (v141 : Value).ownBlock) (.slice Ao47 x15_1.length co47) x15_1) ∧ (w'.heap[gb137]? = some (.cells #[.int .i64 t133, .slice (some ad150) t134.length co13] 26 (0, 0))) ∧ (w'.heap[s_]? = some (.cells #[.int .i64 0, .int .i64 0] 50 (0, 0))) ∧ (w.heap.size ≤ s_) ∧ (w.heap.size ≤ s_) ∧ (gb137 ≠ s_) ∧ (s_ ≠ gb137) ∧ (Below w.heap.size w w')) ?_ ?_
                              rotate_left
                              · intro hCont
                                refine two_ (i := 6) (j := 9) (Ni := some 74) (Nj := some 19) #[true, true, true, true, true, true, true, false, false, false, false] #[true, true, true, true, true, true, false, false, false, true, false] rfl rfl rfl rfl (two_of HT_.out (by kernel_rfl)) (by decide) (by decide) (fun K hK => ?_) (fun K hK => ?_)
                                · skip
                                  refine goes_ Try.func34 (by kernel_rfl) rfl #[.int .i64 a4, .int .i64 (t134.length : Int)] (by rfl) rfl rfl (by (try simp only [List.map_toArray, List.map_cons, List.map_nil]); first | done | rfl | (simp only [List.length_drop, List.length_take]; rfl)) ?_
                                  with_reducible refine (plunderlaw7_mod.calls a4 (t134.length : Int) t149 _ A35.out).mono ?_
                                  rintro e w' ⟨rfl, ⟨nd, rfl⟩⟩
                                  refine ⟨_, rfl, ?_⟩
                                  refine hK.out _ _ ⟨(blk_cell BK137.out 0).trans rfl, (blk_cell BK137.out 1).trans rfl, hHeld.2.2.1, hHeld.2.2.2⟩ (fun hHeld => ?_)
                                  clear hK K
                                  refine norm_ (a' := ?_) ?_ ?_
                                  rotate_left
                                  · show Act.put _ (some 74) _ = _
                                    simp only [Act.put, List.setIfInBounds_toArray, List.set_cons_zero, List.set_cons_succ, i64_w, i32_w]
                                    rfl
                                  refine pure_ (i := 7) (N := some 75) (v := ?_) (a' := ?_) #[true, true, true, true, true, true, true, true, false, false, false] rfl rfl (any_of HT_.out (by kernel_rfl)) (fun _ _ _ h => h) (Or.inl ⟨by rfl, ?_⟩) ?_ ?_
                                  rotate_left
                                  · intro w'
                                    go_simp
                                    with_reducible rfl
                                  rotate_left
                                  · simp only [Act.put, List.setIfInBounds_toArray, List.set_cons_zero, List.set_cons_succ, i64_w, i32_w]
                                    rfl
                                  refine take_ (i := 8) (N := some 76) (v := ?_) (a' := ?_) #[true, true, true, true, true, true, true, true, true, false, false] rfl rfl (take_ofW HT_.out HW_.out (by kernel_rfl)) (fun _ _ _ h => h) (Or.inl ⟨by rfl, ?_⟩) hHeld ?_ ?_
                                  rotate_left
                                  · rintro w' ⟨s0, s1, s2, s3⟩
                                    go_simp
                                    with_reducible rfl
                                  rotate_left
                                  · simp only [Act.put, List.setIfInBounds_toArray, List.set_cons_zero, List.set_cons_succ, i64_w, i32_w]
                                    rfl
                                  refine one_ (i := 9) (N := some 19) #[true, true, true, true, true, true, true, true, true, true, false] rfl rfl (one_of HT_.out (by kernel_rfl)) (by decide) (fun K hK => ?_)
                                  refine box_step ?hg (N := 19) ?hd (cs := #[.int .i64 0, .int .i64 0]) (t := 50) ?hr ?_; (case hd => rfl); (case hg => rfl); (case hr => first | (go_simp; done) | (go_simp; rfl))
                                  intro gb151 hg w51 hbox hb
                                  have HS2_ := (hb.cell (World.block_lt_of_cell? _ _ (hHeld.2.2.1))).trans (hHeld.2.2.1)
                                  have HS3_ := (hb.cell (World.block_lt_of_cell? _ _ (hHeld.2.2.2))).trans (hHeld.2.2.2)
                                  have n0_ := Aside0.mk (Kd.R_below (by (with_reducible repeat (first | apply Kd.R_alloc | apply Kd.R_drewN | apply Kd.R_drew)); exact HO_14.out) hb)
                                  have n1_ := Aside0.mk (Kd.R_below (by (with_reducible repeat (first | apply Kd.R_alloc | apply Kd.R_drewN | apply Kd.R_drew)); exact HO_15.out) hb)
                                  have n2_ := Aside0.mk (Kd.R_below (Kd.R_elderB (by (with_reducible repeat (first | apply Kd.R_alloc | apply Kd.R_drewN | apply Kd.R_drew)); exact HO_138001.out) gb151 (Nat.le_of_eq hg.symm)) hb)
                                  have n3_ := Aside0.mk (blk_below (g := gb137) (o := .cells #[.int .i64 t133, .slice (some ad150) t134.length co13] 26 (0, 0)) (by (with_reducible repeat (first | refine blk_drewN ?_ _ | refine blk_drew ?_ | refine blk_alloc ?_ _)); exact BK137.out) hb)
                                  have n4_ := Aside0.mk (below_step (by repeat (first | (with_reducible first | exact HB.out | apply below_alloc | apply pw_below_drewN | apply below_drew1 | refine below_set ?_ GE137.out) | exact HB.out)) hb)
                                  have n5_ := Aside0.mk (hbox)
                                  have n6_ := Aside0.mk ((by rw [hg]; exact (below_size (by repeat (first | (with_reducible first | exact HB.out | apply below_alloc | apply pw_below_drewN | apply below_drew1 | refine below_set ?_ GE137.out) | exact HB.out))) : w.heap.size ≤ gb151))
                                  have n7_ := Aside0.mk ((by rw [hg]; exact (below_size (by repeat (first | (with_reducible first | exact HB.out | apply below_alloc | apply pw_below_drewN | apply below_drew1 | refine below_set ?_ GE137.out) | exact HB.out))) : w.heap.size ≤ gb151))
                                  have n8_ := Aside0.mk ((by rw [hg]; exact Nat.ne_of_lt (blk_lt (g := gb137) (o := .cells #[.int .i64 t133, .slice (some ad150) t134.length co13] 26 (0, 0)) (by (with_reducible repeat (first | refine blk_drewN ?_ _ | refine blk_drew ?_ | refine blk_alloc ?_ _)); exact BK137.out)) : gb137 ≠ gb151))
                                  have n9_ := Aside0.mk ((by rw [hg]; exact Nat.ne_of_gt (blk_lt (g := gb137) (o := .cells #[.int .i64 t133, .slice (some ad150) t134.length co13] 26 (0, 0)) (by (with_reducible repeat (first | refine blk_drewN ?_ _ | refine blk_drew ?_ | refine blk_alloc ?_ _)); exact BK137.out)) : gb151 ≠ gb137))
                                  clear HO_14
                                  clear HO_15
                                  clear HO_138001
                                  clear BK137
                                  clear HB
                                  have HO_14 := n0_
                                  have HO_15 := n1_
                                  have HO_138001 := n2_
                                  have BK137 := n3_
                                  have HB := n4_
                                  have BK151 := n5_
                                  have GW151 := n6_
                                  have GE151 := n7_
                                  have NB137_151 := n8_
                                  have NB151_137 := n9_
                                  clear n0_ n1_ n2_ n3_ n4_ n5_ n6_ n7_ n8_ n9_
                                  clear hb hbox hg
                                  refine hK.out _ _ ⟨(blk_cell BK137.out 0).trans rfl, (blk_cell BK137.out 1).trans rfl, HS2_, HS3_⟩ (fun hHeld => ?_)
                                  clear hK K
                                  refine norm_ (a' := ?_) ?_ ?_
                                  rotate_left
                                  · show Act.put _ (some 19) _ = _
                                    simp only [Act.put, List.setIfInBounds_toArray, List.set_cons_zero, List.set_cons_succ, i64_w, i32_w]
                                    rfl
                                  exact norm_ (by simp only [putAll, Act.put, List.setIfInBounds_toArray, List.set_cons_zero, List.set_cons_succ]) (hCont (gb151) _ ⟨hHeld, (by (with_reducible repeat (first | apply Kd.R_alloc | apply Kd.R_drewN | apply Kd.R_drew)); exact Kd.R_mono HO_138001.out (fun _ hk => (by first | exact hk.2 | exact hk.1.2 | exact hk.1.1 | exact hk.1 | exact hk | exact own_len hk.1.2 | exact own_len hk.1.1 | exact own_len hk.1 | exact own_len hk.2 | exact own_len hk))), (by (with_reducible repeat (first | apply Kd.R_alloc | apply Kd.R_drewN | apply Kd.R_drew)); exact HO_14.out), (by (with_reducible repeat (first | apply Kd.R_alloc | apply Kd.R_drewN | apply Kd.R_drew)); exact HO_15.out), (by (with_reducible repeat (first | refine blk_drewN ?_ _ | refine blk_drew ?_ | refine blk_alloc ?_ _)); exact BK137.out), (by (with_reducible repeat (first | refine blk_drewN ?_ _ | refine blk_drew ?_ | refine blk_alloc ?_ _)); exact BK151.out), GW151.out, GE151.out, NB137_151.out, NB151_137.out, (by repeat (first | (with_reducible first | exact HB.out | apply below_alloc | apply pw_below_drewN | apply below_drew1 | refine below_set ?_ GE137.out | refine below_set ?_ GE151.out) | exact HB.out))⟩)
                                · skip
                                  refine box_step ?hg (N := 19) ?hd (cs := #[.int .i64 0, .int .i64 0]) (t := 50) ?hr ?_; (case hd => rfl); (case hg => rfl); (case hr => first | (go_simp; done) | (go_simp; rfl))
                                  intro gb151 hg w51 hbox hb
                                  have HS2_ := (hb.cell (World.block_lt_of_cell? _ _ (hHeld.2.2.1))).trans (hHeld.2.2.1)
                                  have HS3_ := (hb.cell (World.block_lt_of_cell? _ _ (hHeld.2.2.2))).trans (hHeld.2.2.2)
                                  have n0_ := Aside0.mk (Kd.R_below (by (with_reducible repeat (first | apply Kd.R_alloc | apply Kd.R_drewN | apply Kd.R_drew)); exact HO_14.out) hb)
                                  have n1_ := Aside0.mk (Kd.R_below (by (with_reducible repeat (first | apply Kd.R_alloc | apply Kd.R_drewN | apply Kd.R_drew)); exact HO_15.out) hb)
                                  have n2_ := Aside0.mk (Kd.R_below (Kd.R_elderB (by (with_reducible repeat (first | apply Kd.R_alloc | apply Kd.R_drewN | apply Kd.R_drew)); exact HO_138001.out) gb151 (Nat.le_of_eq hg.symm)) hb)
                                  have n3_ := Aside0.mk (blk_below (g := gb137) (o := .cells #[.int .i64 t133, .slice (some ad150) t134.length co13] 26 (0, 0)) (by (with_reducible repeat (first | refine blk_drewN ?_ _ | refine blk_drew ?_ | refine blk_alloc ?_ _)); exact BK137.out) hb)
                                  have n4_ := Aside0.mk (below_step (by repeat (first | (with_reducible first | exact HB.out | apply below_alloc | apply pw_below_drewN | apply below_drew1 | refine below_set ?_ GE137.out) | exact HB.out)) hb)
                                  have n5_ := Aside0.mk (hbox)
                                  have n6_ := Aside0.mk ((by rw [hg]; exact (below_size (by repeat (first | (with_reducible first | exact HB.out | apply below_alloc | apply pw_below_drewN | apply below_drew1 | refine below_set ?_ GE137.out) | exact HB.out))) : w.heap.size ≤ gb151))
                                  have n7_ := Aside0.mk ((by rw [hg]; exact (below_size (by repeat (first | (with_reducible first | exact HB.out | apply below_alloc | apply pw_below_drewN | apply below_drew1 | refine below_set ?_ GE137.out) | exact HB.out))) : w.heap.size ≤ gb151))
                                  have n8_ := Aside0.mk ((by rw [hg]; exact Nat.ne_of_lt (blk_lt (g := gb137) (o := .cells #[.int .i64 t133, .slice (some ad150) t134.length co13] 26 (0, 0)) (by (with_reducible repeat (first | refine blk_drewN ?_ _ | refine blk_drew ?_ | refine blk_alloc ?_ _)); exact BK137.out)) : gb137 ≠ gb151))
                                  have n9_ := Aside0.mk ((by rw [hg]; exact Nat.ne_of_gt (blk_lt (g := gb137) (o := .cells #[.int .i64 t133, .slice (some ad150) t134.length co13] 26 (0, 0)) (by (with_reducible repeat (first | refine blk_drewN ?_ _ | refine blk_drew ?_ | refine blk_alloc ?_ _)); exact BK137.out)) : gb151 ≠ gb137))
                                  clear HO_14
                                  clear HO_15
                                  clear HO_138001
                                  clear BK137
                                  clear HB
                                  have HO_14 := n0_
                                  have HO_15 := n1_
                                  have HO_138001 := n2_
                                  have BK137 := n3_
                                  have HB := n4_
                                  have BK151 := n5_
                                  have GW151 := n6_
                                  have GE151 := n7_
                                  have NB137_151 := n8_
                                  have NB151_137 := n9_
                                  clear n0_ n1_ n2_ n3_ n4_ n5_ n6_ n7_ n8_ n9_
                                  clear hb hbox hg
                                  refine hK.out _ _ ⟨(blk_cell BK137.out 0).trans rfl, (blk_cell BK137.out 1).trans rfl, HS2_, HS3_⟩ (fun hHeld => ?_)
                                  clear hK K
                                  refine norm_ (a' := ?_) ?_ ?_
                                  rotate_left
                                  · show Act.put _ (some 19) _ = _
                                    simp only [Act.put, List.setIfInBounds_toArray, List.set_cons_zero, List.set_cons_succ, i64_w, i32_w]
                                    rfl
                                  refine one_ (i := 6) (N := some 74) #[true, true, true, true, true, true, true, false, false, true, false] rfl rfl (one_of HT_.out (by kernel_rfl)) (by decide) (fun K hK => ?_)
                                  refine goes_ Try.func34 (by kernel_rfl) rfl #[.int .i64 a4, .int .i64 (t134.length : Int)] (by rfl) rfl rfl (by (try simp only [List.map_toArray, List.map_cons, List.map_nil]); first | done | rfl | (simp only [List.length_drop, List.length_take]; rfl)) ?_
                                  with_reducible refine (plunderlaw7_mod.calls a4 (t134.length : Int) t149 _ A35.out).mono ?_
                                  rintro e w' ⟨rfl, ⟨nd, rfl⟩⟩
                                  refine ⟨_, rfl, ?_⟩
                                  refine hK.out _ _ ⟨(blk_cell BK137.out 0).trans rfl, (blk_cell BK137.out 1).trans rfl, hHeld.2.2.1, hHeld.2.2.2⟩ (fun hHeld => ?_)
                                  clear hK K
                                  refine norm_ (a' := ?_) ?_ ?_
                                  rotate_left
                                  · show Act.put _ (some 74) _ = _
                                    simp only [Act.put, List.setIfInBounds_toArray, List.set_cons_zero, List.set_cons_succ, i64_w, i32_w]
                                    rfl
                                  refine pure_ (i := 7) (N := some 75) (v := ?_) (a' := ?_) #[true, true, true, true, true, true, true, true, false, true, false] rfl rfl (any_of HT_.out (by kernel_rfl)) (fun _ _ _ h => h) (Or.inl ⟨by rfl, ?_⟩) ?_ ?_
                                  rotate_left
                                  · intro w'
                                    go_simp
                                    with_reducible rfl
                                  rotate_left
                                  · simp only [Act.put, List.setIfInBounds_toArray, List.set_cons_zero, List.set_cons_succ, i64_w, i32_w]
                                    rfl
                                  refine take_ (i := 8) (N := some 76) (v := ?_) (a' := ?_) #[true, true, true, true, true, true, true, true, true, true, false] rfl rfl (take_ofW HT_.out HW_.out (by kernel_rfl)) (fun _ _ _ h => h) (Or.inl ⟨by rfl, ?_⟩) hHeld ?_ ?_
                                  rotate_left
                                  · rintro w' ⟨s0, s1, s2, s3⟩
                                    go_simp
                                    with_reducible rfl
                                  rotate_left
                                  · simp only [Act.put, List.setIfInBounds_toArray, List.set_cons_zero, List.set_cons_succ, i64_w, i32_w]
                                    rfl
                                  exact norm_ (by simp only [putAll, Act.put, List.setIfInBounds_toArray, List.set_cons_zero, List.set_cons_succ]) (hCont (gb151) _ ⟨hHeld, (by (with_reducible repeat (first | apply Kd.R_alloc | apply Kd.R_drewN | apply Kd.R_drew)); exact Kd.R_mono HO_138001.out (fun _ hk => (by first | exact hk.2 | exact hk.1.2 | exact hk.1.1 | exact hk.1 | exact hk | exact own_len hk.1.2 | exact own_len hk.1.1 | exact own_len hk.1 | exact own_len hk.2 | exact own_len hk))), (by (with_reducible repeat (first | apply Kd.R_alloc | apply Kd.R_drewN | apply Kd.R_drew)); exact HO_14.out), (by (with_reducible repeat (first | apply Kd.R_alloc | apply Kd.R_drewN | apply Kd.R_drew)); exact HO_15.out), (by (with_reducible repeat (first | refine blk_drewN ?_ _ | refine blk_drew ?_ | refine blk_alloc ?_ _)); exact BK137.out), (by (with_reducible repeat (first | refine blk_drewN ?_ _ | refine blk_drew ?_ | refine blk_alloc ?_ _)); exact BK151.out), GW151.out, GE151.out, NB137_151.out, NB151_137.out, (by repeat (first | (with_reducible first | exact HB.out | apply below_alloc | apply pw_below_drewN | apply below_drew1 | refine below_set ?_ GE137.out | refine below_set ?_ GE151.out) | exact HB.out))⟩)
                              rintro gb151 w52 ⟨hS_, h0_, h1_, h2_, h3_, h4_, h5_, h6_, h7_, h8_, h9_⟩
                              have n0_ : Aside0 (Kd.R k50 50 w52 w.heap.size (fun k_ => k_ ≠ gb151) (.slice (some ad150) t134.length co13) t134) := ⟨h0_⟩
                              have n1_ : Aside0 (Kd.R (Kd.int .i64) 3 w52 w.heap.size (fun k_ => some k_ ≠ (.slice Ao47 x15_1.length co47 : Value).ownBlock) v141 t140) := ⟨h1_⟩
                              have n2_ : Aside0 (Kd.R (Kd.int .i64) 3 w52 w.heap.size (fun k_ => some k_ ≠ (v141 : Value).ownBlock) (.slice Ao47 x15_1.length co47) x15_1) := ⟨h2_⟩
                              have n3_ : Aside0 (w52.heap[gb137]? = some (.cells #[.int .i64 t133, .slice (some ad150) t134.length co13] 26 (0, 0))) := ⟨h3_⟩
                              have n4_ : Aside0 (w52.heap[gb151]? = some (.cells #[.int .i64 0, .int .i64 0] 50 (0, 0))) := ⟨h4_⟩
                              have n5_ : Aside0 (w.heap.size ≤ gb151) := ⟨h5_⟩
                              have n6_ : Aside0 (w.heap.size ≤ gb151) := ⟨h6_⟩
                              have n7_ : Aside0 (gb137 ≠ gb151) := ⟨h7_⟩
                              have n8_ : Aside0 (gb151 ≠ gb137) := ⟨h8_⟩
                              have n9_ : Aside0 (Below w.heap.size w w52) := ⟨h9_⟩
                              clear HO_14
                              clear HO_15
                              clear HO_138001
                              clear BK137
                              clear HB
                              clear h0_ h1_ h2_ h3_ h4_ h5_ h6_ h7_ h8_ h9_
                              have HO_138001 := n0_
                              have HO_14 := n1_
                              have HO_15 := n2_
                              have BK137 := n3_
                              have BK151 := n4_
                              have GW151 := n5_
                              have GE151 := n6_
                              have NB137_151 := n7_
                              have NB151_137 := n8_
                              have HB := n9_
                              clear n0_ n1_ n2_ n3_ n4_ n5_ n6_ n7_ n8_ n9_
                              have hHeld : w52.cell? ⟨gb137, 0, none⟩ = some (.int .i64 t133) ∧ w52.cell? ⟨gb137, 1, none⟩ = some (.slice (some ad150) t134.length co13) ∧ w52.cell? (ad150.add ((t149).toNat * 2)) = some (.int .i64 ((rd_T50 t134 t149).f0)) ∧ w52.cell? ⟨(ad150.add ((t149).toNat * 2)).block, (ad150.add ((t149).toNat * 2)).off + 1, none⟩ = some (.int .i64 ((rd_T50 t134 t149).f1)) := hS_
                              refine norm_ (a' := ?_) ?_ ?_
                              rotate_left
                              · simp only [putAll, Act.put, List.setIfInBounds_toArray, List.set_cons_zero, List.set_cons_succ]
                                rfl
                              refine one_ (i := 10) (N := none) #[true, true, true, true, true, true, true, true, true, true, true] rfl rfl (one_of HT_.out (by kernel_rfl)) (by decide) (fun K hK => ?_)
                              have hs53 : w52.cell? ⟨gb151, 0, none⟩ = some (.int .i64 0) := (blk_cell BK151.out 0).trans rfl
                              have hfs53 := blk_frozen BK151.out 0
                              have hns53_0 := NB137_151.out
                              have hms53_0 := NB151_137.out
                              have hs54 : w52.cell? ⟨gb151, 1, none⟩ = some (.int .i64 0) := (blk_cell BK151.out 1).trans rfl
                              have hfs54 := blk_frozen BK151.out 1
                              have hns54_0 := NB137_151.out
                              have hms54_0 := NB151_137.out
                              refine skip_ (w1 := ?_) (by rfl) rfl ?_ ?_
                              rotate_left
                              · go_simp
                                rfl
                              refine hK.out _ _ ⟨((cell_far (p := ⟨gb151, _, none⟩) NB137_151.out _).trans (((cell_far (p := ⟨gb151, _, none⟩) NB137_151.out _).trans (hHeld.1)))), ((cell_far (p := ⟨gb151, _, none⟩) NB137_151.out _).trans (((cell_far (p := ⟨gb151, _, none⟩) NB137_151.out _).trans (hHeld.2.1)))), ((cell_far (p := ⟨gb151, _, none⟩) (by first | exact Kd.own_blk (Kd.R_away HO_138001.out (fun _ hk => (by first | exact hk | exact hk.1.2 | exact hk.1.1 | exact hk.1 | exact hk.2 | exact own_len hk.1.2 | exact own_len hk.1.1 | exact own_len hk.1 | exact own_len hk.2 | exact own_len hk))) | (rw [add_block]; exact Kd.own_blk (Kd.R_away HO_138001.out (fun _ hk => (by first | exact hk | exact hk.1.2 | exact hk.1.1 | exact hk.1 | exact hk.2 | exact own_len hk.1.2 | exact own_len hk.1.1 | exact own_len hk.1 | exact own_len hk.2 | exact own_len hk)))) | (show (Addr.add _ _).block ≠ _; rw [add_block]; exact Kd.own_blk (Kd.R_away HO_138001.out (fun _ hk => (by first | exact hk | exact hk.1.2 | exact hk.1.1 | exact hk.1 | exact hk.2 | exact own_len hk.1.2 | exact own_len hk.1.1 | exact own_len hk.1 | exact own_len hk.2 | exact own_len hk)))) | (dsimp only; exact Kd.own_blk (Kd.R_away HO_138001.out (fun _ hk => (by first | exact hk | exact hk.1.2 | exact hk.1.1 | exact hk.1 | exact hk.2 | exact own_len hk.1.2 | exact own_len hk.1.1 | exact own_len hk.1 | exact own_len hk.2 | exact own_len hk))))) _).trans (((cell_far (p := ⟨gb151, _, none⟩) (by first | exact Kd.own_blk (Kd.R_away HO_138001.out (fun _ hk => (by first | exact hk | exact hk.1.2 | exact hk.1.1 | exact hk.1 | exact hk.2 | exact own_len hk.1.2 | exact own_len hk.1.1 | exact own_len hk.1 | exact own_len hk.2 | exact own_len hk))) | (rw [add_block]; exact Kd.own_blk (Kd.R_away HO_138001.out (fun _ hk => (by first | exact hk | exact hk.1.2 | exact hk.1.1 | exact hk.1 | exact hk.2 | exact own_len hk.1.2 | exact own_len hk.1.1 | exact own_len hk.1 | exact own_len hk.2 | exact own_len hk)))) | (show (Addr.add _ _).block ≠ _; rw [add_block]; exact Kd.own_blk (Kd.R_away HO_138001.out (fun _ hk => (by first | exact hk | exact hk.1.2 | exact hk.1.1 | exact hk.1 | exact hk.2 | exact own_len hk.1.2 | exact own_len hk.1.1 | exact own_len hk.1 | exact own_len hk.2 | exact own_len hk)))) | (dsimp only; exact Kd.own_blk (Kd.R_away HO_138001.out (fun _ hk => (by first | exact hk | exact hk.1.2 | exact hk.1.1 | exact hk.1 | exact hk.2 | exact own_len hk.1.2 | exact own_len hk.1.1 | exact own_len hk.1 | exact own_len hk.2 | exact own_len hk))))) _).trans (hHeld.2.2.1)))), ((cell_far (p := ⟨gb151, _, none⟩) (by first | exact Kd.own_blk (Kd.R_away HO_138001.out (fun _ hk => (by first | exact hk | exact hk.1.2 | exact hk.1.1 | exact hk.1 | exact hk.2 | exact own_len hk.1.2 | exact own_len hk.1.1 | exact own_len hk.1 | exact own_len hk.2 | exact own_len hk))) | (rw [add_block]; exact Kd.own_blk (Kd.R_away HO_138001.out (fun _ hk => (by first | exact hk | exact hk.1.2 | exact hk.1.1 | exact hk.1 | exact hk.2 | exact own_len hk.1.2 | exact own_len hk.1.1 | exact own_len hk.1 | exact own_len hk.2 | exact own_len hk)))) | (show (Addr.add _ _).block ≠ _; rw [add_block]; exact Kd.own_blk (Kd.R_away HO_138001.out (fun _ hk => (by first | exact hk | exact hk.1.2 | exact hk.1.1 | exact hk.1 | exact hk.2 | exact own_len hk.1.2 | exact own_len hk.1.1 | exact own_len hk.1 | exact own_len hk.2 | exact own_len hk)))) | (dsimp only; exact Kd.own_blk (Kd.R_away HO_138001.out (fun _ hk => (by first | exact hk | exact hk.1.2 | exact hk.1.1 | exact hk.1 | exact hk.2 | exact own_len hk.1.2 | exact own_len hk.1.1 | exact own_len hk.1 | exact own_len hk.2 | exact own_len hk))))) _).trans (((cell_far (p := ⟨gb151, _, none⟩) (by first | exact Kd.own_blk (Kd.R_away HO_138001.out (fun _ hk => (by first | exact hk | exact hk.1.2 | exact hk.1.1 | exact hk.1 | exact hk.2 | exact own_len hk.1.2 | exact own_len hk.1.1 | exact own_len hk.1 | exact own_len hk.2 | exact own_len hk))) | (rw [add_block]; exact Kd.own_blk (Kd.R_away HO_138001.out (fun _ hk => (by first | exact hk | exact hk.1.2 | exact hk.1.1 | exact hk.1 | exact hk.2 | exact own_len hk.1.2 | exact own_len hk.1.1 | exact own_len hk.1 | exact own_len hk.2 | exact own_len hk)))) | (show (Addr.add _ _).block ≠ _; rw [add_block]; exact Kd.own_blk (Kd.R_away HO_138001.out (fun _ hk => (by first | exact hk | exact hk.1.2 | exact hk.1.1 | exact hk.1 | exact hk.2 | exact own_len hk.1.2 | exact own_len hk.1.1 | exact own_len hk.1 | exact own_len hk.2 | exact own_len hk)))) | (dsimp only; exact Kd.own_blk (Kd.R_away HO_138001.out (fun _ hk => (by first | exact hk | exact hk.1.2 | exact hk.1.1 | exact hk.1 | exact hk.2 | exact own_len hk.1.2 | exact own_len hk.1.1 | exact own_len hk.1 | exact own_len hk.2 | exact own_len hk))))) _).trans (hHeld.2.2.2))))⟩ (fun hHeld => ?_)
                              clear hK K
                              refine done_ (done_of HT_.out (by kernel_rfl)) ?_
                              have n0_ : Aside0 (Kd.R (Kd.int .i64) 3 ((w52.setCell ⟨gb151, 0, none⟩ (.int .i64 ((rd_T50 t134 t149).f0))).setCell ⟨gb151, 1, none⟩ (.int .i64 ((rd_T50 t134 t149).f1))) w.heap.size (fun k_ => some k_ ≠ (.slice Ao47 x15_1.length co47 : Value).ownBlock) v141 t140) := ⟨by (with_reducible repeat (first | apply Kd.R_alloc | apply Kd.R_drewN | apply Kd.R_drew)); exact Kd.R_mono (Kd.R_far (p := ⟨gb151, 1, none⟩) (Kd.R_far (p := ⟨gb151, 0, none⟩) (Kd.R_types HO_14.out BK151.out (by decide)) (fun _ hk => hk.2) (.int .i64 ((rd_T50 t134 t149).f0))) (fun _ hk => hk.2) (.int .i64 ((rd_T50 t134 t149).f1))) (fun _ hk => (by first | exact hk.1 | exact hk.1.2 | exact hk.1.1 | exact hk.2 | exact hk | exact own_len hk.1.2 | exact own_len hk.1.1 | exact own_len hk.1 | exact own_len hk.2 | exact own_len hk))⟩
                              have n1_ : Aside0 (Kd.R (Kd.int .i64) 3 ((w52.setCell ⟨gb151, 0, none⟩ (.int .i64 ((rd_T50 t134 t149).f0))).setCell ⟨gb151, 1, none⟩ (.int .i64 ((rd_T50 t134 t149).f1))) w.heap.size (fun k_ => some k_ ≠ (v141 : Value).ownBlock) (.slice Ao47 x15_1.length co47) x15_1) := ⟨by (with_reducible repeat (first | apply Kd.R_alloc | apply Kd.R_drewN | apply Kd.R_drew)); exact Kd.R_mono (Kd.R_far (p := ⟨gb151, 1, none⟩) (Kd.R_far (p := ⟨gb151, 0, none⟩) (Kd.R_types HO_15.out BK151.out (by decide)) (fun _ hk => hk.2) (.int .i64 ((rd_T50 t134 t149).f0))) (fun _ hk => hk.2) (.int .i64 ((rd_T50 t134 t149).f1))) (fun _ hk => (by first | exact hk.1 | exact hk.1.2 | exact hk.1.1 | exact hk.2 | exact hk | exact own_len hk.1.2 | exact own_len hk.1.1 | exact own_len hk.1 | exact own_len hk.2 | exact own_len hk))⟩
                              have n2_ : Aside0 (Kd.R k50 50 ((w52.setCell ⟨gb151, 0, none⟩ (.int .i64 ((rd_T50 t134 t149).f0))).setCell ⟨gb151, 1, none⟩ (.int .i64 ((rd_T50 t134 t149).f1))) w.heap.size (fun k_ => k_ ≠ gb151) (.slice (some ad150) t134.length co13) t134) := ⟨by (with_reducible repeat (first | apply Kd.R_alloc | apply Kd.R_drewN | apply Kd.R_drew)); exact Kd.R_mono (Kd.R_far (p := ⟨gb151, 1, none⟩) (Kd.R_far (p := ⟨gb151, 0, none⟩) (Kd.R_mono HO_138001.out (fun k_ hk => (⟨hk, (by first | exact hk | exact hk.1.2 | exact hk.1.1 | exact hk.1 | exact hk.2 | exact own_len hk.1.2 | exact own_len hk.1.1 | exact own_len hk.1 | exact own_len hk.2 | exact own_len hk)⟩ : _ ∧ k_ ≠ gb151))) (fun _ hk => hk.2) (.int .i64 ((rd_T50 t134 t149).f0))) (fun _ hk => hk.2) (.int .i64 ((rd_T50 t134 t149).f1))) (fun _ hk => (by first | exact hk.1 | exact hk.1.2 | exact hk.1.1 | exact hk.2 | exact hk | exact own_len hk.1.2 | exact own_len hk.1.1 | exact own_len hk.1 | exact own_len hk.2 | exact own_len hk))⟩
                              have n3_ : Aside0 (((w52.setCell ⟨gb151, 0, none⟩ (.int .i64 ((rd_T50 t134 t149).f0))).setCell ⟨gb151, 1, none⟩ (.int .i64 ((rd_T50 t134 t149).f1))).heap[gb137]? = some (.cells #[.int .i64 t133, .slice (some ad150) t134.length co13] 26 (0, 0))) := ⟨by (with_reducible repeat (first | refine blk_drewN ?_ _ | refine blk_drew ?_ | refine blk_alloc ?_ _)); refine blk_far ?_ NB137_151.out _; (with_reducible repeat (first | refine blk_drewN ?_ _ | refine blk_drew ?_ | refine blk_alloc ?_ _)); refine blk_far ?_ NB137_151.out _; (with_reducible repeat (first | refine blk_drewN ?_ _ | refine blk_drew ?_ | refine blk_alloc ?_ _)); exact BK137.out⟩
                              have n4_ : Aside0 (((w52.setCell ⟨gb151, 0, none⟩ (.int .i64 ((rd_T50 t134 t149).f0))).setCell ⟨gb151, 1, none⟩ (.int .i64 ((rd_T50 t134 t149).f1))).heap[gb151]? = some (.cells #[.int .i64 ((rd_T50 t134 t149).f0), .int .i64 ((rd_T50 t134 t149).f1)] 50 (0, 0))) := ⟨by (with_reducible repeat (first | refine blk_drewN ?_ _ | refine blk_drew ?_ | refine blk_alloc ?_ _)); refine blk_put (cs := #[.int .i64 ((rd_T50 t134 t149).f0), .int .i64 0]) ?_ 1 _ rfl; (with_reducible repeat (first | refine blk_drewN ?_ _ | refine blk_drew ?_ | refine blk_alloc ?_ _)); refine blk_put (cs := #[.int .i64 0, .int .i64 0]) ?_ 0 _ rfl; (with_reducible repeat (first | refine blk_drewN ?_ _ | refine blk_drew ?_ | refine blk_alloc ?_ _)); exact BK151.out⟩
                              have n5_ : Aside0 (Below w.heap.size w ((w52.setCell ⟨gb151, 0, none⟩ (.int .i64 ((rd_T50 t134 t149).f0))).setCell ⟨gb151, 1, none⟩ (.int .i64 ((rd_T50 t134 t149).f1)))) := ⟨by repeat (first | (with_reducible first | exact HB.out | apply below_alloc | apply pw_below_drewN | apply below_drew1 | refine below_set ?_ GE137.out | refine below_set ?_ GE151.out) | exact HB.out)⟩
                              (try clear HO_14)
                              (try clear HO_15)
                              (try clear HO_138001)
                              (try clear BK137)
                              (try clear BK151)
                              (try clear HB)
                              generalize ((w52.setCell ⟨gb151, 0, none⟩ (.int .i64 ((rd_T50 t134 t149).f0))).setCell ⟨gb151, 1, none⟩ (.int .i64 ((rd_T50 t134 t149).f1))) = w55 at n0_ n1_ n2_ n3_ n4_ n5_ ⊢
                              have HO_14 := n0_
                              have HO_15 := n1_
                              have HO_138001 := n2_
                              have BK137 := n3_
                              have BK151 := n4_
                              have HB := n5_
                              clear n0_ n1_ n2_ n3_ n4_ n5_
                              have hnb56 := NB151_137.out
                              have hnc56 := NB137_151.out
                              have hcz57_0 : w55.cell? ⟨gb151, 0, none⟩ = some (.int .i64 ((rd_T50 t134 t149).f0)) := (blk_cell BK151.out 0).trans rfl
                              have hcz57_1 : w55.cell? ⟨gb151, 1, none⟩ = some (.int .i64 ((rd_T50 t134 t149).f1)) := (blk_cell BK151.out 1).trans rfl
                              have hfz57_0 := blk_frozen BK151.out 0
                              have hfz57_1 := blk_frozen BK151.out 1
                              obtain ⟨Ao58, co58, eo58⟩ := Kd.R_slice HO_14.out
                              subst eo58
                              have p152 : 0 ≤ (((rd_T50 t134 t149).f1) : Int) := of_decide_eq_true (by first | (with_reducible assumption) | assumption)
                              have q152 : ((rd_T50 t134 t149).f1) < (t140.length : Int) := of_decide_eq_true (by first | (with_reducible assumption) | assumption)
                              obtain ⟨ad152, e152, hx152_0⟩ := Kd.at_int (Kd.R_reads' HO_14.out).2.2 ((rd_T50 t134 t149).f1) p152 q152
                              cases e152
                              replace p152 := eq_true p152
                              replace q152 := eq_true q152
                              have p153 : 0 ≤ (((rd_T50 t134 t149).f0) : Int) := of_decide_eq_true (by first | (with_reducible assumption) | assumption)
                              have q153 : ((rd_T50 t134 t149).f0) < (t140.length : Int) := of_decide_eq_true (by first | (with_reducible assumption) | assumption)
                              obtain ⟨ad153, e153, hx153_0⟩ := Kd.at_int (Kd.R_reads' HO_14.out).2.2 ((rd_T50 t134 t149).f0) p153 q153
                              obtain rfl : ad152 = ad153 := (by injection e153)
                              replace p153 := eq_true p153
                              replace q153 := eq_true q153
                              have p42 : 0 ≤ (((rd_T50 t134 t149).f0) : Int) := of_decide_eq_true (by first | (with_reducible assumption) | assumption)
                              have q42 : (((rd_T50 t134 t149).f0) : Int) < ((t140.length : Int) : Int) := of_decide_eq_true (by first | (with_reducible assumption) | assumption)
                              obtain ⟨go42, co42, eo42, gb42, gl42, cl42, HG42⟩ := Kd.R_form HO_14.out (by omega)
                              (first | cases eo42 | (injection eo42 with ea_ en_ ec_; (first | subst ea_ | (injection ea_ with ea_; subst ea_)); subst ec_; clear en_))
                              have GB42 := Aside0.mk gb42
                              have GG42 := Aside0.mk HG42
                              clear gb42 gl42 HG42
                              (first | simp only [add_plain] at hx152_0 | skip)
                              (first | simp only [add_plain] at hx153_0 | skip)
                              obtain ⟨hx42_0, hf42_0⟩ := Kd.R_celln 0 HO_14.out (((rd_T50 t134 t149).f0) : Int) p42 q42
                              replace p42 := eq_true p42
                              replace q42 := eq_true q42
                              obtain ⟨hy59_, hz59_⟩ := Kd.R_celln 0 HO_14.out (((rd_T50 t134 t149).f0) : Int) (of_decide_eq_true (by first | (with_reducible assumption) | assumption)) (of_decide_eq_true (by first | (with_reducible assumption) | assumption))
                              have HP59 := Kd.R_putg HO_14.out (((rd_T50 t134 t149).f0) : Int) (rd t140 ((rd_T50 t134 t149).f1))
                              have p43 : 0 ≤ (((rd_T50 t134 t149).f1) : Int) := of_decide_eq_true (by first | (with_reducible assumption) | assumption)
                              have q43 : (((rd_T50 t134 t149).f1) : Int) < ((t140.length : Int) : Int) := of_decide_eq_true (by first | (with_reducible assumption) | assumption)
                              obtain ⟨hx43_0, hf43_0⟩ := Kd.R_celln 0 HO_14.out (((rd_T50 t134 t149).f1) : Int) p43 q43
                              replace p43 := eq_true p43
                              replace q43 := eq_true q43
                              have hne1 : ¬ ((((rd_T50 t134 t149).f0) : Int).toNat = (((rd_T50 t134 t149).f1) : Int).toNat) := fun h_ => HNE.out (by have h1_ := of_eq_true p43; have h2_ := of_eq_true p42; omega)
                              have hne2 : ¬ ((((rd_T50 t134 t149).f1) : Int).toNat = (((rd_T50 t134 t149).f0) : Int).toNat) := fun h_ => hne1 h_.symm
                              obtain ⟨w60, hw0⟩ : ∃ w_, w_ = w55.setCell ⟨go42, (((rd_T50 t134 t149).f0) : Int).toNat, none⟩ (.int .i64 (rd t140 ((rd_T50 t134 t149).f1))) := ⟨_, rfl⟩
                              have HW60 := Aside0.mk hw0
                              clear hw0
                              have hbt : ¬ (go42 = gb151) := fun h_ => (Kd.R_ne HO_14.out BK151.out (by decide)) (by rw [← h_]; rfl)
                              have hbt2 : ¬ (gb151 = go42) := fun h_ => hbt h_.symm
                              go_wp2_with fail
                              go_region
                              generalize hw9 : World.drew _ = w64
                              have HW64 := Aside0.mk hw9
                              clear hw9 hx42_0 hf42_0 hx43_0 hf43_0 hx152_0 hx153_0 hcz57_0 hcz57_1 hfz57_0 hfz57_1 hne1 hne2 hy59_ hz59_
                              have hw := HW60.out
                              have hg : w55.grownBy w60 (some go42) := (by rw [hw]; exact HP59.2)
                              have hp_ : Kd.R (Kd.int .i64) 3 w60 w.heap.size (fun k_ => some k_ ≠ (.slice Ao47 x15_1.length co47 : Value).ownBlock) (.slice (some ⟨go42, 0, none⟩) t140.length co58) y154 := (by rw [hw, Ny154.out]; exact HP59.1)
                              clear HP59
                              have n0_ := Aside0.mk (hp_)
                              have n1_ := Aside0.mk (Kd.R_after (v := (.slice (some ⟨go42, 0, none⟩) t140.length co58)) (v1 := (.slice (some ⟨go42, 0, none⟩) t140.length co58)) (ok := (fun _ => True)) (by (with_reducible repeat (first | apply Kd.R_alloc | apply Kd.R_drewN | apply Kd.R_drew)); exact Kd.R_mono HO_15.out (fun _ hk => ⟨trivial, (by first | exact hk | exact hk.1.2 | exact hk.1.1 | exact hk.1 | exact hk.2 | exact own_len hk.1.2 | exact own_len hk.1.1 | exact own_len hk.1 | exact own_len hk.2 | exact own_len hk)⟩)) hg (.inl rfl))
                              have n2_ := Aside0.mk (Kd.R_over' (v := (.slice (some ⟨go42, 0, none⟩) t140.length co58)) (by (with_reducible repeat (first | apply Kd.R_alloc | apply Kd.R_drewN | apply Kd.R_drew)); exact HO_138001.out) (Kd.R_typed HO_14.out) (by decide) hg)
                              have n3_ := Aside0.mk (blk_grown (g := gb137) (o := .cells #[.int .i64 t133, .slice (some ad150) t134.length co13] 26 (0, 0)) (by (with_reducible repeat (first | refine blk_drewN ?_ _ | refine blk_drew ?_ | refine blk_alloc ?_ _)); exact BK137.out) hg (Kd.R_ne HO_14.out BK137.out (by decide)))
                              have n4_ := Aside0.mk (blk_grown (g := gb151) (o := .cells #[.int .i64 ((rd_T50 t134 t149).f0), .int .i64 ((rd_T50 t134 t149).f1)] 50 (0, 0)) (by (with_reducible repeat (first | refine blk_drewN ?_ _ | refine blk_drew ?_ | refine blk_alloc ?_ _)); exact BK151.out) hg (Kd.R_ne HO_14.out BK151.out (by decide)))
                              have n5_ := Aside0.mk ((by rw [hw]; exact below_set (HB.out) GB42.out : Below w.heap.size w w60))
                              clear HO_14
                              clear HO_15
                              clear HO_138001
                              clear BK137
                              clear BK151
                              clear HB
                              have HO_14 := n0_
                              have HO_15 := n1_
                              have HO_138001 := n2_
                              have BK137 := n3_
                              have BK151 := n4_
                              have HB := n5_
                              clear n0_ n1_ n2_ n3_ n4_ n5_
                              clear hg hw hp_
                              have HP62 := Kd.R_putg HO_14.out (((rd_T50 t134 t149).f1) : Int) (rd t140 ((rd_T50 t134 t149).f0))
                              obtain ⟨w63, hw⟩ : ∃ w_, w_ = w60.setCell ⟨go42, (((rd_T50 t134 t149).f1) : Int).toNat, none⟩ (.int .i64 (rd t140 ((rd_T50 t134 t149).f0))) := ⟨_, rfl⟩
                              have HW63 := Aside0.mk hw
                              have hg : w60.grownBy w63 (some go42) := (by rw [hw]; exact HP62.2)
                              have hp_ : Kd.R (Kd.int .i64) 3 w63 w.heap.size (fun k_ => some k_ ≠ (.slice Ao47 x15_1.length co47 : Value).ownBlock) (.slice (some ⟨go42, 0, none⟩) t140.length co58) y155 := (by rw [hw, Ny155.out]; exact HP62.1)
                              clear HP62
                              have n0_ := Aside0.mk (hp_)
                              have n1_ := Aside0.mk (Kd.R_after (v := (.slice (some ⟨go42, 0, none⟩) t140.length co58)) (v1 := (.slice (some ⟨go42, 0, none⟩) t140.length co58)) (ok := (fun _ => True)) (by (with_reducible repeat (first | apply Kd.R_alloc | apply Kd.R_drewN | apply Kd.R_drew)); exact HO_15.out) hg (.inl rfl))
                              have n2_ := Aside0.mk (Kd.R_over' (v := (.slice (some ⟨go42, 0, none⟩) t140.length co58)) (by (with_reducible repeat (first | apply Kd.R_alloc | apply Kd.R_drewN | apply Kd.R_drew)); exact HO_138001.out) (Kd.R_typed HO_14.out) (by decide) hg)
                              have n3_ := Aside0.mk (blk_grown (g := gb137) (o := .cells #[.int .i64 t133, .slice (some ad150) t134.length co13] 26 (0, 0)) (by (with_reducible repeat (first | refine blk_drewN ?_ _ | refine blk_drew ?_ | refine blk_alloc ?_ _)); exact BK137.out) hg (Kd.R_ne HO_14.out BK137.out (by decide)))
                              have n4_ := Aside0.mk (blk_grown (g := gb151) (o := .cells #[.int .i64 ((rd_T50 t134 t149).f0), .int .i64 ((rd_T50 t134 t149).f1)] 50 (0, 0)) (by (with_reducible repeat (first | refine blk_drewN ?_ _ | refine blk_drew ?_ | refine blk_alloc ?_ _)); exact BK151.out) hg (Kd.R_ne HO_14.out BK151.out (by decide)))
                              have n5_ := Aside0.mk ((by rw [hw]; exact below_set (HB.out) GB42.out : Below w.heap.size w w63))
                              clear HO_14
                              clear HO_15
                              clear HO_138001
                              clear BK137
                              clear BK151
                              clear HB
                              have HO_14 := n0_
                              have HO_15 := n1_
                              have HO_138001 := n2_
                              have BK137 := n3_
                              have BK151 := n4_
                              have HB := n5_
                              clear n0_ n1_ n2_ n3_ n4_ n5_
                              clear hg hw hp_
                              have hw64 : w64 = w63.drew := by rw [← HW64.out, HW63.out, HW60.out]
                              have n0_ := Aside0.mk (show Kd.R (Kd.int .i64) 3 w64 w.heap.size (fun k_ => some k_ ≠ (.slice Ao47 x15_1.length co47 : Value).ownBlock) (.slice (some ⟨go42, 0, none⟩) t140.length co58) y155 from by rw [hw64]; exact Kd.R_drew HO_14.out)
                              have n1_ := Aside0.mk (show Kd.R (Kd.int .i64) 3 w64 w.heap.size _ (.slice Ao47 x15_1.length co47) x15_1 from by rw [hw64]; exact Kd.R_drew HO_15.out)
                              have n2_ := Aside0.mk (show Kd.R k50 50 w64 w.heap.size _ (.slice (some ad150) t134.length co13) t134 from by rw [hw64]; exact Kd.R_drew HO_138001.out)
                              have n3_ := Aside0.mk (show w64.heap[gb137]? = some (.cells #[.int .i64 t133, .slice (some ad150) t134.length co13] 26 (0, 0)) from by rw [hw64]; exact blk_drew BK137.out)
                              have n4_ := Aside0.mk (show w64.heap[gb151]? = some (.cells #[.int .i64 (((rd_T50 t134 t149).f0)), .int .i64 (((rd_T50 t134 t149).f1))] 50 (0, 0)) from by rw [hw64]; exact blk_drew BK151.out)
                              have n5_ := Aside0.mk (show Below w.heap.size w w64 from by rw [hw64]; exact below_drew1 HB.out)
                              clear HO_14 HO_15 HO_138001 BK137 BK151 HB hw64 HW64 HW63 HW60
                              have HO_14 := n0_
                              have HO_15 := n1_
                              have HO_138001 := n2_
                              have BK137 := n3_
                              have BK151 := n4_
                              have HB := n5_
                              clear n0_ n1_ n2_ n3_ n4_ n5_
                              have hcz64_0 : w64.cell? ⟨gb137, 0, none⟩ = some (.int .i64 t133) := (blk_cell BK137.out 0).trans rfl
                              have hcz64_1 : w64.cell? ⟨gb137, 1, none⟩ = some (.slice (some ad150) t134.length co13) := (blk_cell BK137.out 1).trans rfl
                              have hfz64_0 := blk_frozen BK137.out 0
                              have hfz64_1 := blk_frozen BK137.out 1
                              go_wp2_with (first | ((with_reducible refine gate_callee (f := 35) rfl ?_); refine goesL_ (some 99) rfl rfl Try.func35 (by kernel_rfl) rfl #[.agg #[.int .i64 t133, .slice (some ad150) t134.length co13], .int .i64 (wrap64 (1 + t138)), .slice (some ⟨go42, 0, none⟩) y155.length co58] rfl (by (try simp only [List.map_toArray, List.map_cons, List.map_nil]); first | done | (rw [show y155.length = t140.length from (Kd.R_reads' HO_14.out).1.symm] <;> rfl) | rfl | (simp only [List.length_drop, List.length_take]; rfl)) ?_; (with_reducible refine (dag_Judge.calls k1 t133 _ _ t134 (wrap64 (1 + t138)) _ _ y155 t156 t157 _ ?side1 ?side2 ?side3 ?side4 A44.out).mono ?_); (case side1 => repeat (first | exact (Kd.R_reads' HO_138001.out).2.2 | (with_reducible refine Kd.C_alloc ?_ _) | (with_reducible refine Kd.C_drewN ?_ _) | (with_reducible refine Kd.C_drew ?_))); (case side2 => exact (Kd.R_reads' HO_138001.out).2.1); (case side3 => repeat (first | exact (Kd.R_reads' HO_14.out).2.2 | (with_reducible refine Kd.C_alloc ?_ _) | (with_reducible refine Kd.C_drewN ?_ _) | (with_reducible refine Kd.C_drew ?_))); (case side4 => rw [show y155.length = t140.length from (Kd.R_reads' HO_14.out).1.symm]; exact (Kd.R_reads' HO_14.out).2.1); rintro e w65 ⟨rfl, hb⟩; refine ⟨_, rfl, ?_⟩; have n0_ := Aside0.mk (Kd.R_below (by (with_reducible repeat (first | apply Kd.R_alloc | apply Kd.R_drewN | apply Kd.R_drew)); exact HO_14.out) hb); have n1_ := Aside0.mk (Kd.R_below (by (with_reducible repeat (first | apply Kd.R_alloc | apply Kd.R_drewN | apply Kd.R_drew)); exact HO_15.out) hb); have n2_ := Aside0.mk (Kd.R_below (by (with_reducible repeat (first | apply Kd.R_alloc | apply Kd.R_drewN | apply Kd.R_drew)); exact HO_138001.out) hb); have n3_ := Aside0.mk (blk_below (g := gb137) (o := .cells #[.int .i64 t133, .slice (some ad150) t134.length co13] 26 (0, 0)) (by (with_reducible repeat (first | refine blk_drewN ?_ _ | refine blk_drew ?_ | refine blk_alloc ?_ _)); exact BK137.out) hb); have n4_ := Aside0.mk (blk_below (g := gb151) (o := .cells #[.int .i64 ((rd_T50 t134 t149).f0), .int .i64 ((rd_T50 t134 t149).f1)] 50 (0, 0)) (by (with_reducible repeat (first | refine blk_drewN ?_ _ | refine blk_drew ?_ | refine blk_alloc ?_ _)); exact BK151.out) hb); have n5_ := Aside0.mk (below_step (by repeat (first | (with_reducible first | exact HB.out | apply below_alloc | apply pw_below_drewN | apply below_drew1 | refine below_set ?_ GE137.out | refine below_set ?_ GE151.out) | exact HB.out)) hb); clear HO_14; clear HO_15; clear HO_138001; clear BK137; clear BK151; clear HB; have HO_14 := n0_; have HO_15 := n1_; have HO_138001 := n2_; have BK137 := n3_; have BK151 := n4_; have HB := n5_; clear n0_ n1_ n2_ n3_ n4_ n5_; (try clear hb); (try clear hb2); (try clear hk); (try clear hi)))
                              go_ret
                              exact ⟨by first | rfl | (simp [errW_none, errW_some] <;> rfl) | (simp [*, errW_none, errW_some] <;> rfl), by repeat (first | (with_reducible first | exact HB.out | apply below_alloc | apply pw_below_drewN | apply below_drew1 | refine below_set ?_ GE137.out | refine below_set ?_ GE151.out) | exact HB.out)⟩
                            · rw [if_neg c45] at H
                              exact absurd H (by simp)
                          · rw [if_neg c41] at H
                            exact absurd H (by simp)
                        · rw [if_neg c40] at H
                          exact absurd H (by simp)
                      · rw [if_neg c39] at H
                        exact absurd H (by simp)
                    · rw [if_neg c38] at H
                      exact absurd H (by simp)
                  · rw [if_neg c37] at H
                    exact absurd H (by simp)
                · rw [if_neg c36] at H
                  exact absurd H (by simp)
            · rw [if_neg c29] at H
              have c29b0 : (t147 == 1) = false := beq_eq_false_iff_ne.mpr c29
              have c29b1 : (t147 != 1) = true := bne_iff_ne.mpr c29
              obtain rfl := Option.some.inj H
              have hcz86_0 : wr.cell? ⟨gb137, 0, none⟩ = some (.int .i64 t133) := (blk_cell BK137.out 0).trans rfl
              have hcz86_1 : wr.cell? ⟨gb137, 1, none⟩ = some (.slice Ao13 t134.length co13) := (blk_cell BK137.out 1).trans rfl
              have hfz86_0 := blk_frozen BK137.out 0
              have hfz86_1 := blk_frozen BK137.out 1
              obtain ⟨Ao87, co87, eo87⟩ := Kd.R_slice HO_15.out
              subst eo87
              go_wp2_with (first | ((with_reducible refine gate_callee (f := 35) rfl ?_); refine goesL_ (some 52) rfl rfl Try.func35 (by kernel_rfl) rfl #[.agg #[.int .i64 t133, .slice Ao13 t134.length co13], .int .i64 (wrap64 (1 + t138)), .slice Ao87 x15_1.length co87] rfl (by (try simp only [List.map_toArray, List.map_cons, List.map_nil]); first | done | rfl | (simp only [List.length_drop, List.length_take]; rfl)) ?_; (with_reducible refine (dag_Judge.calls k1 t133 _ _ t134 (wrap64 (1 + t138)) _ _ x15_1 t147 t148 _ ?side1 ?side2 ?side3 ?side4 A22.out).mono ?_); (case side1 => repeat (first | exact (Kd.R_reads' HO_138001.out).2.2 | (with_reducible refine Kd.C_alloc ?_ _) | (with_reducible refine Kd.C_drewN ?_ _) | (with_reducible refine Kd.C_drew ?_))); (case side2 => exact (Kd.R_reads' HO_138001.out).2.1); (case side3 => repeat (first | exact (Kd.R_reads' HO_15.out).2.2 | (with_reducible refine Kd.C_alloc ?_ _) | (with_reducible refine Kd.C_drewN ?_ _) | (with_reducible refine Kd.C_drew ?_))); (case side4 => exact (Kd.R_reads' HO_15.out).2.1); rintro e w88 ⟨rfl, hb⟩; refine ⟨_, rfl, ?_⟩; have n0_ := Aside0.mk (Kd.R_below (by (with_reducible repeat (first | apply Kd.R_alloc | apply Kd.R_drewN | apply Kd.R_drew)); exact HO_14.out) hb); have n1_ := Aside0.mk (Kd.R_below (by (with_reducible repeat (first | apply Kd.R_alloc | apply Kd.R_drewN | apply Kd.R_drew)); exact HO_15.out) hb); have n2_ := Aside0.mk (Kd.R_below (by (with_reducible repeat (first | apply Kd.R_alloc | apply Kd.R_drewN | apply Kd.R_drew)); exact HO_138001.out) hb); have n3_ := Aside0.mk (blk_below (g := gb137) (o := .cells #[.int .i64 t133, .slice Ao13 t134.length co13] 26 (0, 0)) (by (with_reducible repeat (first | refine blk_drewN ?_ _ | refine blk_drew ?_ | refine blk_alloc ?_ _)); exact BK137.out) hb); have n4_ := Aside0.mk (below_step (by repeat (first | (with_reducible first | exact HB.out | apply below_alloc | apply pw_below_drewN | apply below_drew1 | refine below_set ?_ GE137.out) | exact HB.out)) hb); clear HO_14; clear HO_15; clear HO_138001; clear BK137; clear HB; have HO_14 := n0_; have HO_15 := n1_; have HO_138001 := n2_; have BK137 := n3_; have HB := n4_; clear n0_ n1_ n2_ n3_ n4_; (try clear hb); (try clear hb2); (try clear hk); (try clear hi); have hcz89_0 : w88.cell? ⟨gb137, 0, none⟩ = some (.int .i64 t133) := (blk_cell BK137.out 0).trans rfl; have hcz89_1 : w88.cell? ⟨gb137, 1, none⟩ = some (.slice Ao13 t134.length co13) := (blk_cell BK137.out 1).trans rfl; have hfz89_0 := blk_frozen BK137.out 0; have hfz89_1 := blk_frozen BK137.out 1))
              go_ret
              exact ⟨by first | rfl | (simp [errW_none, errW_some] <;> rfl) | (simp [*, errW_none, errW_some] <;> rfl), by repeat (first | (with_reducible first | exact HB.out | apply below_alloc | apply pw_below_drewN | apply below_drew1 | refine below_set ?_ GE137.out) | exact HB.out)⟩
        · rw [if_neg c23] at H
          have c23b0 : (t148 == 0) = false := beq_eq_false_iff_ne.mpr c23
          have c23b1 : (t148 != 0) = true := bne_iff_ne.mpr c23
          obtain rfl := Option.some.inj H
          have hcz90_0 : wr.cell? ⟨gb137, 0, none⟩ = some (.int .i64 t133) := (blk_cell BK137.out 0).trans rfl
          have hcz90_1 : wr.cell? ⟨gb137, 1, none⟩ = some (.slice Ao13 t134.length co13) := (blk_cell BK137.out 1).trans rfl
          have hfz90_0 := blk_frozen BK137.out 0
          have hfz90_1 := blk_frozen BK137.out 1
          obtain ⟨Ao91, co91, eo91⟩ := Kd.R_slice HO_15.out
          subst eo91
          go_wp2_with (first | ((with_reducible refine gate_callee (f := 35) rfl ?_); refine goesL_ (some 52) rfl rfl Try.func35 (by kernel_rfl) rfl #[.agg #[.int .i64 t133, .slice Ao13 t134.length co13], .int .i64 (wrap64 (1 + t138)), .slice Ao91 x15_1.length co91] rfl (by (try simp only [List.map_toArray, List.map_cons, List.map_nil]); first | done | rfl | (simp only [List.length_drop, List.length_take]; rfl)) ?_; (with_reducible refine (dag_Judge.calls k1 t133 _ _ t134 (wrap64 (1 + t138)) _ _ x15_1 t147 t148 _ ?side1 ?side2 ?side3 ?side4 A22.out).mono ?_); (case side1 => repeat (first | exact (Kd.R_reads' HO_138001.out).2.2 | (with_reducible refine Kd.C_alloc ?_ _) | (with_reducible refine Kd.C_drewN ?_ _) | (with_reducible refine Kd.C_drew ?_))); (case side2 => exact (Kd.R_reads' HO_138001.out).2.1); (case side3 => repeat (first | exact (Kd.R_reads' HO_15.out).2.2 | (with_reducible refine Kd.C_alloc ?_ _) | (with_reducible refine Kd.C_drewN ?_ _) | (with_reducible refine Kd.C_drew ?_))); (case side4 => exact (Kd.R_reads' HO_15.out).2.1); rintro e w92 ⟨rfl, hb⟩; refine ⟨_, rfl, ?_⟩; have n0_ := Aside0.mk (Kd.R_below (by (with_reducible repeat (first | apply Kd.R_alloc | apply Kd.R_drewN | apply Kd.R_drew)); exact HO_14.out) hb); have n1_ := Aside0.mk (Kd.R_below (by (with_reducible repeat (first | apply Kd.R_alloc | apply Kd.R_drewN | apply Kd.R_drew)); exact HO_15.out) hb); have n2_ := Aside0.mk (Kd.R_below (by (with_reducible repeat (first | apply Kd.R_alloc | apply Kd.R_drewN | apply Kd.R_drew)); exact HO_138001.out) hb); have n3_ := Aside0.mk (blk_below (g := gb137) (o := .cells #[.int .i64 t133, .slice Ao13 t134.length co13] 26 (0, 0)) (by (with_reducible repeat (first | refine blk_drewN ?_ _ | refine blk_drew ?_ | refine blk_alloc ?_ _)); exact BK137.out) hb); have n4_ := Aside0.mk (below_step (by repeat (first | (with_reducible first | exact HB.out | apply below_alloc | apply pw_below_drewN | apply below_drew1 | refine below_set ?_ GE137.out) | exact HB.out)) hb); clear HO_14; clear HO_15; clear HO_138001; clear BK137; clear HB; have HO_14 := n0_; have HO_15 := n1_; have HO_138001 := n2_; have BK137 := n3_; have HB := n4_; clear n0_ n1_ n2_ n3_ n4_; (try clear hb); (try clear hb2); (try clear hk); (try clear hi)))
          go_ret
          exact ⟨by first | rfl | (simp [errW_none, errW_some] <;> rfl) | (simp [*, errW_none, errW_some] <;> rfl), by repeat (first | (with_reducible first | exact HB.out | apply below_alloc | apply pw_below_drewN | apply below_drew1 | refine below_set ?_ GE137.out) | exact HB.out)⟩

end Go.Proofs.Ytbahnialbffkeaa.P
