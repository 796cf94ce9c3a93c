/- Written by a program: plain Lean functions that answer as Go functions of this seat do, and the proofs that the calls come to these answers. -/
import Derived.Test.YtbahnialbffkeaaJPx0
import Derived.Test.YtbahnialbffkeaaJPx4
import Derived.Test.YtbahnialbffkeaaJPx9
import Derived.Test.YtbahnialbffkeaaJPx21
import Derived.Test.YtbahnialbffkeaaJJudge
import Derived.Test.YtbahnialbffkeaaJRoom
namespace Go.Proofs.Ytbahnialbffkeaa.P
open Go.RowKit Go.Proofs.YtbahnialbffkeaaW.PrintWords Go.Proofs.YtbahnialbffkeaaW.PrintLast Go.Proofs.YtbahnialbffkeaaW.PrintMore
attribute [local go_sem] max2_int min2_int max_two min_two max_three min_three max_four min_four   -- for this text's walks alone
set_option linter.unusedVariables false
set_option linter.unusedSimpArgs false

theorem R_init {α : Type} {K : Kd α} {E : TypeId} {w : World} {base : Nat} {ok : Nat → Prop} {A : Option Addr} {n c : Nat} {x : List α} {y : α} (h : Kd.R K E w base ok (.slice A (n + 1) c) (x ++ [y])) : Kd.R K E w base ok (.slice A n c) x := by
  have e := (Kd.R_reads' h).1
  rw [List.length_append] at e
  simp only [List.length_cons, List.length_nil] at e
  obtain rfl : n = x.length := by omega
  have h2 := Kd.R_take (m := x.length) h (by simp)
  rw [List.take_left] at h2
  exact h2
theorem set_app {α : Type} (x : List α) (y v : α) (i : Nat) (h : i < x.length) : (x ++ [y]).set i v = x.set i v ++ [y] := by
  rw [List.set_append_left _ _ h]
theorem rd_snoc (x : List Int) (y : Int) : rd (x ++ [y]) (x.length : Int) = y := by
  unfold rd
  simp
mutual
def plunderlaw7_DagJudge.l0 : Nat → Int → List Int → List Int → Int → Int → List (S50) → Int → List (S50) → Option (Bool)
  | 0, _, _, _, _, _, _, _, _ => none
  | k + 1, x1, x2, x8, x9, x390000, x390001, x395000, x395001 => if x9 < (x2.length : Int) then (if 0 ≤ (wrap64 ((wrap64 ((x2.length : Int) - 1)) - x9)) then (if (wrap64 ((wrap64 ((x2.length : Int) - 1)) - x9)) < (x2.length : Int) then (if x8.length < 17592186044416 then (plunderlaw7_DagJudge.l0 k x1 x2 (x8 ++ [rd x2 (wrap64 ((wrap64 ((x2.length : Int) - 1)) - x9))]) (wrap64 (x9 + 1)) x390000 x390001 x395000 x395001) else (none)) else (none)) else (none)) else (if x8.length < 17592186044416 then ((dag_Judge.f k x395000 x395001 x1 x8).bind fun bt405 => ((plunderlaw7_back.f k x395000 x395001 x390000 x390001).bind fun t407 => ((dag_Judge.f k x395000 t407 x1 x8).bind fun bt408 => (plunderlaw7_DagJudge.l1 k x1 x2 x8 0 x390000 x390001 x395000 t407)))) else (none))
def plunderlaw7_DagJudge.l1 : Nat → Int → List Int → List Int → Int → Int → List (S50) → Int → List (S50) → Option (Bool)
  | 0, _, _, _, _, _, _, _, _ => none
  | k + 1, x1, x2, x8, x10, x390000, x390001, x395000, x395001 => if x10 < (x2.length : Int) then (if 0 ≤ x10 then (if x10 < (x8.length : Int) then (plunderlaw7_DagJudge.l1 k x1 x2 (x8.set (x10 : Int).toNat (rd x2 x10)) (wrap64 (x10 + 1)) x390000 x390001 x395000 x395001) else (none)) else (none)) else ((dag_Judge.f k x395000 x395001 x1 x8).bind fun bt412 => ((plunderref7_Judge.f k x390000 x390001 x1 x2).bind fun bt414 => (if bt412.1 = bt414.1 then (if bt412.2 = bt414.2 then (if x8.length < 4611686018427387904 then ((plunderlaw7_same.f k x8 x2).bind fun t421 => (if t421 = true then ((plunderlaw7_marked.f x395000 x395001).bind fun t422 => (if t422 = true then ((plunderlaw7_sameEdges.f k x395001 x390001).bind fun t423 => (some t423)) else (none))) else (none))) else (none)) else (some false)) else (some false))))
end
def plunderlaw7_DagJudge.f (k : Nat) (a0_0 : Int) (l0_1 : List (S50)) (a1 : Int) (l2 : List Int) : Option (Bool) := (plunderlaw7_moved.f k a0_0 l0_1).bind fun bt390 => (plunderlaw7_DagJudge.l0 k a1 l2 ([] : List Int) 0 a0_0 l0_1 bt390.1 bt390.2)
set_option maxHeartbeats 8000000 in
set_option maxRecDepth 100000 in
theorem plunderlaw7_DagJudge.calls (k : Nat) (a0_0 : Int) (A0_1 : Option Addr) (c0_1 : Nat) (l0_1 : List (S50)) (a1 : Int) (A2 : Option Addr) (c2 : Nat) (l2 : List Int) (r : Bool) (w : World) (hr0_1 : Kd.C k50 w A0_1 l0_1.length l0_1) (hc0_1 : l0_1.length ≤ c0_1) (hr2 : Kd.C (Kd.int .i64) w A2 l2.length l2) (hc2 : l2.length ≤ c2) (h : plunderlaw7_DagJudge.f k a0_0 l0_1 a1 l2 = some r) :
    Calls Try.prog 10 #[.agg #[.int .i64 a0_0, .slice A0_1 l0_1.length c0_1], .int .i64 a1, .slice A2 l2.length c2] w fun e w' => e = .returned (.bool r) ∧ Below w.heap.size w w' := by
  have hu26 := Try.underlying26
  have HR0_1 := Aside0.mk hr0_1
  have HC0_1 := Aside0.mk hc0_1
  clear hr0_1 hc0_1
  have HR2 := Aside0.mk hr2
  have HC2 := Aside0.mk hc2
  clear hr2 hc2
  have HB := Aside0.mk (Below.refl w.heap.size w)
  have H : ((plunderlaw7_moved.f k a0_0 l0_1).bind fun bt390 => (plunderlaw7_DagJudge.l0 k a1 l2 ([] : List Int) 0 a0_0 l0_1 bt390.1 bt390.2)) = some r := h
  clear h
  replace H := Option.bind_eq_some_iff.mp H
  obtain ⟨⟨t390, t391⟩, A40, H⟩ := H
  replace H : (plunderlaw7_DagJudge.l0 k a1 l2 ([] : List Int) 0 a0_0 l0_1 t390 t391) = some r := H
  have A4 := Aside0.mk A40
  clear A40
  have H' := Aside0.mk H
  clear H
  go_enter Try.func10, Try.ntmps10
  go_wp2_with (first | ((with_reducible refine gate_dst (N := 3) rfl ?_); (try (refine gate_guard (by rfl) ?_; dsimp only)); refine box_event ?hg (N := 3) ?hd (cs := #[.int .i64 a0_0, .slice A0_1 l0_1.length c0_1]) (t := 26) ?hr ?_; (case hd => rfl); (case hg => rfl); (case hr => first | (go_simp; done) | (go_simp; rfl)); intro gb389 hg w5 hbox hb; have n0_ := Aside0.mk (below_step (by repeat (first | (with_reducible first | exact HB.out | apply below_alloc | apply pw_below_drewN | apply below_drew1) | exact HB.out)) hb); have n1_ := Aside0.mk (hbox); have n2_ := Aside0.mk ((by rw [hg]; exact (below_size (by repeat (first | (with_reducible first | exact HB.out | apply below_alloc | apply pw_below_drewN | apply below_drew1) | exact HB.out))) : w.heap.size ≤ gb389)); have n3_ := Aside0.mk ((by rw [hg]; exact (below_size (by repeat (first | (with_reducible first | exact HB.out | apply below_alloc | apply pw_below_drewN | apply below_drew1) | exact HB.out))) : w.heap.size ≤ gb389)); clear HB; have HB := n0_; have BK389 := n1_; have GW389 := n2_; have GE389 := n3_; clear n0_ n1_ n2_ n3_; clear hb hbox hg; have hcz6_0 : w5.cell? ⟨gb389, 0, none⟩ = some (.int .i64 a0_0) := (blk_cell BK389.out 0).trans rfl; have hcz6_1 : w5.cell? ⟨gb389, 1, none⟩ = some (.slice A0_1 l0_1.length c0_1) := (blk_cell BK389.out 1).trans rfl; have hfz6_0 := blk_frozen BK389.out 0; have hfz6_1 := blk_frozen BK389.out 1) | ((with_reducible refine gate_callee (f := 17) rfl ?_); refine goesL_ (some 16) rfl rfl Try.func17 (by kernel_rfl) rfl #[.agg #[.int .i64 a0_0, .slice A0_1 l0_1.length c0_1]] rfl (by (try simp only [List.map_toArray, List.map_cons, List.map_nil]); first | done | rfl | (simp only [List.length_drop, List.length_take]; rfl)) ?_; (with_reducible refine (plunderlaw7_moved.calls k a0_0 _ _ l0_1 t390 t391 _ ?side1 ?side2 A4.out).mono ?_); (case side1 => repeat (first | exact (Kd.C_below HR0_1.out HB.out) | (with_reducible refine Kd.C_alloc ?_ _) | (with_reducible refine Kd.C_drewN ?_ _) | (with_reducible refine Kd.C_drew ?_))); (case side2 => exact HC0_1.out); rintro e w7 ⟨v392, rfl, ho0, hm0, hb⟩; refine ⟨_, rfl, ?_⟩; have n0_ := Aside0.mk (Kd.R_lower ho0 (below_size (by repeat (first | (with_reducible first | exact HB.out | apply below_alloc | apply pw_below_drewN | apply below_drew1 | refine below_set ?_ GE389.out) | exact HB.out)))); have m0_ := Aside0.mk (Kd.R_lower hm0 (below_size (by repeat (first | (with_reducible first | exact HB.out | apply below_alloc | apply pw_below_drewN | apply below_drew1 | refine below_set ?_ GE389.out) | exact HB.out)))); have n1_ := Aside0.mk (blk_below (g := gb389) (o := .cells #[.int .i64 a0_0, .slice A0_1 l0_1.length c0_1] 26 (0, 0)) (by (with_reducible repeat (first | refine blk_drewN ?_ _ | refine blk_drew ?_ | refine blk_alloc ?_ _)); exact BK389.out) hb); have n2_ := Aside0.mk (below_step (by repeat (first | (with_reducible first | exact HB.out | apply below_alloc | apply pw_below_drewN | apply below_drew1 | refine below_set ?_ GE389.out) | exact HB.out)) hb); clear BK389; clear HB; obtain ⟨Ao11, co11, eo11⟩ := Kd.R_slice n0_.out; subst eo11; have HO393 := Aside0.mk (show Kd.R k50 50 w7 w.heap.size (fun _ => True) (.slice Ao11 (t391.length + 1) co11) (t391 ++ [(⟨(-77), 0⟩ : S50)]) from m0_.out); clear m0_; (try clear hm0); have BK389 := n1_; have HB := n2_; clear n0_ n1_ n2_; (try clear hb); (try clear hb2); (try clear hk); (try clear hi); (try clear ho0)) | ((with_reducible refine gate_dst (N := 7) rfl ?_); (try (refine gate_guard (by rfl) ?_; dsimp only)); refine box_event ?hg (N := 7) ?hd (cs := #[.int .i64 0, .slice none 0 0]) (t := 26) ?hr ?_; (case hd => rfl); (case hg => rfl); (case hr => first | (go_simp; done) | (go_simp; rfl)); intro gb394 hg w8 hbox hb; have n0_ := Aside0.mk (Kd.R_below (by (with_reducible repeat (first | apply Kd.R_alloc | apply Kd.R_drewN | apply Kd.R_drew)); exact HO393.out) hb); have n1_ := Aside0.mk (blk_below (g := gb389) (o := .cells #[.int .i64 a0_0, .slice A0_1 l0_1.length c0_1] 26 (0, 0)) (by (with_reducible repeat (first | refine blk_drewN ?_ _ | refine blk_drew ?_ | refine blk_alloc ?_ _)); exact BK389.out) hb); have n2_ := Aside0.mk (below_step (by repeat (first | (with_reducible first | exact HB.out | apply below_alloc | apply pw_below_drewN | apply below_drew1 | refine below_set ?_ GE389.out) | exact HB.out)) hb); have n3_ := Aside0.mk (hbox); have n4_ := Aside0.mk ((by rw [hg]; exact (below_size (by repeat (first | (with_reducible first | exact HB.out | apply below_alloc | apply pw_below_drewN | apply below_drew1 | refine below_set ?_ GE389.out) | exact HB.out))) : w.heap.size ≤ gb394)); have n5_ := Aside0.mk ((by rw [hg]; exact (below_size (by repeat (first | (with_reducible first | exact HB.out | apply below_alloc | apply pw_below_drewN | apply below_drew1 | refine below_set ?_ GE389.out) | exact HB.out))) : w.heap.size ≤ gb394)); have n6_ := Aside0.mk ((by rw [hg]; exact Nat.ne_of_lt (blk_lt (g := gb389) (o := .cells #[.int .i64 a0_0, .slice A0_1 l0_1.length c0_1] 26 (0, 0)) (by (with_reducible repeat (first | refine blk_drewN ?_ _ | refine blk_drew ?_ | refine blk_alloc ?_ _)); exact BK389.out)) : gb389 ≠ gb394)); have n7_ := Aside0.mk ((by rw [hg]; exact Nat.ne_of_gt (blk_lt (g := gb389) (o := .cells #[.int .i64 a0_0, .slice A0_1 l0_1.length c0_1] 26 (0, 0)) (by (with_reducible repeat (first | refine blk_drewN ?_ _ | refine blk_drew ?_ | refine blk_alloc ?_ _)); exact BK389.out)) : gb394 ≠ gb389)); clear HO393; clear BK389; clear HB; have HO393 := n0_; have BK389 := n1_; have HB := n2_; have BK394 := n3_; have GW394 := n4_; have GE394 := n5_; have NB389_394 := n6_; have NB394_389 := n7_; clear n0_ n1_ n2_ n3_ n4_ n5_ n6_ n7_; clear hb hbox hg; have hnb9 := NB394_389.out; have hnc9 := NB389_394.out; have hcz10_0 : w8.cell? ⟨gb394, 0, none⟩ = some (.int .i64 0) := (blk_cell BK394.out 0).trans rfl; have hcz10_1 : w8.cell? ⟨gb394, 1, none⟩ = some (.slice none 0 0) := (blk_cell BK394.out 1).trans rfl; have hfz10_0 := blk_frozen BK394.out 0; have hfz10_1 := blk_frozen BK394.out 1))
  go_loopg [8, 9] k (fun kq v8 v9 w' => ∃ (x8_1 : List Int) (x9_1 : Int), v9 = .int .i64 x9_1 ∧ Aside0 (plunderlaw7_DagJudge.l0 kq a1 l2 x8_1 x9_1 a0_0 l0_1 t390 t391 = some r) ∧ Aside0 (kq ≤ k) ∧ Aside0 ((x8_1.length : Int) = x9_1 ∧ x9_1 ≤ (l2.length : Int)) ∧ Aside0 (Kd.R (Kd.int .i64) 3 w' w.heap.size (fun _ => True) v8 x8_1) ∧ Aside0 (Kd.R k50 50 w' w.heap.size (fun _ => True) (.slice Ao11 (t391.length + 1) co11) (t391 ++ [(⟨(-77), 0⟩ : S50)])) ∧ Aside0 (w'.heap[gb389]? = some (.cells #[.int .i64 a0_0, (.slice A0_1 l0_1.length c0_1)] 26 (0, 0))) ∧ Aside0 (w'.heap[gb394]? = some (.cells #[.int .i64 t390, (.slice Ao11 t391.length co11)] 26 (0, 0))) ∧ Aside0 (Below w.heap.size w w'))
  case atStart => exact ⟨(([] : List Int)), (0), (by first | rfl | (simp; done) | (simp [*]; done)), H', ⟨Nat.le_refl _⟩, ⟨by simp⟩, ⟨by first | exact Kd.R_nil _ _ _ _ _ | exact Kd.N_nil _ _ _ _ _ | exact Kd.V_nil _ _ _ _ _ | exact Kd.Q_nil _ _ _ _ _ | exact Kd.S_nil _ _ _ _ _⟩, ⟨by (with_reducible repeat (first | apply Kd.R_alloc | apply Kd.R_drewN | apply Kd.R_drew)); exact Kd.R_mono (Kd.R_far (p := ⟨gb394, 1, none⟩) (Kd.R_far (p := ⟨gb394, 0, none⟩) (Kd.R_types HO393.out BK394.out (by decide)) (fun _ hk => hk.2) (.int .i64 t390)) (fun _ hk => hk.2) (.slice Ao11 t391.length co11)) (fun _ hk => trivial)⟩, ⟨by (with_reducible repeat (first | refine blk_drewN ?_ _ | refine blk_drew ?_ | refine blk_alloc ?_ _)); refine blk_far ?_ NB389_394.out _; (with_reducible repeat (first | refine blk_drewN ?_ _ | refine blk_drew ?_ | refine blk_alloc ?_ _)); refine blk_far ?_ NB389_394.out _; (with_reducible repeat (first | refine blk_drewN ?_ _ | refine blk_drew ?_ | refine blk_alloc ?_ _)); exact BK389.out⟩, ⟨by (with_reducible repeat (first | refine blk_drewN ?_ _ | refine blk_drew ?_ | refine blk_alloc ?_ _)); refine blk_put (cs := #[.int .i64 t390, .slice none 0 0]) ?_ 1 _ rfl; (with_reducible repeat (first | refine blk_drewN ?_ _ | refine blk_drew ?_ | refine blk_alloc ?_ _)); refine blk_put (cs := #[.int .i64 0, .slice none 0 0]) ?_ 0 _ rfl; (with_reducible repeat (first | refine blk_drewN ?_ _ | refine blk_drew ?_ | refine blk_alloc ?_ _)); exact BK394.out⟩, ⟨by repeat (first | (with_reducible first | exact HB.out | apply below_alloc | apply pw_below_drewN | apply below_drew1 | refine below_set ?_ GE389.out | refine below_set ?_ GE394.out) | exact HB.out)⟩⟩
  case round =>
    clear H'
    try clear c1
    try clear c2
    try clear p2
    try clear c9
    try clear c10
    try clear hcz10_0
    try clear hcz10_1
    try clear hcz6_0
    try clear hcz6_1
    try clear hfz10_0
    try clear hfz10_1
    try clear hfz6_0
    try clear hfz6_1
    obtain ⟨x8_1, x9_1, rfl, HA, HK1, HI, HO_8, HO_395001, BK389, BK394, HB⟩ := hrel
    cases gk with
    | zero => exact absurd HA.out (by simp [plunderlaw7_DagJudge.l0])
    | succ k1 =>
      have H := HA.out
      clear HA
      simp only [plunderlaw7_DagJudge.l0] at H
      by_cases c12 : x9_1 < (l2.length : Int)
      · rw [if_pos c12] at H
        have c12b0 : decide (x9_1 < (l2.length : Int)) = true := decide_eq_true c12
        have HLT := Aside0.mk c12
        clear c12
        obtain ⟨ji13, hji13⟩ : ∃ j_ : Int, (wrap64 ((wrap64 ((l2.length : Int) - 1)) - x9_1)) = j_ := ⟨_, rfl⟩
        replace H : (if 0 ≤ (ji13) then (if (ji13) < (l2.length : Int) then (if x8_1.length < 17592186044416 then (plunderlaw7_DagJudge.l0 k1 a1 l2 (x8_1 ++ [rd l2 (ji13)]) (wrap64 (x9_1 + 1)) a0_0 l0_1 t390 t391) else (none)) else (none)) else (none)) = some r := by first | (rw [hji13] at H; exact H) | (simp only [hji13] at H ⊢; exact H)
        have hji13w : (IntKind.i64.wrap ((wrap64 ((l2.length : Int) - 1)) - x9_1)) = ji13 := (i64_w _).trans hji13
        by_cases c14 : 0 ≤ (ji13)
        · rw [if_pos c14] at H
          have c14b0 : decide (0 ≤ (ji13)) = true := decide_eq_true c14
          clear c14
          by_cases c15 : (ji13) < (l2.length : Int)
          · rw [if_pos c15] at H
            have c15b0 : decide ((ji13) < (l2.length : Int)) = true := decide_eq_true c15
            clear c15
            by_cases c16 : x8_1.length < 17592186044416
            · rw [if_pos c16] at H
              have LMc16 := Aside0.mk c16
              clear c16
              obtain ⟨y396, hy396⟩ : ∃ y_ : List Int, y_ = (x8_1 ++ [rd l2 (ji13)]) := ⟨_, rfl⟩
              replace H : (plunderlaw7_DagJudge.l0 k1 a1 l2 y396 (wrap64 (x9_1 + 1)) a0_0 l0_1 t390 t391) = some r := by first | (rw [hy396]; with_reducible exact H) | (have H2_ := (Option.bind_some _ _).symm.trans H; rw [hy396]; with_reducible exact H2_) | (have H2_ := (Option.bind_some _ _).symm.trans H; with_reducible exact H2_) | with_reducible exact H | (rw [hy396]; exact H) | exact H
              have Ny396 := Aside0.mk hy396
              clear hy396
              have H' := Aside0.mk H
              clear H
              have p395 : 0 ≤ ((ji13) : Int) := of_decide_eq_true (by first | (with_reducible assumption) | assumption)
              have q395 : (ji13) < (l2.length : Int) := of_decide_eq_true (by first | (with_reducible assumption) | assumption)
              obtain ⟨ad395, e395, hx395_0⟩ := Kd.at_int HR2.out (ji13) p395 q395
              cases e395
              replace hx395_0 := (HB.out.cell (World.block_lt_of_cell? w _ hx395_0)).trans hx395_0
              replace p395 := eq_true p395
              replace q395 := eq_true q395
              go_wp2_with (first | ((with_reducible refine gate_builtin (b := .append) (xs := #[.tmp 23, .tmp 32]) rfl ?_); (try (refine gate_guard (by rfl) ?_; dsimp only)); at_builtin; refine Kd.R_append (Kd.int .i64) (w0 := w) w.heap.size rfl (.tmp 23) (.tmp 32) 33 3 (.int .i64 0) 8 rfl Try.underlying33 info3 rfl (by decide) (by omega) u8 x8_1 (rd l2 (ji13)) [.int .i64 (rd l2 (ji13))] (fun _ => True) (fun _ => False) rfl rfl ?aP (fun _ hk => hk.elim) ?aF ?aO ?aB ?aS ?aL ?_; (case aP => exact rfl); (case aB => exact (by repeat (first | (with_reducible first | exact HB.out | apply below_alloc | apply pw_below_drewN | apply below_drew1 | refine below_set ?_ GE389.out | refine below_set ?_ GE394.out) | exact HB.out))); (case aF => exact (fun _ _ => trivial)); (case aO => exact (by (with_reducible repeat (first | apply Kd.R_alloc | apply Kd.R_drewN | apply Kd.R_drew)); exact HO_8.out)); (case aS => exact (below_size (by repeat (first | (with_reducible first | exact HB.out | apply below_alloc | apply pw_below_drewN | apply below_drew1 | refine below_set ?_ GE389.out | refine below_set ?_ GE394.out) | exact HB.out)))); (case aL => have := LMc16.out; omega); intro v397 w17 ho hb hg hat; rw [← Ny396.out] at ho; have n0_ := Aside0.mk (Kd.R_over' (by (with_reducible repeat (first | apply Kd.R_alloc | apply Kd.R_drewN | apply Kd.R_drew)); exact HO_395001.out) (Kd.R_typed (by (with_reducible repeat (first | apply Kd.R_alloc | apply Kd.R_drewN | apply Kd.R_drew)); exact HO_8.out)) (by decide) hg); have n1_ := Aside0.mk (blk_grown (g := gb389) (o := .cells #[.int .i64 a0_0, .slice A0_1 l0_1.length c0_1] 26 (0, 0)) (by (with_reducible repeat (first | refine blk_drewN ?_ _ | refine blk_drew ?_ | refine blk_alloc ?_ _)); exact BK389.out) hg (Kd.R_ne HO_8.out BK389.out (by decide))); have n2_ := Aside0.mk (blk_grown (g := gb394) (o := .cells #[.int .i64 t390, .slice Ao11 t391.length co11] 26 (0, 0)) (by (with_reducible repeat (first | refine blk_drewN ?_ _ | refine blk_drew ?_ | refine blk_alloc ?_ _)); exact BK394.out) hg (Kd.R_ne HO_8.out BK394.out (by decide))); have n3_ := Aside0.mk (hb); have n4_ := Aside0.mk (ho); clear HO_395001; clear BK389; clear BK394; clear HB; clear HO_8; have HO_395001 := n0_; have BK389 := n1_; have BK394 := n2_; have HB := n3_; have HO398 := n4_; clear n0_ n1_ n2_ n3_ n4_; clear ho hb hg hat))
              go_roundg k1
              case measure => have := HK1.out; omega
              case rel => exact ⟨(y396), (wrap64 (x9_1 + 1)), (by first | rfl | (simp; done) | (simp [*]; done)), H', ⟨by have := HK1.out; omega⟩, ⟨by have h1 := HI.out; have h2 := HLT.out; have h3 := LMc16.out; rw [Ny396.out, List.length_append]; simp only [List.length_cons, List.length_nil]; have h4 : wrap64 (x9_1 + 1) = x9_1 + 1 := (by unfold wrap64; omega); rw [h4]; omega⟩, ⟨by (with_reducible repeat (first | apply Kd.R_alloc | apply Kd.R_drewN | apply Kd.R_drew)); exact HO398.out⟩, ⟨by (with_reducible repeat (first | apply Kd.R_alloc | apply Kd.R_drewN | apply Kd.R_drew)); exact HO_395001.out⟩, ⟨by (with_reducible repeat (first | refine blk_drewN ?_ _ | refine blk_drew ?_ | refine blk_alloc ?_ _)); exact BK389.out⟩, ⟨by (with_reducible repeat (first | refine blk_drewN ?_ _ | refine blk_drew ?_ | refine blk_alloc ?_ _)); exact BK394.out⟩, ⟨by repeat (first | (with_reducible first | exact HB.out | apply below_alloc | apply pw_below_drewN | apply below_drew1 | refine below_set ?_ GE389.out | refine below_set ?_ GE394.out) | exact HB.out)⟩⟩
            · rw [if_neg c16] at H
              exact absurd H (by simp)
          · rw [if_neg c15] at H
            exact absurd H (by simp)
        · rw [if_neg c14] at H
          exact absurd H (by simp)
      · rw [if_neg c12] at H
        have c12b0 : decide (x9_1 < (l2.length : Int)) = false := decide_eq_false c12
        have HGE := Aside0.mk c12
        clear c12
        by_cases c18 : x8_1.length < 17592186044416
        · rw [if_pos c18] at H
          have LMc18 := Aside0.mk c18
          clear c18
          obtain ⟨y402, hy402⟩ : ∃ y_ : List Int, y_ = x8_1 := ⟨_, rfl⟩
          rw [← hy402] at H
          obtain ⟨y399, hy399⟩ : ∃ y_ : List Int, y_ = (x8_1 ++ [(-77)]) := ⟨_, rfl⟩
          have Ny399 := Aside0.mk hy399
          have HN402 := Aside0.mk (show y402.length = l2.length from by rw [hy402]; have := HI.out; have := HGE.out; omega)
          have HL399 := Aside0.mk (show y399 = y402 ++ [(-77)] from by rw [hy399, hy402])
          have c20 : (l2.length : Int) ≤ (y399.length : Int) := by rw [HL399.out, List.length_append, HN402.out]; omega
          have c19b0 : (0 ≤ (l2.length : Int)) = True := eq_true (by omega)
          have c19b1 : decide (0 ≤ (l2.length : Int)) = true := decide_eq_true (by omega)
          have c20b0 := eq_true c20
          have c20b1 : decide ((l2.length : Int) ≤ (y399.length : Int)) = true := decide_eq_true c20
          clear hy399 hy402 c20
          replace H := Option.bind_eq_some_iff.mp H
          obtain ⟨⟨t405, t406⟩, A210, H⟩ := H
          replace H : ((plunderlaw7_back.f k1 t390 t391 a0_0 l0_1).bind fun t407 => ((dag_Judge.f k1 t390 t407 a1 y402).bind fun bt408 => (plunderlaw7_DagJudge.l1 k1 a1 l2 y402 0 a0_0 l0_1 t390 t407))) = some r := H
          have A21 := Aside0.mk A210
          clear A210
          replace H := Option.bind_eq_some_iff.mp H
          obtain ⟨t407, A220, H⟩ := H
          replace H : ((dag_Judge.f k1 t390 t407 a1 y402).bind fun bt408 => (plunderlaw7_DagJudge.l1 k1 a1 l2 y402 0 a0_0 l0_1 t390 t407)) = some r := H
          have A22 := Aside0.mk A220
          clear A220
          replace H := Option.bind_eq_some_iff.mp H
          obtain ⟨⟨t408, t409⟩, A230, H⟩ := H
          replace H : (plunderlaw7_DagJudge.l1 k1 a1 l2 y402 0 a0_0 l0_1 t390 t407) = some r := H
          have A23 := Aside0.mk A230
          clear A230
          have H' := Aside0.mk H
          clear H
          go_wp2_with (first | ((with_reducible refine gate_builtin (b := .append) (xs := #[.tmp 34, .tmp 35]) rfl ?_); (try (refine gate_guard (by rfl) ?_; dsimp only)); at_builtin; refine Kd.R_append (Kd.int .i64) (w0 := w) w.heap.size rfl (.tmp 34) (.tmp 35) 33 3 (.int .i64 0) 8 rfl Try.underlying33 info3 rfl (by decide) (by omega) u8 x8_1 (-77) [.int .i64 (-77)] (fun _ => True) (fun _ => False) rfl rfl ?aP (fun _ hk => hk.elim) ?aF ?aO ?aB ?aS ?aL ?_; (case aP => exact rfl); (case aB => exact (by repeat (first | (with_reducible first | exact HB.out | apply below_alloc | apply pw_below_drewN | apply below_drew1 | refine below_set ?_ GE389.out | refine below_set ?_ GE394.out) | exact HB.out))); (case aF => exact (fun _ _ => trivial)); (case aO => exact (by (with_reducible repeat (first | apply Kd.R_alloc | apply Kd.R_drewN | apply Kd.R_drew)); exact HO_8.out)); (case aS => exact (below_size (by repeat (first | (with_reducible first | exact HB.out | apply below_alloc | apply pw_below_drewN | apply below_drew1 | refine below_set ?_ GE389.out | refine below_set ?_ GE394.out) | exact HB.out)))); (case aL => have := LMc18.out; omega); intro v400 w24 ho hb hg hat; rw [← Ny399.out] at ho; have n0_ := Aside0.mk (Kd.R_over' (by (with_reducible repeat (first | apply Kd.R_alloc | apply Kd.R_drewN | apply Kd.R_drew)); exact HO_395001.out) (Kd.R_typed (by (with_reducible repeat (first | apply Kd.R_alloc | apply Kd.R_drewN | apply Kd.R_drew)); exact HO_8.out)) (by decide) hg); have n1_ := Aside0.mk (blk_grown (g := gb389) (o := .cells #[.int .i64 a0_0, .slice A0_1 l0_1.length c0_1] 26 (0, 0)) (by (with_reducible repeat (first | refine blk_drewN ?_ _ | refine blk_drew ?_ | refine blk_alloc ?_ _)); exact BK389.out) hg (Kd.R_ne HO_8.out BK389.out (by decide))); have n2_ := Aside0.mk (blk_grown (g := gb394) (o := .cells #[.int .i64 t390, .slice Ao11 t391.length co11] 26 (0, 0)) (by (with_reducible repeat (first | refine blk_drewN ?_ _ | refine blk_drew ?_ | refine blk_alloc ?_ _)); exact BK394.out) hg (Kd.R_ne HO_8.out BK394.out (by decide))); have n3_ := Aside0.mk (hb); have n4_ := Aside0.mk (ho); clear HO_395001; clear BK389; clear BK394; clear HB; clear HO_8; have HO_395001 := n0_; have BK389 := n1_; have BK394 := n2_; have HB := n3_; have HO401 := n4_; clear n0_ n1_ n2_ n3_ n4_; clear ho hb hg hat; obtain ⟨Ao25, co25, eo25⟩ := Kd.R_slice HO401.out; subst eo25; have q26 : ((l2.length : Int) : Int) ≤ ((y399.length : Int) : Int) := of_decide_eq_true (by first | (with_reducible assumption) | assumption); obtain ⟨i026, hi026, _, hsz26, _⟩ := info_parts info3; have hcut26 := cut_to (P := Try.prog) 33 3 .i64 Try.underlying33 hi026 Ao25 y399.length co25 (l2.length : Int) (of_decide_eq_true (by first | (with_reducible assumption) | assumption)) q26 (Kd.R_reads' HO401.out).2.1; have hy26 : y402.length = ((l2.length : Int) : Int).toNat := (by have := HN402.out; omega); rw [← hy26] at hcut26; clear hy26 hi026 hsz26; have HO404 := Aside0.mk (show Kd.R (Kd.int .i64) 3 w24 w.heap.size (fun _ => True) (.slice Ao25 (y402.length + 1) co25) (y402 ++ [(-77)]) from by have h_ := HO401.out; rw [HL399.out, List.length_append] at h_; exact h_); clear HO401; replace q26 := eq_true q26; have hnb27 := NB394_389.out; have hnc27 := NB389_394.out; have hcz28_0 : w24.cell? ⟨gb394, 0, none⟩ = some (.int .i64 t390) := (blk_cell BK394.out 0).trans rfl; have hcz28_1 : w24.cell? ⟨gb394, 1, none⟩ = some (.slice Ao11 t391.length co11) := (blk_cell BK394.out 1).trans rfl; have hfz28_0 := blk_frozen BK394.out 0; have hfz28_1 := blk_frozen BK394.out 1) | ((with_reducible refine gate_callee (f := 35) rfl ?_); refine goesL_ (some 44) rfl rfl Try.func35 (by kernel_rfl) rfl #[.agg #[.int .i64 t390, .slice Ao11 t391.length co11], .int .i64 a1, .slice Ao25 y402.length co25] rfl (by (try simp only [List.map_toArray, List.map_cons, List.map_nil]); first | done | rfl | (simp only [List.length_drop, List.length_take]; rfl)) ?_; (with_reducible refine (dag_Judge.calls k1 t390 _ _ t391 a1 _ _ y402 t405 t406 _ ?side1 ?side2 ?side3 ?side4 A21.out).mono ?_); (case side1 => repeat (first | exact (Kd.R_reads' (R_init HO_395001.out)).2.2 | (with_reducible refine Kd.C_alloc ?_ _) | (with_reducible refine Kd.C_drewN ?_ _) | (with_reducible refine Kd.C_drew ?_))); (case side2 => exact (Kd.R_reads' (R_init HO_395001.out)).2.1); (case side3 => repeat (first | exact (Kd.R_reads' (R_init HO404.out)).2.2 | (with_reducible refine Kd.C_alloc ?_ _) | (with_reducible refine Kd.C_drewN ?_ _) | (with_reducible refine Kd.C_drew ?_))); (case side4 => exact (Kd.R_reads' (R_init HO404.out)).2.1); rintro e w29 ⟨rfl, hb⟩; refine ⟨_, rfl, ?_⟩; have n0_ := Aside0.mk (Kd.R_below (by (with_reducible repeat (first | apply Kd.R_alloc | apply Kd.R_drewN | apply Kd.R_drew)); exact HO_395001.out) hb); have n1_ := Aside0.mk (Kd.R_below (by (with_reducible repeat (first | apply Kd.R_alloc | apply Kd.R_drewN | apply Kd.R_drew)); exact HO404.out) hb); have n2_ := Aside0.mk (blk_below (g := gb389) (o := .cells #[.int .i64 a0_0, .slice A0_1 l0_1.length c0_1] 26 (0, 0)) (by (with_reducible repeat (first | refine blk_drewN ?_ _ | refine blk_drew ?_ | refine blk_alloc ?_ _)); exact BK389.out) hb); have n3_ := Aside0.mk (blk_below (g := gb394) (o := .cells #[.int .i64 t390, .slice Ao11 t391.length co11] 26 (0, 0)) (by (with_reducible repeat (first | refine blk_drewN ?_ _ | refine blk_drew ?_ | refine blk_alloc ?_ _)); exact BK394.out) hb); have n4_ := Aside0.mk (below_step (by repeat (first | (with_reducible first | exact HB.out | apply below_alloc | apply pw_below_drewN | apply below_drew1 | refine below_set ?_ GE389.out | refine below_set ?_ GE394.out) | exact HB.out)) hb); clear HO_395001; clear HO404; clear BK389; clear BK394; clear HB; have HO_395001 := n0_; have HO404 := n1_; have BK389 := n2_; have BK394 := n3_; have HB := n4_; clear n0_ n1_ n2_ n3_ n4_; (try clear hb); (try clear hb2); (try clear hk); (try clear hi); have hcz30_0 : w29.cell? ⟨gb394, 0, none⟩ = some (.int .i64 t390) := (blk_cell BK394.out 0).trans rfl; have hcz30_1 : w29.cell? ⟨gb394, 1, none⟩ = some (.slice Ao11 t391.length co11) := (blk_cell BK394.out 1).trans rfl; have hfz30_0 := blk_frozen BK394.out 0; have hfz30_1 := blk_frozen BK394.out 1; have hcz31_0 : w29.cell? ⟨gb389, 0, none⟩ = some (.int .i64 a0_0) := (blk_cell BK389.out 0).trans rfl; have hcz31_1 : w29.cell? ⟨gb389, 1, none⟩ = some (.slice A0_1 l0_1.length c0_1) := (blk_cell BK389.out 1).trans rfl; have hfz31_0 := blk_frozen BK389.out 0; have hfz31_1 := blk_frozen BK389.out 1) | ((with_reducible refine gate_callee (f := 19) rfl ?_); refine goesL_ (some 47) rfl rfl Try.func19 (by kernel_rfl) rfl #[.agg #[.int .i64 t390, .slice Ao11 t391.length co11], .agg #[.int .i64 a0_0, .slice A0_1 l0_1.length c0_1]] rfl (by (try simp only [List.map_toArray, List.map_cons, List.map_nil]); first | done | rfl | (simp only [List.length_drop, List.length_take]; rfl)) ?_; (with_reducible refine (plunderlaw7_back.calls [(⟨(-77), 0⟩ : S50)] k1 t390 (fun k_ => some k_ = (.slice Ao11 t391.length co11 : Value).ownBlock) (.slice Ao11 t391.length co11) t391 a0_0 _ _ l0_1 t407 w _ ?side1 ?side2 ?side3 ?side4 ?sidem A22.out).mono ?_); (case side1 => repeat (first | (with_reducible first | exact HB.out | apply below_alloc | apply pw_below_drewN | apply below_drew1 | refine below_set ?_ GE389.out | refine below_set ?_ GE394.out) | exact HB.out)); (case side2 => exact Kd.R_tight rfl (R_init HO_395001.out)); (case side3 => exact Kd.C_kept_came k50_heap HR0_1.out (by repeat (first | (with_reducible first | exact HB.out | apply below_alloc | apply pw_below_drewN | apply below_drew1 | refine below_set ?_ GE389.out | refine below_set ?_ GE394.out) | exact HB.out)) (fun k_ hs_ => (fun e_ => Kd.R_base (R_init HO_395001.out) k_ e_.symm) hs_)); (case side4 => exact HC0_1.out); (case sidem => exact Kd.R_mono (Kd.R_tight rfl HO_395001.out) (fun k_ hk_ => hk_.trans (grow_own _ _ _ _))); rintro e w32 ⟨rfl, hy0, hym, hb, hkp⟩; refine ⟨_, rfl, ?_⟩; have n0_ := Aside0.mk (Kd.R_reok (v := .slice Ao11 (t391.length + 1) co11) rfl hym (fun k_ e_ => HO_395001.out.1 k_ e_)); have n1_ := Aside0.mk (blk_kept (by (with_reducible repeat (first | refine blk_drewN ?_ _ | refine blk_drew ?_ | refine blk_alloc ?_ _)); exact BK389.out) hkp (fun hs_ => (fun e_ => (Kd.R_ne (R_init HO_395001.out) BK389.out (by decide)) e_) hs_)); have n2_ := Aside0.mk (blk_kept (by (with_reducible repeat (first | refine blk_drewN ?_ _ | refine blk_drew ?_ | refine blk_alloc ?_ _)); exact BK394.out) hkp (fun hs_ => (fun e_ => (Kd.R_ne (R_init HO_395001.out) BK394.out (by decide)) e_) hs_)); have n3_ := Aside0.mk (Kd.R_mono (ok' := fun k_ => True) (Kd.R_keptB ((Kd.R_apart' HO404.out (Kd.R_typed (R_init HO_395001.out)) (by decide))) hkp (fun k_ hk_ hs_ => (hk_.2) hs_)) (fun k_ hk_ => trivial)); have n4_ := Aside0.mk (hb); clear HO_395001; clear BK389; clear BK394; clear HO404; clear HB; have HO_395001 := n0_; have BK389 := n1_; have BK394 := n2_; have HO404 := n3_; have HB := n4_; clear n0_ n1_ n2_ n3_ n4_; (try clear hb); (try clear hkp); (try clear hy0); (try clear hym); have hcz33_0 : w32.cell? ⟨gb394, 0, none⟩ = some (.int .i64 t390) := (blk_cell BK394.out 0).trans rfl; have hcz33_1 : w32.cell? ⟨gb394, 1, none⟩ = some (.slice Ao11 t391.length co11) := (blk_cell BK394.out 1).trans rfl; have hfz33_0 := blk_frozen BK394.out 0; have hfz33_1 := blk_frozen BK394.out 1) | ((with_reducible refine gate_callee (f := 35) rfl ?_); refine goesL_ (some 51) rfl rfl Try.func35 (by kernel_rfl) rfl #[.agg #[.int .i64 t390, .slice Ao11 t407.length co11], .int .i64 a1, .slice Ao25 y402.length co25] rfl (by (try simp only [List.map_toArray, List.map_cons, List.map_nil]); first | done | (rw [show t407.length = t391.length from (Kd.R_reads' (R_init HO_395001.out)).1.symm] <;> rfl) | rfl | (simp only [List.length_drop, List.length_take]; rfl)) ?_; (with_reducible refine (dag_Judge.calls k1 t390 _ _ t407 a1 _ _ y402 t408 t409 _ ?side1 ?side2 ?side3 ?side4 A23.out).mono ?_); (case side1 => repeat (first | exact (Kd.R_reads' (R_init HO_395001.out)).2.2 | (with_reducible refine Kd.C_alloc ?_ _) | (with_reducible refine Kd.C_drewN ?_ _) | (with_reducible refine Kd.C_drew ?_))); (case side2 => rw [show t407.length = t391.length from (Kd.R_reads' (R_init HO_395001.out)).1.symm]; exact (Kd.R_reads' (R_init HO_395001.out)).2.1); (case side3 => repeat (first | exact (Kd.R_reads' (R_init HO404.out)).2.2 | (with_reducible refine Kd.C_alloc ?_ _) | (with_reducible refine Kd.C_drewN ?_ _) | (with_reducible refine Kd.C_drew ?_))); (case side4 => exact (Kd.R_reads' (R_init HO404.out)).2.1); rintro e w34 ⟨rfl, hb⟩; refine ⟨_, rfl, ?_⟩; have n0_ := Aside0.mk (Kd.R_below (by (with_reducible repeat (first | apply Kd.R_alloc | apply Kd.R_drewN | apply Kd.R_drew)); exact HO_395001.out) hb); have n1_ := Aside0.mk (Kd.R_below (by (with_reducible repeat (first | apply Kd.R_alloc | apply Kd.R_drewN | apply Kd.R_drew)); exact HO404.out) hb); have n2_ := Aside0.mk (blk_below (g := gb389) (o := .cells #[.int .i64 a0_0, .slice A0_1 l0_1.length c0_1] 26 (0, 0)) (by (with_reducible repeat (first | refine blk_drewN ?_ _ | refine blk_drew ?_ | refine blk_alloc ?_ _)); exact BK389.out) hb); have n3_ := Aside0.mk (blk_below (g := gb394) (o := .cells #[.int .i64 t390, .slice Ao11 t391.length co11] 26 (0, 0)) (by (with_reducible repeat (first | refine blk_drewN ?_ _ | refine blk_drew ?_ | refine blk_alloc ?_ _)); exact BK394.out) hb); have n4_ := Aside0.mk (below_step (by repeat (first | (with_reducible first | exact HB.out | apply below_alloc | apply pw_below_drewN | apply below_drew1 | refine below_set ?_ GE389.out | refine below_set ?_ GE394.out) | exact HB.out)) hb); clear HO_395001; clear HO404; clear BK389; clear BK394; clear HB; have HO_395001 := n0_; have HO404 := n1_; have BK389 := n2_; have BK394 := n3_; have HB := n4_; clear n0_ n1_ n2_ n3_ n4_; (try clear hb); (try clear hb2); (try clear hk); (try clear hi)))
          go_loopg [10] k1 (fun kq v10 w' => ∃ (x8_2 : List Int) (x10_2 : Int), v10 = .int .i64 x10_2 ∧ Aside0 (plunderlaw7_DagJudge.l1 kq a1 l2 x8_2 x10_2 a0_0 l0_1 t390 t407 = some r) ∧ Aside0 (kq ≤ k1) ∧ Aside0 (Kd.R (Kd.int .i64) 3 w' w.heap.size (fun _ => True) (.slice Ao25 (y402.length + 1) co25) (x8_2 ++ [(-77)])) ∧ Aside0 (Kd.R k50 50 w' w.heap.size (fun _ => True) (.slice Ao11 (t391.length + 1) co11) (t407 ++ [(⟨(-77), 0⟩ : S50)])) ∧ Aside0 (w'.heap[gb389]? = some (.cells #[.int .i64 a0_0, (.slice A0_1 l0_1.length c0_1)] 26 (0, 0))) ∧ Aside0 (w'.heap[gb394]? = some (.cells #[.int .i64 t390, (.slice Ao11 t391.length co11)] 26 (0, 0))) ∧ Aside0 (Below w.heap.size w w'))
          case atStart => exact ⟨(y402), (0), (by first | rfl | (simp; done) | (simp [*]; done)), H', ⟨Nat.le_refl _⟩, ⟨by (with_reducible repeat (first | apply Kd.R_alloc | apply Kd.R_drewN | apply Kd.R_drew)); exact HO404.out⟩, ⟨by (with_reducible repeat (first | apply Kd.R_alloc | apply Kd.R_drewN | apply Kd.R_drew)); exact HO_395001.out⟩, ⟨by (with_reducible repeat (first | refine blk_drewN ?_ _ | refine blk_drew ?_ | refine blk_alloc ?_ _)); exact BK389.out⟩, ⟨by (with_reducible repeat (first | refine blk_drewN ?_ _ | refine blk_drew ?_ | refine blk_alloc ?_ _)); exact BK394.out⟩, ⟨by repeat (first | (with_reducible first | exact HB.out | apply below_alloc | apply pw_below_drewN | apply below_drew1 | refine below_set ?_ GE389.out | refine below_set ?_ GE394.out) | exact HB.out)⟩⟩
          case round =>
            clear H'
            try clear c1
            try clear c2
            try clear p2
            try clear q2
            try clear c3
            try clear p3
            try clear q3
            try clear hx3
            try clear p6
            try clear c9
            try clear c10
            try clear c12
            try clear c12b0
            try clear c14
            try clear c14b0
            try clear c15
            try clear c15b0
            try clear c16
            try clear c17
            try clear c18
            try clear c19
            try clear c19b0
            try clear c19b1
            try clear c20
            try clear c20b0
            try clear c20b1
            try clear q26
            try clear c27
            try clear hcz10_0
            try clear hcz10_1
            try clear hcz28_0
            try clear hcz28_1
            try clear hcz30_0
            try clear hcz30_1
            try clear hcz31_0
            try clear hcz31_1
            try clear hcz33_0
            try clear hcz33_1
            try clear hcz6_0
            try clear hcz6_1
            try clear hfz10_0
            try clear hfz10_1
            try clear hfz28_0
            try clear hfz28_1
            try clear hfz30_0
            try clear hfz30_1
            try clear hfz31_0
            try clear hfz31_1
            try clear hfz33_0
            try clear hfz33_1
            try clear hfz6_0
            try clear hfz6_1
            try clear hx395_0
            try clear p2
            try clear p395
            try clear q26
            try clear q395
            obtain ⟨x8_2, x10_2, rfl, HA, HK2, HO_8, HO_395001, BK389, BK394, HB⟩ := hrel
            have hl8_2 := (Kd.R_reads' (R_init HO_8.out)).1
            rw [hl8_2] at HO_8
            (try simp only [hl8_2])
            (try simp only [hl8_2] at BK389)
            (try simp only [hl8_2] at BK394)
            (try simp only [hl8_2] at HO_395001)
            have hl395001_2 := (Kd.R_reads' (R_init HO_395001.out)).1
            rw [hl395001_2] at HO_395001
            (try simp only [hl395001_2])
            (try simp only [hl395001_2] at BK389)
            (try simp only [hl395001_2] at BK394)
            (try simp only [hl395001_2] at HO_8)
            cases gk with
            | zero => exact absurd HA.out (by simp [plunderlaw7_DagJudge.l1])
            | succ k2 =>
              have H := HA.out
              clear HA
              simp only [plunderlaw7_DagJudge.l1] at H
              by_cases c35 : x10_2 < (l2.length : Int)
              · rw [if_pos c35] at H
                have c35b0 : decide (x10_2 < (l2.length : Int)) = true := decide_eq_true c35
                clear c35
                by_cases c36 : 0 ≤ x10_2
                · rw [if_pos c36] at H
                  have c36b0 : decide (0 ≤ x10_2) = true := decide_eq_true c36
                  clear c36
                  by_cases c37 : x10_2 < (x8_2.length : Int)
                  · rw [if_pos c37] at H
                    have c37b0 : decide (x10_2 < (x8_2.length : Int)) = true := decide_eq_true c37
                    clear c37
                    obtain ⟨y411, hy411⟩ : ∃ y_ : List Int, y_ = (x8_2.set (x10_2 : Int).toNat (rd l2 x10_2)) := ⟨_, rfl⟩
                    replace H : (plunderlaw7_DagJudge.l1 k2 a1 l2 y411 (wrap64 (x10_2 + 1)) a0_0 l0_1 t390 t407) = some r := by first | (rw [hy411]; with_reducible exact H) | (have H2_ := (Option.bind_some _ _).symm.trans H; rw [hy411]; with_reducible exact H2_) | (have H2_ := (Option.bind_some _ _).symm.trans H; with_reducible exact H2_) | with_reducible exact H | (rw [hy411]; exact H) | exact H
                    have Ny411 := Aside0.mk hy411
                    clear hy411
                    have H' := Aside0.mk H
                    clear H
                    have p410 : 0 ≤ (x10_2 : Int) := of_decide_eq_true (by first | (with_reducible assumption) | assumption)
                    have q410 : x10_2 < (l2.length : Int) := of_decide_eq_true (by first | (with_reducible assumption) | assumption)
                    obtain ⟨ad410, e410, hx410_0⟩ := Kd.at_int HR2.out x10_2 p410 q410
                    cases e410
                    replace hx410_0 := (HB.out.cell (World.block_lt_of_cell? w _ hx410_0)).trans hx410_0
                    replace p410 := eq_true p410
                    replace q410 := eq_true q410
                    have p38 : 0 ≤ (x10_2 : Int) := of_decide_eq_true (by first | (with_reducible assumption) | assumption)
                    have q38 : (x10_2 : Int) < ((x8_2.length : Int) : Int) := of_decide_eq_true (by first | (with_reducible assumption) | assumption)
                    have HQ38 := Aside0.mk (show (x10_2 : Int).toNat < x8_2.length from by omega)
                    obtain ⟨go38, co38, eo38, gb38, gl38, cl38, HG38⟩ := Kd.R_form (R_init HO_8.out) (by omega)
                    (first | cases eo38 | (injection eo38 with ea_ en_ ec_; (first | subst ea_ | (injection ea_ with ea_; subst ea_)); subst ec_; clear en_))
                    have GB38 := Aside0.mk gb38
                    have GG38 := Aside0.mk HG38
                    clear gb38 gl38 HG38
                    obtain ⟨hx38_0, hf38_0⟩ := Kd.R_celln 0 (R_init HO_8.out) (x10_2 : Int) p38 q38
                    replace p38 := eq_true p38
                    replace q38 := eq_true q38
                    have HP39 := Kd.R_putg HO_8.out (x10_2 : Int) (rd l2 x10_2)
                    go_wp2_with (first | ((with_reducible refine gate_store (t := 3) (p := 64) rfl ?_); refine store_event (t := 3) (p := 64) (v := ?vo_w40) (w1 := (wr.setCell ⟨go38, (x10_2 : Int).toNat, none⟩ (.int .i64 (rd l2 x10_2)))) ?hg ?ho ?hn ?hr ?_; (case ho => rfl); (case hg => rfl); (case hn => rfl); (case hr => first | (go_simp; done) | (go_simp; rfl)); intro w40 hw; have hg : wr.grownBy w40 (some go38) := (by rw [hw]; exact HP39.2); have hp_ : Kd.R (Kd.int .i64) 3 w40 w.heap.size (fun _ => True) (.slice (some ⟨go38, 0, none⟩) (x8_2.length + 1) co25) (y411 ++ [(-77)]) := (by rw [hw, Ny411.out, ← set_app _ _ _ _ HQ38.out]; exact HP39.1); clear HP39; have n0_ := Aside0.mk (hp_); have n1_ := Aside0.mk (Kd.R_over' (v := (.slice (some ⟨go38, 0, none⟩) (x8_2.length + 1) co25)) (by (with_reducible repeat (first | apply Kd.R_alloc | apply Kd.R_drewN | apply Kd.R_drew)); exact HO_395001.out) (Kd.R_typed HO_8.out) (by decide) hg); have n2_ := Aside0.mk (blk_grown (g := gb389) (o := .cells #[.int .i64 a0_0, .slice A0_1 l0_1.length c0_1] 26 (0, 0)) (by (with_reducible repeat (first | refine blk_drewN ?_ _ | refine blk_drew ?_ | refine blk_alloc ?_ _)); exact BK389.out) hg (Kd.R_ne HO_8.out BK389.out (by decide))); have n3_ := Aside0.mk (blk_grown (g := gb394) (o := .cells #[.int .i64 t390, .slice Ao11 t407.length co11] 26 (0, 0)) (by (with_reducible repeat (first | refine blk_drewN ?_ _ | refine blk_drew ?_ | refine blk_alloc ?_ _)); exact BK394.out) hg (Kd.R_ne HO_8.out BK394.out (by decide))); have n4_ := Aside0.mk ((by rw [hw]; exact below_set (HB.out) GB38.out : Below w.heap.size w w40)); clear HO_8; clear HO_395001; clear BK389; clear BK394; clear HB; have HO_8 := n0_; have HO_395001 := n1_; have BK389 := n2_; have BK394 := n3_; have HB := n4_; clear n0_ n1_ n2_ n3_ n4_; clear hg hw hp_))
                    (try simp only [← hl8_2, ← hl395001_2])
                    go_roundg k2
                    case measure => have := HK1.out; have := HK2.out; omega
                    case rel => exact ⟨(y411), (wrap64 (x10_2 + 1)), (by first | rfl | (simp; done) | (simp [*]; done)), H', ⟨by have := HK1.out; have := HK2.out; omega⟩, ⟨by (try simp only [hl8_2]); (try simp only [hl395001_2]); (with_reducible repeat (first | apply Kd.R_alloc | apply Kd.R_drewN | apply Kd.R_drew)); exact HO_8.out⟩, ⟨by (try simp only [hl8_2]); (try simp only [hl395001_2]); (with_reducible repeat (first | apply Kd.R_alloc | apply Kd.R_drewN | apply Kd.R_drew)); exact HO_395001.out⟩, ⟨by (try simp only [hl8_2]); (try simp only [hl395001_2]); (with_reducible repeat (first | refine blk_drewN ?_ _ | refine blk_drew ?_ | refine blk_alloc ?_ _)); exact BK389.out⟩, ⟨by (try simp only [hl8_2]); (try simp only [hl395001_2]); (with_reducible repeat (first | refine blk_drewN ?_ _ | refine blk_drew ?_ | refine blk_alloc ?_ _)); exact BK394.out⟩, ⟨by repeat (first | (with_reducible first | exact HB.out | apply below_alloc | apply pw_below_drewN | apply below_drew1 | refine below_set ?_ GE389.out | refine below_set ?_ GE394.out) | exact HB.out)⟩⟩
                  · rw [if_neg c37] at H
                    exact absurd H (by simp)
                · rw [if_neg c36] at H
                  exact absurd H (by simp)
              · rw [if_neg c35] at H
                have c35b0 : decide (x10_2 < (l2.length : Int)) = false := decide_eq_false c35
                clear c35
                replace H := Option.bind_eq_some_iff.mp H
                obtain ⟨⟨t412, t413⟩, A410, H⟩ := H
                replace H : ((plunderref7_Judge.f k2 a0_0 l0_1 a1 l2).bind fun bt414 => (if t412 = bt414.1 then (if t413 = bt414.2 then (if x8_2.length < 4611686018427387904 then ((plunderlaw7_same.f k2 x8_2 l2).bind fun t421 => (if t421 = true then ((plunderlaw7_marked.f t390 t407).bind fun t422 => (if t422 = true then ((plunderlaw7_sameEdges.f k2 t407 l0_1).bind fun t423 => (some t423)) else (none))) else (none))) else (none)) else (some false)) else (some false))) = some r := H
                have A41 := Aside0.mk A410
                clear A410
                replace H := Option.bind_eq_some_iff.mp H
                obtain ⟨⟨t414, t415⟩, A420, H⟩ := H
                replace H : (if t412 = t414 then (if t413 = t415 then (if x8_2.length < 4611686018427387904 then ((plunderlaw7_same.f k2 x8_2 l2).bind fun t421 => (if t421 = true then ((plunderlaw7_marked.f t390 t407).bind fun t422 => (if t422 = true then ((plunderlaw7_sameEdges.f k2 t407 l0_1).bind fun t423 => (some t423)) else (none))) else (none))) else (none)) else (some false)) else (some false)) = some r := H
                have A42 := Aside0.mk A420
                clear A420
                by_cases c43 : t412 = t414
                · rw [if_pos c43] at H
                  have c43b0 : (t412 == t414) = true := beq_iff_eq.mpr c43
                  have c43b1 : (t412 != t414) = false := bne_eq_false_iff_eq.mpr c43
                  clear c43
                  by_cases c44 : t413 = t415
                  · rw [if_pos c44] at H
                    have c44b0 : (t413 == t415) = true := beq_iff_eq.mpr c44
                    have c44b1 : (t413 != t415) = false := bne_eq_false_iff_eq.mpr c44
                    clear c44
                    by_cases c45 : x8_2.length < 4611686018427387904
                    · rw [if_pos c45] at H
                      obtain ⟨ji45, hji45⟩ : ∃ j_ : Int, (wrap64 ((x8_2.length : Int) + 1)) = j_ := ⟨_, rfl⟩
                      have hji45w : (IntKind.i64.wrap ((x8_2.length : Int) + 1)) = ji45 := (i64_w _).trans hji45
                      have KJ := Aside0.mk (show ji45 = (x8_2.length : Int) + 1 from by rw [← hji45]; unfold wrap64; omega)
                      have c46 : 0 ≤ ji45 := by have := KJ.out; omega
                      have c46b0 := eq_true c46
                      have c46b1 : decide (0 ≤ ji45) = true := decide_eq_true c46
                      obtain ⟨m416, hm416⟩ : ∃ m_ : Nat, m_ = ji45.toNat := ⟨_, rfl⟩
                      have KM := Aside0.mk hm416
                      have c48b0 : decide (0 ≤ (x8_2.length : Int)) = true := decide_eq_true (by omega)
                      have c48b1 : decide (0 ≤ x8_2.length) = true := decide_eq_true (by omega)
                      have c49b0 : decide ((x8_2.length : Int) < (m416 : Int)) = true := decide_eq_true (by have := KJ.out; have := KM.out; omega)
                      have c49b1 : decide (x8_2.length < m416) = true := decide_eq_true (by have := KJ.out; have := KM.out; omega)
                      clear c45 c46 hm416
                      replace H := Option.bind_eq_some_iff.mp H
                      obtain ⟨t421, A510, H⟩ := H
                      replace H : (if t421 = true then ((plunderlaw7_marked.f t390 t407).bind fun t422 => (if t422 = true then ((plunderlaw7_sameEdges.f k2 t407 l0_1).bind fun t423 => (some t423)) else (none))) else (none)) = some r := H
                      have A51 := Aside0.mk A510
                      clear A510
                      by_cases c52 : t421 = true
                      · subst c52
                        have H1 : ((plunderlaw7_marked.f t390 t407).bind fun t422 => (if t422 = true then ((plunderlaw7_sameEdges.f k2 t407 l0_1).bind fun t423 => (some t423)) else (none))) = some r := by rw [if_pos rfl] at H; exact H
                        clear H
                        have H := H1
                        clear H1
                        replace H := Option.bind_eq_some_iff.mp H
                        obtain ⟨t422, A530, H⟩ := H
                        replace H : (if t422 = true then ((plunderlaw7_sameEdges.f k2 t407 l0_1).bind fun t423 => (some t423)) else (none)) = some r := H
                        have A53 := Aside0.mk A530
                        clear A530
                        by_cases c54 : t422 = true
                        · subst c54
                          have H1 : ((plunderlaw7_sameEdges.f k2 t407 l0_1).bind fun t423 => (some t423)) = some r := by rw [if_pos rfl] at H; exact H
                          clear H
                          have H := H1
                          clear H1
                          replace H := Option.bind_eq_some_iff.mp H
                          obtain ⟨t423, A550, H⟩ := H
                          replace H : (some t423) = some r := H
                          have A55 := Aside0.mk A550
                          clear A550
                          obtain rfl := Option.some.inj H
                          have hnb56 := NB394_389.out
                          have hnc56 := NB389_394.out
                          have hcz57_0 : wr.cell? ⟨gb394, 0, none⟩ = some (.int .i64 t390) := (blk_cell BK394.out 0).trans rfl
                          have hcz57_1 : wr.cell? ⟨gb394, 1, none⟩ = some (.slice Ao11 t407.length co11) := (blk_cell BK394.out 1).trans rfl
                          have hfz57_0 := blk_frozen BK394.out 0
                          have hfz57_1 := blk_frozen BK394.out 1
                          go_wp2_with (first | ((with_reducible refine gate_callee (f := 35) rfl ?_); refine goesL_ (some 69) rfl rfl Try.func35 (by kernel_rfl) rfl #[.agg #[.int .i64 t390, .slice Ao11 t407.length co11], .int .i64 a1, .slice Ao25 x8_2.length co25] rfl (by (try simp only [List.map_toArray, List.map_cons, List.map_nil]); first | done | rfl | (simp only [List.length_drop, List.length_take]; rfl)) ?_; (with_reducible refine (dag_Judge.calls k2 t390 _ _ t407 a1 _ _ x8_2 t412 t413 _ ?side1 ?side2 ?side3 ?side4 A41.out).mono ?_); (case side1 => repeat (first | exact (Kd.R_reads' (R_init HO_395001.out)).2.2 | (with_reducible refine Kd.C_alloc ?_ _) | (with_reducible refine Kd.C_drewN ?_ _) | (with_reducible refine Kd.C_drew ?_))); (case side2 => exact (Kd.R_reads' (R_init HO_395001.out)).2.1); (case side3 => repeat (first | exact (Kd.R_reads' (R_init HO_8.out)).2.2 | (with_reducible refine Kd.C_alloc ?_ _) | (with_reducible refine Kd.C_drewN ?_ _) | (with_reducible refine Kd.C_drew ?_))); (case side4 => exact (Kd.R_reads' (R_init HO_8.out)).2.1); rintro e w58 ⟨rfl, hb⟩; refine ⟨_, rfl, ?_⟩; have n0_ := Aside0.mk (Kd.R_below (by (with_reducible repeat (first | apply Kd.R_alloc | apply Kd.R_drewN | apply Kd.R_drew)); exact HO_8.out) hb); have n1_ := Aside0.mk (Kd.R_below (by (with_reducible repeat (first | apply Kd.R_alloc | apply Kd.R_drewN | apply Kd.R_drew)); exact HO_395001.out) hb); have n2_ := Aside0.mk (blk_below (g := gb389) (o := .cells #[.int .i64 a0_0, .slice A0_1 l0_1.length c0_1] 26 (0, 0)) (by (with_reducible repeat (first | refine blk_drewN ?_ _ | refine blk_drew ?_ | refine blk_alloc ?_ _)); exact BK389.out) hb); have n3_ := Aside0.mk (blk_below (g := gb394) (o := .cells #[.int .i64 t390, .slice Ao11 t407.length co11] 26 (0, 0)) (by (with_reducible repeat (first | refine blk_drewN ?_ _ | refine blk_drew ?_ | refine blk_alloc ?_ _)); exact BK394.out) hb); have n4_ := Aside0.mk (below_step (by repeat (first | (with_reducible first | exact HB.out | apply below_alloc | apply pw_below_drewN | apply below_drew1 | refine below_set ?_ GE389.out | refine below_set ?_ GE394.out) | exact HB.out)) hb); clear HO_8; clear HO_395001; clear BK389; clear BK394; clear HB; have HO_8 := n0_; have HO_395001 := n1_; have BK389 := n2_; have BK394 := n3_; have HB := n4_; clear n0_ n1_ n2_ n3_ n4_; (try clear hb); (try clear hb2); (try clear hk); (try clear hi); have hcz59_0 : w58.cell? ⟨gb389, 0, none⟩ = some (.int .i64 a0_0) := (blk_cell BK389.out 0).trans rfl; have hcz59_1 : w58.cell? ⟨gb389, 1, none⟩ = some (.slice A0_1 l0_1.length c0_1) := (blk_cell BK389.out 1).trans rfl; have hfz59_0 := blk_frozen BK389.out 0; have hfz59_1 := blk_frozen BK389.out 1) | ((with_reducible refine gate_callee (f := 36) rfl ?_); refine goesL_ (some 76) rfl rfl Try.func36 (by kernel_rfl) rfl #[.agg #[.int .i64 a0_0, .slice A0_1 l0_1.length c0_1], .int .i64 a1, .slice A2 l2.length c2] rfl (by (try simp only [List.map_toArray, List.map_cons, List.map_nil]); first | done | rfl | (simp only [List.length_drop, List.length_take]; rfl)) ?_; (with_reducible refine (plunderref7_Judge.calls k2 a0_0 _ _ l0_1 a1 _ _ l2 t414 t415 _ ?side1 ?side2 ?side3 ?side4 A42.out).mono ?_); (case side1 => repeat (first | exact (Kd.C_below HR0_1.out HB.out) | (with_reducible refine Kd.C_alloc ?_ _) | (with_reducible refine Kd.C_drewN ?_ _) | (with_reducible refine Kd.C_drew ?_))); (case side2 => exact HC0_1.out); (case side3 => repeat (first | exact (Kd.C_below HR2.out HB.out) | (with_reducible refine Kd.C_alloc ?_ _) | (with_reducible refine Kd.C_drewN ?_ _) | (with_reducible refine Kd.C_drew ?_))); (case side4 => exact HC2.out); rintro e w60 ⟨rfl, hb⟩; refine ⟨_, rfl, ?_⟩; have n0_ := Aside0.mk (Kd.R_below (by (with_reducible repeat (first | apply Kd.R_alloc | apply Kd.R_drewN | apply Kd.R_drew)); exact HO_8.out) hb); have n1_ := Aside0.mk (Kd.R_below (by (with_reducible repeat (first | apply Kd.R_alloc | apply Kd.R_drewN | apply Kd.R_drew)); exact HO_395001.out) hb); have n2_ := Aside0.mk (blk_below (g := gb389) (o := .cells #[.int .i64 a0_0, .slice A0_1 l0_1.length c0_1] 26 (0, 0)) (by (with_reducible repeat (first | refine blk_drewN ?_ _ | refine blk_drew ?_ | refine blk_alloc ?_ _)); exact BK389.out) hb); have n3_ := Aside0.mk (blk_below (g := gb394) (o := .cells #[.int .i64 t390, .slice Ao11 t407.length co11] 26 (0, 0)) (by (with_reducible repeat (first | refine blk_drewN ?_ _ | refine blk_drew ?_ | refine blk_alloc ?_ _)); exact BK394.out) hb); have n4_ := Aside0.mk (below_step (by repeat (first | (with_reducible first | exact HB.out | apply below_alloc | apply pw_below_drewN | apply below_drew1 | refine below_set ?_ GE389.out | refine below_set ?_ GE394.out) | exact HB.out)) hb); clear HO_8; clear HO_395001; clear BK389; clear BK394; clear HB; have HO_8 := n0_; have HO_395001 := n1_; have BK389 := n2_; have BK394 := n3_; have HB := n4_; clear n0_ n1_ n2_ n3_ n4_; (try clear hb); (try clear hb2); (try clear hk); (try clear hi); have hroom61 : x8_2.length + 1 ≤ co25 := (Kd.R_reads' HO_8.out).2.1; obtain ⟨i061, hi061, _, hsz61, _⟩ := info_parts info3; have hcut61 := cut_room (P := Try.prog) 33 3 .i64 Try.underlying33 hi061 Ao25 x8_2.length co25 ji45 (by have := KJ.out; omega) (by have := KJ.out; omega); rw [← KM.out] at hcut61; have hC61 := (Kd.R_reads' HO_8.out).2.2; have p420 : 0 ≤ (x8_2.length : Int) := (by omega); have q420 : (x8_2.length : Int) < (m416 : Int) := (by have := KJ.out; have := KM.out; omega); obtain ⟨ad420, e420, hx420_0⟩ := Kd.at_int hC61 (x8_2.length : Int) p420 (by simp only [List.length_append, List.length_cons, List.length_nil]; omega); rw [rd_snoc] at hx420_0; cases e420; simp only [Int.toNat_natCast] at hx420_0; clear hC61 hroom61 hi061 hsz61; replace p420 := eq_true p420; replace q420 := eq_true q420) | (go_at_call 26; (with_reducible refine (plunderlaw7_same.calls k2 _ _ x8_2 _ _ l2 true _ ?side1 ?side2 ?side3 ?side4 A51.out).mono ?_); (case side1 => repeat (first | exact (Kd.R_reads' (R_init HO_8.out)).2.2 | (with_reducible refine Kd.C_alloc ?_ _) | (with_reducible refine Kd.C_drewN ?_ _) | (with_reducible refine Kd.C_drew ?_))); (case side2 => exact (Kd.R_reads' (R_init HO_8.out)).2.1); (case side3 => repeat (first | exact (Kd.C_below HR2.out HB.out) | (with_reducible refine Kd.C_alloc ?_ _) | (with_reducible refine Kd.C_drewN ?_ _) | (with_reducible refine Kd.C_drew ?_))); (case side4 => exact HC2.out); rintro e w' ⟨rfl, ⟨nd, rfl⟩⟩; have hcz62_0 : w60.cell? ⟨gb394, 0, none⟩ = some (.int .i64 t390) := (blk_cell BK394.out 0).trans rfl; have hcz62_1 : w60.cell? ⟨gb394, 1, none⟩ = some (.slice Ao11 t407.length co11) := (blk_cell BK394.out 1).trans rfl; have hfz62_0 := blk_frozen BK394.out 0; have hfz62_1 := blk_frozen BK394.out 1) | (go_at_call 21; (with_reducible refine (plunderlaw7_marked.calls w.heap.size (fun _ => True) t390 _ _ t407 true _ ?side1 ?side2 ?sidem A53.out).mono ?_); (case side1 => repeat (first | exact (Kd.R_reads' (R_init HO_395001.out)).2.2 | (with_reducible refine Kd.C_alloc ?_ _) | (with_reducible refine Kd.C_drewN ?_ _) | (with_reducible refine Kd.C_drew ?_))); (case side2 => exact (Kd.R_reads' (R_init HO_395001.out)).2.1); (case sidem => (with_reducible repeat (first | apply Kd.R_alloc | apply Kd.R_drewN | apply Kd.R_drew)); exact HO_395001.out); rintro e w63 ⟨rfl, hb⟩; have n0_ := Aside0.mk (Kd.R_below (by (with_reducible repeat (first | apply Kd.R_alloc | apply Kd.R_drewN | apply Kd.R_drew)); exact HO_8.out) hb); have n1_ := Aside0.mk (Kd.R_below (by (with_reducible repeat (first | apply Kd.R_alloc | apply Kd.R_drewN | apply Kd.R_drew)); exact HO_395001.out) hb); have n2_ := Aside0.mk (blk_below (g := gb389) (o := .cells #[.int .i64 a0_0, .slice A0_1 l0_1.length c0_1] 26 (0, 0)) (by (with_reducible repeat (first | refine blk_drewN ?_ _ | refine blk_drew ?_ | refine blk_alloc ?_ _)); exact BK389.out) hb); have n3_ := Aside0.mk (blk_below (g := gb394) (o := .cells #[.int .i64 t390, .slice Ao11 t407.length co11] 26 (0, 0)) (by (with_reducible repeat (first | refine blk_drewN ?_ _ | refine blk_drew ?_ | refine blk_alloc ?_ _)); exact BK394.out) hb); have n4_ := Aside0.mk (below_step (by repeat (first | (with_reducible first | exact HB.out | apply below_alloc | apply pw_below_drewN | apply below_drew1 | refine below_set ?_ GE389.out | refine below_set ?_ GE394.out) | exact HB.out)) hb); clear HO_8; clear HO_395001; clear BK389; clear BK394; clear HB; have HO_8 := n0_; have HO_395001 := n1_; have BK389 := n2_; have BK394 := n3_; have HB := n4_; clear n0_ n1_ n2_ n3_ n4_; (try clear hb); (try clear hb2); (try clear hk); (try clear hi); have hcz64_0 : w63.cell? ⟨gb394, 0, none⟩ = some (.int .i64 t390) := (blk_cell BK394.out 0).trans rfl; have hcz64_1 : w63.cell? ⟨gb394, 1, none⟩ = some (.slice Ao11 t407.length co11) := (blk_cell BK394.out 1).trans rfl; have hfz64_0 := blk_frozen BK394.out 0; have hfz64_1 := blk_frozen BK394.out 1; have hcz65_0 : w63.cell? ⟨gb389, 0, none⟩ = some (.int .i64 a0_0) := (blk_cell BK389.out 0).trans rfl; have hcz65_1 : w63.cell? ⟨gb389, 1, none⟩ = some (.slice A0_1 l0_1.length c0_1) := (blk_cell BK389.out 1).trans rfl; have hfz65_0 := blk_frozen BK389.out 0; have hfz65_1 := blk_frozen BK389.out 1) | (go_at_call 22; (with_reducible refine (plunderlaw7_sameEdges.calls k2 _ _ t407 _ _ l0_1 t423 _ ?side1 ?side2 ?side3 ?side4 A55.out).mono ?_); (case side1 => repeat (first | exact (Kd.R_reads' (R_init HO_395001.out)).2.2 | (with_reducible refine Kd.C_alloc ?_ _) | (with_reducible refine Kd.C_drewN ?_ _) | (with_reducible refine Kd.C_drew ?_))); (case side2 => exact (Kd.R_reads' (R_init HO_395001.out)).2.1); (case side3 => repeat (first | exact (Kd.C_below HR0_1.out HB.out) | (with_reducible refine Kd.C_alloc ?_ _) | (with_reducible refine Kd.C_drewN ?_ _) | (with_reducible refine Kd.C_drew ?_))); (case side4 => exact HC0_1.out); rintro e w' ⟨rfl, ⟨nd, rfl⟩⟩))
                          go_ret
                          exact ⟨by first | rfl | (simp [errW_none, errW_some] <;> rfl) | (simp only [← hji45]; first | rfl | (simp [errW_none, errW_some] <;> rfl)) | (simp [*, errW_none, errW_some] <;> rfl), by repeat (first | (with_reducible first | exact HB.out | apply below_alloc | apply pw_below_drewN | apply below_drew1 | refine below_set ?_ GE389.out | refine below_set ?_ GE394.out) | exact HB.out)⟩
                        · rw [if_neg c54] at H
                          exact absurd H (by simp)
                      · rw [if_neg c52] at H
                        exact absurd H (by simp)
                    · rw [if_neg c45] at H
                      exact absurd H (by simp)
                  · rw [if_neg c44] at H
                    have c44b0 : (t413 == t415) = false := beq_eq_false_iff_ne.mpr c44
                    have c44b1 : (t413 != t415) = true := bne_iff_ne.mpr c44
                    obtain rfl := Option.some.inj H
                    have hnb86 := NB394_389.out
                    have hnc86 := NB389_394.out
                    have hcz87_0 : wr.cell? ⟨gb394, 0, none⟩ = some (.int .i64 t390) := (blk_cell BK394.out 0).trans rfl
                    have hcz87_1 : wr.cell? ⟨gb394, 1, none⟩ = some (.slice Ao11 t407.length co11) := (blk_cell BK394.out 1).trans rfl
                    have hfz87_0 := blk_frozen BK394.out 0
                    have hfz87_1 := blk_frozen BK394.out 1
                    go_wp2_with (first | ((with_reducible refine gate_callee (f := 35) rfl ?_); refine goesL_ (some 69) rfl rfl Try.func35 (by kernel_rfl) rfl #[.agg #[.int .i64 t390, .slice Ao11 t407.length co11], .int .i64 a1, .slice Ao25 x8_2.length co25] rfl (by (try simp only [List.map_toArray, List.map_cons, List.map_nil]); first | done | rfl | (simp only [List.length_drop, List.length_take]; rfl)) ?_; (with_reducible refine (dag_Judge.calls k2 t390 _ _ t407 a1 _ _ x8_2 t412 t413 _ ?side1 ?side2 ?side3 ?side4 A41.out).mono ?_); (case side1 => repeat (first | exact (Kd.R_reads' (R_init HO_395001.out)).2.2 | (with_reducible refine Kd.C_alloc ?_ _) | (with_reducible refine Kd.C_drewN ?_ _) | (with_reducible refine Kd.C_drew ?_))); (case side2 => exact (Kd.R_reads' (R_init HO_395001.out)).2.1); (case side3 => repeat (first | exact (Kd.R_reads' (R_init HO_8.out)).2.2 | (with_reducible refine Kd.C_alloc ?_ _) | (with_reducible refine Kd.C_drewN ?_ _) | (with_reducible refine Kd.C_drew ?_))); (case side4 => exact (Kd.R_reads' (R_init HO_8.out)).2.1); rintro e w88 ⟨rfl, hb⟩; refine ⟨_, rfl, ?_⟩; have n0_ := Aside0.mk (Kd.R_below (by (with_reducible repeat (first | apply Kd.R_alloc | apply Kd.R_drewN | apply Kd.R_drew)); exact HO_8.out) hb); have n1_ := Aside0.mk (Kd.R_below (by (with_reducible repeat (first | apply Kd.R_alloc | apply Kd.R_drewN | apply Kd.R_drew)); exact HO_395001.out) hb); have n2_ := Aside0.mk (blk_below (g := gb389) (o := .cells #[.int .i64 a0_0, .slice A0_1 l0_1.length c0_1] 26 (0, 0)) (by (with_reducible repeat (first | refine blk_drewN ?_ _ | refine blk_drew ?_ | refine blk_alloc ?_ _)); exact BK389.out) hb); have n3_ := Aside0.mk (blk_below (g := gb394) (o := .cells #[.int .i64 t390, .slice Ao11 t407.length co11] 26 (0, 0)) (by (with_reducible repeat (first | refine blk_drewN ?_ _ | refine blk_drew ?_ | refine blk_alloc ?_ _)); exact BK394.out) hb); have n4_ := Aside0.mk (below_step (by repeat (first | (with_reducible first | exact HB.out | apply below_alloc | apply pw_below_drewN | apply below_drew1 | refine below_set ?_ GE389.out | refine below_set ?_ GE394.out) | exact HB.out)) hb); clear HO_8; clear HO_395001; clear BK389; clear BK394; clear HB; have HO_8 := n0_; have HO_395001 := n1_; have BK389 := n2_; have BK394 := n3_; have HB := n4_; clear n0_ n1_ n2_ n3_ n4_; (try clear hb); (try clear hb2); (try clear hk); (try clear hi); have hcz89_0 : w88.cell? ⟨gb389, 0, none⟩ = some (.int .i64 a0_0) := (blk_cell BK389.out 0).trans rfl; have hcz89_1 : w88.cell? ⟨gb389, 1, none⟩ = some (.slice A0_1 l0_1.length c0_1) := (blk_cell BK389.out 1).trans rfl; have hfz89_0 := blk_frozen BK389.out 0; have hfz89_1 := blk_frozen BK389.out 1) | ((with_reducible refine gate_callee (f := 36) rfl ?_); refine goesL_ (some 76) rfl rfl Try.func36 (by kernel_rfl) rfl #[.agg #[.int .i64 a0_0, .slice A0_1 l0_1.length c0_1], .int .i64 a1, .slice A2 l2.length c2] rfl (by (try simp only [List.map_toArray, List.map_cons, List.map_nil]); first | done | rfl | (simp only [List.length_drop, List.length_take]; rfl)) ?_; (with_reducible refine (plunderref7_Judge.calls k2 a0_0 _ _ l0_1 a1 _ _ l2 t414 t415 _ ?side1 ?side2 ?side3 ?side4 A42.out).mono ?_); (case side1 => repeat (first | exact (Kd.C_below HR0_1.out HB.out) | (with_reducible refine Kd.C_alloc ?_ _) | (with_reducible refine Kd.C_drewN ?_ _) | (with_reducible refine Kd.C_drew ?_))); (case side2 => exact HC0_1.out); (case side3 => repeat (first | exact (Kd.C_below HR2.out HB.out) | (with_reducible refine Kd.C_alloc ?_ _) | (with_reducible refine Kd.C_drewN ?_ _) | (with_reducible refine Kd.C_drew ?_))); (case side4 => exact HC2.out); rintro e w90 ⟨rfl, hb⟩; refine ⟨_, rfl, ?_⟩; have n0_ := Aside0.mk (Kd.R_below (by (with_reducible repeat (first | apply Kd.R_alloc | apply Kd.R_drewN | apply Kd.R_drew)); exact HO_8.out) hb); have n1_ := Aside0.mk (Kd.R_below (by (with_reducible repeat (first | apply Kd.R_alloc | apply Kd.R_drewN | apply Kd.R_drew)); exact HO_395001.out) hb); have n2_ := Aside0.mk (blk_below (g := gb389) (o := .cells #[.int .i64 a0_0, .slice A0_1 l0_1.length c0_1] 26 (0, 0)) (by (with_reducible repeat (first | refine blk_drewN ?_ _ | refine blk_drew ?_ | refine blk_alloc ?_ _)); exact BK389.out) hb); have n3_ := Aside0.mk (blk_below (g := gb394) (o := .cells #[.int .i64 t390, .slice Ao11 t407.length co11] 26 (0, 0)) (by (with_reducible repeat (first | refine blk_drewN ?_ _ | refine blk_drew ?_ | refine blk_alloc ?_ _)); exact BK394.out) hb); have n4_ := Aside0.mk (below_step (by repeat (first | (with_reducible first | exact HB.out | apply below_alloc | apply pw_below_drewN | apply below_drew1 | refine below_set ?_ GE389.out | refine below_set ?_ GE394.out) | exact HB.out)) hb); clear HO_8; clear HO_395001; clear BK389; clear BK394; clear HB; have HO_8 := n0_; have HO_395001 := n1_; have BK389 := n2_; have BK394 := n3_; have HB := n4_; clear n0_ n1_ n2_ n3_ n4_; (try clear hb); (try clear hb2); (try clear hk); (try clear hi)))
                    go_ret
                    exact ⟨by first | rfl | (simp [errW_none, errW_some] <;> rfl) | (simp [*, errW_none, errW_some] <;> rfl), by repeat (first | (with_reducible first | exact HB.out | apply below_alloc | apply pw_below_drewN | apply below_drew1 | refine below_set ?_ GE389.out | refine below_set ?_ GE394.out) | exact HB.out)⟩
                · rw [if_neg c43] at H
                  have c43b0 : (t412 == t414) = false := beq_eq_false_iff_ne.mpr c43
                  have c43b1 : (t412 != t414) = true := bne_iff_ne.mpr c43
                  obtain rfl := Option.some.inj H
                  have hnb91 := NB394_389.out
                  have hnc91 := NB389_394.out
                  have hcz92_0 : wr.cell? ⟨gb394, 0, none⟩ = some (.int .i64 t390) := (blk_cell BK394.out 0).trans rfl
                  have hcz92_1 : wr.cell? ⟨gb394, 1, none⟩ = some (.slice Ao11 t407.length co11) := (blk_cell BK394.out 1).trans rfl
                  have hfz92_0 := blk_frozen BK394.out 0
                  have hfz92_1 := blk_frozen BK394.out 1
                  go_wp2_with (first | ((with_reducible refine gate_callee (f := 35) rfl ?_); refine goesL_ (some 69) rfl rfl Try.func35 (by kernel_rfl) rfl #[.agg #[.int .i64 t390, .slice Ao11 t407.length co11], .int .i64 a1, .slice Ao25 x8_2.length co25] rfl (by (try simp only [List.map_toArray, List.map_cons, List.map_nil]); first | done | rfl | (simp only [List.length_drop, List.length_take]; rfl)) ?_; (with_reducible refine (dag_Judge.calls k2 t390 _ _ t407 a1 _ _ x8_2 t412 t413 _ ?side1 ?side2 ?side3 ?side4 A41.out).mono ?_); (case side1 => repeat (first | exact (Kd.R_reads' (R_init HO_395001.out)).2.2 | (with_reducible refine Kd.C_alloc ?_ _) | (with_reducible refine Kd.C_drewN ?_ _) | (with_reducible refine Kd.C_drew ?_))); (case side2 => exact (Kd.R_reads' (R_init HO_395001.out)).2.1); (case side3 => repeat (first | exact (Kd.R_reads' (R_init HO_8.out)).2.2 | (with_reducible refine Kd.C_alloc ?_ _) | (with_reducible refine Kd.C_drewN ?_ _) | (with_reducible refine Kd.C_drew ?_))); (case side4 => exact (Kd.R_reads' (R_init HO_8.out)).2.1); rintro e w93 ⟨rfl, hb⟩; refine ⟨_, rfl, ?_⟩; have n0_ := Aside0.mk (Kd.R_below (by (with_reducible repeat (first | apply Kd.R_alloc | apply Kd.R_drewN | apply Kd.R_drew)); exact HO_8.out) hb); have n1_ := Aside0.mk (Kd.R_below (by (with_reducible repeat (first | apply Kd.R_alloc | apply Kd.R_drewN | apply Kd.R_drew)); exact HO_395001.out) hb); have n2_ := Aside0.mk (blk_below (g := gb389) (o := .cells #[.int .i64 a0_0, .slice A0_1 l0_1.length c0_1] 26 (0, 0)) (by (with_reducible repeat (first | refine blk_drewN ?_ _ | refine blk_drew ?_ | refine blk_alloc ?_ _)); exact BK389.out) hb); have n3_ := Aside0.mk (blk_below (g := gb394) (o := .cells #[.int .i64 t390, .slice Ao11 t407.length co11] 26 (0, 0)) (by (with_reducible repeat (first | refine blk_drewN ?_ _ | refine blk_drew ?_ | refine blk_alloc ?_ _)); exact BK394.out) hb); have n4_ := Aside0.mk (below_step (by repeat (first | (with_reducible first | exact HB.out | apply below_alloc | apply pw_below_drewN | apply below_drew1 | refine below_set ?_ GE389.out | refine below_set ?_ GE394.out) | exact HB.out)) hb); clear HO_8; clear HO_395001; clear BK389; clear BK394; clear HB; have HO_8 := n0_; have HO_395001 := n1_; have BK389 := n2_; have BK394 := n3_; have HB := n4_; clear n0_ n1_ n2_ n3_ n4_; (try clear hb); (try clear hb2); (try clear hk); (try clear hi); have hcz94_0 : w93.cell? ⟨gb389, 0, none⟩ = some (.int .i64 a0_0) := (blk_cell BK389.out 0).trans rfl; have hcz94_1 : w93.cell? ⟨gb389, 1, none⟩ = some (.slice A0_1 l0_1.length c0_1) := (blk_cell BK389.out 1).trans rfl; have hfz94_0 := blk_frozen BK389.out 0; have hfz94_1 := blk_frozen BK389.out 1) | ((with_reducible refine gate_callee (f := 36) rfl ?_); refine goesL_ (some 76) rfl rfl Try.func36 (by kernel_rfl) rfl #[.agg #[.int .i64 a0_0, .slice A0_1 l0_1.length c0_1], .int .i64 a1, .slice A2 l2.length c2] rfl (by (try simp only [List.map_toArray, List.map_cons, List.map_nil]); first | done | rfl | (simp only [List.length_drop, List.length_take]; rfl)) ?_; (with_reducible refine (plunderref7_Judge.calls k2 a0_0 _ _ l0_1 a1 _ _ l2 t414 t415 _ ?side1 ?side2 ?side3 ?side4 A42.out).mono ?_); (case side1 => repeat (first | exact (Kd.C_below HR0_1.out HB.out) | (with_reducible refine Kd.C_alloc ?_ _) | (with_reducible refine Kd.C_drewN ?_ _) | (with_reducible refine Kd.C_drew ?_))); (case side2 => exact HC0_1.out); (case side3 => repeat (first | exact (Kd.C_below HR2.out HB.out) | (with_reducible refine Kd.C_alloc ?_ _) | (with_reducible refine Kd.C_drewN ?_ _) | (with_reducible refine Kd.C_drew ?_))); (case side4 => exact HC2.out); rintro e w95 ⟨rfl, hb⟩; refine ⟨_, rfl, ?_⟩; have n0_ := Aside0.mk (Kd.R_below (by (with_reducible repeat (first | apply Kd.R_alloc | apply Kd.R_drewN | apply Kd.R_drew)); exact HO_8.out) hb); have n1_ := Aside0.mk (Kd.R_below (by (with_reducible repeat (first | apply Kd.R_alloc | apply Kd.R_drewN | apply Kd.R_drew)); exact HO_395001.out) hb); have n2_ := Aside0.mk (blk_below (g := gb389) (o := .cells #[.int .i64 a0_0, .slice A0_1 l0_1.length c0_1] 26 (0, 0)) (by (with_reducible repeat (first | refine blk_drewN ?_ _ | refine blk_drew ?_ | refine blk_alloc ?_ _)); exact BK389.out) hb); have n3_ := Aside0.mk (blk_below (g := gb394) (o := .cells #[.int .i64 t390, .slice Ao11 t407.length co11] 26 (0, 0)) (by (with_reducible repeat (first | refine blk_drewN ?_ _ | refine blk_drew ?_ | refine blk_alloc ?_ _)); exact BK394.out) hb); have n4_ := Aside0.mk (below_step (by repeat (first | (with_reducible first | exact HB.out | apply below_alloc | apply pw_below_drewN | apply below_drew1 | refine below_set ?_ GE389.out | refine below_set ?_ GE394.out) | exact HB.out)) hb); clear HO_8; clear HO_395001; clear BK389; clear BK394; clear HB; have HO_8 := n0_; have HO_395001 := n1_; have BK389 := n2_; have BK394 := n3_; have HB := n4_; clear n0_ n1_ n2_ n3_ n4_; (try clear hb); (try clear hb2); (try clear hk); (try clear hi)))
                  go_ret
                  exact ⟨by first | rfl | (simp [errW_none, errW_some] <;> rfl) | (simp [*, errW_none, errW_some] <;> rfl), by repeat (first | (with_reducible first | exact HB.out | apply below_alloc | apply pw_below_drewN | apply below_drew1 | refine below_set ?_ GE389.out | refine below_set ?_ GE394.out) | exact HB.out)⟩
        · rw [if_neg c18] at H
          exact absurd H (by simp)

end Go.Proofs.Ytbahnialbffkeaa.P
