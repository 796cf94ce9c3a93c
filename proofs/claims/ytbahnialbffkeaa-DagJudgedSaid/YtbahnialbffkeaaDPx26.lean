/- Written by a program: plain Lean functions that answer as Go functions of this seat do, and the proofs that the calls come to these answers. -/
import Derived.Test.YtbahnialbffkeaaDPx0
import Derived.Test.YtbahnialbffkeaaDPx11
import Derived.Test.YtbahnialbffkeaaDPx18
import Derived.Test.YtbahnialbffkeaaDPx23
import Derived.Test.YtbahnialbffkeaaDPx24
import Derived.Test.YtbahnialbffkeaaDJudge
namespace Go.Proofs.Ytbahnialbffkeaa.P
open Go.RowKit Go.Proofs.YtbahnialbffkeaaW.PrintWords Go.Proofs.YtbahnialbffkeaaW.PrintLast Go.Proofs.YtbahnialbffkeaaW.PrintMore
attribute [local go_sem] max2_int min2_int max_two min_two max_three min_three max_four min_four   -- for this text's walks alone
set_option linter.unusedVariables false
set_option linter.unusedSimpArgs false

mutual
def plunderlaw7_DagJudged.l0 : Nat → List Int → Int → List Int → Int → Int → List (S50) → Option (Bool)
  | 0, _, _, _, _, _, _ => none
  | k + 1, x3, x10, x11, x12, x486000, x486001 => if x12 < x486000 then (if 0 ≤ x12 then (if x12 < (x11.length : Int) then (plunderlaw7_DagJudged.l0 k x3 x10 (x11.set (x12 : Int).toNat (wrap64 (x12 + 1))) (wrap64 (x12 + 1)) x486000 x486001) else (none)) else (none)) else ((dag_Judge.f k x486000 x486001 1 x11).bind fun bt491 => ((dag_Judge.f k x486000 x486001 x10 x11).bind fun bt493 => ((dag_Span.f k x486000 x486001).bind fun bt495 => (if bt491.2 = 0 then (if bt493.2 = 0 then (if bt495.2 = 0 then (if bt491.1 = 2 then (plunderlaw7_DagJudged.j1 k x3 x10 bt495.1 (bt493.1 == 0) x486000 x486001) else (plunderlaw7_DagJudged.j1 k x3 x10 bt495.1 true x486000 x486001)) else (plunderlaw7_DagJudged.j1 k x3 x10 bt495.1 true x486000 x486001)) else (plunderlaw7_DagJudged.j1 k x3 x10 bt495.1 true x486000 x486001)) else (plunderlaw7_DagJudged.j1 k x3 x10 bt495.1 true x486000 x486001)))))
def plunderlaw7_DagJudged.j1 : Nat → List Int → Int → Int → Bool → Int → List (S50) → Option (Bool)
  | 0, _, _, _, _, _, _ => none
  | k + 1, x3, x10, x17, x79, x486000, x486001 => if x79 = true then (some false) else (plunderlaw7_DagJudged.l1 k x3 x10 x17 ([] : List Int) 0 x486000 x486001)
def plunderlaw7_DagJudged.l1 : Nat → List Int → Int → Int → List Int → Int → Int → List (S50) → Option (Bool)
  | 0, _, _, _, _, _, _, _ => none
  | k + 1, x3, x10, x17, x19, x20, x486000, x486001 => if x20 < x486000 then ((plunderlaw7_rank.f x3 x20).bind fun t497 => (if x19.length < 17592186044416 then (plunderlaw7_DagJudged.l1 k x3 x10 x17 (x19 ++ [t497]) (wrap64 (x20 + 1)) x486000 x486001) else (none))) else ((dag_Judge.f k x486000 x486001 x10 x19).bind fun bt501 => (if bt501.2 = 0 then (if bt501.1 < 0 then (plunderlaw7_DagJudged.j3 k x10 x17 x19 bt501.1 true x486000 x486001) else (plunderlaw7_DagJudged.j3 k x10 x17 x19 bt501.1 (decide (bt501.1 > 2)) x486000 x486001)) else (plunderlaw7_DagJudged.j3 k x10 x17 x19 bt501.1 true x486000 x486001)))
def plunderlaw7_DagJudged.j3 : Nat → Int → Int → List Int → Int → Bool → Int → List (S50) → Option (Bool)
  | 0, _, _, _, _, _, _, _ => none
  | k + 1, x10, x17, x19, x21, x108, x486000, x486001 => if x108 = true then (some false) else (if x21 = 0 then (some true) else ((plunderlaw7_length.f k x19).bind fun t503 => (if t503 < x17 then (some false) else (if x10 = 0 then (none) else (if t503 < (wrap64 (Int.tdiv (wrap64 ((wrap64 (x486000 + x10)) - 1)) x10)) then (some false) else (if x21 = 1 then (some true) else (if t503 ≤ x486000 then ((plunderlaw7_bounds.f x486000 x17 x10 t503).bind fun t504 => (some t504)) else (some false))))))))
end
def plunderlaw7_DagJudged.f (k : Nat) (a0 : Int) (l1 : List (S50)) (a2 : Int) (l3 : List Int) : Option (Bool) := (plunderlaw7_fit.f k a0 l1).bind fun bt481 => ((plunderlaw7_mod.f a2 64).bind fun t486 => (if 0 ≤ bt481.1 then (if (bt481.1 : Int).toNat ≤ 35184372088832 then (plunderlaw7_DagJudged.l0 k l3 (wrap64 (1 + t486)) (List.replicate (bt481.1 : Int).toNat 0) 0 bt481.1 bt481.2) else (none)) else (none)))
set_option maxHeartbeats 8000000 in
set_option maxRecDepth 100000 in
theorem plunderlaw7_DagJudged.calls (k : Nat) (a0 : Int) (A1 : Option Addr) (c1 : Nat) (l1 : List (S50)) (a2 : Int) (A3 : Option Addr) (c3 : Nat) (l3 : List Int) (r : Bool) (w : World) (hr1 : Kd.C k50 w A1 l1.length l1) (hc1 : l1.length ≤ c1) (hr3 : Kd.C (Kd.int .i64) w A3 l3.length l3) (hc3 : l3.length ≤ c3) (h : plunderlaw7_DagJudged.f k a0 l1 a2 l3 = some r) :
    Calls Try.prog 13 #[.int .i64 a0, .slice A1 l1.length c1, .int .i64 a2, .slice A3 l3.length c3] w fun e w' => e = .returned (.bool r) ∧ Below w.heap.size w w' := by
  have hu26 := Try.underlying26
  have HR1 := Aside0.mk hr1
  have HC1 := Aside0.mk hc1
  clear hr1 hc1
  have HR3 := Aside0.mk hr3
  have HC3 := Aside0.mk hc3
  clear hr3 hc3
  have HB := Aside0.mk (Below.refl w.heap.size w)
  have H : ((plunderlaw7_fit.f k a0 l1).bind fun bt481 => ((plunderlaw7_mod.f a2 64).bind fun t486 => (if 0 ≤ bt481.1 then (if (bt481.1 : Int).toNat ≤ 35184372088832 then (plunderlaw7_DagJudged.l0 k l3 (wrap64 (1 + t486)) (List.replicate (bt481.1 : Int).toNat 0) 0 bt481.1 bt481.2) else (none)) else (none)))) = some r := h
  clear h
  replace H := Option.bind_eq_some_iff.mp H
  obtain ⟨⟨t481, t482⟩, A50, H⟩ := H
  replace H : ((plunderlaw7_mod.f a2 64).bind fun t486 => (if 0 ≤ t481 then (if (t481 : Int).toNat ≤ 35184372088832 then (plunderlaw7_DagJudged.l0 k l3 (wrap64 (1 + t486)) (List.replicate (t481 : Int).toNat 0) 0 t481 t482) else (none)) else (none))) = some r := H
  have A5 := Aside0.mk A50
  clear A50
  replace H := Option.bind_eq_some_iff.mp H
  obtain ⟨t486, A60, H⟩ := H
  replace H : (if 0 ≤ t481 then (if (t481 : Int).toNat ≤ 35184372088832 then (plunderlaw7_DagJudged.l0 k l3 (wrap64 (1 + t486)) (List.replicate (t481 : Int).toNat 0) 0 t481 t482) else (none)) else (none)) = some r := H
  have A6 := Aside0.mk A60
  clear A60
  by_cases c7 : 0 ≤ t481
  · rw [if_pos c7] at H
    have c7b0 := eq_true c7
    have c7b1 : decide (0 ≤ t481) = true := decide_eq_true c7
    clear c7
    by_cases c8 : (t481 : Int).toNat ≤ 35184372088832
    · rw [if_pos c8] at H
      have c8b0 := eq_true c8
      have c8b1 : decide ((t481 : Int).toNat ≤ 35184372088832) = true := decide_eq_true c8
      clear c8
      obtain ⟨y487, hy487⟩ : ∃ y_ : List Int, y_ = (List.replicate (t481 : Int).toNat 0) := ⟨_, rfl⟩
      replace H : (plunderlaw7_DagJudged.l0 k l3 (wrap64 (1 + t486)) y487 0 t481 t482) = some r := by first | (rw [hy487]; with_reducible exact H) | (have H2_ := (Option.bind_some _ _).symm.trans H; rw [hy487]; with_reducible exact H2_) | (have H2_ := (Option.bind_some _ _).symm.trans H; with_reducible exact H2_) | with_reducible exact H | (rw [hy487]; exact H) | exact H
      have Ny487 := Aside0.mk hy487
      clear hy487
      have H' := Aside0.mk H
      clear H
      go_enter Try.func13, Try.ntmps13
      go_wp2_with (first | ((with_reducible refine gate_callee (f := 33) rfl ?_); refine goesL_ (some 26) rfl rfl Try.func33 (by kernel_rfl) rfl #[.int .i64 a0, .slice A1 l1.length c1] rfl (by (try simp only [List.map_toArray, List.map_cons, List.map_nil]); first | done | rfl | (simp only [List.length_drop, List.length_take]; rfl)) ?_; (with_reducible refine (plunderlaw7_fit.calls k a0 _ _ l1 t481 t482 _ ?side1 ?side2 A5.out).mono ?_); (case side1 => repeat (first | exact HR1.out | (with_reducible refine Kd.C_alloc ?_ _) | (with_reducible refine Kd.C_drewN ?_ _) | (with_reducible refine Kd.C_drew ?_))); (case side2 => exact HC1.out); rintro e w9 ⟨v483, rfl, ho0, hb⟩; refine ⟨_, rfl, ?_⟩; have n0_ := Aside0.mk (Kd.R_lower ho0 (below_size (by repeat (first | (with_reducible first | exact HB.out | apply below_alloc | apply pw_below_drewN | apply below_drew1) | exact HB.out)))); have n1_ := Aside0.mk (below_step (by repeat (first | (with_reducible first | exact HB.out | apply below_alloc | apply pw_below_drewN | apply below_drew1) | exact HB.out)) hb); clear HB; have HO484 := n0_; have HB := n1_; clear n0_ n1_; (try clear hb); (try clear hb2); (try clear hk); (try clear hi); (try clear ho0)) | ((with_reducible refine gate_dst (N := 9) rfl ?_); refine box_event ?hg (N := 9) ?hd (cs := #[.int .i64 0, .slice none 0 0]) (t := 26) ?hr ?_; (case hd => rfl); (case hg => rfl); (case hr => first | (go_simp; done) | (go_simp; rfl)); intro gb485 hg w10 hbox hb; have n0_ := Aside0.mk (Kd.R_below (by (with_reducible repeat (first | apply Kd.R_alloc | apply Kd.R_drewN | apply Kd.R_drew)); exact HO484.out) hb); have n1_ := Aside0.mk (below_step (by repeat (first | (with_reducible first | exact HB.out | apply below_alloc | apply pw_below_drewN | apply below_drew1) | exact HB.out)) hb); have n2_ := Aside0.mk (hbox); have n3_ := Aside0.mk ((by rw [hg]; exact (below_size (by repeat (first | (with_reducible first | exact HB.out | apply below_alloc | apply pw_below_drewN | apply below_drew1) | exact HB.out))) : w.heap.size ≤ gb485)); have n4_ := Aside0.mk ((by rw [hg]; exact (below_size (by repeat (first | (with_reducible first | exact HB.out | apply below_alloc | apply pw_below_drewN | apply below_drew1) | exact HB.out))) : w.heap.size ≤ gb485)); clear HO484; clear HB; have HO484 := n0_; have HB := n1_; have BK485 := n2_; have GW485 := n3_; have GE485 := n4_; clear n0_ n1_ n2_ n3_ n4_; clear hb hbox hg; have hcz11_0 : w10.cell? ⟨gb485, 0, none⟩ = some (.int .i64 0) := (blk_cell BK485.out 0).trans rfl; have hcz11_1 : w10.cell? ⟨gb485, 1, none⟩ = some (.slice none 0 0) := (blk_cell BK485.out 1).trans rfl; have hfz11_0 := blk_frozen BK485.out 0; have hfz11_1 := blk_frozen BK485.out 1; obtain ⟨Ao12, co12, eo12⟩ := Kd.R_slice HO484.out; subst eo12) | ((with_reducible refine gate_callee (f := 34) rfl ?_); refine goesL_ (some 28) rfl rfl Try.func34 (by kernel_rfl) rfl #[.int .i64 a2, .int .i64 64] rfl (by (try simp only [List.map_toArray, List.map_cons, List.map_nil]); first | done | rfl | (simp only [List.length_drop, List.length_take]; rfl)) ?_; (with_reducible refine (plunderlaw7_mod.calls a2 64 t486 _ A6.out).mono ?_); rintro e w' ⟨rfl, ⟨nd, rfl⟩⟩; refine ⟨_, rfl, ?_⟩) | ((with_reducible refine gate_dst (N := 32) rfl ?_); refine Kd.R_make (Kd.int .i64) _ 3 rfl (N := 32) rfl 33 _ _ rfl t481 rfl rfl Try.underlying33 (.int .i64 0) 8 info3 rfl (by decide) (by omega) 0 (ok := fun _ => True) (okp := fun _ => True) rfl (fun _ hk => hk) trivial (of_decide_eq_true (by first | (with_reducible assumption) | assumption)) (Nat.le_trans (Nat.mul_le_mul_right _ (of_decide_eq_true (by first | (with_reducible assumption) | assumption) : t481.toNat ≤ 35184372088832)) (by omega)) (Below.refl _ _) (Nat.le_refl _) ?_; intro v488 w13 ho14 hb hg_ hnew_; clear hg_ hnew_; (first | rw [← Ny487.out] at ho14 | (simp only [Int.reduceToNat] at ho14; rw [← Ny487.out] at ho14)); have n0_ := Aside0.mk (Kd.R_below (by (with_reducible repeat (first | apply Kd.R_alloc | apply Kd.R_drewN | apply Kd.R_drew)); exact (Kd.R_mono (Kd.R_far (p := ⟨gb485, 1, none⟩) (Kd.R_far (p := ⟨gb485, 0, none⟩) (Kd.R_types HO484.out BK485.out (by decide)) (fun _ hk => hk.2) (.int .i64 t481)) (fun _ hk => hk.2) (.slice Ao12 t482.length co12)) (fun _ h_ => h_.1))) hb); have n1_ := Aside0.mk (Kd.R_lower ho14 (below_size (by repeat (first | (with_reducible first | exact HB.out | apply below_alloc | apply pw_below_drewN | apply below_drew1 | refine below_set ?_ GE485.out) | exact HB.out)))); have n2_ := Aside0.mk (blk_below (g := gb485) (o := .cells #[.int .i64 t481, .slice Ao12 t482.length co12] 26 (0, 0)) (by (with_reducible repeat (first | refine blk_drewN ?_ _ | refine blk_drew ?_ | refine blk_alloc ?_ _)); refine blk_put (cs := #[.int .i64 t481, .slice none 0 0]) ?_ 1 _ rfl; (with_reducible repeat (first | refine blk_drewN ?_ _ | refine blk_drew ?_ | refine blk_alloc ?_ _)); refine blk_put (cs := #[.int .i64 0, .slice none 0 0]) ?_ 0 _ rfl; (with_reducible repeat (first | refine blk_drewN ?_ _ | refine blk_drew ?_ | refine blk_alloc ?_ _)); exact BK485.out) hb); have n3_ := Aside0.mk (below_step (by repeat (first | (with_reducible first | exact HB.out | apply below_alloc | apply pw_below_drewN | apply below_drew1 | refine below_set ?_ GE485.out) | exact HB.out)) hb); clear HO484; clear BK485; clear HB; have HO484 := n0_; have HO489 := n1_; have BK485 := n2_; have HB := n3_; clear n0_ n1_ n2_ n3_; clear hb ho14))
      go_loopg [12] k (fun kq v12 w' => ∃ (x11_1 : List Int) (x12_1 : Int), v12 = .int .i64 x12_1 ∧ Aside0 (plunderlaw7_DagJudged.l0 kq l3 (wrap64 (1 + t486)) x11_1 x12_1 t481 t482 = some r) ∧ Aside0 (kq ≤ k) ∧ Aside0 (Kd.R (Kd.int .i64) 3 w' w.heap.size (fun _ => True) v488 x11_1) ∧ Aside0 (Kd.R k50 50 w' w.heap.size (fun _ => True) (.slice Ao12 t482.length co12) t482) ∧ Aside0 (w'.heap[gb485]? = some (.cells #[.int .i64 t481, (.slice Ao12 t482.length co12)] 26 (0, 0))) ∧ Aside0 (Below w.heap.size w w'))
      case atStart => exact ⟨(y487), (0), (by first | rfl | (simp; done) | (simp [*]; done)), H', ⟨Nat.le_refl _⟩, ⟨by (with_reducible repeat (first | apply Kd.R_alloc | apply Kd.R_drewN | apply Kd.R_drew)); exact HO489.out⟩, ⟨by (with_reducible repeat (first | apply Kd.R_alloc | apply Kd.R_drewN | apply Kd.R_drew)); exact HO484.out⟩, ⟨by (with_reducible repeat (first | refine blk_drewN ?_ _ | refine blk_drew ?_ | refine blk_alloc ?_ _)); exact BK485.out⟩, ⟨by repeat (first | (with_reducible first | exact HB.out | apply below_alloc | apply pw_below_drewN | apply below_drew1 | refine below_set ?_ GE485.out) | exact HB.out)⟩⟩
      case round =>
        clear H'
        try clear c1
        try clear p2
        try clear c3
        try clear p6
        try clear c7
        try clear c7b0
        try clear c7b1
        try clear c8
        try clear c8b0
        try clear c8b1
        try clear c13
        try clear hcz11_0
        try clear hcz11_1
        try clear hfz11_0
        try clear hfz11_1
        obtain ⟨x11_1, x12_1, rfl, HA, HK1, HO_11, HO_486001, BK485, HB⟩ := hrel
        cases gk with
        | zero => exact absurd HA.out (by simp [plunderlaw7_DagJudged.l0])
        | succ k1 =>
          have H := HA.out
          clear HA
          simp only [plunderlaw7_DagJudged.l0] at H
          by_cases c15 : x12_1 < t481
          · rw [if_pos c15] at H
            have c15b0 : decide (x12_1 < t481) = true := decide_eq_true c15
            clear c15
            by_cases c16 : 0 ≤ x12_1
            · rw [if_pos c16] at H
              have c16b0 : decide (0 ≤ x12_1) = true := decide_eq_true c16
              clear c16
              by_cases c17 : x12_1 < (x11_1.length : Int)
              · rw [if_pos c17] at H
                have c17b0 : decide (x12_1 < (x11_1.length : Int)) = true := decide_eq_true c17
                clear c17
                obtain ⟨y490, hy490⟩ : ∃ y_ : List Int, y_ = (x11_1.set (x12_1 : Int).toNat (wrap64 (x12_1 + 1))) := ⟨_, rfl⟩
                replace H : (plunderlaw7_DagJudged.l0 k1 l3 (wrap64 (1 + t486)) y490 (wrap64 (x12_1 + 1)) t481 t482) = some r := by first | (rw [hy490]; with_reducible exact H) | (have H2_ := (Option.bind_some _ _).symm.trans H; rw [hy490]; with_reducible exact H2_) | (have H2_ := (Option.bind_some _ _).symm.trans H; with_reducible exact H2_) | with_reducible exact H | (rw [hy490]; exact H) | exact H
                have Ny490 := Aside0.mk hy490
                clear hy490
                have H' := Aside0.mk H
                clear H
                have hcz19_0 : wr.cell? ⟨gb485, 0, none⟩ = some (.int .i64 t481) := (blk_cell BK485.out 0).trans rfl
                have hcz19_1 : wr.cell? ⟨gb485, 1, none⟩ = some (.slice Ao12 t482.length co12) := (blk_cell BK485.out 1).trans rfl
                have hfz19_0 := blk_frozen BK485.out 0
                have hfz19_1 := blk_frozen BK485.out 1
                have p18 : 0 ≤ (x12_1 : Int) := of_decide_eq_true (by first | (with_reducible assumption) | assumption)
                have q18 : (x12_1 : Int) < ((x11_1.length : Int) : Int) := of_decide_eq_true (by first | (with_reducible assumption) | assumption)
                obtain ⟨go18, co18, eo18, gb18, gl18, cl18, HG18⟩ := Kd.R_form HO_11.out (by omega)
                (first | cases eo18 | (injection eo18 with ea_ en_ ec_; (first | subst ea_ | (injection ea_ with ea_; subst ea_)); subst ec_; clear en_))
                have GB18 := Aside0.mk gb18
                have GG18 := Aside0.mk HG18
                clear gb18 gl18 HG18
                obtain ⟨hx18_0, hf18_0⟩ := Kd.R_celln 0 HO_11.out (x12_1 : Int) p18 q18
                replace p18 := eq_true p18
                replace q18 := eq_true q18
                have HP20 := Kd.R_putg HO_11.out (x12_1 : Int) (wrap64 (x12_1 + 1))
                go_wp2_with (first | ((with_reducible refine gate_store (t := 3) (p := 43) rfl ?_); refine store_event (t := 3) (p := 43) (v := ?vo_w21) (w1 := (wr.setCell ⟨go18, (x12_1 : Int).toNat, none⟩ (.int .i64 (wrap64 (x12_1 + 1))))) ?hg ?ho ?hn ?hr ?_; (case ho => rfl); (case hg => rfl); (case hn => rfl); (case hr => first | (go_simp; done) | (go_simp; rfl)); intro w21 hw; have hg : wr.grownBy w21 (some go18) := (by rw [hw]; exact HP20.2); have hp_ : Kd.R (Kd.int .i64) 3 w21 w.heap.size (fun _ => True) (.slice (some ⟨go18, 0, none⟩) x11_1.length co18) y490 := (by rw [hw, Ny490.out]; exact HP20.1); clear HP20; have n0_ := Aside0.mk (hp_); have n1_ := Aside0.mk (Kd.R_over' (v := (.slice (some ⟨go18, 0, none⟩) x11_1.length co18)) (by (with_reducible repeat (first | apply Kd.R_alloc | apply Kd.R_drewN | apply Kd.R_drew)); exact HO_486001.out) (Kd.R_typed HO_11.out) (by decide) hg); have n2_ := Aside0.mk (blk_grown (g := gb485) (o := .cells #[.int .i64 t481, .slice Ao12 t482.length co12] 26 (0, 0)) (by (with_reducible repeat (first | refine blk_drewN ?_ _ | refine blk_drew ?_ | refine blk_alloc ?_ _)); exact BK485.out) hg (Kd.R_ne HO_11.out BK485.out (by decide))); have n3_ := Aside0.mk ((by rw [hw]; exact below_set (HB.out) GB18.out : Below w.heap.size w w21)); clear HO_11; clear HO_486001; clear BK485; clear HB; have HO_11 := n0_; have HO_486001 := n1_; have BK485 := n2_; have HB := n3_; clear n0_ n1_ n2_ n3_; clear hg hw hp_))
                go_roundg k1
                case measure => have := HK1.out; omega
                case rel => exact ⟨(y490), (wrap64 (x12_1 + 1)), (by first | rfl | (simp; done) | (simp [*]; done)), H', ⟨by have := HK1.out; omega⟩, ⟨by (with_reducible repeat (first | apply Kd.R_alloc | apply Kd.R_drewN | apply Kd.R_drew)); exact HO_11.out⟩, ⟨by (with_reducible repeat (first | apply Kd.R_alloc | apply Kd.R_drewN | apply Kd.R_drew)); exact HO_486001.out⟩, ⟨by (with_reducible repeat (first | refine blk_drewN ?_ _ | refine blk_drew ?_ | refine blk_alloc ?_ _)); exact BK485.out⟩, ⟨by repeat (first | (with_reducible first | exact HB.out | apply below_alloc | apply pw_below_drewN | apply below_drew1 | refine below_set ?_ GE485.out) | exact HB.out)⟩⟩
              · rw [if_neg c17] at H
                exact absurd H (by simp)
            · rw [if_neg c16] at H
              exact absurd H (by simp)
          · rw [if_neg c15] at H
            have c15b0 : decide (x12_1 < t481) = false := decide_eq_false c15
            clear c15
            replace H := Option.bind_eq_some_iff.mp H
            obtain ⟨⟨t491, t492⟩, A220, H⟩ := H
            replace H : ((dag_Judge.f k1 t481 t482 (wrap64 (1 + t486)) x11_1).bind fun bt493 => ((dag_Span.f k1 t481 t482).bind fun bt495 => (if t492 = 0 then (if bt493.2 = 0 then (if bt495.2 = 0 then (if t491 = 2 then (plunderlaw7_DagJudged.j1 k1 l3 (wrap64 (1 + t486)) bt495.1 (bt493.1 == 0) t481 t482) else (plunderlaw7_DagJudged.j1 k1 l3 (wrap64 (1 + t486)) bt495.1 true t481 t482)) else (plunderlaw7_DagJudged.j1 k1 l3 (wrap64 (1 + t486)) bt495.1 true t481 t482)) else (plunderlaw7_DagJudged.j1 k1 l3 (wrap64 (1 + t486)) bt495.1 true t481 t482)) else (plunderlaw7_DagJudged.j1 k1 l3 (wrap64 (1 + t486)) bt495.1 true t481 t482)))) = some r := H
            have A22 := Aside0.mk A220
            clear A220
            replace H := Option.bind_eq_some_iff.mp H
            obtain ⟨⟨t493, t494⟩, A230, H⟩ := H
            replace H : ((dag_Span.f k1 t481 t482).bind fun bt495 => (if t492 = 0 then (if t494 = 0 then (if bt495.2 = 0 then (if t491 = 2 then (plunderlaw7_DagJudged.j1 k1 l3 (wrap64 (1 + t486)) bt495.1 (t493 == 0) t481 t482) else (plunderlaw7_DagJudged.j1 k1 l3 (wrap64 (1 + t486)) bt495.1 true t481 t482)) else (plunderlaw7_DagJudged.j1 k1 l3 (wrap64 (1 + t486)) bt495.1 true t481 t482)) else (plunderlaw7_DagJudged.j1 k1 l3 (wrap64 (1 + t486)) bt495.1 true t481 t482)) else (plunderlaw7_DagJudged.j1 k1 l3 (wrap64 (1 + t486)) bt495.1 true t481 t482))) = some r := H
            have A23 := Aside0.mk A230
            clear A230
            replace H := Option.bind_eq_some_iff.mp H
            obtain ⟨⟨t495, t496⟩, A240, H⟩ := H
            replace H : (if t492 = 0 then (if t494 = 0 then (if t496 = 0 then (if t491 = 2 then (plunderlaw7_DagJudged.j1 k1 l3 (wrap64 (1 + t486)) t495 (t493 == 0) t481 t482) else (plunderlaw7_DagJudged.j1 k1 l3 (wrap64 (1 + t486)) t495 true t481 t482)) else (plunderlaw7_DagJudged.j1 k1 l3 (wrap64 (1 + t486)) t495 true t481 t482)) else (plunderlaw7_DagJudged.j1 k1 l3 (wrap64 (1 + t486)) t495 true t481 t482)) else (plunderlaw7_DagJudged.j1 k1 l3 (wrap64 (1 + t486)) t495 true t481 t482)) = some r := H
            have A24 := Aside0.mk A240
            clear A240
            have HC25 := Aside0.mk H
            clear H
            have hcz26_0 : wr.cell? ⟨gb485, 0, none⟩ = some (.int .i64 t481) := (blk_cell BK485.out 0).trans rfl
            have hcz26_1 : wr.cell? ⟨gb485, 1, none⟩ = some (.slice Ao12 t482.length co12) := (blk_cell BK485.out 1).trans rfl
            have hfz26_0 := blk_frozen BK485.out 0
            have hfz26_1 := blk_frozen BK485.out 1
            obtain ⟨Ao27, co27, eo27⟩ := Kd.R_slice HO_11.out
            subst eo27
            go_upto_region 11 with (first | ((with_reducible refine gate_callee (f := 35) rfl ?_); refine goesL_ (some 47) rfl rfl Try.func35 (by kernel_rfl) rfl #[.agg #[.int .i64 t481, .slice Ao12 t482.length co12], .int .i64 1, .slice Ao27 x11_1.length co27] rfl (by (try simp only [List.map_toArray, List.map_cons, List.map_nil]); first | done | rfl | (simp only [List.length_drop, List.length_take]; rfl)) ?_; (with_reducible refine (dag_Judge.calls k1 t481 _ _ t482 1 _ _ x11_1 t491 t492 _ ?side1 ?side2 ?side3 ?side4 A22.out).mono ?_); (case side1 => repeat (first | exact (Kd.R_reads' HO_486001.out).2.2 | (with_reducible refine Kd.C_alloc ?_ _) | (with_reducible refine Kd.C_drewN ?_ _) | (with_reducible refine Kd.C_drew ?_))); (case side2 => exact (Kd.R_reads' HO_486001.out).2.1); (case side3 => repeat (first | exact (Kd.R_reads' HO_11.out).2.2 | (with_reducible refine Kd.C_alloc ?_ _) | (with_reducible refine Kd.C_drewN ?_ _) | (with_reducible refine Kd.C_drew ?_))); (case side4 => exact (Kd.R_reads' HO_11.out).2.1); rintro e w28 ⟨rfl, hb⟩; refine ⟨_, rfl, ?_⟩; have n0_ := Aside0.mk (Kd.R_below (by (with_reducible repeat (first | apply Kd.R_alloc | apply Kd.R_drewN | apply Kd.R_drew)); exact HO_11.out) hb); have n1_ := Aside0.mk (Kd.R_below (by (with_reducible repeat (first | apply Kd.R_alloc | apply Kd.R_drewN | apply Kd.R_drew)); exact HO_486001.out) hb); have n2_ := Aside0.mk (blk_below (g := gb485) (o := .cells #[.int .i64 t481, .slice Ao12 t482.length co12] 26 (0, 0)) (by (with_reducible repeat (first | refine blk_drewN ?_ _ | refine blk_drew ?_ | refine blk_alloc ?_ _)); exact BK485.out) hb); have n3_ := Aside0.mk (below_step (by repeat (first | (with_reducible first | exact HB.out | apply below_alloc | apply pw_below_drewN | apply below_drew1 | refine below_set ?_ GE485.out) | exact HB.out)) hb); clear HO_11; clear HO_486001; clear BK485; clear HB; have HO_11 := n0_; have HO_486001 := n1_; have BK485 := n2_; have HB := n3_; clear n0_ n1_ n2_ n3_; (try clear hb); (try clear hb2); (try clear hk); (try clear hi); have hcz29_0 : w28.cell? ⟨gb485, 0, none⟩ = some (.int .i64 t481) := (blk_cell BK485.out 0).trans rfl; have hcz29_1 : w28.cell? ⟨gb485, 1, none⟩ = some (.slice Ao12 t482.length co12) := (blk_cell BK485.out 1).trans rfl; have hfz29_0 := blk_frozen BK485.out 0; have hfz29_1 := blk_frozen BK485.out 1) | ((with_reducible refine gate_callee (f := 35) rfl ?_); refine goesL_ (some 54) rfl rfl Try.func35 (by kernel_rfl) rfl #[.agg #[.int .i64 t481, .slice Ao12 t482.length co12], .int .i64 (wrap64 (1 + t486)), .slice Ao27 x11_1.length co27] rfl (by (try simp only [List.map_toArray, List.map_cons, List.map_nil]); first | done | rfl | (simp only [List.length_drop, List.length_take]; rfl)) ?_; (with_reducible refine (dag_Judge.calls k1 t481 _ _ t482 (wrap64 (1 + t486)) _ _ x11_1 t493 t494 _ ?side1 ?side2 ?side3 ?side4 A23.out).mono ?_); (case side1 => repeat (first | exact (Kd.R_reads' HO_486001.out).2.2 | (with_reducible refine Kd.C_alloc ?_ _) | (with_reducible refine Kd.C_drewN ?_ _) | (with_reducible refine Kd.C_drew ?_))); (case side2 => exact (Kd.R_reads' HO_486001.out).2.1); (case side3 => repeat (first | exact (Kd.R_reads' HO_11.out).2.2 | (with_reducible refine Kd.C_alloc ?_ _) | (with_reducible refine Kd.C_drewN ?_ _) | (with_reducible refine Kd.C_drew ?_))); (case side4 => exact (Kd.R_reads' HO_11.out).2.1); rintro e w30 ⟨rfl, hb⟩; refine ⟨_, rfl, ?_⟩; have n0_ := Aside0.mk (Kd.R_below (by (with_reducible repeat (first | apply Kd.R_alloc | apply Kd.R_drewN | apply Kd.R_drew)); exact HO_11.out) hb); have n1_ := Aside0.mk (Kd.R_below (by (with_reducible repeat (first | apply Kd.R_alloc | apply Kd.R_drewN | apply Kd.R_drew)); exact HO_486001.out) hb); have n2_ := Aside0.mk (blk_below (g := gb485) (o := .cells #[.int .i64 t481, .slice Ao12 t482.length co12] 26 (0, 0)) (by (with_reducible repeat (first | refine blk_drewN ?_ _ | refine blk_drew ?_ | refine blk_alloc ?_ _)); exact BK485.out) hb); have n3_ := Aside0.mk (below_step (by repeat (first | (with_reducible first | exact HB.out | apply below_alloc | apply pw_below_drewN | apply below_drew1 | refine below_set ?_ GE485.out) | exact HB.out)) hb); clear HO_11; clear HO_486001; clear BK485; clear HB; have HO_11 := n0_; have HO_486001 := n1_; have BK485 := n2_; have HB := n3_; clear n0_ n1_ n2_ n3_; (try clear hb); (try clear hb2); (try clear hk); (try clear hi); have hcz31_0 : w30.cell? ⟨gb485, 0, none⟩ = some (.int .i64 t481) := (blk_cell BK485.out 0).trans rfl; have hcz31_1 : w30.cell? ⟨gb485, 1, none⟩ = some (.slice Ao12 t482.length co12) := (blk_cell BK485.out 1).trans rfl; have hfz31_0 := blk_frozen BK485.out 0; have hfz31_1 := blk_frozen BK485.out 1) | ((with_reducible refine gate_callee (f := 27) rfl ?_); refine goesL_ (some 59) rfl rfl Try.func27 (by kernel_rfl) rfl #[.agg #[.int .i64 t481, .slice Ao12 t482.length co12]] rfl (by (try simp only [List.map_toArray, List.map_cons, List.map_nil]); first | done | rfl | (simp only [List.length_drop, List.length_take]; rfl)) ?_; (with_reducible refine (dag_Span.calls k1 t481 _ _ t482 t495 t496 _ ?side1 ?side2 A24.out).mono ?_); (case side1 => repeat (first | exact (Kd.R_reads' HO_486001.out).2.2 | (with_reducible refine Kd.C_alloc ?_ _) | (with_reducible refine Kd.C_drewN ?_ _) | (with_reducible refine Kd.C_drew ?_))); (case side2 => exact (Kd.R_reads' HO_486001.out).2.1); rintro e w32 ⟨rfl, hb⟩; refine ⟨_, rfl, ?_⟩; have n0_ := Aside0.mk (Kd.R_below (by (with_reducible repeat (first | apply Kd.R_alloc | apply Kd.R_drewN | apply Kd.R_drew)); exact HO_11.out) hb); have n1_ := Aside0.mk (Kd.R_below (by (with_reducible repeat (first | apply Kd.R_alloc | apply Kd.R_drewN | apply Kd.R_drew)); exact HO_486001.out) hb); have n2_ := Aside0.mk (blk_below (g := gb485) (o := .cells #[.int .i64 t481, .slice Ao12 t482.length co12] 26 (0, 0)) (by (with_reducible repeat (first | refine blk_drewN ?_ _ | refine blk_drew ?_ | refine blk_alloc ?_ _)); exact BK485.out) hb); have n3_ := Aside0.mk (below_step (by repeat (first | (with_reducible first | exact HB.out | apply below_alloc | apply pw_below_drewN | apply below_drew1 | refine below_set ?_ GE485.out) | exact HB.out)) hb); clear HO_11; clear HO_486001; clear BK485; clear HB; have HO_11 := n0_; have HO_486001 := n1_; have BK485 := n2_; have HB := n3_; clear n0_ n1_ n2_ n3_; (try clear hb); (try clear hb2); (try clear hk); (try clear hi)))
            (try simp only [Act.put, List.setIfInBounds_toArray, List.set_cons_zero, List.set_cons_succ])
            go_cut [79] (fun v79 wc => ∃ (kq : Nat) (x79_24 : Bool), v79 = .bool x79_24 ∧ Aside0 (plunderlaw7_DagJudged.j1 kq l3 (wrap64 (1 + t486)) t495 x79_24 t481 t482 = some r) ∧ Aside0 (kq ≤ k1) ∧ Aside0 (Kd.R k50 50 wc w.heap.size (fun _ => True) (.slice Ao12 t482.length co12) t482) ∧ Aside0 (wc.heap[gb485]? = some (.cells #[.int .i64 t481, (.slice Ao12 t482.length co12)] 26 (0, 0))) ∧ Aside0 (Below w.heap.size w wc))
            case first =>
              have H := HC25.out
              clear HC25
              by_cases c33 : t492 = 0
              · rw [if_pos c33] at H
                have c33b0 : (t492 == 0) = true := beq_iff_eq.mpr c33
                have c33b1 : (t492 != 0) = false := bne_eq_false_iff_eq.mpr c33
                clear c33
                (first | rw [c33b0] | (simp only [i64_w, i32_w]; rw [c33b0]) | skip)
                by_cases c34 : t494 = 0
                · rw [if_pos c34] at H
                  have c34b0 : (t494 == 0) = true := beq_iff_eq.mpr c34
                  have c34b1 : (t494 != 0) = false := bne_eq_false_iff_eq.mpr c34
                  clear c34
                  by_cases c35 : t496 = 0
                  · rw [if_pos c35] at H
                    have c35b0 : (t496 == 0) = true := beq_iff_eq.mpr c35
                    have c35b1 : (t496 != 0) = false := bne_eq_false_iff_eq.mpr c35
                    clear c35
                    by_cases c36 : t491 = 2
                    · rw [if_pos c36] at H
                      have c36b0 : (t491 == 2) = true := beq_iff_eq.mpr c36
                      have c36b1 : (t491 != 2) = false := bne_eq_false_iff_eq.mpr c36
                      clear c36
                      have H' := Aside0.mk H
                      clear H
                      go_wp2
                      go_meet
                      case rel => exact ⟨_, ((t493 == 0)), (by first | rfl | (simp; done) | (simp [*]; done)), H', ⟨by have := HK1.out; first | omega | exact Nat.le_refl _⟩, ⟨by (with_reducible repeat (first | apply Kd.R_alloc | apply Kd.R_drewN | apply Kd.R_drew)); exact HO_486001.out⟩, ⟨by (with_reducible repeat (first | refine blk_drewN ?_ _ | refine blk_drew ?_ | refine blk_alloc ?_ _)); exact BK485.out⟩, ⟨by repeat (first | (with_reducible first | exact HB.out | apply below_alloc | apply pw_below_drewN | apply below_drew1 | refine below_set ?_ GE485.out) | exact HB.out)⟩⟩
                    · rw [if_neg c36] at H
                      have c36b0 : (t491 == 2) = false := beq_eq_false_iff_ne.mpr c36
                      have c36b1 : (t491 != 2) = true := bne_iff_ne.mpr c36
                      have H' := Aside0.mk H
                      clear H
                      go_wp2
                      go_meet
                      case rel => exact ⟨_, (true), (by first | rfl | (simp; done) | (simp [*]; done)), H', ⟨by have := HK1.out; first | omega | exact Nat.le_refl _⟩, ⟨by (with_reducible repeat (first | apply Kd.R_alloc | apply Kd.R_drewN | apply Kd.R_drew)); exact HO_486001.out⟩, ⟨by (with_reducible repeat (first | refine blk_drewN ?_ _ | refine blk_drew ?_ | refine blk_alloc ?_ _)); exact BK485.out⟩, ⟨by repeat (first | (with_reducible first | exact HB.out | apply below_alloc | apply pw_below_drewN | apply below_drew1 | refine below_set ?_ GE485.out) | exact HB.out)⟩⟩
                  · rw [if_neg c35] at H
                    have c35b0 : (t496 == 0) = false := beq_eq_false_iff_ne.mpr c35
                    have c35b1 : (t496 != 0) = true := bne_iff_ne.mpr c35
                    have H' := Aside0.mk H
                    clear H
                    go_wp2
                    go_meet
                    case rel => exact ⟨_, (true), (by first | rfl | (simp; done) | (simp [*]; done)), H', ⟨by have := HK1.out; first | omega | exact Nat.le_refl _⟩, ⟨by (with_reducible repeat (first | apply Kd.R_alloc | apply Kd.R_drewN | apply Kd.R_drew)); exact HO_486001.out⟩, ⟨by (with_reducible repeat (first | refine blk_drewN ?_ _ | refine blk_drew ?_ | refine blk_alloc ?_ _)); exact BK485.out⟩, ⟨by repeat (first | (with_reducible first | exact HB.out | apply below_alloc | apply pw_below_drewN | apply below_drew1 | refine below_set ?_ GE485.out) | exact HB.out)⟩⟩
                · rw [if_neg c34] at H
                  have c34b0 : (t494 == 0) = false := beq_eq_false_iff_ne.mpr c34
                  have c34b1 : (t494 != 0) = true := bne_iff_ne.mpr c34
                  have H' := Aside0.mk H
                  clear H
                  go_wp2
                  go_meet
                  case rel => exact ⟨_, (true), (by first | rfl | (simp; done) | (simp [*]; done)), H', ⟨by have := HK1.out; first | omega | exact Nat.le_refl _⟩, ⟨by (with_reducible repeat (first | apply Kd.R_alloc | apply Kd.R_drewN | apply Kd.R_drew)); exact HO_486001.out⟩, ⟨by (with_reducible repeat (first | refine blk_drewN ?_ _ | refine blk_drew ?_ | refine blk_alloc ?_ _)); exact BK485.out⟩, ⟨by repeat (first | (with_reducible first | exact HB.out | apply below_alloc | apply pw_below_drewN | apply below_drew1 | refine below_set ?_ GE485.out) | exact HB.out)⟩⟩
              · rw [if_neg c33] at H
                have c33b0 : (t492 == 0) = false := beq_eq_false_iff_ne.mpr c33
                have c33b1 : (t492 != 0) = true := bne_iff_ne.mpr c33
                (first | rw [c33b0] | (simp only [i64_w, i32_w]; rw [c33b0]) | skip)
                have H' := Aside0.mk H
                clear H
                go_wp2
                go_meet
                case rel => exact ⟨_, (true), (by first | rfl | (simp; done) | (simp [*]; done)), H', ⟨by have := HK1.out; first | omega | exact Nat.le_refl _⟩, ⟨by (with_reducible repeat (first | apply Kd.R_alloc | apply Kd.R_drewN | apply Kd.R_drew)); exact HO_486001.out⟩, ⟨by (with_reducible repeat (first | refine blk_drewN ?_ _ | refine blk_drew ?_ | refine blk_alloc ?_ _)); exact BK485.out⟩, ⟨by repeat (first | (with_reducible first | exact HB.out | apply below_alloc | apply pw_below_drewN | apply below_drew1 | refine below_set ?_ GE485.out) | exact HB.out)⟩⟩
            case rest =>
              clear HC25
              try clear c1
              try clear p1
              try clear q1
              try clear hx1
              try clear c2
              try clear p2
              try clear c3
              try clear p6
              try clear c7
              try clear c7b0
              try clear c7b1
              try clear c8
              try clear c8b0
              try clear c8b1
              try clear c13
              try clear c15
              try clear c15b0
              try clear c16
              try clear c16b0
              try clear c17
              try clear c17b0
              try clear p18
              try clear q18
              try clear hx18
              try clear hf18
              try clear c27
              try clear c33
              try clear c33b0
              try clear c33b1
              try clear c34
              try clear c34b0
              try clear c34b1
              try clear c35
              try clear c35b0
              try clear c35b1
              try clear c36
              try clear c36b0
              try clear c36b1
              try clear hcz11_0
              try clear hcz11_1
              try clear hcz19_0
              try clear hcz19_1
              try clear hcz26_0
              try clear hcz26_1
              try clear hcz29_0
              try clear hcz29_1
              try clear hcz31_0
              try clear hcz31_1
              try clear hfz11_0
              try clear hfz11_1
              try clear hfz19_0
              try clear hfz19_1
              try clear hfz26_0
              try clear hfz26_1
              try clear hfz29_0
              try clear hfz29_1
              try clear hfz31_0
              try clear hfz31_1
              try clear hx18_0
              try clear p18
              try clear p2
              try clear p6
              try clear q18
              obtain ⟨kq, x79_24, rfl, HA, HJ24, HO_486001, BK485, HB⟩ := hcut
              cases kq with
              | zero => exact absurd HA.out (by simp [plunderlaw7_DagJudged.j1])
              | succ kj24 =>
                have H := HA.out
                clear HA
                simp only [plunderlaw7_DagJudged.j1] at H
                by_cases c37 : x79_24 = true
                · subst c37
                  have H1 : (some false) = some r := by rw [if_pos rfl] at H; exact H
                  clear H
                  have H := H1
                  clear H1
                  obtain rfl := Option.some.inj H
                  go_wp2
                  go_ret
                  exact ⟨by first | rfl | (simp [errW_none, errW_some] <;> rfl) | (simp [*, errW_none, errW_some] <;> rfl), by repeat (first | (with_reducible first | exact HB.out | apply below_alloc | apply pw_below_drewN | apply below_drew1 | refine below_set ?_ GE485.out) | exact HB.out)⟩
                · replace c37 := Bool.eq_false_iff.mpr c37
                  subst c37
                  have H1 : (plunderlaw7_DagJudged.l1 kj24 l3 (wrap64 (1 + t486)) t495 ([] : List Int) 0 t481 t482) = some r := by rw [if_neg (show ¬ (false = true) by decide)] at H; exact H
                  clear H
                  have H := H1
                  clear H1
                  have H' := Aside0.mk H
                  clear H
                  go_wp2
                  go_loopg [19, 20] kj24 (fun kq v19 v20 w' => ∃ (x19_3 : List Int) (x20_3 : Int), v20 = .int .i64 x20_3 ∧ Aside0 (plunderlaw7_DagJudged.l1 kq l3 (wrap64 (1 + t486)) t495 x19_3 x20_3 t481 t482 = some r) ∧ Aside0 (kq ≤ kj24) ∧ Aside0 (Kd.R (Kd.int .i64) 3 w' w.heap.size (fun _ => True) v19 x19_3) ∧ Aside0 (Kd.R k50 50 w' w.heap.size (fun _ => True) (.slice Ao12 t482.length co12) t482) ∧ Aside0 (w'.heap[gb485]? = some (.cells #[.int .i64 t481, (.slice Ao12 t482.length co12)] 26 (0, 0))) ∧ Aside0 (Below w.heap.size w w'))
                  case atStart => exact ⟨(([] : List Int)), (0), (by first | rfl | (simp; done) | (simp [*]; done)), H', ⟨Nat.le_refl _⟩, ⟨by first | exact Kd.R_nil _ _ _ _ _ | exact Kd.N_nil _ _ _ _ _ | exact Kd.V_nil _ _ _ _ _ | exact Kd.Q_nil _ _ _ _ _ | exact Kd.S_nil _ _ _ _ _⟩, ⟨by (with_reducible repeat (first | apply Kd.R_alloc | apply Kd.R_drewN | apply Kd.R_drew)); exact HO_486001.out⟩, ⟨by (with_reducible repeat (first | refine blk_drewN ?_ _ | refine blk_drew ?_ | refine blk_alloc ?_ _)); exact BK485.out⟩, ⟨by repeat (first | (with_reducible first | exact HB.out | apply below_alloc | apply pw_below_drewN | apply below_drew1 | refine below_set ?_ GE485.out) | exact HB.out)⟩⟩
                  case round =>
                    clear H'
                    try clear c1
                    try clear p1
                    try clear q1
                    try clear hx1
                    try clear c2
                    try clear p2
                    try clear c3
                    try clear p6
                    try clear c7
                    try clear c7b0
                    try clear c7b1
                    try clear c8
                    try clear c8b0
                    try clear c8b1
                    try clear c13
                    try clear c15
                    try clear c15b0
                    try clear c16
                    try clear c16b0
                    try clear c17
                    try clear c17b0
                    try clear p18
                    try clear q18
                    try clear hx18
                    try clear hf18
                    try clear c27
                    try clear c33
                    try clear c33b0
                    try clear c33b1
                    try clear c34
                    try clear c34b0
                    try clear c34b1
                    try clear c35
                    try clear c35b0
                    try clear c35b1
                    try clear c36
                    try clear c36b0
                    try clear c36b1
                    try clear c37
                    try clear hcz11_0
                    try clear hcz11_1
                    try clear hcz19_0
                    try clear hcz19_1
                    try clear hcz26_0
                    try clear hcz26_1
                    try clear hcz29_0
                    try clear hcz29_1
                    try clear hcz31_0
                    try clear hcz31_1
                    try clear hfz11_0
                    try clear hfz11_1
                    try clear hfz19_0
                    try clear hfz19_1
                    try clear hfz26_0
                    try clear hfz26_1
                    try clear hfz29_0
                    try clear hfz29_1
                    try clear hfz31_0
                    try clear hfz31_1
                    try clear hx18_0
                    try clear p1
                    try clear p18
                    try clear p2
                    try clear p6
                    try clear q1
                    try clear q18
                    obtain ⟨x19_3, x20_3, rfl, HA, HK3, HO_19, HO_486001, BK485, HB⟩ := hrel
                    cases gk with
                    | zero => exact absurd HA.out (by simp [plunderlaw7_DagJudged.l1])
                    | succ k3 =>
                      have H := HA.out
                      clear HA
                      simp only [plunderlaw7_DagJudged.l1] at H
                      by_cases c38 : x20_3 < t481
                      · rw [if_pos c38] at H
                        have c38b0 : decide (x20_3 < t481) = true := decide_eq_true c38
                        clear c38
                        replace H := Option.bind_eq_some_iff.mp H
                        obtain ⟨t497, A390, H⟩ := H
                        replace H : (if x19_3.length < 17592186044416 then (plunderlaw7_DagJudged.l1 k3 l3 (wrap64 (1 + t486)) t495 (x19_3 ++ [t497]) (wrap64 (x20_3 + 1)) t481 t482) else (none)) = some r := H
                        have A39 := Aside0.mk A390
                        clear A390
                        by_cases c40 : x19_3.length < 17592186044416
                        · rw [if_pos c40] at H
                          have LMc40 := Aside0.mk c40
                          clear c40
                          obtain ⟨y498, hy498⟩ : ∃ y_ : List Int, y_ = (x19_3 ++ [t497]) := ⟨_, rfl⟩
                          replace H : (plunderlaw7_DagJudged.l1 k3 l3 (wrap64 (1 + t486)) t495 y498 (wrap64 (x20_3 + 1)) t481 t482) = some r := by first | (rw [hy498]; with_reducible exact H) | (have H2_ := (Option.bind_some _ _).symm.trans H; rw [hy498]; with_reducible exact H2_) | (have H2_ := (Option.bind_some _ _).symm.trans H; with_reducible exact H2_) | with_reducible exact H | (rw [hy498]; exact H) | exact H
                          have Ny498 := Aside0.mk hy498
                          clear hy498
                          have H' := Aside0.mk H
                          clear H
                          have hcz41_0 : wr.cell? ⟨gb485, 0, none⟩ = some (.int .i64 t481) := (blk_cell BK485.out 0).trans rfl
                          have hcz41_1 : wr.cell? ⟨gb485, 1, none⟩ = some (.slice Ao12 t482.length co12) := (blk_cell BK485.out 1).trans rfl
                          have hfz41_0 := blk_frozen BK485.out 0
                          have hfz41_1 := blk_frozen BK485.out 1
                          go_wp2_with (first | ((with_reducible refine gate_callee (f := 40) rfl ?_); refine goesL_ (some 89) rfl rfl Try.func40 (by kernel_rfl) rfl #[.slice A3 l3.length c3, .int .i64 x20_3] rfl (by (try simp only [List.map_toArray, List.map_cons, List.map_nil]); first | done | rfl | (simp only [List.length_drop, List.length_take]; rfl)) ?_; (with_reducible refine (plunderlaw7_rank.calls _ _ l3 x20_3 t497 _ ?side1 ?side2 A39.out).mono ?_); (case side1 => repeat (first | exact (Kd.C_below HR3.out HB.out) | (with_reducible refine Kd.C_alloc ?_ _) | (with_reducible refine Kd.C_drewN ?_ _) | (with_reducible refine Kd.C_drew ?_))); (case side2 => exact HC3.out); rintro e w' ⟨rfl, ⟨nd, rfl⟩⟩; refine ⟨_, rfl, ?_⟩) | ((with_reducible refine gate_builtin (b := .append) (xs := #[.tmp 86, .tmp 90]) rfl ?_); at_builtin; refine Kd.R_append (Kd.int .i64) (w0 := w) w.heap.size rfl (.tmp 86) (.tmp 90) 33 3 (.int .i64 0) 8 rfl Try.underlying33 info3 rfl (by decide) (by omega) u19 x19_3 t497 [.int .i64 t497] (fun _ => True) (fun _ => False) rfl rfl ?aP (fun _ hk => hk.elim) ?aF ?aO ?aB ?aS ?aL ?_; (case aP => exact rfl); (case aB => exact (by repeat (first | (with_reducible first | exact HB.out | apply below_alloc | apply pw_below_drewN | apply below_drew1 | refine below_set ?_ GE485.out) | exact HB.out))); (case aF => exact (fun _ _ => trivial)); (case aO => exact (by (with_reducible repeat (first | apply Kd.R_alloc | apply Kd.R_drewN | apply Kd.R_drew)); exact HO_19.out)); (case aS => exact (below_size (by repeat (first | (with_reducible first | exact HB.out | apply below_alloc | apply pw_below_drewN | apply below_drew1 | refine below_set ?_ GE485.out) | exact HB.out)))); (case aL => have := LMc40.out; omega); intro v499 w42 ho hb hg hat; rw [← Ny498.out] at ho; have n0_ := Aside0.mk (Kd.R_over' (by (with_reducible repeat (first | apply Kd.R_alloc | apply Kd.R_drewN | apply Kd.R_drew)); exact HO_486001.out) (Kd.R_typed (by (with_reducible repeat (first | apply Kd.R_alloc | apply Kd.R_drewN | apply Kd.R_drew)); exact HO_19.out)) (by decide) hg); have n1_ := Aside0.mk (blk_grown (g := gb485) (o := .cells #[.int .i64 t481, .slice Ao12 t482.length co12] 26 (0, 0)) (by (with_reducible repeat (first | refine blk_drewN ?_ _ | refine blk_drew ?_ | refine blk_alloc ?_ _)); exact BK485.out) hg (Kd.R_ne HO_19.out BK485.out (by decide))); have n2_ := Aside0.mk (hb); have n3_ := Aside0.mk (ho); clear HO_486001; clear BK485; clear HB; clear HO_19; have HO_486001 := n0_; have BK485 := n1_; have HB := n2_; have HO500 := n3_; clear n0_ n1_ n2_ n3_; clear ho hb hg hat))
                          go_roundg k3
                          case measure => have := HK1.out; have := HJ24.out; have := HK3.out; omega
                          case rel => exact ⟨(y498), (wrap64 (x20_3 + 1)), (by first | rfl | (simp; done) | (simp [*]; done)), H', ⟨by have := HK1.out; have := HJ24.out; have := HK3.out; omega⟩, ⟨by (with_reducible repeat (first | apply Kd.R_alloc | apply Kd.R_drewN | apply Kd.R_drew)); exact HO500.out⟩, ⟨by (with_reducible repeat (first | apply Kd.R_alloc | apply Kd.R_drewN | apply Kd.R_drew)); exact HO_486001.out⟩, ⟨by (with_reducible repeat (first | refine blk_drewN ?_ _ | refine blk_drew ?_ | refine blk_alloc ?_ _)); exact BK485.out⟩, ⟨by repeat (first | (with_reducible first | exact HB.out | apply below_alloc | apply pw_below_drewN | apply below_drew1 | refine below_set ?_ GE485.out) | exact HB.out)⟩⟩
                        · rw [if_neg c40] at H
                          exact absurd H (by simp)
                      · rw [if_neg c38] at H
                        have c38b0 : decide (x20_3 < t481) = false := decide_eq_false c38
                        clear c38
                        replace H := Option.bind_eq_some_iff.mp H
                        obtain ⟨⟨t501, t502⟩, A430, H⟩ := H
                        replace H : (if t502 = 0 then (if t501 < 0 then (plunderlaw7_DagJudged.j3 k3 (wrap64 (1 + t486)) t495 x19_3 t501 true t481 t482) else (plunderlaw7_DagJudged.j3 k3 (wrap64 (1 + t486)) t495 x19_3 t501 (decide (t501 > 2)) t481 t482)) else (plunderlaw7_DagJudged.j3 k3 (wrap64 (1 + t486)) t495 x19_3 t501 true t481 t482)) = some r := H
                        have A43 := Aside0.mk A430
                        clear A430
                        have HC44 := Aside0.mk H
                        clear H
                        have hcz45_0 : wr.cell? ⟨gb485, 0, none⟩ = some (.int .i64 t481) := (blk_cell BK485.out 0).trans rfl
                        have hcz45_1 : wr.cell? ⟨gb485, 1, none⟩ = some (.slice Ao12 t482.length co12) := (blk_cell BK485.out 1).trans rfl
                        have hfz45_0 := blk_frozen BK485.out 0
                        have hfz45_1 := blk_frozen BK485.out 1
                        obtain ⟨Ao46, co46, eo46⟩ := Kd.R_slice HO_19.out
                        subst eo46
                        go_upto_region 19 with (first | ((with_reducible refine gate_callee (f := 35) rfl ?_); refine goesL_ (some 96) rfl rfl Try.func35 (by kernel_rfl) rfl #[.agg #[.int .i64 t481, .slice Ao12 t482.length co12], .int .i64 (wrap64 (1 + t486)), .slice Ao46 x19_3.length co46] rfl (by (try simp only [List.map_toArray, List.map_cons, List.map_nil]); first | done | rfl | (simp only [List.length_drop, List.length_take]; rfl)) ?_; (with_reducible refine (dag_Judge.calls k3 t481 _ _ t482 (wrap64 (1 + t486)) _ _ x19_3 t501 t502 _ ?side1 ?side2 ?side3 ?side4 A43.out).mono ?_); (case side1 => repeat (first | exact (Kd.R_reads' HO_486001.out).2.2 | (with_reducible refine Kd.C_alloc ?_ _) | (with_reducible refine Kd.C_drewN ?_ _) | (with_reducible refine Kd.C_drew ?_))); (case side2 => exact (Kd.R_reads' HO_486001.out).2.1); (case side3 => repeat (first | exact (Kd.R_reads' HO_19.out).2.2 | (with_reducible refine Kd.C_alloc ?_ _) | (with_reducible refine Kd.C_drewN ?_ _) | (with_reducible refine Kd.C_drew ?_))); (case side4 => exact (Kd.R_reads' HO_19.out).2.1); rintro e w47 ⟨rfl, hb⟩; refine ⟨_, rfl, ?_⟩; have n0_ := Aside0.mk (Kd.R_below (by (with_reducible repeat (first | apply Kd.R_alloc | apply Kd.R_drewN | apply Kd.R_drew)); exact HO_19.out) hb); have n1_ := Aside0.mk (Kd.R_below (by (with_reducible repeat (first | apply Kd.R_alloc | apply Kd.R_drewN | apply Kd.R_drew)); exact HO_486001.out) hb); have n2_ := Aside0.mk (blk_below (g := gb485) (o := .cells #[.int .i64 t481, .slice Ao12 t482.length co12] 26 (0, 0)) (by (with_reducible repeat (first | refine blk_drewN ?_ _ | refine blk_drew ?_ | refine blk_alloc ?_ _)); exact BK485.out) hb); have n3_ := Aside0.mk (below_step (by repeat (first | (with_reducible first | exact HB.out | apply below_alloc | apply pw_below_drewN | apply below_drew1 | refine below_set ?_ GE485.out) | exact HB.out)) hb); clear HO_19; clear HO_486001; clear BK485; clear HB; have HO_19 := n0_; have HO_486001 := n1_; have BK485 := n2_; have HB := n3_; clear n0_ n1_ n2_ n3_; (try clear hb); (try clear hb2); (try clear hk); (try clear hi)))
                        (try simp only [Act.put, List.setIfInBounds_toArray, List.set_cons_zero, List.set_cons_succ])
                        go_cut [108] (fun v108 wc => ∃ (kq : Nat) (x108_43 : Bool), v108 = .bool x108_43 ∧ Aside0 (plunderlaw7_DagJudged.j3 kq (wrap64 (1 + t486)) t495 x19_3 t501 x108_43 t481 t482 = some r) ∧ Aside0 (kq ≤ k3) ∧ Aside0 (Kd.R (Kd.int .i64) 3 wc w.heap.size (fun _ => True) (.slice Ao46 x19_3.length co46) x19_3) ∧ Aside0 (Kd.R k50 50 wc w.heap.size (fun _ => True) (.slice Ao12 t482.length co12) t482) ∧ Aside0 (wc.heap[gb485]? = some (.cells #[.int .i64 t481, (.slice Ao12 t482.length co12)] 26 (0, 0))) ∧ Aside0 (Below w.heap.size w wc))
                        case first =>
                          have H := HC44.out
                          clear HC44
                          by_cases c48 : t502 = 0
                          · rw [if_pos c48] at H
                            have c48b0 : (t502 == 0) = true := beq_iff_eq.mpr c48
                            have c48b1 : (t502 != 0) = false := bne_eq_false_iff_eq.mpr c48
                            clear c48
                            (first | rw [c48b0] | (simp only [i64_w, i32_w]; rw [c48b0]) | skip)
                            by_cases c49 : t501 < 0
                            · rw [if_pos c49] at H
                              have c49b0 : decide (t501 < 0) = true := decide_eq_true c49
                              clear c49
                              have H' := Aside0.mk H
                              clear H
                              go_wp2
                              go_meet
                              case rel => exact ⟨_, (true), (by first | rfl | (simp; done) | (simp [*]; done)), H', ⟨by have := HK1.out; have := HJ24.out; have := HK3.out; first | omega | exact Nat.le_refl _⟩, ⟨by (with_reducible repeat (first | apply Kd.R_alloc | apply Kd.R_drewN | apply Kd.R_drew)); exact HO_19.out⟩, ⟨by (with_reducible repeat (first | apply Kd.R_alloc | apply Kd.R_drewN | apply Kd.R_drew)); exact HO_486001.out⟩, ⟨by (with_reducible repeat (first | refine blk_drewN ?_ _ | refine blk_drew ?_ | refine blk_alloc ?_ _)); exact BK485.out⟩, ⟨by repeat (first | (with_reducible first | exact HB.out | apply below_alloc | apply pw_below_drewN | apply below_drew1 | refine below_set ?_ GE485.out) | exact HB.out)⟩⟩
                            · rw [if_neg c49] at H
                              have c49b0 : decide (t501 < 0) = false := decide_eq_false c49
                              clear c49
                              have H' := Aside0.mk H
                              clear H
                              go_wp2
                              go_meet
                              case rel => exact ⟨_, (decide (t501 > 2)), (by first | rfl | (simp; done) | (simp [*]; done)), H', ⟨by have := HK1.out; have := HJ24.out; have := HK3.out; first | omega | exact Nat.le_refl _⟩, ⟨by (with_reducible repeat (first | apply Kd.R_alloc | apply Kd.R_drewN | apply Kd.R_drew)); exact HO_19.out⟩, ⟨by (with_reducible repeat (first | apply Kd.R_alloc | apply Kd.R_drewN | apply Kd.R_drew)); exact HO_486001.out⟩, ⟨by (with_reducible repeat (first | refine blk_drewN ?_ _ | refine blk_drew ?_ | refine blk_alloc ?_ _)); exact BK485.out⟩, ⟨by repeat (first | (with_reducible first | exact HB.out | apply below_alloc | apply pw_below_drewN | apply below_drew1 | refine below_set ?_ GE485.out) | exact HB.out)⟩⟩
                          · rw [if_neg c48] at H
                            have c48b0 : (t502 == 0) = false := beq_eq_false_iff_ne.mpr c48
                            have c48b1 : (t502 != 0) = true := bne_iff_ne.mpr c48
                            (first | rw [c48b0] | (simp only [i64_w, i32_w]; rw [c48b0]) | skip)
                            have H' := Aside0.mk H
                            clear H
                            go_wp2
                            go_meet
                            case rel => exact ⟨_, (true), (by first | rfl | (simp; done) | (simp [*]; done)), H', ⟨by have := HK1.out; have := HJ24.out; have := HK3.out; first | omega | exact Nat.le_refl _⟩, ⟨by (with_reducible repeat (first | apply Kd.R_alloc | apply Kd.R_drewN | apply Kd.R_drew)); exact HO_19.out⟩, ⟨by (with_reducible repeat (first | apply Kd.R_alloc | apply Kd.R_drewN | apply Kd.R_drew)); exact HO_486001.out⟩, ⟨by (with_reducible repeat (first | refine blk_drewN ?_ _ | refine blk_drew ?_ | refine blk_alloc ?_ _)); exact BK485.out⟩, ⟨by repeat (first | (with_reducible first | exact HB.out | apply below_alloc | apply pw_below_drewN | apply below_drew1 | refine below_set ?_ GE485.out) | exact HB.out)⟩⟩
                        case rest =>
                          clear HC44
                          try clear c1
                          try clear p1
                          try clear q1
                          try clear hx1
                          try clear c2
                          try clear p2
                          try clear c3
                          try clear c4
                          try clear p6
                          try clear c7
                          try clear c7b0
                          try clear c7b1
                          try clear c8
                          try clear c8b0
                          try clear c8b1
                          try clear c13
                          try clear c15
                          try clear c15b0
                          try clear c16
                          try clear c16b0
                          try clear c17
                          try clear c17b0
                          try clear p18
                          try clear q18
                          try clear hx18
                          try clear hf18
                          try clear c27
                          try clear c33
                          try clear c33b0
                          try clear c33b1
                          try clear c34
                          try clear c34b0
                          try clear c34b1
                          try clear c35
                          try clear c35b0
                          try clear c35b1
                          try clear c36
                          try clear c36b0
                          try clear c36b1
                          try clear c37
                          try clear c38
                          try clear c38b0
                          try clear c40
                          try clear c48
                          try clear c48b0
                          try clear c48b1
                          try clear c49
                          try clear c49b0
                          try clear hcz11_0
                          try clear hcz11_1
                          try clear hcz19_0
                          try clear hcz19_1
                          try clear hcz26_0
                          try clear hcz26_1
                          try clear hcz29_0
                          try clear hcz29_1
                          try clear hcz31_0
                          try clear hcz31_1
                          try clear hcz41_0
                          try clear hcz41_1
                          try clear hcz45_0
                          try clear hcz45_1
                          try clear hfz11_0
                          try clear hfz11_1
                          try clear hfz19_0
                          try clear hfz19_1
                          try clear hfz26_0
                          try clear hfz26_1
                          try clear hfz29_0
                          try clear hfz29_1
                          try clear hfz31_0
                          try clear hfz31_1
                          try clear hfz41_0
                          try clear hfz41_1
                          try clear hfz45_0
                          try clear hfz45_1
                          try clear hx18_0
                          try clear p1
                          try clear p18
                          try clear p2
                          try clear p6
                          try clear q1
                          try clear q18
                          obtain ⟨kq, x108_43, rfl, HA, HJ43, HO_19, HO_486001, BK485, HB⟩ := hcut
                          cases kq with
                          | zero => exact absurd HA.out (by simp [plunderlaw7_DagJudged.j3])
                          | succ kj43 =>
                            have H := HA.out
                            clear HA
                            simp only [plunderlaw7_DagJudged.j3] at H
                            by_cases c50 : x108_43 = true
                            · subst c50
                              have H1 : (some false) = some r := by rw [if_pos rfl] at H; exact H
                              clear H
                              have H := H1
                              clear H1
                              obtain rfl := Option.some.inj H
                              go_wp2
                              go_ret
                              exact ⟨by first | rfl | (simp [errW_none, errW_some] <;> rfl) | (simp [*, errW_none, errW_some] <;> rfl), by repeat (first | (with_reducible first | exact HB.out | apply below_alloc | apply pw_below_drewN | apply below_drew1 | refine below_set ?_ GE485.out) | exact HB.out)⟩
                            · replace c50 := Bool.eq_false_iff.mpr c50
                              subst c50
                              have H1 : (if t501 = 0 then (some true) else ((plunderlaw7_length.f kj43 x19_3).bind fun t503 => (if t503 < t495 then (some false) else (if (wrap64 (1 + t486)) = 0 then (none) else (if t503 < (wrap64 (Int.tdiv (wrap64 ((wrap64 (t481 + (wrap64 (1 + t486)))) - 1)) (wrap64 (1 + t486)))) then (some false) else (if t501 = 1 then (some true) else (if t503 ≤ t481 then ((plunderlaw7_bounds.f t481 t495 (wrap64 (1 + t486)) t503).bind fun t504 => (some t504)) else (some false)))))))) = some r := by rw [if_neg (show ¬ (false = true) by decide)] at H; exact H
                              clear H
                              have H := H1
                              clear H1
                              by_cases c51 : t501 = 0
                              · rw [if_pos c51] at H
                                have c51b0 : (t501 == 0) = true := beq_iff_eq.mpr c51
                                have c51b1 : (t501 != 0) = false := bne_eq_false_iff_eq.mpr c51
                                clear c51
                                obtain rfl := Option.some.inj H
                                go_wp2
                                go_ret
                                exact ⟨by first | rfl | (simp [errW_none, errW_some] <;> rfl) | (simp [*, errW_none, errW_some] <;> rfl), by repeat (first | (with_reducible first | exact HB.out | apply below_alloc | apply pw_below_drewN | apply below_drew1 | refine below_set ?_ GE485.out) | exact HB.out)⟩
                              · rw [if_neg c51] at H
                                have c51b0 : (t501 == 0) = false := beq_eq_false_iff_ne.mpr c51
                                have c51b1 : (t501 != 0) = true := bne_iff_ne.mpr c51
                                replace H := Option.bind_eq_some_iff.mp H
                                obtain ⟨t503, A520, H⟩ := H
                                replace H : (if t503 < t495 then (some false) else (if (wrap64 (1 + t486)) = 0 then (none) else (if t503 < (wrap64 (Int.tdiv (wrap64 ((wrap64 (t481 + (wrap64 (1 + t486)))) - 1)) (wrap64 (1 + t486)))) then (some false) else (if t501 = 1 then (some true) else (if t503 ≤ t481 then ((plunderlaw7_bounds.f t481 t495 (wrap64 (1 + t486)) t503).bind fun t504 => (some t504)) else (some false)))))) = some r := H
                                have A52 := Aside0.mk A520
                                clear A520
                                by_cases c53 : t503 < t495
                                · rw [if_pos c53] at H
                                  have c53b0 : decide (t503 < t495) = true := decide_eq_true c53
                                  clear c53
                                  obtain rfl := Option.some.inj H
                                  go_wp2_with (first | ((with_reducible refine gate_callee (f := 39) rfl ?_); refine goesL_ (some 112) rfl rfl Try.func39 (by kernel_rfl) rfl #[.slice Ao46 x19_3.length co46] rfl (by (try simp only [List.map_toArray, List.map_cons, List.map_nil]); first | done | rfl | (simp only [List.length_drop, List.length_take]; rfl)) ?_; (with_reducible refine (plunderlaw7_length.calls kj43 _ _ x19_3 t503 _ ?side1 ?side2 A52.out).mono ?_); (case side1 => repeat (first | exact (Kd.R_reads' HO_19.out).2.2 | (with_reducible refine Kd.C_alloc ?_ _) | (with_reducible refine Kd.C_drewN ?_ _) | (with_reducible refine Kd.C_drew ?_))); (case side2 => exact (Kd.R_reads' HO_19.out).2.1); rintro e w54 ⟨rfl, hb⟩; refine ⟨_, rfl, ?_⟩; have n0_ := Aside0.mk (Kd.R_below (by (with_reducible repeat (first | apply Kd.R_alloc | apply Kd.R_drewN | apply Kd.R_drew)); exact HO_19.out) hb); have n1_ := Aside0.mk (Kd.R_below (by (with_reducible repeat (first | apply Kd.R_alloc | apply Kd.R_drewN | apply Kd.R_drew)); exact HO_486001.out) hb); have n2_ := Aside0.mk (blk_below (g := gb485) (o := .cells #[.int .i64 t481, .slice Ao12 t482.length co12] 26 (0, 0)) (by (with_reducible repeat (first | refine blk_drewN ?_ _ | refine blk_drew ?_ | refine blk_alloc ?_ _)); exact BK485.out) hb); have n3_ := Aside0.mk (below_step (by repeat (first | (with_reducible first | exact HB.out | apply below_alloc | apply pw_below_drewN | apply below_drew1 | refine below_set ?_ GE485.out) | exact HB.out)) hb); clear HO_19; clear HO_486001; clear BK485; clear HB; have HO_19 := n0_; have HO_486001 := n1_; have BK485 := n2_; have HB := n3_; clear n0_ n1_ n2_ n3_; (try clear hb); (try clear hb2); (try clear hk); (try clear hi)))
                                  go_ret
                                  exact ⟨by first | rfl | (simp [errW_none, errW_some] <;> rfl) | (simp [*, errW_none, errW_some] <;> rfl), by repeat (first | (with_reducible first | exact HB.out | apply below_alloc | apply pw_below_drewN | apply below_drew1 | refine below_set ?_ GE485.out) | exact HB.out)⟩
                                · rw [if_neg c53] at H
                                  have c53b0 : decide (t503 < t495) = false := decide_eq_false c53
                                  clear c53
                                  by_cases c55 : (wrap64 (1 + t486)) = 0
                                  · rw [if_pos c55] at H
                                    exact absurd H (by simp)
                                  · rw [if_neg c55] at H
                                    have c55b0 : ((wrap64 (1 + t486)) == 0) = false := beq_eq_false_iff_ne.mpr c55
                                    have c55b1 : ((wrap64 (1 + t486)) != 0) = true := bne_iff_ne.mpr c55
                                    by_cases c56 : t503 < (wrap64 (Int.tdiv (wrap64 ((wrap64 (t481 + (wrap64 (1 + t486)))) - 1)) (wrap64 (1 + t486))))
                                    · rw [if_pos c56] at H
                                      have c56b0 : decide (t503 < (wrap64 (Int.tdiv (wrap64 ((wrap64 (t481 + (wrap64 (1 + t486)))) - 1)) (wrap64 (1 + t486))))) = true := decide_eq_true c56
                                      clear c56
                                      obtain rfl := Option.some.inj H
                                      go_wp2_with (first | ((with_reducible refine gate_callee (f := 39) rfl ?_); refine goesL_ (some 112) rfl rfl Try.func39 (by kernel_rfl) rfl #[.slice Ao46 x19_3.length co46] rfl (by (try simp only [List.map_toArray, List.map_cons, List.map_nil]); first | done | rfl | (simp only [List.length_drop, List.length_take]; rfl)) ?_; (with_reducible refine (plunderlaw7_length.calls kj43 _ _ x19_3 t503 _ ?side1 ?side2 A52.out).mono ?_); (case side1 => repeat (first | exact (Kd.R_reads' HO_19.out).2.2 | (with_reducible refine Kd.C_alloc ?_ _) | (with_reducible refine Kd.C_drewN ?_ _) | (with_reducible refine Kd.C_drew ?_))); (case side2 => exact (Kd.R_reads' HO_19.out).2.1); rintro e w57 ⟨rfl, hb⟩; refine ⟨_, rfl, ?_⟩; have n0_ := Aside0.mk (Kd.R_below (by (with_reducible repeat (first | apply Kd.R_alloc | apply Kd.R_drewN | apply Kd.R_drew)); exact HO_19.out) hb); have n1_ := Aside0.mk (Kd.R_below (by (with_reducible repeat (first | apply Kd.R_alloc | apply Kd.R_drewN | apply Kd.R_drew)); exact HO_486001.out) hb); have n2_ := Aside0.mk (blk_below (g := gb485) (o := .cells #[.int .i64 t481, .slice Ao12 t482.length co12] 26 (0, 0)) (by (with_reducible repeat (first | refine blk_drewN ?_ _ | refine blk_drew ?_ | refine blk_alloc ?_ _)); exact BK485.out) hb); have n3_ := Aside0.mk (below_step (by repeat (first | (with_reducible first | exact HB.out | apply below_alloc | apply pw_below_drewN | apply below_drew1 | refine below_set ?_ GE485.out) | exact HB.out)) hb); clear HO_19; clear HO_486001; clear BK485; clear HB; have HO_19 := n0_; have HO_486001 := n1_; have BK485 := n2_; have HB := n3_; clear n0_ n1_ n2_ n3_; (try clear hb); (try clear hb2); (try clear hk); (try clear hi); have hcz58_0 : w57.cell? ⟨gb485, 0, none⟩ = some (.int .i64 t481) := (blk_cell BK485.out 0).trans rfl; have hcz58_1 : w57.cell? ⟨gb485, 1, none⟩ = some (.slice Ao12 t482.length co12) := (blk_cell BK485.out 1).trans rfl; have hfz58_0 := blk_frozen BK485.out 0; have hfz58_1 := blk_frozen BK485.out 1))
                                      go_ret
                                      exact ⟨by first | rfl | (simp [errW_none, errW_some] <;> rfl) | (simp [*, errW_none, errW_some] <;> rfl), by repeat (first | (with_reducible first | exact HB.out | apply below_alloc | apply pw_below_drewN | apply below_drew1 | refine below_set ?_ GE485.out) | exact HB.out)⟩
                                    · rw [if_neg c56] at H
                                      have c56b0 : decide (t503 < (wrap64 (Int.tdiv (wrap64 ((wrap64 (t481 + (wrap64 (1 + t486)))) - 1)) (wrap64 (1 + t486))))) = false := decide_eq_false c56
                                      clear c56
                                      by_cases c59 : t501 = 1
                                      · rw [if_pos c59] at H
                                        have c59b0 : (t501 == 1) = true := beq_iff_eq.mpr c59
                                        have c59b1 : (t501 != 1) = false := bne_eq_false_iff_eq.mpr c59
                                        clear c59
                                        obtain rfl := Option.some.inj H
                                        go_wp2_with (first | ((with_reducible refine gate_callee (f := 39) rfl ?_); refine goesL_ (some 112) rfl rfl Try.func39 (by kernel_rfl) rfl #[.slice Ao46 x19_3.length co46] rfl (by (try simp only [List.map_toArray, List.map_cons, List.map_nil]); first | done | rfl | (simp only [List.length_drop, List.length_take]; rfl)) ?_; (with_reducible refine (plunderlaw7_length.calls kj43 _ _ x19_3 t503 _ ?side1 ?side2 A52.out).mono ?_); (case side1 => repeat (first | exact (Kd.R_reads' HO_19.out).2.2 | (with_reducible refine Kd.C_alloc ?_ _) | (with_reducible refine Kd.C_drewN ?_ _) | (with_reducible refine Kd.C_drew ?_))); (case side2 => exact (Kd.R_reads' HO_19.out).2.1); rintro e w60 ⟨rfl, hb⟩; refine ⟨_, rfl, ?_⟩; have n0_ := Aside0.mk (Kd.R_below (by (with_reducible repeat (first | apply Kd.R_alloc | apply Kd.R_drewN | apply Kd.R_drew)); exact HO_19.out) hb); have n1_ := Aside0.mk (Kd.R_below (by (with_reducible repeat (first | apply Kd.R_alloc | apply Kd.R_drewN | apply Kd.R_drew)); exact HO_486001.out) hb); have n2_ := Aside0.mk (blk_below (g := gb485) (o := .cells #[.int .i64 t481, .slice Ao12 t482.length co12] 26 (0, 0)) (by (with_reducible repeat (first | refine blk_drewN ?_ _ | refine blk_drew ?_ | refine blk_alloc ?_ _)); exact BK485.out) hb); have n3_ := Aside0.mk (below_step (by repeat (first | (with_reducible first | exact HB.out | apply below_alloc | apply pw_below_drewN | apply below_drew1 | refine below_set ?_ GE485.out) | exact HB.out)) hb); clear HO_19; clear HO_486001; clear BK485; clear HB; have HO_19 := n0_; have HO_486001 := n1_; have BK485 := n2_; have HB := n3_; clear n0_ n1_ n2_ n3_; (try clear hb); (try clear hb2); (try clear hk); (try clear hi); have hcz61_0 : w60.cell? ⟨gb485, 0, none⟩ = some (.int .i64 t481) := (blk_cell BK485.out 0).trans rfl; have hcz61_1 : w60.cell? ⟨gb485, 1, none⟩ = some (.slice Ao12 t482.length co12) := (blk_cell BK485.out 1).trans rfl; have hfz61_0 := blk_frozen BK485.out 0; have hfz61_1 := blk_frozen BK485.out 1))
                                        go_ret
                                        exact ⟨by first | rfl | (simp [errW_none, errW_some] <;> rfl) | (simp [*, errW_none, errW_some] <;> rfl), by repeat (first | (with_reducible first | exact HB.out | apply below_alloc | apply pw_below_drewN | apply below_drew1 | refine below_set ?_ GE485.out) | exact HB.out)⟩
                                      · rw [if_neg c59] at H
                                        have c59b0 : (t501 == 1) = false := beq_eq_false_iff_ne.mpr c59
                                        have c59b1 : (t501 != 1) = true := bne_iff_ne.mpr c59
                                        by_cases c62 : t503 ≤ t481
                                        · rw [if_pos c62] at H
                                          have c62b0 : decide (t503 ≤ t481) = true := decide_eq_true c62
                                          clear c62
                                          replace H := Option.bind_eq_some_iff.mp H
                                          obtain ⟨t504, A630, H⟩ := H
                                          replace H : (some t504) = some r := H
                                          have A63 := Aside0.mk A630
                                          clear A630
                                          obtain rfl := Option.some.inj H
                                          go_wp2_with (first | ((with_reducible refine gate_callee (f := 39) rfl ?_); refine goesL_ (some 112) rfl rfl Try.func39 (by kernel_rfl) rfl #[.slice Ao46 x19_3.length co46] rfl (by (try simp only [List.map_toArray, List.map_cons, List.map_nil]); first | done | rfl | (simp only [List.length_drop, List.length_take]; rfl)) ?_; (with_reducible refine (plunderlaw7_length.calls kj43 _ _ x19_3 t503 _ ?side1 ?side2 A52.out).mono ?_); (case side1 => repeat (first | exact (Kd.R_reads' HO_19.out).2.2 | (with_reducible refine Kd.C_alloc ?_ _) | (with_reducible refine Kd.C_drewN ?_ _) | (with_reducible refine Kd.C_drew ?_))); (case side2 => exact (Kd.R_reads' HO_19.out).2.1); rintro e w64 ⟨rfl, hb⟩; refine ⟨_, rfl, ?_⟩; have n0_ := Aside0.mk (Kd.R_below (by (with_reducible repeat (first | apply Kd.R_alloc | apply Kd.R_drewN | apply Kd.R_drew)); exact HO_19.out) hb); have n1_ := Aside0.mk (Kd.R_below (by (with_reducible repeat (first | apply Kd.R_alloc | apply Kd.R_drewN | apply Kd.R_drew)); exact HO_486001.out) hb); have n2_ := Aside0.mk (blk_below (g := gb485) (o := .cells #[.int .i64 t481, .slice Ao12 t482.length co12] 26 (0, 0)) (by (with_reducible repeat (first | refine blk_drewN ?_ _ | refine blk_drew ?_ | refine blk_alloc ?_ _)); exact BK485.out) hb); have n3_ := Aside0.mk (below_step (by repeat (first | (with_reducible first | exact HB.out | apply below_alloc | apply pw_below_drewN | apply below_drew1 | refine below_set ?_ GE485.out) | exact HB.out)) hb); clear HO_19; clear HO_486001; clear BK485; clear HB; have HO_19 := n0_; have HO_486001 := n1_; have BK485 := n2_; have HB := n3_; clear n0_ n1_ n2_ n3_; (try clear hb); (try clear hb2); (try clear hk); (try clear hi); have hcz65_0 : w64.cell? ⟨gb485, 0, none⟩ = some (.int .i64 t481) := (blk_cell BK485.out 0).trans rfl; have hcz65_1 : w64.cell? ⟨gb485, 1, none⟩ = some (.slice Ao12 t482.length co12) := (blk_cell BK485.out 1).trans rfl; have hfz65_0 := blk_frozen BK485.out 0; have hfz65_1 := blk_frozen BK485.out 1) | (go_at_call 38; (with_reducible refine (plunderlaw7_bounds.calls t481 t495 (wrap64 (1 + t486)) t503 t504 _ A63.out).mono ?_); rintro e w' ⟨rfl, ⟨nd, rfl⟩⟩))
                                          go_ret
                                          exact ⟨by first | rfl | (simp [errW_none, errW_some] <;> rfl) | (simp [*, errW_none, errW_some] <;> rfl), by repeat (first | (with_reducible first | exact HB.out | apply below_alloc | apply pw_below_drewN | apply below_drew1 | refine below_set ?_ GE485.out) | exact HB.out)⟩
                                        · rw [if_neg c62] at H
                                          have c62b0 : decide (t503 ≤ t481) = false := decide_eq_false c62
                                          clear c62
                                          obtain rfl := Option.some.inj H
                                          go_wp2_with (first | ((with_reducible refine gate_callee (f := 39) rfl ?_); refine goesL_ (some 112) rfl rfl Try.func39 (by kernel_rfl) rfl #[.slice Ao46 x19_3.length co46] rfl (by (try simp only [List.map_toArray, List.map_cons, List.map_nil]); first | done | rfl | (simp only [List.length_drop, List.length_take]; rfl)) ?_; (with_reducible refine (plunderlaw7_length.calls kj43 _ _ x19_3 t503 _ ?side1 ?side2 A52.out).mono ?_); (case side1 => repeat (first | exact (Kd.R_reads' HO_19.out).2.2 | (with_reducible refine Kd.C_alloc ?_ _) | (with_reducible refine Kd.C_drewN ?_ _) | (with_reducible refine Kd.C_drew ?_))); (case side2 => exact (Kd.R_reads' HO_19.out).2.1); rintro e w66 ⟨rfl, hb⟩; refine ⟨_, rfl, ?_⟩; have n0_ := Aside0.mk (Kd.R_below (by (with_reducible repeat (first | apply Kd.R_alloc | apply Kd.R_drewN | apply Kd.R_drew)); exact HO_19.out) hb); have n1_ := Aside0.mk (Kd.R_below (by (with_reducible repeat (first | apply Kd.R_alloc | apply Kd.R_drewN | apply Kd.R_drew)); exact HO_486001.out) hb); have n2_ := Aside0.mk (blk_below (g := gb485) (o := .cells #[.int .i64 t481, .slice Ao12 t482.length co12] 26 (0, 0)) (by (with_reducible repeat (first | refine blk_drewN ?_ _ | refine blk_drew ?_ | refine blk_alloc ?_ _)); exact BK485.out) hb); have n3_ := Aside0.mk (below_step (by repeat (first | (with_reducible first | exact HB.out | apply below_alloc | apply pw_below_drewN | apply below_drew1 | refine below_set ?_ GE485.out) | exact HB.out)) hb); clear HO_19; clear HO_486001; clear BK485; clear HB; have HO_19 := n0_; have HO_486001 := n1_; have BK485 := n2_; have HB := n3_; clear n0_ n1_ n2_ n3_; (try clear hb); (try clear hb2); (try clear hk); (try clear hi); have hcz67_0 : w66.cell? ⟨gb485, 0, none⟩ = some (.int .i64 t481) := (blk_cell BK485.out 0).trans rfl; have hcz67_1 : w66.cell? ⟨gb485, 1, none⟩ = some (.slice Ao12 t482.length co12) := (blk_cell BK485.out 1).trans rfl; have hfz67_0 := blk_frozen BK485.out 0; have hfz67_1 := blk_frozen BK485.out 1))
                                          go_ret
                                          exact ⟨by first | rfl | (simp [errW_none, errW_some] <;> rfl) | (simp [*, errW_none, errW_some] <;> rfl), by repeat (first | (with_reducible first | exact HB.out | apply below_alloc | apply pw_below_drewN | apply below_drew1 | refine below_set ?_ GE485.out) | exact HB.out)⟩
    · rw [if_neg c8] at H
      exact absurd H (by simp)
  · rw [if_neg c7] at H
    exact absurd H (by simp)

end Go.Proofs.Ytbahnialbffkeaa.P
