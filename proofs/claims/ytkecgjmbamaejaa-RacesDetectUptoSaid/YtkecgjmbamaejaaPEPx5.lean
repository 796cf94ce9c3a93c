/- Written by a program: plain Lean functions that answer as Go functions of this seat do, and the proofs that the calls come to these answers. -/
import Derived.Test.YtkecgjmbamaejaaPEPx0
import Derived.Test.YtkecgjmbamaejaaPESteps
namespace Go.Proofs.Ytkecgjmbamaejaa.P
open Go.RowKit Go.Proofs.YtkecgjmbamaejaaW.PrintWords Go.Proofs.YtkecgjmbamaejaaW.PrintLast Go.Proofs.YtkecgjmbamaejaaW.PrintMore
attribute [local go_sem] max2_int min2_int max_two min_two max_three min_three max_four min_four   -- for this text's walks alone
set_option linter.unusedVariables false
set_option linter.unusedSimpArgs false

mutual
def plunderref19_Before.l0 : Nat → List (List Int) → Int → List (List Bool) → Int → Option ((List (List Bool)))
  | 0, _, _, _, _ => none
  | k + 1, x3, x4, x5, x6 => if x6 < x4 then (if 0 ≤ x4 then (if (x4 : Int).toNat ≤ 281474976710656 then (if 0 ≤ x6 then (if x6 < (x5.length : Int) then (plunderref19_Before.l1 k x3 x4 (x5.set (x6 : Int).toNat (List.replicate (x4 : Int).toNat false)) x6 0) else (none)) else (none)) else (none)) else (none)) else (some x5)
def plunderref19_Before.l1 : Nat → List (List Int) → Int → List (List Bool) → Int → Int → Option ((List (List Bool)))
  | 0, _, _, _, _, _ => none
  | k + 1, x3, x4, x5, x6, x7 => if 0 ≤ x6 then (if x6 < (x3.length : Int) then (if x7 < ((rd_L3 x3 x6).length : Int) then (if 0 ≤ x7 then (if x6 < (x5.length : Int) then (if 0 ≤ (rd (rd_L3 x3 x6) x7) then (if (rd (rd_L3 x3 x6) x7) < ((rd_L6 x5 x6).length : Int) then (plunderref19_Before.l2 k x3 x4 (x5.set (x6 : Int).toNat ((rd_L6 x5 x6).set ((rd (rd_L3 x3 x6) x7) : Int).toNat true)) x6 x7 (rd (rd_L3 x3 x6) x7) 0) else (none)) else (none)) else (none)) else (none)) else (plunderref19_Before.l0 k x3 x4 x5 (wrap64 (x6 + 1)))) else (none)) else (none)
def plunderref19_Before.l2 : Nat → List (List Int) → Int → List (List Bool) → Int → Int → Int → Int → Option ((List (List Bool)))
  | 0, _, _, _, _, _, _, _ => none
  | k + 1, x3, x4, x5, x6, x7, x8, x9 => if x9 < x8 then (if 0 ≤ x8 then (if x8 < (x5.length : Int) then (if 0 ≤ x9 then (if x9 < ((rd_L6 x5 x8).length : Int) then (if rdOf false (rd_L6 x5 x8) x9 = true then (if 0 ≤ x6 then (if x6 < (x5.length : Int) then (if x9 < ((rd_L6 x5 x6).length : Int) then (plunderref19_Before.l2 k x3 x4 (x5.set (x6 : Int).toNat ((rd_L6 x5 x6).set (x9 : Int).toNat true)) x6 x7 x8 (wrap64 (x9 + 1))) else (none)) else (none)) else (none)) else (plunderref19_Before.l2 k x3 x4 x5 x6 x7 x8 (wrap64 (x9 + 1)))) else (none)) else (none)) else (none)) else (none)) else (plunderref19_Before.l1 k x3 x4 x5 x6 (wrap64 (x7 + 1)))
end
def plunderref19_Before.f (k : Nat) (l0 : List (S52)) : Option ((List (List Bool))) := (plunderref19_Steps.f k l0).bind fun t133 => (if 0 ≤ (l0.length : Int) then (if ((l0.length : Int) : Int).toNat ≤ 11728124029610 then (plunderref19_Before.l0 k t133 (l0.length : Int) (List.replicate ((l0.length : Int) : Int).toNat []) 0) else (none)) else (none))
set_option maxHeartbeats 8000000 in
set_option maxRecDepth 100000 in
theorem plunderref19_Before.calls (k : Nat) (A0 : Option Addr) (c0 : Nat) (l0 : List (S52)) (r : List (List Bool)) (w : World) (hr0 : Kd.C k52 w A0 l0.length l0) (hc0 : l0.length ≤ c0) (h : plunderref19_Before.f k l0 = some r) :
    Calls Try.prog 41 #[.slice A0 l0.length c0] w fun e w' => ∃ v0_ : Value, e = .returned (v0_) ∧ Kd.S (Kd.slice 4 Kd.bool) 66 w' w.heap.size (fun _ => True) v0_ r ∧ Below w.heap.size w w' := by
  have HR0 := Aside0.mk hr0
  have HC0 := Aside0.mk hc0
  clear hr0 hc0
  have HB := Aside0.mk (Below.refl w.heap.size w)
  have H : ((plunderref19_Steps.f k l0).bind fun t133 => (if 0 ≤ (l0.length : Int) then (if ((l0.length : Int) : Int).toNat ≤ 11728124029610 then (plunderref19_Before.l0 k t133 (l0.length : Int) (List.replicate ((l0.length : Int) : Int).toNat []) 0) else (none)) else (none))) = some r := h
  clear h
  replace H := Option.bind_eq_some_iff.mp H
  obtain ⟨t133, A20, H⟩ := H
  replace H : (if 0 ≤ (l0.length : Int) then (if ((l0.length : Int) : Int).toNat ≤ 11728124029610 then (plunderref19_Before.l0 k t133 (l0.length : Int) (List.replicate ((l0.length : Int) : Int).toNat []) 0) else (none)) else (none)) = some r := H
  have A2 := Aside0.mk A20
  clear A20
  by_cases c3 : 0 ≤ (l0.length : Int)
  · rw [if_pos c3] at H
    have c3b0 := eq_true c3
    have c3b1 : decide (0 ≤ (l0.length : Int)) = true := decide_eq_true c3
    clear c3
    by_cases c4 : ((l0.length : Int) : Int).toNat ≤ 11728124029610
    · rw [if_pos c4] at H
      have c4b0 := eq_true c4
      have c4b1 : decide (((l0.length : Int) : Int).toNat ≤ 11728124029610) = true := decide_eq_true c4
      clear c4
      obtain ⟨y136, hy136⟩ : ∃ y_ : List (List Bool), y_ = (List.replicate ((l0.length : Int) : Int).toNat []) := ⟨_, rfl⟩
      replace H : (plunderref19_Before.l0 k t133 (l0.length : Int) y136 0) = some r := by first | (rw [hy136]; with_reducible exact H) | (have H2_ := (Option.bind_some _ _).symm.trans H; rw [hy136]; with_reducible exact H2_) | (have H2_ := (Option.bind_some _ _).symm.trans H; with_reducible exact H2_) | with_reducible exact H | (rw [hy136]; exact H) | exact H
      have Ny136 := Aside0.mk hy136
      clear hy136
      have H' := Aside0.mk H
      clear H
      go_enter Try.func41, Try.ntmps41
      go_wp2_with (first | ((with_reducible refine gate_callee (f := 55) rfl ?_); refine goesL_ (some 11) rfl rfl Try.func55 (by kernel_rfl) rfl #[.slice A0 l0.length c0] rfl (by (try simp only [List.map_toArray, List.map_cons, List.map_nil]); first | done | rfl | (simp only [List.length_drop, List.length_take]; rfl)) ?_; (with_reducible refine (plunderref19_Steps.calls k _ _ l0 t133 _ ?side1 ?side2 A2.out).mono ?_); (case side1 => repeat (first | exact HR0.out | (with_reducible refine Kd.C_alloc ?_ _) | (with_reducible refine Kd.C_drewN ?_ _) | (with_reducible refine Kd.C_drew ?_))); (case side2 => exact HC0.out); rintro e w5 ⟨v134, rfl, ho0, hb⟩; refine ⟨_, rfl, ?_⟩; have n0_ := Aside0.mk (Kd.S_lower ho0 (below_size (by repeat (first | (with_reducible first | exact HB.out | apply below_alloc | apply pw_below_drewN | apply below_drew1) | exact HB.out)))); have n1_ := Aside0.mk (below_step (by repeat (first | (with_reducible first | exact HB.out | apply below_alloc | apply pw_below_drewN | apply below_drew1) | exact HB.out)) hb); clear HB; have HO135 := n0_; have HB := n1_; clear n0_ n1_; (try clear hb); (try clear hb2); (try clear hk); (try clear hi); (try clear ho0)) | ((with_reducible refine gate_dst (N := 15) rfl ?_); refine Kd.S_make (Kd.slice 4 Kd.bool) _ 66 rfl (N := 15) rfl 64 _ _ rfl (l0.length : Int) rfl rfl Try.underlying64 (.slice none 0 0) 24 info66 rfl (by decide) (by omega) [] (ok := fun _ => True) (okp := fun _ => True) ⟨_, rfl, Kd.R_nil _ _ _ _ _⟩ (fun _ hk => hk) trivial (of_decide_eq_true (by first | (with_reducible assumption) | assumption)) (Nat.le_trans (Nat.mul_le_mul_right _ (of_decide_eq_true (by first | (with_reducible assumption) | assumption) : (l0.length : Int).toNat ≤ 11728124029610)) (by omega)) (Below.refl _ _) (Nat.le_refl _) ?_; intro v137 w6 ho7 hb hg_ hnew_; clear hg_ hnew_; (first | rw [← Ny136.out] at ho7 | (simp only [Int.reduceToNat] at ho7; rw [← Ny136.out] at ho7)); have n0_ := Aside0.mk (Kd.S_below (by (with_reducible repeat (first | apply Kd.S_alloc | apply Kd.S_drewN | apply Kd.S_drew)); exact HO135.out) hb); have n1_ := Aside0.mk (Kd.S_lower ho7 (below_size (by repeat (first | (with_reducible first | exact HB.out | apply below_alloc | apply pw_below_drewN | apply below_drew1) | exact HB.out)))); have n2_ := Aside0.mk (below_step (by repeat (first | (with_reducible first | exact HB.out | apply below_alloc | apply pw_below_drewN | apply below_drew1) | exact HB.out)) hb); clear HO135; clear HB; have HO135 := n0_; have HO138 := n1_; have HB := n2_; clear n0_ n1_ n2_; clear hb ho7))
      go_loopg [6] k (fun kq v6 w' => ∃ (x5_1 : List (List Bool)) (x6_1 : Int), v6 = .int .i64 x6_1 ∧ Aside0 (plunderref19_Before.l0 kq t133 (l0.length : Int) x5_1 x6_1 = some r) ∧ Aside0 (kq ≤ k) ∧ Aside0 (Kd.S (Kd.slice 3 (Kd.int .i64)) 24 w' w.heap.size (fun _ => True) v134 t133) ∧ Aside0 (Kd.S (Kd.slice 4 Kd.bool) 66 w' w.heap.size (fun _ => True) v137 x5_1) ∧ Aside0 (Below w.heap.size w w'))
      case atStart => exact ⟨(y136), (0), (by first | rfl | (simp; done) | (simp [*]; done)), H', ⟨Nat.le_refl _⟩, ⟨by (with_reducible repeat (first | apply Kd.S_alloc | apply Kd.S_drewN | apply Kd.S_drew)); exact HO135.out⟩, ⟨by (with_reducible repeat (first | apply Kd.S_alloc | apply Kd.S_drewN | apply Kd.S_drew)); exact HO138.out⟩, ⟨by repeat (first | (with_reducible first | exact HB.out | apply below_alloc | apply pw_below_drewN | apply below_drew1) | exact HB.out)⟩⟩
      case round =>
        clear H'
        try clear p2
        try clear c3
        try clear c3b0
        try clear c3b1
        try clear c4
        try clear c4b0
        try clear c4b1
        try clear c5
        obtain ⟨x5_1, x6_1, rfl, HA, HK1, HO_3, HO_5, HB⟩ := hrel
        cases gk with
        | zero => exact absurd HA.out (by simp [plunderref19_Before.l0])
        | succ k1 =>
          have H := HA.out
          clear HA
          simp only [plunderref19_Before.l0] at H
          by_cases c8 : x6_1 < (l0.length : Int)
          · rw [if_pos c8] at H
            have c8b0 : decide (x6_1 < (l0.length : Int)) = true := decide_eq_true c8
            clear c8
            by_cases c9 : 0 ≤ (l0.length : Int)
            · rw [if_pos c9] at H
              have c9b0 := eq_true c9
              have c9b1 : decide (0 ≤ (l0.length : Int)) = true := decide_eq_true c9
              clear c9
              by_cases c10 : ((l0.length : Int) : Int).toNat ≤ 281474976710656
              · rw [if_pos c10] at H
                have c10b0 := eq_true c10
                have c10b1 : decide (((l0.length : Int) : Int).toNat ≤ 281474976710656) = true := decide_eq_true c10
                clear c10
                obtain ⟨y139, hy139⟩ : ∃ y_ : List Bool, y_ = (List.replicate ((l0.length : Int) : Int).toNat false) := ⟨_, rfl⟩
                replace H : (if 0 ≤ x6_1 then (if x6_1 < (x5_1.length : Int) then (plunderref19_Before.l1 k1 t133 (l0.length : Int) (x5_1.set (x6_1 : Int).toNat y139) x6_1 0) else (none)) else (none)) = some r := by first | (rw [hy139]; with_reducible exact H) | (have H2_ := (Option.bind_some _ _).symm.trans H; rw [hy139]; with_reducible exact H2_) | (have H2_ := (Option.bind_some _ _).symm.trans H; with_reducible exact H2_) | with_reducible exact H | (rw [hy139]; exact H) | exact H
                have Ny139 := Aside0.mk hy139
                clear hy139
                by_cases c11 : 0 ≤ x6_1
                · rw [if_pos c11] at H
                  have c11b0 : decide (0 ≤ x6_1) = true := decide_eq_true c11
                  clear c11
                  by_cases c12 : x6_1 < (x5_1.length : Int)
                  · rw [if_pos c12] at H
                    have c12b0 : decide (x6_1 < (x5_1.length : Int)) = true := decide_eq_true c12
                    clear c12
                    obtain ⟨y142, hy142⟩ : ∃ y_ : List (List Bool), y_ = (x5_1.set (x6_1 : Int).toNat y139) := ⟨_, rfl⟩
                    replace H : (plunderref19_Before.l1 k1 t133 (l0.length : Int) y142 x6_1 0) = some r := by first | (rw [hy142]; with_reducible exact H) | (have H2_ := (Option.bind_some _ _).symm.trans H; rw [hy142]; with_reducible exact H2_) | (have H2_ := (Option.bind_some _ _).symm.trans H; with_reducible exact H2_) | with_reducible exact H | (rw [hy142]; exact H) | exact H
                    have Ny142 := Aside0.mk hy142
                    clear hy142
                    have H' := Aside0.mk H
                    clear H
                    go_wp2_with (first | ((with_reducible refine gate_dst (N := 24) rfl ?_); refine Kd.R_make Kd.bool _ 4 rfl (N := 24) rfl 66 _ _ rfl (l0.length : Int) rfl rfl Try.underlying66 (.bool false) 1 info4 rfl (by decide) (by omega) false (ok := fun _ => True) (okp := fun _ => True) rfl (fun _ hk => hk) trivial (of_decide_eq_true (by first | (with_reducible assumption) | assumption)) (Nat.le_trans (Nat.mul_le_mul_right _ (of_decide_eq_true (by first | (with_reducible assumption) | assumption) : (l0.length : Int).toNat ≤ 281474976710656)) (by omega)) (Below.refl _ _) (Nat.le_refl _) ?_; intro v140 w14 ho15 hb hg_ hnew_; clear hg_ hnew_; (first | rw [← Ny139.out] at ho15 | (simp only [Int.reduceToNat] at ho15; rw [← Ny139.out] at ho15)); obtain ⟨Av140, cv140, ev140⟩ := Kd.R_slice ho15; subst ev140; have n0_ := Aside0.mk (Kd.S_below (by (with_reducible repeat (first | apply Kd.S_alloc | apply Kd.S_drewN | apply Kd.S_drew)); exact HO_3.out) hb); have n1_ := Aside0.mk (Kd.S_elder' (by (with_reducible repeat (first | apply Kd.S_alloc | apply Kd.S_drewN | apply Kd.S_drew)); exact HO_5.out) (Kd.R_base ho15) hb); have n2_ := Aside0.mk (Kd.R_lower ho15 (below_size (by repeat (first | (with_reducible first | exact HB.out | apply below_alloc | apply pw_below_drewN | apply below_drew1) | exact HB.out)))); have n3_ := Aside0.mk (below_step (by repeat (first | (with_reducible first | exact HB.out | apply below_alloc | apply pw_below_drewN | apply below_drew1) | exact HB.out)) hb); clear HO_3; clear HO_5; clear HB; have HO_3 := n0_; have HO_5 := n1_; have HO141 := n2_; have HB := n3_; clear n0_ n1_ n2_ n3_; clear hb ho15; have p13 : 0 ≤ (x6_1 : Int) := of_decide_eq_true (by first | (with_reducible assumption) | assumption); have q13 : (x6_1 : Int) < ((x5_1.length : Int) : Int) := of_decide_eq_true (by first | (with_reducible assumption) | assumption); obtain ⟨go13, co13, eo13, gb13, gl13, cl13, HG13⟩ := Kd.S_form HO_5.out (by omega); (first | cases eo13 | (injection eo13 with ea_ en_ ec_; (first | subst ea_ | (injection ea_ with ea_; subst ea_)); subst ec_; clear en_)); have GB13 := Aside0.mk gb13; have GG13 := Aside0.mk HG13; clear gb13 gl13 HG13; obtain ⟨_, ce13, hcl13, hM13, hcc13, hfr13, _, _⟩ := Kd.S_elem HO_5.out [] (x6_1 : Int) p13 q13; obtain ⟨ve13_0, rfl, ge13_0⟩ := hM13; have hx13_0 := hcc13 0 _ rfl; have hf13_0 := hfr13 0; (try simp only [show ((Kd.slice 4 Kd.bool)).sz = 1 from rfl, Nat.mul_one, Nat.add_zero] at hx13_0); (try simp only [show ((Kd.slice 4 Kd.bool)).sz = 1 from rfl, Nat.mul_one, Nat.add_zero] at hf13_0); clear hcl13 hcc13 hfr13; (try clear hM13); replace p13 := eq_true p13; replace q13 := eq_true q13; have n_ := Aside0.mk (Kd.S_mono (ok' := (fun k_ => some k_ ≠ ((Value.slice Av140 y139.length cv140) : Value).ownBlock)) HO_5.out (fun k_ hk => hk.2)); clear HO_5; have HO_5 := n_; clear n_; have HX16 := Aside0.mk (show Kd.S (Kd.slice 4 Kd.bool) 66 w14 w.heap.size (fun k_ => ((fun _ => True)) k_ ∧ ¬ ((fun k_ => some k_ = ((Value.slice Av140 y139.length cv140) : Value).ownBlock)) k_) (.slice (some ⟨go13, 0, none⟩) x5_1.length co13) x5_1 from (by (with_reducible repeat (first | apply Kd.S_alloc | apply Kd.S_drewN | apply Kd.S_drew)); exact Kd.S_mono HO_5.out (fun k_ hk => ⟨trivial, fun e_ => hk e_⟩))); obtain ⟨oki16, ce16, hcl16, hM16, hcc16, hfr16, hoki16, hH16⟩ := Kd.S_elem HX16.out [] (x6_1 : Int) (of_decide_eq_true (by first | (with_reducible assumption) | assumption)) (by have h_ : (x6_1 : Int) < ((x5_1.length : Int) : Int) := of_decide_eq_true (by first | (with_reducible assumption) | assumption); first | exact h_ | (have e_ := (Kd.S_reads' HO_5.out).1; omega) | simpa using h_); obtain ⟨ve16_0, rfl, ge16_0⟩ := hM16; have HP16 := Kd.S_seg hH16 (of_decide_eq_true (by first | (with_reducible assumption) | assumption)) (by have h_ : (x6_1 : Int) < ((x5_1.length : Int) : Int) := of_decide_eq_true (by first | (with_reducible assumption) | assumption); first | exact h_ | (have e_ := (Kd.S_reads' HO_5.out).1; omega) | simpa using h_) (seg := [(Value.slice Av140 y139.length cv140)]) (j := 0) (show 1 ≤ 1 from by decide) (x' := y139) (Kd.M_row (Kd.R_mono (Kd.R_tight rfl (Kd.R_mono (ok' := fun k_ => ((fun _ => True)) k_ ∧ k_ ≠ go13) (Kd.R_apart' (HO141.out) (Kd.S_typed HO_5.out) (by decide)) (fun k_ hk => ⟨trivial, fun e_ => (hk.2) (by rw [e_]; rfl)⟩))) (fun _ h_ => Or.inr (h_)))) (fun _ hk => hk) (fun k_ hk_ => ((Kd.R_mono (ok' := fun k_ => ((fun _ => True)) k_ ∧ k_ ≠ go13) (Kd.R_apart' (HO141.out) (Kd.S_typed HO_5.out) (by decide)) (fun k_ hk => ⟨trivial, fun e_ => (hk.2) (by rw [e_]; rfl)⟩))).1 k_ hk_.symm); have hx16_0 := hcc16 0 _ rfl; (try simp only [show ((Kd.slice 4 Kd.bool)).sz = 1 from rfl, Nat.mul_one, Nat.add_zero] at hx16_0); have hf16_0 := hfr16 0; (try simp only [show ((Kd.slice 4 Kd.bool)).sz = 1 from rfl, Nat.mul_one, Nat.add_zero] at hf16_0); clear hcl16 hcc16 hfr16; (try clear hM16); clear hoki16 hH16; (try simp only [show ((Kd.slice 4 Kd.bool)).sz = 1 from rfl, Nat.mul_one, Nat.add_zero] at HP16)) | ((with_reducible refine gate_store (t := 66) (p := 25) rfl ?_); refine store_event (t := 66) (p := 25) (v := ?vo_w17) (w1 := (w14.setCell ⟨go13, (x6_1 : Int).toNat, none⟩ ((Value.slice Av140 y139.length cv140)))) ?hg ?ho ?hn ?hr ?_; (case ho => rfl); (case hg => rfl); (case hn => rfl); (case hr => first | (go_simp; done) | (go_simp; rfl)); intro w17 hw; have hg : w14.grownBy w17 (some go13) := (by rw [hw]; exact HP16.2); have hp_ : Kd.S (Kd.slice 4 Kd.bool) 66 w17 w.heap.size (fun _ => True) (.slice (some ⟨go13, 0, none⟩) x5_1.length co13) y142 := (by rw [hw, Ny142.out]; exact HP16.1); clear HP16; have n0_ := Aside0.mk (Kd.S_over' (v := (.slice (some ⟨go13, 0, none⟩) x5_1.length co13)) (by (with_reducible repeat (first | apply Kd.S_alloc | apply Kd.S_drewN | apply Kd.S_drew)); exact HO_3.out) (Kd.S_typed HO_5.out) (by decide) hg); have n1_ := Aside0.mk (hp_); have n2_ := Aside0.mk ((by rw [hw]; exact below_set (HB.out) GB13.out : Below w.heap.size w w17)); clear HO_3; clear HO_5; clear HB; clear HO141; have HO_3 := n0_; have HO_5 := n1_; have HB := n2_; clear n0_ n1_ n2_; clear hg hw hp_))
                    go_loopg [7] k1 (fun kq v7 w' => ∃ (x5_2 : List (List Bool)) (x7_2 : Int), v7 = .int .i64 x7_2 ∧ Aside0 (plunderref19_Before.l1 kq t133 (l0.length : Int) x5_2 x6_1 x7_2 = some r) ∧ Aside0 (kq ≤ k1) ∧ Aside0 (Kd.S (Kd.slice 3 (Kd.int .i64)) 24 w' w.heap.size (fun _ => True) v134 t133) ∧ Aside0 (Kd.S (Kd.slice 4 Kd.bool) 66 w' w.heap.size (fun _ => True) (.slice (some ⟨go13, 0, none⟩) x5_1.length co13) x5_2) ∧ Aside0 (Below w.heap.size w w'))
                    case atStart => exact ⟨(y142), (0), (by first | rfl | (simp; done) | (simp [*]; done)), H', ⟨Nat.le_refl _⟩, ⟨by (with_reducible repeat (first | apply Kd.S_alloc | apply Kd.S_drewN | apply Kd.S_drew)); exact HO_3.out⟩, ⟨by (with_reducible repeat (first | apply Kd.S_alloc | apply Kd.S_drewN | apply Kd.S_drew)); exact HO_5.out⟩, ⟨by repeat (first | (with_reducible first | exact HB.out | apply below_alloc | apply pw_below_drewN | apply below_drew1) | exact HB.out)⟩⟩
                    case round =>
                      clear H'
                      try clear c1
                      try clear p1
                      try clear q1
                      try clear hx1
                      try clear hf1
                      try clear p2
                      try clear c3
                      try clear c3b0
                      try clear c3b1
                      try clear c4
                      try clear c4b0
                      try clear c4b1
                      try clear c5
                      try clear c8
                      try clear c8b0
                      try clear c9
                      try clear c9b0
                      try clear c9b1
                      try clear c10
                      try clear c10b0
                      try clear c10b1
                      try clear c11
                      try clear c11b0
                      try clear c12
                      try clear c12b0
                      try clear c13
                      try clear p13
                      try clear q13
                      try clear hx13
                      try clear hf13
                      try clear c16
                      try clear hx16
                      try clear hf16
                      try clear hx13_0
                      try clear hx16_0
                      try clear p13
                      try clear p2
                      try clear q13
                      obtain ⟨x5_2, x7_2, rfl, HA, HK2, HO_3, HO_5, HB⟩ := hrel
                      have hl5_2 := (Kd.S_reads' HO_5.out).1
                      rw [hl5_2] at HO_5
                      (try simp only [hl5_2])
                      (try simp only [hl5_2] at HO_3)
                      cases gk with
                      | zero => exact absurd HA.out (by simp [plunderref19_Before.l1])
                      | succ k2 =>
                        have H := HA.out
                        clear HA
                        simp only [plunderref19_Before.l1] at H
                        by_cases c18 : 0 ≤ x6_1
                        · rw [if_pos c18] at H
                          have c18b0 : decide (0 ≤ x6_1) = true := decide_eq_true c18
                          clear c18
                          by_cases c19 : x6_1 < (t133.length : Int)
                          · rw [if_pos c19] at H
                            have c19b0 : decide (x6_1 < (t133.length : Int)) = true := decide_eq_true c19
                            clear c19
                            by_cases c20 : x7_2 < ((rd_L3 t133 x6_1).length : Int)
                            · rw [if_pos c20] at H
                              have c20b0 : decide (x7_2 < ((rd_L3 t133 x6_1).length : Int)) = true := decide_eq_true c20
                              clear c20
                              by_cases c21 : 0 ≤ x7_2
                              · rw [if_pos c21] at H
                                have c21b0 : decide (0 ≤ x7_2) = true := decide_eq_true c21
                                clear c21
                                by_cases c22 : x6_1 < (x5_2.length : Int)
                                · rw [if_pos c22] at H
                                  have c22b0 : decide (x6_1 < (x5_2.length : Int)) = true := decide_eq_true c22
                                  clear c22
                                  by_cases c23 : 0 ≤ (rd (rd_L3 t133 x6_1) x7_2)
                                  · rw [if_pos c23] at H
                                    have c23b0 : decide (0 ≤ (rd (rd_L3 t133 x6_1) x7_2)) = true := decide_eq_true c23
                                    clear c23
                                    by_cases c24 : (rd (rd_L3 t133 x6_1) x7_2) < ((rd_L6 x5_2 x6_1).length : Int)
                                    · rw [if_pos c24] at H
                                      have c24b0 : decide ((rd (rd_L3 t133 x6_1) x7_2) < ((rd_L6 x5_2 x6_1).length : Int)) = true := decide_eq_true c24
                                      clear c24
                                      obtain ⟨y147, hy147⟩ : ∃ y_ : List Bool, y_ = ((rd_L6 x5_2 x6_1).set ((rd (rd_L3 t133 x6_1) x7_2) : Int).toNat true) := ⟨_, rfl⟩
                                      replace H : (plunderref19_Before.l2 k2 t133 (l0.length : Int) (x5_2.set (x6_1 : Int).toNat y147) x6_1 x7_2 (rd (rd_L3 t133 x6_1) x7_2) 0) = some r := by first | (rw [hy147]; with_reducible exact H) | (have H2_ := (Option.bind_some _ _).symm.trans H; rw [hy147]; with_reducible exact H2_) | (have H2_ := (Option.bind_some _ _).symm.trans H; with_reducible exact H2_) | with_reducible exact H | (rw [hy147]; exact H) | exact H
                                      have Ny147 := Aside0.mk hy147
                                      clear hy147
                                      obtain ⟨y149, hy149⟩ : ∃ y_ : List (List Bool), y_ = (x5_2.set (x6_1 : Int).toNat y147) := ⟨_, rfl⟩
                                      replace H : (plunderref19_Before.l2 k2 t133 (l0.length : Int) y149 x6_1 x7_2 (rd (rd_L3 t133 x6_1) x7_2) 0) = some r := by first | (rw [hy149]; with_reducible exact H) | (have H2_ := (Option.bind_some _ _).symm.trans H; rw [hy149]; with_reducible exact H2_) | (have H2_ := (Option.bind_some _ _).symm.trans H; with_reducible exact H2_) | with_reducible exact H | (rw [hy149]; exact H) | exact H
                                      have Ny149 := Aside0.mk hy149
                                      clear hy149
                                      have H' := Aside0.mk H
                                      clear H
                                      obtain ⟨Ao26, co26, eo26⟩ := Kd.S_slice HO_3.out
                                      subst eo26
                                      have p143 : 0 ≤ (x6_1 : Int) := of_decide_eq_true (by first | (with_reducible assumption) | assumption)
                                      have q143 : x6_1 < (t133.length : Int) := of_decide_eq_true (by first | (with_reducible assumption) | assumption)
                                      obtain ⟨ad143, A143_0, c143_0, e143, hx143_0, hl143_0, hi143_0⟩ := at_L3 (Kd.S_reads' HO_3.out).2.2 x6_1 p143 q143
                                      cases e143
                                      obtain ⟨ce143, hce143, hMe143, hcc143⟩ := Kd.S_get HO_3.out [] x6_1 p143 (by first | exact q143 | exact of_decide_eq_true (by first | (with_reducible assumption) | assumption) | (have e_ := (Kd.S_reads' HO_3.out).1; omega))
                                      obtain ⟨ve143_0, rfl, ge143_0⟩ := hMe143
                                      have hv143_0 := hcc143 0 _ rfl
                                      rw [Nat.add_zero, show ((Kd.slice 3 (Kd.int .i64))).sz = 1 from rfl, Nat.mul_one] at hv143_0
                                      replace hv143_0 := Option.some.inj (hv143_0.symm.trans hx143_0)
                                      rw [hv143_0] at ge143_0
                                      have HL143_0 := Aside0.mk (show Kd.R (Kd.int .i64) 3 _ _ _ _ (rd_L3 t133 x6_1) from ge143_0)
                                      clear hv143_0 ge143_0
                                      have HX143_0 := Aside0.mk hx143_0
                                      clear hcc143 hce143
                                      have HR143_0 := Aside0.mk hi143_0
                                      have HC143_0 := Aside0.mk hl143_0
                                      clear hi143_0 hl143_0
                                      replace p143 := eq_true p143
                                      replace q143 := eq_true q143
                                      have p144 : 0 ≤ (x6_1 : Int) := of_decide_eq_true (by first | (with_reducible assumption) | assumption)
                                      have q144 : x6_1 < (t133.length : Int) := of_decide_eq_true (by first | (with_reducible assumption) | assumption)
                                      obtain ⟨ad144, A144_0, c144_0, e144, hx144_0, hl144_0, hi144_0⟩ := at_L3 (Kd.S_reads' HO_3.out).2.2 x6_1 p144 q144
                                      obtain rfl : ad143 = ad144 := (by injection e144)
                                      obtain ⟨ce144, hce144, hMe144, hcc144⟩ := Kd.S_get HO_3.out [] x6_1 p144 (by first | exact q144 | exact of_decide_eq_true (by first | (with_reducible assumption) | assumption) | (have e_ := (Kd.S_reads' HO_3.out).1; omega))
                                      obtain ⟨ve144_0, rfl, ge144_0⟩ := hMe144
                                      have hv144_0 := hcc144 0 _ rfl
                                      rw [Nat.add_zero, show ((Kd.slice 3 (Kd.int .i64))).sz = 1 from rfl, Nat.mul_one] at hv144_0
                                      replace hv144_0 := Option.some.inj (hv144_0.symm.trans hx144_0)
                                      rw [hv144_0] at ge144_0
                                      have HL144_0 := Aside0.mk (show Kd.R (Kd.int .i64) 3 _ _ _ _ (rd_L3 t133 x6_1) from ge144_0)
                                      clear hv144_0 ge144_0
                                      have HX144_0 := Aside0.mk hx144_0
                                      clear hcc144 hce144
                                      have HR144_0 := Aside0.mk hi144_0
                                      have HC144_0 := Aside0.mk hl144_0
                                      clear hi144_0 hl144_0
                                      replace p144 := eq_true p144
                                      replace q144 := eq_true q144
                                      have ea_ := Option.some.inj (hx143_0.symm.trans hx144_0)
                                      injection ea_ with ea_ en_ ec_
                                      subst ea_
                                      subst ec_
                                      clear en_
                                      have p145 : 0 ≤ (x7_2 : Int) := of_decide_eq_true (by first | (with_reducible assumption) | assumption)
                                      have q145 : x7_2 < ((rd_L3 t133 x6_1).length : Int) := of_decide_eq_true (by first | (with_reducible assumption) | assumption)
                                      obtain ⟨ad145, e145, hx145_0⟩ := Kd.at_int (by repeat (first | (with_reducible exact HR144_0.out) | (with_reducible refine Kd.C_alloc ?_ _) | (with_reducible refine Kd.C_drewN ?_ _) | (with_reducible refine Kd.C_drew ?_) | exact HR144_0.out)) x7_2 p145 q145
                                      cases e145
                                      replace p145 := eq_true p145
                                      replace q145 := eq_true q145
                                      have p146 : 0 ≤ (x6_1 : Int) := of_decide_eq_true (by first | (with_reducible assumption) | assumption)
                                      have q146 : x6_1 < (x5_2.length : Int) := of_decide_eq_true (by first | (with_reducible assumption) | assumption)
                                      obtain ⟨ad146, A146_0, c146_0, e146, hx146_0, hl146_0, hi146_0⟩ := at_L6 (Kd.S_reads' HO_5.out).2.2 x6_1 p146 q146
                                      obtain rfl : (⟨go13, 0, none⟩ : Addr) = ad146 := (by injection e146)
                                      obtain ⟨ce146, hce146, hMe146, hcc146⟩ := Kd.S_get HO_5.out [] x6_1 p146 (by first | exact q146 | exact of_decide_eq_true (by first | (with_reducible assumption) | assumption) | (have e_ := (Kd.S_reads' HO_5.out).1; omega))
                                      obtain ⟨ve146_0, rfl, ge146_0⟩ := hMe146
                                      have hv146_0 := hcc146 0 _ rfl
                                      rw [Nat.add_zero, show ((Kd.slice 4 Kd.bool)).sz = 1 from rfl, Nat.mul_one] at hv146_0
                                      replace hv146_0 := Option.some.inj (hv146_0.symm.trans hx146_0)
                                      rw [hv146_0] at ge146_0
                                      have HL146_0 := Aside0.mk (show Kd.R Kd.bool 4 _ _ _ _ (rd_L6 x5_2 x6_1) from ge146_0)
                                      clear hv146_0 ge146_0
                                      have HX146_0 := Aside0.mk hx146_0
                                      clear hcc146 hce146
                                      (first | simp only [add_plain] at hx146_0 | simp only [add_at] at hx146_0 | simp only [Addr.add, Nat.zero_add] at hx146_0 | skip)
                                      have HR146_0 := Aside0.mk hi146_0
                                      have HC146_0 := Aside0.mk hl146_0
                                      clear hi146_0 hl146_0
                                      replace p146 := eq_true p146
                                      replace q146 := eq_true q146
                                      have p25 : 0 ≤ ((rd (rd_L3 t133 x6_1) x7_2) : Int) := of_decide_eq_true (by first | (with_reducible assumption) | assumption)
                                      have q25 : ((rd (rd_L3 t133 x6_1) x7_2) : Int) < (((rd_L6 x5_2 x6_1).length : Int) : Int) := of_decide_eq_true (by first | (with_reducible assumption) | assumption)
                                      obtain ⟨go25, co25, eo25, gb25, gl25, cl25, HG25⟩ := Kd.R_form HL146_0.out (by omega)
                                      (first | cases eo25 | (injection eo25 with ea_ en_ ec_; (first | subst ea_ | (injection ea_ with ea_; subst ea_)); subst ec_; clear en_))
                                      have GB25 := Aside0.mk gb25
                                      have GG25 := Aside0.mk HG25
                                      clear gb25 gl25 HG25
                                      obtain ⟨hx25_0, hf25_0⟩ := Kd.R_celln false HL146_0.out ((rd (rd_L3 t133 x6_1) x7_2) : Int) p25 q25
                                      replace p25 := eq_true p25
                                      replace q25 := eq_true q25
                                      have hq27 : (x6_1 : Int) < (x5_2.length : Int) := (by have h_ : (x6_1 : Int) < ((x5_2.length : Int) : Int) := of_decide_eq_true (by first | (with_reducible assumption) | assumption); first | exact h_ | (have e_ := (Kd.S_reads' HO_5.out).1; omega) | simpa only [List.length_set, List.length_set] using h_)
                                      obtain ⟨oki27, ce27, hcl27, hM27, hcc27, hok27, hbk27⟩ := Kd.S_borrow HO_5.out [] (x6_1 : Int) (of_decide_eq_true (by first | (with_reducible assumption) | assumption)) hq27
                                      obtain ⟨ve27_0, rfl, ge27_0⟩ := hM27
                                      have hv27 := hcc27 0 _ rfl
                                      rw [Nat.add_zero, show ((Kd.slice 4 Kd.bool)).sz = 1 from rfl, Nat.mul_one] at hv27
                                      replace hv27 := Option.some.inj (hv27.symm.trans HX146_0.out)
                                      subst hv27
                                      clear hcc27 hcl27
                                      replace ge27_0 := (show Kd.R Kd.bool 4 _ _ _ _ (rd_L6 x5_2 x6_1) from ge27_0)
                                      have HP27 := Kd.R_putg ge27_0 ((rd (rd_L3 t133 x6_1) x7_2) : Int) true
                                      go_wp2_with (first | ((with_reducible refine gate_store (t := 4) (p := 47) rfl ?_); refine store_event (t := 4) (p := 47) (v := ?vo_w28) (w1 := (wr.setCell ⟨go25, ((rd (rd_L3 t133 x6_1) x7_2) : Int).toNat, none⟩ (.bool true))) ?hg ?ho ?hn ?hr ?_; (case ho => rfl); (case hg => rfl); (case hn => rfl); (case hr => first | (go_simp; done) | (go_simp; rfl)); intro w28 hw; have hg : wr.grownBy w28 (some go25) := (by rw [hw]; exact HP27.2); have hz_ : Kd.R Kd.bool 4 w28 w.heap.size oki27 (.slice (some ⟨go25, 0, none⟩) (rd_L6 x5_2 x6_1).length c146_0) y147 := (by rw [hw, Ny147.out]; exact HP27.1); have hp_ : Kd.S (Kd.slice 4 Kd.bool) 66 w28 w.heap.size (fun _ => True) (.slice (some ⟨go13, 0, none⟩) x5_2.length co13) y149 := (by rw [Ny149.out]; exact hbk27 hg (fun k_ e_ => by injection e_ with e_; subst e_; exact ge27_0.1 _ rfl) (Kd.M_row hz_)); have hm_ := Kd.R_mono hz_ hok27; clear HP27 hbk27; have n0_ := Aside0.mk (Kd.S_over' (v := (.slice (some ⟨go25, 0, none⟩) (rd_L6 x5_2 x6_1).length c146_0)) (by (with_reducible repeat (first | apply Kd.S_alloc | apply Kd.S_drewN | apply Kd.S_drew)); exact HO_3.out) (Kd.R_typed HL146_0.out) (by decide) hg); have n1_ := Aside0.mk (hp_); have n2_ := Aside0.mk ((by rw [hw]; exact below_set (HB.out) GB25.out : Below w.heap.size w w28)); have n3_ := Aside0.mk (hm_); have n4_ := Aside0.mk ((Kd.R_reads' hm_).2.1); clear HO_3; clear HO_5; clear HB; clear HL143_0; clear HL144_0; clear HL146_0; have HO_3 := n0_; have HO_5 := n1_; have HB := n2_; have HL156 := n3_; have HC148 := n4_; clear n0_ n1_ n2_ n3_ n4_; clear hg hw hp_ hz_ hm_ hok27))
                                      go_loopg [9] k2 (fun kq v9 w' => ∃ (x5_3 : List (List Bool)) (x9_3 : Int), v9 = .int .i64 x9_3 ∧ Aside0 (plunderref19_Before.l2 kq t133 (l0.length : Int) x5_3 x6_1 x7_2 (rd (rd_L3 t133 x6_1) x7_2) x9_3 = some r) ∧ Aside0 (kq ≤ k2) ∧ Aside0 (Kd.S (Kd.slice 3 (Kd.int .i64)) 24 w' w.heap.size (fun _ => True) (.slice (some ad143) t133.length co26) t133) ∧ Aside0 (Kd.S (Kd.slice 4 Kd.bool) 66 w' w.heap.size (fun _ => True) (.slice (some ⟨go13, 0, none⟩) x5_2.length co13) x5_3) ∧ Aside0 (Below w.heap.size w w'))
                                      case atStart => exact ⟨(y149), (0), (by first | rfl | (simp; done) | (simp [*]; done)), H', ⟨Nat.le_refl _⟩, ⟨by (try simp only [hl5_2]); (with_reducible repeat (first | apply Kd.S_alloc | apply Kd.S_drewN | apply Kd.S_drew)); exact HO_3.out⟩, ⟨by (try simp only [hl5_2]); (with_reducible repeat (first | apply Kd.S_alloc | apply Kd.S_drewN | apply Kd.S_drew)); exact HO_5.out⟩, ⟨by repeat (first | (with_reducible first | exact HB.out | apply below_alloc | apply pw_below_drewN | apply below_drew1) | exact HB.out)⟩⟩
                                      case round =>
                                        clear H'
                                        try clear c1
                                        try clear p1
                                        try clear q1
                                        try clear hx1
                                        try clear hf1
                                        try clear c2
                                        try clear p2
                                        try clear q2
                                        try clear hx2
                                        try clear hf2
                                        try clear c3
                                        try clear c3b0
                                        try clear c3b1
                                        try clear c4
                                        try clear c4b0
                                        try clear c4b1
                                        try clear c5
                                        try clear c8
                                        try clear c8b0
                                        try clear c9
                                        try clear c9b0
                                        try clear c9b1
                                        try clear c10
                                        try clear c10b0
                                        try clear c10b1
                                        try clear c11
                                        try clear c11b0
                                        try clear c12
                                        try clear c12b0
                                        try clear c13
                                        try clear p13
                                        try clear q13
                                        try clear hx13
                                        try clear hf13
                                        try clear c14
                                        try clear p14
                                        try clear q14
                                        try clear hx14
                                        try clear c16
                                        try clear hx16
                                        try clear hf16
                                        try clear c18
                                        try clear c18b0
                                        try clear c19
                                        try clear c19b0
                                        try clear c20
                                        try clear c20b0
                                        try clear c21
                                        try clear c21b0
                                        try clear c22
                                        try clear c22b0
                                        try clear c23
                                        try clear c23b0
                                        try clear c24
                                        try clear c24b0
                                        try clear p25
                                        try clear q25
                                        try clear hx25
                                        try clear hf25
                                        try clear c27
                                        try clear q27
                                        try clear hx13_0
                                        try clear hx143_0
                                        try clear hx144_0
                                        try clear hx145_0
                                        try clear hx146_0
                                        try clear hx16_0
                                        try clear hx25_0
                                        try clear p1
                                        try clear p13
                                        try clear p143
                                        try clear p144
                                        try clear p145
                                        try clear p146
                                        try clear p2
                                        try clear p25
                                        try clear q1
                                        try clear q13
                                        try clear q143
                                        try clear q144
                                        try clear q145
                                        try clear q146
                                        try clear q25
                                        obtain ⟨x5_3, x9_3, rfl, HA, HK3, HO_3, HO_5, HB⟩ := hrel
                                        have hl5_3 := (Kd.S_reads' HO_5.out).1
                                        rw [hl5_3] at HO_5
                                        (try simp only [hl5_3])
                                        (try simp only [hl5_3] at HO_3)
                                        cases gk with
                                        | zero => exact absurd HA.out (by simp [plunderref19_Before.l2])
                                        | succ k3 =>
                                          have H := HA.out
                                          clear HA
                                          simp only [plunderref19_Before.l2] at H
                                          by_cases c29 : x9_3 < (rd (rd_L3 t133 x6_1) x7_2)
                                          · rw [if_pos c29] at H
                                            have c29b0 : decide (x9_3 < (rd (rd_L3 t133 x6_1) x7_2)) = true := decide_eq_true c29
                                            clear c29
                                            by_cases c30 : 0 ≤ (rd (rd_L3 t133 x6_1) x7_2)
                                            · rw [if_pos c30] at H
                                              have c30b0 : decide (0 ≤ (rd (rd_L3 t133 x6_1) x7_2)) = true := decide_eq_true c30
                                              clear c30
                                              by_cases c31 : (rd (rd_L3 t133 x6_1) x7_2) < (x5_3.length : Int)
                                              · rw [if_pos c31] at H
                                                have c31b0 : decide ((rd (rd_L3 t133 x6_1) x7_2) < (x5_3.length : Int)) = true := decide_eq_true c31
                                                clear c31
                                                by_cases c32 : 0 ≤ x9_3
                                                · rw [if_pos c32] at H
                                                  have c32b0 : decide (0 ≤ x9_3) = true := decide_eq_true c32
                                                  clear c32
                                                  by_cases c33 : x9_3 < ((rd_L6 x5_3 (rd (rd_L3 t133 x6_1) x7_2)).length : Int)
                                                  · rw [if_pos c33] at H
                                                    have c33b0 : decide (x9_3 < ((rd_L6 x5_3 (rd (rd_L3 t133 x6_1) x7_2)).length : Int)) = true := decide_eq_true c33
                                                    clear c33
                                                    obtain ⟨bq34, hbq34⟩ : ∃ b_ : Bool, b_ = (rdOf false (rd_L6 x5_3 (rd (rd_L3 t133 x6_1) x7_2)) x9_3) := ⟨_, rfl⟩
                                                    replace H : (if bq34 = true then (if 0 ≤ x6_1 then (if x6_1 < (x5_3.length : Int) then (if x9_3 < ((rd_L6 x5_3 x6_1).length : Int) then (plunderref19_Before.l2 k3 t133 (l0.length : Int) (x5_3.set (x6_1 : Int).toNat ((rd_L6 x5_3 x6_1).set (x9_3 : Int).toNat true)) x6_1 x7_2 (rd (rd_L3 t133 x6_1) x7_2) (wrap64 (x9_3 + 1))) else (none)) else (none)) else (none)) else (plunderref19_Before.l2 k3 t133 (l0.length : Int) x5_3 x6_1 x7_2 (rd (rd_L3 t133 x6_1) x7_2) (wrap64 (x9_3 + 1)))) = some r := by rw [← hbq34] at H; exact H
                                                    have Nbq34 := Aside0.mk hbq34
                                                    clear hbq34
                                                    by_cases c35 : bq34 = true
                                                    · subst c35
                                                      have H1 : (if 0 ≤ x6_1 then (if x6_1 < (x5_3.length : Int) then (if x9_3 < ((rd_L6 x5_3 x6_1).length : Int) then (plunderref19_Before.l2 k3 t133 (l0.length : Int) (x5_3.set (x6_1 : Int).toNat ((rd_L6 x5_3 x6_1).set (x9_3 : Int).toNat true)) x6_1 x7_2 (rd (rd_L3 t133 x6_1) x7_2) (wrap64 (x9_3 + 1))) else (none)) else (none)) else (none)) = some r := by rw [if_pos rfl] at H; exact H
                                                      clear H
                                                      have H := H1
                                                      clear H1
                                                      by_cases c36 : 0 ≤ x6_1
                                                      · rw [if_pos c36] at H
                                                        have c36b0 : decide (0 ≤ x6_1) = true := decide_eq_true c36
                                                        clear c36
                                                        by_cases c37 : x6_1 < (x5_3.length : Int)
                                                        · rw [if_pos c37] at H
                                                          have c37b0 : decide (x6_1 < (x5_3.length : Int)) = true := decide_eq_true c37
                                                          clear c37
                                                          by_cases c38 : x9_3 < ((rd_L6 x5_3 x6_1).length : Int)
                                                          · rw [if_pos c38] at H
                                                            have c38b0 : decide (x9_3 < ((rd_L6 x5_3 x6_1).length : Int)) = true := decide_eq_true c38
                                                            clear c38
                                                            obtain ⟨y153, hy153⟩ : ∃ y_ : List Bool, y_ = ((rd_L6 x5_3 x6_1).set (x9_3 : Int).toNat true) := ⟨_, rfl⟩
                                                            replace H : (plunderref19_Before.l2 k3 t133 (l0.length : Int) (x5_3.set (x6_1 : Int).toNat y153) x6_1 x7_2 (rd (rd_L3 t133 x6_1) x7_2) (wrap64 (x9_3 + 1))) = some r := by first | (rw [hy153]; with_reducible exact H) | (have H2_ := (Option.bind_some _ _).symm.trans H; rw [hy153]; with_reducible exact H2_) | (have H2_ := (Option.bind_some _ _).symm.trans H; with_reducible exact H2_) | with_reducible exact H | (rw [hy153]; exact H) | exact H
                                                            have Ny153 := Aside0.mk hy153
                                                            clear hy153
                                                            obtain ⟨y155, hy155⟩ : ∃ y_ : List (List Bool), y_ = (x5_3.set (x6_1 : Int).toNat y153) := ⟨_, rfl⟩
                                                            replace H : (plunderref19_Before.l2 k3 t133 (l0.length : Int) y155 x6_1 x7_2 (rd (rd_L3 t133 x6_1) x7_2) (wrap64 (x9_3 + 1))) = some r := by first | (rw [hy155]; with_reducible exact H) | (have H2_ := (Option.bind_some _ _).symm.trans H; rw [hy155]; with_reducible exact H2_) | (have H2_ := (Option.bind_some _ _).symm.trans H; with_reducible exact H2_) | with_reducible exact H | (rw [hy155]; exact H) | exact H
                                                            have Ny155 := Aside0.mk hy155
                                                            clear hy155
                                                            have H' := Aside0.mk H
                                                            clear H
                                                            have p150 : 0 ≤ ((rd (rd_L3 t133 x6_1) x7_2) : Int) := of_decide_eq_true (by first | (with_reducible assumption) | assumption)
                                                            have q150 : (rd (rd_L3 t133 x6_1) x7_2) < (x5_3.length : Int) := of_decide_eq_true (by first | (with_reducible assumption) | assumption)
                                                            obtain ⟨ad150, A150_0, c150_0, e150, hx150_0, hl150_0, hi150_0⟩ := at_L6 (Kd.S_reads' HO_5.out).2.2 (rd (rd_L3 t133 x6_1) x7_2) p150 q150
                                                            obtain rfl : (⟨go13, 0, none⟩ : Addr) = ad150 := (by injection e150)
                                                            obtain ⟨ce150, hce150, hMe150, hcc150⟩ := Kd.S_get HO_5.out [] (rd (rd_L3 t133 x6_1) x7_2) p150 (by first | exact q150 | exact of_decide_eq_true (by first | (with_reducible assumption) | assumption) | (have e_ := (Kd.S_reads' HO_5.out).1; omega))
                                                            obtain ⟨ve150_0, rfl, ge150_0⟩ := hMe150
                                                            have hv150_0 := hcc150 0 _ rfl
                                                            rw [Nat.add_zero, show ((Kd.slice 4 Kd.bool)).sz = 1 from rfl, Nat.mul_one] at hv150_0
                                                            replace hv150_0 := Option.some.inj (hv150_0.symm.trans hx150_0)
                                                            rw [hv150_0] at ge150_0
                                                            have HL150_0 := Aside0.mk (show Kd.R Kd.bool 4 _ _ _ _ (rd_L6 x5_3 (rd (rd_L3 t133 x6_1) x7_2)) from ge150_0)
                                                            clear hv150_0 ge150_0
                                                            have HX150_0 := Aside0.mk hx150_0
                                                            clear hcc150 hce150
                                                            (first | simp only [add_plain] at hx150_0 | simp only [add_at] at hx150_0 | simp only [Addr.add, Nat.zero_add] at hx150_0 | skip)
                                                            have HR150_0 := Aside0.mk hi150_0
                                                            have HC150_0 := Aside0.mk hl150_0
                                                            clear hi150_0 hl150_0
                                                            replace p150 := eq_true p150
                                                            replace q150 := eq_true q150
                                                            have p151 : 0 ≤ (x9_3 : Int) := of_decide_eq_true (by first | (with_reducible assumption) | assumption)
                                                            have q151 : x9_3 < ((rd_L6 x5_3 (rd (rd_L3 t133 x6_1) x7_2)).length : Int) := of_decide_eq_true (by first | (with_reducible assumption) | assumption)
                                                            obtain ⟨ad151, e151, hx151_0⟩ := Kd.at_bool (by repeat (first | (with_reducible exact HR150_0.out) | (with_reducible refine Kd.C_alloc ?_ _) | (with_reducible refine Kd.C_drewN ?_ _) | (with_reducible refine Kd.C_drew ?_) | exact HR150_0.out)) x9_3 p151 q151
                                                            (try rw [← Nbq34.out] at hx151_0)
                                                            cases e151
                                                            replace p151 := eq_true p151
                                                            replace q151 := eq_true q151
                                                            have p152 : 0 ≤ (x6_1 : Int) := of_decide_eq_true (by first | (with_reducible assumption) | assumption)
                                                            have q152 : x6_1 < (x5_3.length : Int) := of_decide_eq_true (by first | (with_reducible assumption) | assumption)
                                                            obtain ⟨ad152, A152_0, c152_0, e152, hx152_0, hl152_0, hi152_0⟩ := at_L6 (Kd.S_reads' HO_5.out).2.2 x6_1 p152 q152
                                                            obtain rfl : (⟨go13, 0, none⟩ : Addr) = ad152 := (by injection e152)
                                                            obtain ⟨ce152, hce152, hMe152, hcc152⟩ := Kd.S_get HO_5.out [] x6_1 p152 (by first | exact q152 | exact of_decide_eq_true (by first | (with_reducible assumption) | assumption) | (have e_ := (Kd.S_reads' HO_5.out).1; omega))
                                                            obtain ⟨ve152_0, rfl, ge152_0⟩ := hMe152
                                                            have hv152_0 := hcc152 0 _ rfl
                                                            rw [Nat.add_zero, show ((Kd.slice 4 Kd.bool)).sz = 1 from rfl, Nat.mul_one] at hv152_0
                                                            replace hv152_0 := Option.some.inj (hv152_0.symm.trans hx152_0)
                                                            rw [hv152_0] at ge152_0
                                                            have HL152_0 := Aside0.mk (show Kd.R Kd.bool 4 _ _ _ _ (rd_L6 x5_3 x6_1) from ge152_0)
                                                            clear hv152_0 ge152_0
                                                            have HX152_0 := Aside0.mk hx152_0
                                                            clear hcc152 hce152
                                                            (first | simp only [add_plain] at hx152_0 | simp only [add_at] at hx152_0 | simp only [Addr.add, Nat.zero_add] at hx152_0 | skip)
                                                            have HR152_0 := Aside0.mk hi152_0
                                                            have HC152_0 := Aside0.mk hl152_0
                                                            clear hi152_0 hl152_0
                                                            replace p152 := eq_true p152
                                                            replace q152 := eq_true q152
                                                            have p39 : 0 ≤ (x9_3 : Int) := of_decide_eq_true (by first | (with_reducible assumption) | assumption)
                                                            have q39 : (x9_3 : Int) < (((rd_L6 x5_3 x6_1).length : Int) : Int) := of_decide_eq_true (by first | (with_reducible assumption) | assumption)
                                                            obtain ⟨go39, co39, eo39, gb39, gl39, cl39, HG39⟩ := Kd.R_form HL152_0.out (by omega)
                                                            (first | cases eo39 | (injection eo39 with ea_ en_ ec_; (first | subst ea_ | (injection ea_ with ea_; subst ea_)); subst ec_; clear en_))
                                                            have GB39 := Aside0.mk gb39
                                                            have GG39 := Aside0.mk HG39
                                                            clear gb39 gl39 HG39
                                                            obtain ⟨hx39_0, hf39_0⟩ := Kd.R_celln false HL152_0.out (x9_3 : Int) p39 q39
                                                            replace p39 := eq_true p39
                                                            replace q39 := eq_true q39
                                                            have hq40 : (x6_1 : Int) < (x5_3.length : Int) := (by have h_ : (x6_1 : Int) < ((x5_3.length : Int) : Int) := of_decide_eq_true (by first | (with_reducible assumption) | assumption); first | exact h_ | (have e_ := (Kd.S_reads' HO_5.out).1; omega) | simpa only [List.length_set, List.length_set] using h_)
                                                            obtain ⟨oki40, ce40, hcl40, hM40, hcc40, hok40, hbk40⟩ := Kd.S_borrow HO_5.out [] (x6_1 : Int) (of_decide_eq_true (by first | (with_reducible assumption) | assumption)) hq40
                                                            obtain ⟨ve40_0, rfl, ge40_0⟩ := hM40
                                                            have hv40 := hcc40 0 _ rfl
                                                            rw [Nat.add_zero, show ((Kd.slice 4 Kd.bool)).sz = 1 from rfl, Nat.mul_one] at hv40
                                                            replace hv40 := Option.some.inj (hv40.symm.trans HX152_0.out)
                                                            subst hv40
                                                            clear hcc40 hcl40
                                                            replace ge40_0 := (show Kd.R Kd.bool 4 _ _ _ _ (rd_L6 x5_3 x6_1) from ge40_0)
                                                            have HP40 := Kd.R_putg ge40_0 (x9_3 : Int) true
                                                            go_wp2_with (first | ((with_reducible refine gate_store (t := 4) (p := 65) rfl ?_); refine store_event (t := 4) (p := 65) (v := ?vo_w41) (w1 := (wr.setCell ⟨go39, (x9_3 : Int).toNat, none⟩ (.bool true))) ?hg ?ho ?hn ?hr ?_; (case ho => rfl); (case hg => rfl); (case hn => rfl); (case hr => first | (go_simp; done) | (go_simp; rfl)); intro w41 hw; have hg : wr.grownBy w41 (some go39) := (by rw [hw]; exact HP40.2); have hz_ : Kd.R Kd.bool 4 w41 w.heap.size oki40 (.slice (some ⟨go39, 0, none⟩) (rd_L6 x5_3 x6_1).length c152_0) y153 := (by rw [hw, Ny153.out]; exact HP40.1); have hp_ : Kd.S (Kd.slice 4 Kd.bool) 66 w41 w.heap.size (fun _ => True) (.slice (some ⟨go13, 0, none⟩) x5_3.length co13) y155 := (by rw [Ny155.out]; exact hbk40 hg (fun k_ e_ => by injection e_ with e_; subst e_; exact ge40_0.1 _ rfl) (Kd.M_row hz_)); have hm_ := Kd.R_mono hz_ hok40; clear HP40 hbk40; have n0_ := Aside0.mk (Kd.S_over' (v := (.slice (some ⟨go39, 0, none⟩) (rd_L6 x5_3 x6_1).length c152_0)) (by (with_reducible repeat (first | apply Kd.S_alloc | apply Kd.S_drewN | apply Kd.S_drew)); exact HO_3.out) (Kd.R_typed HL152_0.out) (by decide) hg); have n1_ := Aside0.mk (hp_); have n2_ := Aside0.mk ((by rw [hw]; exact below_set (HB.out) GB39.out : Below w.heap.size w w41)); have n3_ := Aside0.mk (hm_); have n4_ := Aside0.mk ((Kd.R_reads' hm_).2.1); clear HO_3; clear HO_5; clear HB; clear HL150_0; clear HL152_0; have HO_3 := n0_; have HO_5 := n1_; have HB := n2_; have HL157 := n3_; have HC154 := n4_; clear n0_ n1_ n2_ n3_ n4_; clear hg hw hp_ hz_ hm_ hok40))
                                                            (try simp only [← hl5_3])
                                                            go_roundg k3
                                                            case measure => have := HK1.out; have := HK2.out; have := HK3.out; omega
                                                            case rel => exact ⟨(y155), (wrap64 (x9_3 + 1)), (by first | rfl | (simp; done) | (simp [*]; done)), H', ⟨by have := HK1.out; have := HK2.out; have := HK3.out; omega⟩, ⟨by (try simp only [hl5_2]); (try simp only [hl5_3]); (with_reducible repeat (first | apply Kd.S_alloc | apply Kd.S_drewN | apply Kd.S_drew)); exact HO_3.out⟩, ⟨by (try simp only [hl5_2]); (try simp only [hl5_3]); (with_reducible repeat (first | apply Kd.S_alloc | apply Kd.S_drewN | apply Kd.S_drew)); exact HO_5.out⟩, ⟨by repeat (first | (with_reducible first | exact HB.out | apply below_alloc | apply pw_below_drewN | apply below_drew1) | exact HB.out)⟩⟩
                                                          · rw [if_neg c38] at H
                                                            exact absurd H (by simp)
                                                        · rw [if_neg c37] at H
                                                          exact absurd H (by simp)
                                                      · rw [if_neg c36] at H
                                                        exact absurd H (by simp)
                                                    · replace c35 := Bool.eq_false_iff.mpr c35
                                                      subst c35
                                                      have H1 : (plunderref19_Before.l2 k3 t133 (l0.length : Int) x5_3 x6_1 x7_2 (rd (rd_L3 t133 x6_1) x7_2) (wrap64 (x9_3 + 1))) = some r := by rw [if_neg (show ¬ (false = true) by decide)] at H; exact H
                                                      clear H
                                                      have H := H1
                                                      clear H1
                                                      have H' := Aside0.mk H
                                                      clear H
                                                      have p150 : 0 ≤ ((rd (rd_L3 t133 x6_1) x7_2) : Int) := of_decide_eq_true (by first | (with_reducible assumption) | assumption)
                                                      have q150 : (rd (rd_L3 t133 x6_1) x7_2) < (x5_3.length : Int) := of_decide_eq_true (by first | (with_reducible assumption) | assumption)
                                                      obtain ⟨ad150, A150_0, c150_0, e150, hx150_0, hl150_0, hi150_0⟩ := at_L6 (Kd.S_reads' HO_5.out).2.2 (rd (rd_L3 t133 x6_1) x7_2) p150 q150
                                                      obtain rfl : (⟨go13, 0, none⟩ : Addr) = ad150 := (by injection e150)
                                                      obtain ⟨ce150, hce150, hMe150, hcc150⟩ := Kd.S_get HO_5.out [] (rd (rd_L3 t133 x6_1) x7_2) p150 (by first | exact q150 | exact of_decide_eq_true (by first | (with_reducible assumption) | assumption) | (have e_ := (Kd.S_reads' HO_5.out).1; omega))
                                                      obtain ⟨ve150_0, rfl, ge150_0⟩ := hMe150
                                                      have hv150_0 := hcc150 0 _ rfl
                                                      rw [Nat.add_zero, show ((Kd.slice 4 Kd.bool)).sz = 1 from rfl, Nat.mul_one] at hv150_0
                                                      replace hv150_0 := Option.some.inj (hv150_0.symm.trans hx150_0)
                                                      rw [hv150_0] at ge150_0
                                                      have HL150_0 := Aside0.mk (show Kd.R Kd.bool 4 _ _ _ _ (rd_L6 x5_3 (rd (rd_L3 t133 x6_1) x7_2)) from ge150_0)
                                                      clear hv150_0 ge150_0
                                                      have HX150_0 := Aside0.mk hx150_0
                                                      clear hcc150 hce150
                                                      (first | simp only [add_plain] at hx150_0 | simp only [add_at] at hx150_0 | simp only [Addr.add, Nat.zero_add] at hx150_0 | skip)
                                                      have HR150_0 := Aside0.mk hi150_0
                                                      have HC150_0 := Aside0.mk hl150_0
                                                      clear hi150_0 hl150_0
                                                      replace p150 := eq_true p150
                                                      replace q150 := eq_true q150
                                                      have p151 : 0 ≤ (x9_3 : Int) := of_decide_eq_true (by first | (with_reducible assumption) | assumption)
                                                      have q151 : x9_3 < ((rd_L6 x5_3 (rd (rd_L3 t133 x6_1) x7_2)).length : Int) := of_decide_eq_true (by first | (with_reducible assumption) | assumption)
                                                      obtain ⟨ad151, e151, hx151_0⟩ := Kd.at_bool (by repeat (first | (with_reducible exact HR150_0.out) | (with_reducible refine Kd.C_alloc ?_ _) | (with_reducible refine Kd.C_drewN ?_ _) | (with_reducible refine Kd.C_drew ?_) | exact HR150_0.out)) x9_3 p151 q151
                                                      (try rw [← Nbq34.out] at hx151_0)
                                                      cases e151
                                                      replace p151 := eq_true p151
                                                      replace q151 := eq_true q151
                                                      go_wp2
                                                      (try simp only [← hl5_3])
                                                      go_roundg k3
                                                      case measure => have := HK1.out; have := HK2.out; have := HK3.out; omega
                                                      case rel => exact ⟨(x5_3), (wrap64 (x9_3 + 1)), (by first | rfl | (simp; done) | (simp [*]; done)), H', ⟨by have := HK1.out; have := HK2.out; have := HK3.out; omega⟩, ⟨by (try simp only [hl5_2]); (try simp only [hl5_3]); (with_reducible repeat (first | apply Kd.S_alloc | apply Kd.S_drewN | apply Kd.S_drew)); exact HO_3.out⟩, ⟨by (try simp only [hl5_2]); (try simp only [hl5_3]); (with_reducible repeat (first | apply Kd.S_alloc | apply Kd.S_drewN | apply Kd.S_drew)); exact HO_5.out⟩, ⟨by repeat (first | (with_reducible first | exact HB.out | apply below_alloc | apply pw_below_drewN | apply below_drew1) | exact HB.out)⟩⟩
                                                  · rw [if_neg c33] at H
                                                    exact absurd H (by simp)
                                                · rw [if_neg c32] at H
                                                  exact absurd H (by simp)
                                              · rw [if_neg c31] at H
                                                exact absurd H (by simp)
                                            · rw [if_neg c30] at H
                                              exact absurd H (by simp)
                                          · rw [if_neg c29] at H
                                            have c29b0 : decide (x9_3 < (rd (rd_L3 t133 x6_1) x7_2)) = false := decide_eq_false c29
                                            clear c29
                                            have H' := Aside0.mk H
                                            clear H
                                            go_wp2
                                            (try simp only [← hl5_2, ← hl5_3])
                                            go_roundg k3
                                            case measure => have := HK1.out; have := HK2.out; have := HK3.out; omega
                                            case rel => exact ⟨(x5_3), (wrap64 (x7_2 + 1)), (by first | rfl | (simp; done) | (simp [*]; done)), H', ⟨by have := HK1.out; have := HK2.out; have := HK3.out; omega⟩, ⟨by (try simp only [hl5_2]); (try simp only [hl5_3]); (with_reducible repeat (first | apply Kd.S_alloc | apply Kd.S_drewN | apply Kd.S_drew)); exact HO_3.out⟩, ⟨by (try simp only [hl5_2]); (try simp only [hl5_3]); (with_reducible repeat (first | apply Kd.S_alloc | apply Kd.S_drewN | apply Kd.S_drew)); exact HO_5.out⟩, ⟨by repeat (first | (with_reducible first | exact HB.out | apply below_alloc | apply pw_below_drewN | apply below_drew1) | exact HB.out)⟩⟩
                                    · rw [if_neg c24] at H
                                      exact absurd H (by simp)
                                  · rw [if_neg c23] at H
                                    exact absurd H (by simp)
                                · rw [if_neg c22] at H
                                  exact absurd H (by simp)
                              · rw [if_neg c21] at H
                                exact absurd H (by simp)
                            · rw [if_neg c20] at H
                              have c20b0 : decide (x7_2 < ((rd_L3 t133 x6_1).length : Int)) = false := decide_eq_false c20
                              clear c20
                              have H' := Aside0.mk H
                              clear H
                              obtain ⟨Ao42, co42, eo42⟩ := Kd.S_slice HO_3.out
                              subst eo42
                              have p143 : 0 ≤ (x6_1 : Int) := of_decide_eq_true (by first | (with_reducible assumption) | assumption)
                              have q143 : x6_1 < (t133.length : Int) := of_decide_eq_true (by first | (with_reducible assumption) | assumption)
                              obtain ⟨ad143, A143_0, c143_0, e143, hx143_0, hl143_0, hi143_0⟩ := at_L3 (Kd.S_reads' HO_3.out).2.2 x6_1 p143 q143
                              cases e143
                              obtain ⟨ce143, hce143, hMe143, hcc143⟩ := Kd.S_get HO_3.out [] x6_1 p143 (by first | exact q143 | exact of_decide_eq_true (by first | (with_reducible assumption) | assumption) | (have e_ := (Kd.S_reads' HO_3.out).1; omega))
                              obtain ⟨ve143_0, rfl, ge143_0⟩ := hMe143
                              have hv143_0 := hcc143 0 _ rfl
                              rw [Nat.add_zero, show ((Kd.slice 3 (Kd.int .i64))).sz = 1 from rfl, Nat.mul_one] at hv143_0
                              replace hv143_0 := Option.some.inj (hv143_0.symm.trans hx143_0)
                              rw [hv143_0] at ge143_0
                              have HL143_0 := Aside0.mk (show Kd.R (Kd.int .i64) 3 _ _ _ _ (rd_L3 t133 x6_1) from ge143_0)
                              clear hv143_0 ge143_0
                              have HX143_0 := Aside0.mk hx143_0
                              clear hcc143 hce143
                              have HR143_0 := Aside0.mk hi143_0
                              have HC143_0 := Aside0.mk hl143_0
                              clear hi143_0 hl143_0
                              replace p143 := eq_true p143
                              replace q143 := eq_true q143
                              go_wp2
                              (try simp only [← hl5_2])
                              go_roundg k2
                              case measure => have := HK1.out; have := HK2.out; omega
                              case rel => exact ⟨(x5_2), (wrap64 (x6_1 + 1)), (by first | rfl | (simp; done) | (simp [*]; done)), H', ⟨by have := HK1.out; have := HK2.out; omega⟩, ⟨by (try simp only [hl5_2]); (with_reducible repeat (first | apply Kd.S_alloc | apply Kd.S_drewN | apply Kd.S_drew)); exact HO_3.out⟩, ⟨by (try simp only [hl5_2]); (with_reducible repeat (first | apply Kd.S_alloc | apply Kd.S_drewN | apply Kd.S_drew)); exact HO_5.out⟩, ⟨by repeat (first | (with_reducible first | exact HB.out | apply below_alloc | apply pw_below_drewN | apply below_drew1) | exact HB.out)⟩⟩
                          · rw [if_neg c19] at H
                            exact absurd H (by simp)
                        · rw [if_neg c18] at H
                          exact absurd H (by simp)
                  · rw [if_neg c12] at H
                    exact absurd H (by simp)
                · rw [if_neg c11] at H
                  exact absurd H (by simp)
              · rw [if_neg c10] at H
                exact absurd H (by simp)
            · rw [if_neg c9] at H
              exact absurd H (by simp)
          · rw [if_neg c8] at H
            have c8b0 : decide (x6_1 < (l0.length : Int)) = false := decide_eq_false c8
            clear c8
            obtain rfl := Option.some.inj H
            go_wp2
            go_ret
            exact ⟨_, by first | rfl | (simp [errW_none, errW_some] <;> rfl) | (simp [*, errW_none, errW_some] <;> rfl), by (with_reducible repeat (first | apply Kd.S_alloc | apply Kd.S_drewN | apply Kd.S_drew)); exact HO_5.out, by repeat (first | (with_reducible first | exact HB.out | apply below_alloc | apply pw_below_drewN | apply below_drew1) | exact HB.out)⟩
    · rw [if_neg c4] at H
      exact absurd H (by simp)
  · rw [if_neg c3] at H
    exact absurd H (by simp)

end Go.Proofs.Ytkecgjmbamaejaa.P
