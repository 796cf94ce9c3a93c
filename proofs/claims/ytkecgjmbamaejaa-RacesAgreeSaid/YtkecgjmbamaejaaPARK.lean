/- RacesAgree: its calls. -/
import Derived.Test.YtkecgjmbamaejaaPAPx8
import Derived.Test.YtkecgjmbamaejaaPARJ
set_option linter.unusedVariables false
set_option linter.unusedSimpArgs false
namespace Go.Proofs.Ytkecgjmbamaejaa.P
open Go.RowKit Go.Proofs.YtkecgjmbamaejaaW.PrintWords Go.Proofs.YtkecgjmbamaejaaW.PrintLast Go.Proofs.YtkecgjmbamaejaaW.PrintMore
set_option linter.unusedVariables false
set_option linter.unusedSimpArgs false
structure AX (l : List S52) (d : List Int) (x1 x2 x3 : Int) (s : Bool) : Prop where
  e1 : detV l = (d, 0)
  e2 : firstV l = (x1, x2, x3, s, 0)
  rise : d.Pairwise (· < ·)
  cases : (s = false ∧ d = []) ∨ (s = true ∧ 0 < d.length ∧ x3 ∈ d ∧ ∃ j i : Nat, x1 = (j : Int) ∧ x2 = (i : Int) ∧ i < j ∧ j < l.length ∧ (lcsOf l).getD j 0 = x3 ∧ (lcsOf l).getD i 0 = x3 ∧
    ((kdsOf l).getD j 0 = 4 ∧ (kdsOf l).getD i 0 = 4 ∨ (kdsOf l).getD j 0 = 4 ∧ (kdsOf l).getD i 0 = 3 ∨ (kdsOf l).getD j 0 = 3 ∧ (kdsOf l).getD i 0 = 4) ∧ Par (kdsOf l) j i)
theorem AX.all {l : List S52} (h0 : (chk l).1 = 0) : ∃ d x1 x2 x3 s, AX l d x1 x2 x3 s := by
  have hg := chk_good h0
  have hd : detV l = (detL (kdsOf l) (lcsOf l) l.length, 0) := by unfold detV; rw [if_pos h0]
  rcases racy_least (kdsOf l) (lcsOf l) l.length with hno | ⟨j, hj, hr, hm⟩
  · refine ⟨_, _, _, _, _, hd, firstV_none h0 hno, detL_rise _ _ _, .inl ⟨rfl, ?_⟩⟩
    refine List.eq_nil_iff_forall_not_mem.2 fun x hx => ?_
    obtain ⟨q, h1, h2, h3⟩ := (detL_mem _ _ x _).1 hx
    exact hno q h1 h3
  · obtain ⟨i, hi, hi2, hi3, e4⟩ := first_some h0 hj hr hm
    have hmem : (lcsOf l).getD j 0 ∈ detL (kdsOf l) (lcsOf l) l.length := (detL_mem _ _ _ _).2 ⟨j, hj, rfl, hr⟩
    obtain ⟨t1, t2, t3, t4⟩ := hi2.1
    have kj := (hg.knd j hj).2
    have ki := (hg.knd i (by omega)).2
    refine ⟨_, _, _, _, _, hd, e4, detL_rise _ _ _, .inr ⟨rfl, List.length_pos_of_mem hmem, hmem, j, i, rfl, rfl, hi, hj, rfl, t3, by omega, by omega, hi2.2, fun h => ?_⟩⟩
    have := Ahead.lt hg.fair (by rw [kds_len]; omega) h
    omega
theorem pz_two {w W : World} {bs : List (Nat × Array Value × TypeId)} {gb n c : Nat} {v7 : Value} {d1 d2 : List Int} (h : PZ w W bs (.slice (some ⟨gb, 0, none⟩) n c) v7 d1 d2) (hn : d1.length = n) {m : Nat} (hm : m + 1 < n) : W.cell? ⟨gb, m, none⟩ = some (.int .i64 (d1.getD m 0)) ∧ W.cell? ⟨gb, m + 1, none⟩ = some (.int .i64 (d1.getD (m + 1) 0)) :=
  ⟨(RP.cell h.h5 hn (by omega)).1, (RP.cell h.h5 hn hm).1⟩
def plunderlaw19_RacesAgree.f (k : Nat) (l0 : List S52) : Option Bool := if l0.length < 17592186044416 ∧ wfB l0 = true then some true else none
theorem rise_at {d : List Int} (h : d.Pairwise (· < ·)) {i : Nat} (h1 : i + 1 < d.length) : d.getD i 0 < d.getD (i + 1) 0 := by
  have := List.pairwise_iff_getElem.1 h i (i + 1) (by omega) h1 (by omega)
  rw [List.getD_eq_getElem?_getD, List.getD_eq_getElem?_getD, List.getElem?_eq_getElem (by omega), List.getElem?_eq_getElem h1]
  exact this
set_option maxHeartbeats 4000000 in
set_option maxRecDepth 100000 in
theorem plunderlaw19_RacesAgree.calls (k : Nat) (A0 : Option Addr) (c0 : Nat) (l0 : List S52) (r : Bool) (w : World) (hr0 : Kd.C k52 w A0 l0.length l0) (hc0 : l0.length ≤ c0) (h : plunderlaw19_RacesAgree.f k l0 = some r) :
    Calls Try.prog 9 #[.slice A0 l0.length c0] w fun e w' => e = .returned (.bool r) ∧ Below w.heap.size w w' := by
  unfold plunderlaw19_RacesAgree.f at h
  by_cases hl : l0.length < 17592186044416 ∧ wfB l0 = true
  case neg => rw [if_neg hl] at h; cases h
  rw [if_pos hl] at h
  obtain rfl := Option.some.inj h
  clear h
  obtain ⟨k1, F1⟩ := Ev.rounds (sound_ev l0 (by omega))
  have HD := Aside0.mk hr0
  have HC := Aside0.mk hc0
  have HS : Aside0 (PZ w w [] (.slice none 0 0) (.slice none 0 0) [] []) := ⟨⟨Locs.nil w, Kd.R_nil _ _ _ _ _, Kd.R_nil _ _ _ _ _⟩⟩
  have hu37 := Try.underlying37
  have hu52 := Try.underlying52
  by_cases h0 : (chk l0).1 = 0
  case neg =>
    rw [decide_eq_false h0] at F1
    have G1 := Aside0.mk F1
    obtain ⟨ce, hce⟩ : ∃ x, (chk l0).1 = x := ⟨_, rfl⟩
    have e1 : detV l0 = ([], ce) := by unfold detV; rw [if_neg h0, hce]
    have e2 : firstV l0 = (0, 0, 0, false, ce) := by rw [firstV_bad h0, hce]
    have HDT : Aside0 (∀ W, Below w.heap.size w W → Calls Try.prog 27 #[.slice A0 l0.length c0] W fun e w' => ∃ v0_ : Value, e = .returned (.tuple #[v0_, .int .i64 ce]) ∧ Kd.R (Kd.int .i64) 2 w' W.heap.size (fun _ => True) v0_ [] ∧ Below W.heap.size W w') := ⟨fun W hW => by
      have hh := detect_calls A0 c0 l0 W (Kd.C_below hr0 hW) hc0 hl.2 hl.1
      unfold DetPost at hh
      rw [e1] at hh
      exact hh⟩
    have HFT : Aside0 (∀ W, Below w.heap.size w W → Calls Try.prog 23 #[.slice A0 l0.length c0] W fun e w' => e = .returned (.tuple #[.agg #[.int .i64 0, .int .i64 0, .int .i64 0], .bool false, .int .i64 ce]) ∧ Below W.heap.size W w') := ⟨fun W hW => fir_good l0 0 0 0 false ce e2 hl.2 hl.1 A0 c0 W (Kd.C_below hr0 hW) hc0⟩
    rw [hce] at h0
    have hne : (ce != 0) = true := by simp [h0]
    obtain ⟨dl, hdl⟩ : ∃ x : List Int, [] = x := ⟨_, rfl⟩
    rw [hdl] at HDT
    clear hr0 hc0 hl F1 h0 e1 e2 hce hdl
    go_enter Try.func9, Try.ntmps9
    go_upto_region 4 with (first | (go_at_call 29; have hcall := plunderlaw19_sound.calls k1 A0 c0 l0 false _ (Kd.C_below HD.out HS.out.L.below) HC.out G1.out; (with_reducible refine hcall.mono ?_); clear hcall; rintro e_ w2 ⟨rfl, hd_⟩; have HSn := Aside0.mk (HS.out.step (drawn_below hd_)); clear HS hd_; have HS := HSn; clear HSn) | (go_at_call 27; have hcall := HDT.out _ HS.out.L.below; (with_reducible refine hcall.mono ?_); clear hcall; rintro e_ w4 ⟨v8, rfl, hR, hb_⟩; have HSn : Aside0 (PZ w w4 [] v8 (.slice none 0 0) dl []) := ⟨⟨HS.out.L.step hb_, Kd.R_tight rfl (Kd.R_lower hR (below_size HS.out.L.below)), Kd.R_nil _ _ _ _ _⟩⟩; clear HS hb_ hR; have HS := HSn; clear HSn) | (go_at_call 23; have hcall := HFT.out _ HS.out.L.below; (with_reducible refine hcall.mono ?_); clear hcall; rintro e_ w6 ⟨rfl, hb_⟩; have HSn := Aside0.mk (HS.out.step hb_); clear HS hb_; have HS := HSn; clear HSn; (try clear hf); have hf := HS.out.L.facts; simp only [factsOf, List.cons_append, List.nil_append] at hf; skip) | ((with_reducible refine gate_dst (N := 5) rfl ?_); (try (refine gate_guard (by rfl) ?_; dsimp only)); refine box_PZ (by repeat (first | exact HS.out | refine PZ.drew ?_ | refine PZ.drewN ?_ _)) ?hg (N := 5) ?hd (cs := #[.int .i64 0, .int .i64 0, .int .i64 0]) (t := 37) ?hr ?_; (case hd => rfl); (case hg => rfl); (case hr => first | (go_simp; done) | (go_simp; rfl)); intro g5 wb5 HLn; clear HS; have HS := HLn; clear HLn; (try clear hf); have hf := HS.out.L.facts; simp only [factsOf, List.cons_append, List.nil_append] at hf; skip))
    generalize hwt : World.setCell _ _ _ = w7
    have hbw : Below w.heap.size w w7 := by rw [← hwt]; exact (((HS.out.set 0 rfl (Or.inl rfl) 0 _).set 0 rfl (Or.inl rfl) 1 _).set 0 rfl (Or.inl rfl) 2 _).L.below
    have HBW := Aside0.mk hbw
    clear HS hwt hbw
    go_wp2_with (first | fail)
    go_ret
    exact ⟨rfl, HBW.out⟩
  rw [decide_eq_true h0] at F1
  have G1 := Aside0.mk F1
  have hg := chk_good h0
  obtain ⟨dl, x1, x2, x3, s, hx⟩ := AX.all h0
  have HX := Aside0.mk hx
  have HG := Aside0.mk (And.intro hg h0)
  have HWL := Aside0.mk hl
  have HDT : Aside0 (∀ W, Below w.heap.size w W → Calls Try.prog 27 #[.slice A0 l0.length c0] W fun e w' => ∃ v0_ : Value, e = .returned (.tuple #[v0_, .int .i64 0]) ∧ Kd.R (Kd.int .i64) 2 w' W.heap.size (fun _ => True) v0_ dl ∧ Below W.heap.size W w') := ⟨fun W hW => det_good l0 dl hx.e1 hl.2 hl.1 A0 c0 W (Kd.C_below hr0 hW) hc0⟩
  have HFT : Aside0 (∀ W, Below w.heap.size w W → Calls Try.prog 23 #[.slice A0 l0.length c0] W fun e w' => e = .returned (.tuple #[.agg #[.int .i64 x1, .int .i64 x2, .int .i64 x3], .bool s, .int .i64 0]) ∧ Below W.heap.size W w') := ⟨fun W hW => fir_good l0 x1 x2 x3 s 0 hx.e2 hl.2 hl.1 A0 c0 W (Kd.C_below hr0 hW) hc0⟩
  clear hr0 hc0 hl F1 h0 hx hg
  go_enter Try.func9, Try.ntmps9
  go_upto_region 6 with (first | (go_at_call 29; have hcall := plunderlaw19_sound.calls k1 A0 c0 l0 true _ (Kd.C_below HD.out HS.out.L.below) HC.out G1.out; (with_reducible refine hcall.mono ?_); clear hcall; rintro e_ w2 ⟨rfl, hd_⟩; have HSn := Aside0.mk (HS.out.step (drawn_below hd_)); clear HS hd_; have HS := HSn; clear HSn) | (go_at_call 27; have hcall := HDT.out _ HS.out.L.below; (with_reducible refine hcall.mono ?_); clear hcall; rintro e_ w4 ⟨v8, rfl, hR, hb_⟩; have HSn : Aside0 (PZ w w4 [] v8 (.slice none 0 0) dl []) := ⟨⟨HS.out.L.step hb_, Kd.R_tight rfl (Kd.R_lower hR (below_size HS.out.L.below)), Kd.R_nil _ _ _ _ _⟩⟩; clear HS hb_ hR; have HS := HSn; clear HSn))
  obtain ⟨A8, c8, hv8⟩ := Kd.R_slice HS.out.h5
  subst hv8
  go_upto_region 7 with (first | (go_at_call 23; have hcall := HFT.out _ HS.out.L.below; (with_reducible refine hcall.mono ?_); clear hcall; rintro e_ w6 ⟨rfl, hb_⟩; have HSn := Aside0.mk (HS.out.step hb_); clear HS hb_; have HS := HSn; clear HSn; (try clear hf); have hf := HS.out.L.facts; simp only [factsOf, List.cons_append, List.nil_append] at hf; skip) | ((with_reducible refine gate_dst (N := 10) rfl ?_); (try (refine gate_guard (by rfl) ?_; dsimp only)); refine box_PZ (by repeat (first | exact HS.out | refine PZ.drew ?_ | refine PZ.drewN ?_ _)) ?hg (N := 10) ?hd (cs := #[.int .i64 0, .int .i64 0, .int .i64 0]) (t := 37) ?hr ?_; (case hd => rfl); (case hg => rfl); (case hr => first | (go_simp; done) | (go_simp; rfl)); intro g10 wb10 HLn; clear HS; have HS := HLn; clear HLn; (try clear hf); have hf := HS.out.L.facts; simp only [factsOf, List.cons_append, List.nil_append] at hf; skip))
  generalize hwt : World.setCell _ _ _ = w7
  have HSn : Aside0 (PZ w w7 [(g10, #[.int .i64 x1, .int .i64 x2, .int .i64 x3], 37)] (.slice A8 dl.length c8) (.slice none 0 0) dl []) := ⟨by rw [← hwt]; exact ((HS.out.set 0 rfl (Or.inl rfl) 0 _).set 0 rfl (Or.inl rfl) 1 _).set 0 rfl (Or.inl rfl) 2 _⟩
  clear HS hwt; have HS := HSn; clear HSn; (try clear hf); have hf := HS.out.L.facts; simp only [factsOf, List.cons_append, List.nil_append] at hf; skip
  obtain ⟨n5, hn5⟩ : ∃ n, dl.length = n := ⟨_, rfl⟩
  rw [hn5] at HS ⊢
  have HN5 : Aside0 (dl.length = n5 ∧ n5 ≤ 4096) := ⟨hn5, by have := detV_len l0; rw [HX.out.e1] at this; rw [← hn5]; exact this⟩
  have hl4 : (l0.length : Int) ≤ 4096 := by have := HG.out.1.len; omega
  rcases HX.out.cases with ⟨rfl, rfl⟩ | ⟨rfl, hpos, hmem, j, i, rfl, rfl, hij, hj, ej, ei, hk, hpar⟩
  · obtain rfl : n5 = 0 := hn5.symm
    clear hn5
    go_wp2_with (first | fail)
    go_loopg [13] (1) (fun kq v13 w' => v13 = .int .i64 1 ∧ Aside0 (PZ w w' [(g10, #[.int .i64 x1, .int .i64 x2, .int .i64 x3], 37)] (.slice A8 0 c8) (.slice none 0 0) [] []))
    case atStart => exact ⟨rfl, HS⟩
    case round =>
      clear HS hf
      obtain ⟨rfl, HS⟩ := hrel
      (try clear hf); have hf := HS.out.L.facts; simp only [factsOf, List.cons_append, List.nil_append] at hf; skip
      go_wp2_with (first | (go_at_call 30; (with_reducible refine (head_calls _).mono ?_); rintro e_ wh ⟨rfl, hb_⟩; have HSn := Aside0.mk (HS.out.step hb_); clear HS hb_; have HS := HSn; clear HSn))
      go_ret
      exact ⟨rfl, HS.out.L.below⟩
  · rw [hn5] at hpos
    have HIJ := Aside0.mk (And.intro hij hj)
    have hil : i < l0.length := by omega
    have hj2 : (j : Int) < (l0.length : Int) := by omega
    have hi2 : (i : Int) < (l0.length : Int) := by omega
    have hjl : decide ((l0.length : Int) ≤ (j : Int)) = false := decide_eq_false (by omega)
    have hji : decide ((j : Int) ≤ (i : Int)) = false := decide_eq_false (by omega)
    have hjl2 : decide (l0.length ≤ j) = false := decide_eq_false (by omega)
    have hji2 : decide (j ≤ i) = false := decide_eq_false (by omega)
    have hjl3 : decide (j < l0.length) = true := decide_eq_true (by omega)
    have hji3 : decide (i < j) = true := decide_eq_true (by omega)
    have hi0 : decide ((i : Int) < 0) = false := decide_eq_false (by omega)
    have HMEM := Aside0.mk hmem
    have hpos2 : decide (0 < (n5 : Int)) = true := decide_eq_true (by omega)
    have hpos3 : decide (0 < n5) = true := decide_eq_true hpos
    obtain ⟨gb, c9, e_, -⟩ := Kd.R_form HS.out.h5 (by omega)
    obtain ⟨rfl, rfl⟩ : A8 = some ⟨gb, 0, none⟩ ∧ c8 = c9 := by injection e_ with e1 e2 e3; exact ⟨e1, e3⟩
    clear e_
    obtain ⟨ad, rfl, -, -⟩ := at_T52 HD.out (j : Int) (by omega) hj2
    have HDC : Aside0 (∀ W, Below w.heap.size w W → ∀ k : Nat, k < l0.length → W.cell? (ad.add (k * 2)) = some (.int .i64 ((kdsOf l0).getD k 0)) ∧ W.cell? ⟨(ad.add (k * 2)).block, (ad.add (k * 2)).off + 1, none⟩ = some (.int .i64 ((lcsOf l0).getD k 0))) := ⟨fun W hW k hk => by
      obtain ⟨ad2, e2, h1, h2⟩ := at_T52 (Kd.C_below HD.out hW) (k : Int) (by omega) (by omega)
      cases e2
      rw [Int.toNat_natCast] at h1 h2
      rw [kds_at l0 k hk, lcs_at l0 k hk]
      exact ⟨h1, h2⟩⟩
    have hcj : ∀ W, Below w.heap.size w W → _ := fun W hW => HDC.out W hW j hj
    have hci : ∀ W, Below w.heap.size w W → _ := fun W hW => HDC.out W hW i hil
    rw [ej] at hcj
    rw [ei] at hci
    obtain ⟨kj, hkj⟩ : ∃ x, (kdsOf l0).getD j 0 = x := ⟨_, rfl⟩
    obtain ⟨ki, hki⟩ : ∃ x, (kdsOf l0).getD i 0 = x := ⟨_, rfl⟩
    rw [hkj] at hcj
    rw [hki] at hci
    rw [hkj, hki] at hk
    have HCJ := Aside0.mk (And.intro hcj hci)
    have HK := Aside0.mk hk
    have HP : Aside0 (∃ k, races_Parallel.f k l0 (j : Int) (i : Int) = some (true, 0)) := ⟨by
      obtain ⟨r, hr, hs⟩ := par_ev l0 (by omega) (j : Int) (i : Int)
      obtain ⟨h1, h2⟩ := hs.inn HG.out.2 ⟨by omega, hj2, by omega, hi2⟩
      have h3 : r.1 = true := h2.2 (by rw [Int.toNat_natCast, Int.toNat_natCast]; exact hpar)
      obtain ⟨r1, r2⟩ := r
      dsimp only at h1 h3
      subst h1 h3
      exact hr.rounds⟩
    have HH : Aside0 (∃ k, plunderlaw19_has.f k dl x3 = some true) := ⟨(has_ev dl x3 (by have := HN5.out; omega) hmem).rounds⟩
    have HRISE := Aside0.mk HX.out.rise
    have HPOS := Aside0.mk hpos
    clear hn5 hpos hij hj hil hmem hcj hci hkj hki hk hpar ej ei
    go_wp2_with (first | fail)
    go_loopg [13] (n5 + 1) (fun kq v13 w' => ∃ m : Nat, v13 = .int .i64 ((m : Int) + 1) ∧ Aside0 (n5 - m < kq ∧ m + 1 ≤ n5) ∧ Aside0 (PZ w w' [(g10, #[.int .i64 (j : Int), .int .i64 (i : Int), .int .i64 x3], 37)] (.slice (some ⟨gb, 0, none⟩) n5 c8) (.slice none 0 0) dl []))
    case atStart => exact ⟨0, rfl, ⟨by omega, by have := HPOS.out; omega⟩, HS⟩
    case round =>
      clear HS hf
      obtain ⟨m, rfl, HI, HS⟩ := hrel
      (try clear hf); have hf := HS.out.L.facts; simp only [factsOf, List.cons_append, List.nil_append] at hf; skip
      by_cases hm : m + 1 < n5
      · have hm2 : (m : Int) + 1 < (n5 : Int) := by omega
        have HM := Aside0.mk hm
        have hm4 : (m : Int) + 1 ≤ 4096 := by have := HN5.out; omega
        have hge0 := rise_at HRISE.out (i := m) (by rw [HN5.out.1]; exact hm)
        have HTWO : Aside0 (∀ W, Aside0 (PZ w W [(g10, #[.int .i64 (j : Int), .int .i64 (i : Int), .int .i64 x3], 37)] (.slice (some ⟨gb, 0, none⟩) n5 c8) (.slice none 0 0) dl []) → W.cell? ⟨gb, m, none⟩ = some (.int .i64 (dl.getD m 0)) ∧ W.cell? ⟨gb, m + 1, none⟩ = some (.int .i64 (dl.getD (m + 1) 0))) := ⟨fun W h => pz_two h.out HN5.out.1 hm⟩
        generalize dl.getD m 0 = y1 at hge0 HTWO
        generalize dl.getD (m + 1) 0 = y2 at hge0 HTWO
        have hge : decide (y2 ≤ y1) = false := decide_eq_false (by omega)
        have hge2 : ¬ y2 ≤ y1 := by omega
        clear hm
        have hlo : decide ((m : Int) < 0) = false := decide_eq_false (by omega)
        have hlo2 : decide ((n5 : Int) ≤ (m : Int)) = false := decide_eq_false (by omega)
        have hm5 : (m : Int) < (n5 : Int) := by omega
        have htn : ((m : Int) + 1).toNat = m + 1 := by omega
        go_upto_region 12 with (first | fail)
        have hq : ∀ p : BelowBy wr, p.W.cell? ⟨gb, m, none⟩ = some (.int .i64 y1) ∧ p.W.cell? ⟨gb, m + 1, none⟩ = some (.int .i64 y2) := fun p => HTWO.out _ ⟨HS.out.step p.h⟩
        haveI hinh : Inhabited (BelowBy wr) := ⟨⟨wr, Below.refl _ _⟩⟩
        refine wp_region_below (by kernel_rfl) (by kernel_rfl) ?_
        repeat (go_big_quiet_step (fail))
        (refine wpQuiet_nil ?_); rintro _ ⟨pw, rfl⟩; clear hq hinh; obtain ⟨wS, hbS⟩ := pw; dsimp only; have HSn := Aside0.mk (HS.out.step hbS); clear HS; have HS := HSn; clear HSn hbS
        (try clear hf); have hf := HS.out.L.facts; simp only [factsOf, List.cons_append, List.nil_append] at hf; skip
        go_wp2_with (first | fail)
        go_roundg (n5 - (m + 1) + 1)
        case measure => have := HI.out.1; have := HM.out; omega
        case rel => exact ⟨m + 1, (by first | rfl | rw [wrap_ix (by have := HM.out; have := HN5.out; omega)] | simp), ⟨by omega, by have := HM.out; omega⟩, HS⟩
      · have hm2 : ¬ ((m : Int) + 1 < (n5 : Int)) := by omega
        clear hm
        have HCB : Aside0 (∀ W, Below w.heap.size w W → (W.cell? (ad.add (j * 2)) = some (.int .i64 kj) ∧ W.cell? ⟨(ad.add (j * 2)).block, (ad.add (j * 2)).off + 1, none⟩ = some (.int .i64 x3)) ∧ (W.cell? (ad.add (i * 2)) = some (.int .i64 ki) ∧ W.cell? ⟨(ad.add (i * 2)).block, (ad.add (i * 2)).off + 1, none⟩ = some (.int .i64 x3))) := ⟨fun W hW => ⟨HCJ.out.1 W hW, HCJ.out.2 W hW⟩⟩
        clear HCJ
        (try clear hf); have hf := HS.out.L.facts; simp only [factsOf, List.cons_append, List.nil_append] at hf; (try clear hcb); have hcb := HCB.out _ HS.out.L.below
        go_upto_region 19 with (first | ((with_reducible refine gate_dst (N := 14) rfl ?_); (try (refine gate_guard (by rfl) ?_; dsimp only)); refine box_PZ (by repeat (first | exact HS.out | refine PZ.drew ?_ | refine PZ.drewN ?_ _)) ?hg (N := 14) ?hd (cs := #[.int .i64 0, .int .i64 0]) (t := 52) ?hr ?_; (case hd => rfl); (case hg => rfl); (case hr => first | (go_simp; done) | (go_simp; rfl)); intro g14 wb17 HLn; clear HS; have HS := HLn; clear HLn; (try clear hf); have hf := HS.out.L.facts; simp only [factsOf, List.cons_append, List.nil_append] at hf; (try clear hcb); have hcb := HCB.out _ HS.out.L.below))
        generalize hwt : World.setCell _ _ _ = wA
        have HSn : Aside0 (PZ w wA [(g14, #[.int .i64 kj, .int .i64 x3], 52), (g10, #[.int .i64 (j : Int), .int .i64 (i : Int), .int .i64 x3], 37)] (.slice (some ⟨gb, 0, none⟩) n5 c8) (.slice none 0 0) dl []) := ⟨by rw [← hwt]; exact (HS.out.set 0 rfl (Or.inr rfl) 0 _).set 0 rfl (Or.inr rfl) 1 _⟩
        clear HS hwt; have HS := HSn; clear HSn; (try clear hf); have hf := HS.out.L.facts; simp only [factsOf, List.cons_append, List.nil_append] at hf; (try clear hcb); have hcb := HCB.out _ HS.out.L.below
        go_upto_region 20 with (first | ((with_reducible refine gate_dst (N := 15) rfl ?_); (try (refine gate_guard (by rfl) ?_; dsimp only)); refine box_PZ (by repeat (first | exact HS.out | refine PZ.drew ?_ | refine PZ.drewN ?_ _)) ?hg (N := 15) ?hd (cs := #[.int .i64 0, .int .i64 0]) (t := 52) ?hr ?_; (case hd => rfl); (case hg => rfl); (case hr => first | (go_simp; done) | (go_simp; rfl)); intro g15 wb19 HLn; clear HS; have HS := HLn; clear HLn; (try clear hf); have hf := HS.out.L.facts; simp only [factsOf, List.cons_append, List.nil_append] at hf; (try clear hcb); have hcb := HCB.out _ HS.out.L.below))
        generalize hwt : World.setCell _ _ _ = wB
        have HSn : Aside0 (PZ w wB [(g15, #[.int .i64 ki, .int .i64 x3], 52), (g14, #[.int .i64 kj, .int .i64 x3], 52), (g10, #[.int .i64 (j : Int), .int .i64 (i : Int), .int .i64 x3], 37)] (.slice (some ⟨gb, 0, none⟩) n5 c8) (.slice none 0 0) dl []) := ⟨by rw [← hwt]; exact (HS.out.set 0 rfl (Or.inr rfl) 0 _).set 0 rfl (Or.inr rfl) 1 _⟩
        clear HS hwt; have HS := HSn; clear HSn; (try clear hf); have hf := HS.out.L.facts; simp only [factsOf, List.cons_append, List.nil_append] at hf; (try clear hcb); have hcb := HCB.out _ HS.out.L.below
        have hpc : ∀ W, Below w.heap.size w W → Calls Try.prog 20 #[.slice (some ad) l0.length c0, .int .i64 (j : Int), .int .i64 (i : Int)] W fun e w' => e = .returned (.tuple #[.bool true, .int .i64 0]) ∧ Below W.heap.size W w' := fun W hW => races_Parallel.calls HP.out.choose (some ad) c0 l0 (j : Int) (i : Int) true 0 W (Kd.C_below HD.out hW) HC.out HP.out.choose_spec
        have HPC := Aside0.mk hpc
        clear hpc
        go_upto_region 21 with (first | (go_at_call 20; have hcall := HPC.out _ HS.out.L.below; (with_reducible refine hcall.mono ?_); clear hcall; rintro e_ wp ⟨rfl, hb_⟩; have HSn := Aside0.mk (HS.out.step hb_); clear HS hb_; have HS := HSn; clear HSn; (try clear hf); have hf := HS.out.L.facts; simp only [factsOf, List.cons_append, List.nil_append] at hf; (try clear hcb); have hcb := HCB.out _ HS.out.L.below))
        rcases HK.out with ⟨rfl, rfl⟩ | ⟨rfl, rfl⟩ | ⟨rfl, rfl⟩
        all_goals
          go_wp2_with (first | (go_at_call 35; have hcall := plunderlaw19_has.calls HH.out.choose (some ⟨gb, 0, none⟩) c8 dl x3 true _ (Kd.R_reads' (n := dl.length) (by have h := HS.out.h5; rw [← HN5.out.1] at h; exact h)).2.2 (Kd.R_reads' (n := dl.length) (by have h := HS.out.h5; rw [← HN5.out.1] at h; exact h)).2.1 HH.out.choose_spec; rw [HN5.out.1] at hcall; (with_reducible refine hcall.mono ?_); clear hcall; rintro e_ wq ⟨rfl, hd_⟩; have HSn := Aside0.mk (HS.out.step (drawn_below hd_)); clear HS hd_; have HS := HSn; clear HSn))
          go_ret
          exact ⟨rfl, HS.out.L.below⟩
end Go.Proofs.Ytkecgjmbamaejaa.P
