/- plunderlaw6.swapped: its calls, in the print's form. -/
import Derived.Test.YtcioegimmjppcaaDoorZPxC
import Derived.Test.YtcioegimmjppcaaDoorZJB
import Derived.Test.YtcioegimmjppcaaDoorZJL
import Derived.Deep.RegionHeld3
import Derived.BigRegion
namespace Go.Proofs.YtcioegimmjppcaaDoor.P
open Go.RowKit Go.Proofs.YtcioegimmjppcaaDoorW.PrintWords Go.Proofs.YtcioegimmjppcaaDoorW.PrintLast Go.Proofs.YtcioegimmjppcaaDoorW.PrintMore
set_option linter.unusedVariables false
set_option linter.unusedSimpArgs false
set_option maxHeartbeats 1000000
set_option maxRecDepth 100000

theorem swapped_zero (A0 : Option Addr) (c0 : Nat) (L : List S39) (w : World) (h0 : Kd.C k39 w A0 L.length L) (hc0 : L.length ≤ c0) (hok : swOK (0 : Int) L) :
    Calls Tryd.prog 28 #[.agg #[.slice A0 L.length c0], .int .i64 (0 : Int)] w fun e w' => ∃ v0_ : Value, e = .returned (.agg #[v0_]) ∧ Kd.S k39 39 w' w.heap.size (fun _ => True) v0_ (swL (0 : Int) L) ∧ Below w.heap.size w w' := by
  obtain ⟨hg0, hg1, hl32, hl512⟩ := hok
  have HL := Aside0.mk (Locs.nil w)
  have HC := Aside0.mk h0
  have HCC := Aside0.mk hc0
  have HG := Aside0.mk (And.intro hg0 hg1)
  have HLEN := Aside0.mk (And.intro hl32 hl512)
  have hu24 := Tryd.underlying24
  have hu39 := Tryd.underlying39
  clear h0 hc0 hg0 hg1 hl32 hl512
  go_enter Tryd.func28, Tryd.ntmps28
  go_upto_region 2 with (first | (go_at_call 13; have hcall := plunderlaw6_copied.calls (L.length + 1) A0 c0 L L _ (Kd.C_below HC.out HL.out.below) HCC.out (copied_some L HLEN.out.1 HLEN.out.2); with_reducible refine hcall.mono ?_; clear hcall; rintro e_ wc ⟨v0, rfl, hS, hb_⟩; obtain ⟨ad0, cv, gr, hgr, rfl, hbs⟩ : ∃ (ad0 : Addr) (cv gr : Nat), ad0 = ⟨gr, 0, none⟩ ∧ v0 = .slice (some ad0) L.length cv ∧ gr < wc.heap.size := (by obtain ⟨q, c, e, _, e2, _⟩ := Kd.S_form hS (by have := HG.out; omega); exact ⟨_, c, q, rfl, e, e2⟩); have HBS := Aside0.mk hbs; have HGR := Aside0.mk hgr; clear hbs hgr; have HS := Aside0.mk (Kd.S_lower hS HL.out.below.size); have HLn := Aside0.mk (Locs.step HL.out hb_); clear HL hb_ hS; have HL := HLn; clear HLn) | ((with_reducible refine gate_dst (N := 2) rfl ?_); (try (refine gate_guard (by rfl) ?_; dsimp only)); refine box_locs (by repeat (first | exact HL.out | refine Locs.drew ?_ | refine Locs.drewN ?_ _)) ?hg (N := 2) ?hd (cs := #[.slice A0 L.length c0]) (t := 24) ?hr ?_; (case hd => rfl); (case hg => rfl); (case hr => first | (go_simp; done) | (go_simp; rfl)); intro g2 wb1 HLn HKb; clear HL; have HL := HLn; clear HLn HKb; (try clear hf); have hf := HL.out.facts; simp only [factsOf, List.cons_append, List.nil_append] at hf; skip) | ((with_reducible refine gate_dst (N := 4) rfl ?_); (try (refine gate_guard (by rfl) ?_; dsimp only)); refine box_locs (by repeat (first | exact HL.out | refine Locs.drew ?_ | refine Locs.drewN ?_ _)) ?hg (N := 4) ?hd (cs := #[.slice none 0 0]) (t := 24) ?hr ?_; (case hd => rfl); (case hg => rfl); (case hr => first | (go_simp; done) | (go_simp; rfl)); intro g4 wb2 HLn HKb; clear HL; have HL := HLn; clear HLn HKb; (try clear hf); have hf := HL.out.facts; simp only [factsOf, List.cons_append, List.nil_append] at hf; skip) | ((with_reducible refine gate_dst (N := 5) rfl ?_); (try (refine gate_guard (by rfl) ?_; dsimp only)); refine box_locs (by repeat (first | exact HL.out | refine Locs.drew ?_ | refine Locs.drewN ?_ _)) ?hg (N := 5) ?hd (cs := #[.slice none 0 0]) (t := 24) ?hr ?_; (case hd => rfl); (case hg => rfl); (case hr => first | (go_simp; done) | (go_simp; rfl)); intro g5 wb3 HLn HKb; have HS2 := Aside0.mk (Kd.S_below HS.out HKb.out); clear HS; have HS := HS2; clear HS2; clear HL; have HL := HLn; clear HLn HKb; (try clear hf); have hf := HL.out.facts; simp only [factsOf, List.cons_append, List.nil_append] at hf; skip))
  generalize hwt : World.setCell _ _ _ = w3
  have HLn : Aside0 (Locs w w3 [(g5, #[.slice (some ad0) L.length cv], 24), (g4, #[.slice none 0 0], 24), (g2, #[.slice A0 L.length c0], 24)]) := ⟨by rw [← hwt]; exact HL.out.set 0 rfl 0 _⟩
  have HSn : Aside0 (Kd.S k39 39 w3 w.heap.size (fun _ => True) (.slice (some ad0) L.length cv) L) := ⟨by rw [← hwt]; exact Kd.S_set HS.out (HL.out.at 0 rfl) E39 0 _⟩
  clear HL HS hwt
  have HL := HLn
  have HS := HSn
  clear HLn HSn
  (try clear hf); have hf := HL.out.facts; simp only [factsOf, List.cons_append, List.nil_append] at hf; skip
  have hSn := HS.out
  rw [HGR.out] at hSn
  obtain ⟨ci, cj, -, -, hMi, hMj, hci, hcj, hfi, hfj, hSW, hg1, hg2⟩ := S_swap hSn z39 0 (0 : Int) (by omega) (by have := HG.out; omega) HG.out.1 HG.out.2
  rw [show L.getD (0 : Int).toNat z39 = rd_T39 L 0 from rfl] at *
  have HF := Aside0.mk (swL_facts (0 : Int) L HG.out.1 HG.out.2 HLEN.out.2)
  generalize rd_T39 L 0 = x0 at *
  obtain ⟨va, rfl, hRa⟩ := k39_openM hMi
  obtain ⟨vb, rfl, hRb⟩ := k39_openM hMj
  obtain ⟨Aa, ca, rfl⟩ := Kd.R_slice hRa
  obtain ⟨Ab, cb, rfl⟩ := Kd.R_slice hRb
  have hx := And.intro (hci 0 _ rfl) (And.intro (hci 1 _ rfl) (And.intro (hci 2 _ rfl) (hci 3 _ rfl)))
  have hy := And.intro (hcj 0 _ rfl) (And.intro (hcj 1 _ rfl) (And.intro (hcj 2 _ rfl) (hcj 3 _ rfl)))
  have hfx := And.intro (hfi 0) (And.intro (hfi 1) (And.intro (hfi 2) (hfi 3)))
  have hfy := And.intro (hfj 0) (And.intro (hfj 1) (And.intro (hfj 2) (hfj 3)))
  rw [show (0 : Int).toNat * k39.sz = 0 from rfl] at *
  simp only [Nat.add_zero, Nat.zero_add] at hx hy hfx hfy
  have HSW := Aside0.mk hSW
  have HG1 := Aside0.mk hg1
  have HG2 := Aside0.mk hg2
  have hng : g5 ≠ gr := fun he => Kd.S_ne hSn (HL.out.at 0 rfl) (by decide) (by rw [he]; rfl)
  have hn4 : g4 ≠ gr := fun he => Kd.S_ne hSn (HL.out.at 1 rfl) (by decide) (by rw [he]; rfl)
  have hn2 : g2 ≠ gr := fun he => Kd.S_ne hSn (HL.out.at 2 rfl) (by decide) (by rw [he]; rfl)
  have HNG := Aside0.mk (And.intro hng (And.intro hn4 hn2))
  have HBG : Aside0 (w.heap.size ≤ gr) := ⟨Kd.S_base hSn gr rfl⟩
  clear hSn hMi hMj hRa hRb hci hcj hfi hfj hSW hg1 hg2 hn4 hn2
  have hgr := HGR.out
  subst hgr
  have hin := HG.out
  have hin0 : (0 : Int) < (L.length : Int) := by omega
  have hB1 := below_grown HL.out.below HG1.out HBG.out
  have hL1 := HL.out.grown hB1 HG1.out (by intro b hb he; injection he with he; rcases List.mem_cons.1 hb with rfl | hb; exact HNG.out.1 he; rcases List.mem_cons.1 hb with rfl | hb; exact HNG.out.2.1 he; rcases List.mem_cons.1 hb with rfl | hb; exact HNG.out.2.2 he; cases hb)
  have HL2 := Aside0.mk ((hL1.grown (below_grown hL1.below HG2.out HBG.out) HG2.out (by intro b hb he; injection he with he; rcases List.mem_cons.1 hb with rfl | hb; exact HNG.out.1 he; rcases List.mem_cons.1 hb with rfl | hb; exact HNG.out.2.1 he; rcases List.mem_cons.1 hb with rfl | hb; exact HNG.out.2.2 he; cases hb)).drew)
  obtain ⟨L1, hL1⟩ : ∃ M, (L.set 0 x0).set (0 : Int).toNat x0 = M := ⟨_, rfl⟩
  have hS2 := Kd.S_drew HSW.out
  rw [show (L.set (0 : Int).toNat x0).set (0 : Int).toNat x0 = L1 from hL1] at hS2
  have hF := HF.out
  rw [hL1] at hF
  have HS2 := Aside0.mk hS2
  clear HF hL1 hS2
  have HF := Aside0.mk hF
  clear hF
  clear hB1 hL1 HSW HG1 HG2 HNG
  have hE := hx.2.2.2.symm.trans hy.2.2.2
  injection hE with hE
  injection hE with hE1 hE2 hE3
  subst hE1
  subst hE3
  go_region
  generalize hwt : World.drew _ = w4
  have HLn : Aside0 (Locs w w4 [(g5, #[.slice (some ⟨gr, 0, none⟩) L.length cv], 24), (g4, #[.slice none 0 0], 24), (g2, #[.slice A0 L.length c0], 24)]) := ⟨by rw [← hwt]; exact HL2.out⟩
  have HSn : Aside0 (Kd.S k39 39 w4 w.heap.size (fun _ => True) (.slice (some ⟨gr, 0, none⟩) L.length cv) L1) := ⟨by rw [← hwt]; exact HS2.out⟩
  clear hwt HL HS HL2 HS2 hx hy hfx hfy hin hin0 hng HGR hf HC HCC
  have HL := HLn
  have HS := HSn
  clear HLn HSn
  as_aux_lemma =>
    go_wp2_with (first | fail)
    go_loopg [6] (L1.length + 1) (fun kq v6 w' => ∃ (i : Nat), v6 = .int .i64 (i : Int) ∧ Aside0 (L1.length - i < kq ∧ i ≤ L1.length) ∧ Aside0 (Locs w w' [(g5, #[.slice (some ⟨gr, 0, none⟩) L.length cv], 24), (g4, #[.slice none 0 0], 24), (g2, #[.slice A0 L.length c0], 24)]) ∧ Aside0 (Kd.S k39 39 w' w.heap.size (fun _ => True) (.slice (some ⟨gr, 0, none⟩) L.length cv) (part (swFS (0 : Int)) i L1)))
    case atStart => exact ⟨0, rfl, ⟨by omega, by omega⟩, HL, ⟨by rw [part_zero]; exact HS.out⟩⟩
    case round =>
      clear HL HS
      obtain ⟨i, rfl, HI, HL, HS⟩ := hrel
      (try clear hf); have hf := HL.out.facts; simp only [factsOf, List.cons_append, List.nil_append] at hf; skip
      by_cases hin : i < L1.length
      · have hl : L.length = L1.length := HF.out.2.1.symm
        have HIN := Aside0.mk hin
        have hin2 : (i : Int) < (L.length : Int) := by omega
        have HS2 : Aside0 (Kd.S k39 39 _ w.heap.size (fun _ => True) (.slice (some ⟨gr, 0, none⟩) L.length cv) (mid (0 : Int) i 0 L1)) := ⟨by rw [mid_zero hin]; exact HS.out⟩
        clear hin HS hl
        have HS := HS2
        clear HS2
        go_wp2_with (first | fail)
        go_loopg [7] ((rd_T39 L1 (i : Int)).f3.length + 1) (fun kq v7 w' => ∃ (k : Nat), v7 = .int .i64 (k : Int) ∧ Aside0 ((rd_T39 L1 (i : Int)).f3.length - k < kq ∧ k ≤ (rd_T39 L1 (i : Int)).f3.length) ∧ Aside0 (Locs w w' [(g5, #[.slice (some ⟨gr, 0, none⟩) L.length cv], 24), (g4, #[.slice none 0 0], 24), (g2, #[.slice A0 L.length c0], 24)]) ∧ Aside0 (Kd.S k39 39 w' w.heap.size (fun _ => True) (.slice (some ⟨gr, 0, none⟩) L.length cv) (mid (0 : Int) i k L1)))
        case atStart => exact ⟨0, rfl, ⟨by omega, by omega⟩, HL, HS⟩
        case round =>
          clear HL HS
          obtain ⟨k, rfl, HK, HL, HS⟩ := hrel
          obtain ⟨A3, c3, hA, hcells⟩ := S_at HS.out i (by rw [mid_len]; exact HIN.out)
          rw [mid_flen HIN.out] at hA hcells
          (try clear hf); have hf := HL.out.facts; simp only [factsOf, List.cons_append, List.nil_append] at hf; skip
          by_cases hk : k < (rd_T39 L1 (i : Int)).f3.length
          · obtain ⟨gi, rfl, hx, -, -, -⟩ := hcells k hk
            have HKN := Aside0.mk hk
            have hk2 : (k : Int) < ((rd_T39 L1 (i : Int)).f3.length : Int) := by omega
            rw [mid_rd HIN.out hk] at hx
            obtain ⟨y, hy⟩ : ∃ y, rd_T36 (rd_T39 L1 (i : Int)).f3 (k : Int) = y := ⟨_, rfl⟩
            rw [hy] at hx
            have HY := Aside0.mk hy
            clear hy hcells hk
            have HFL : Aside0 ((rd_T39 L1 (i : Int)).f3.length ≤ 512) := ⟨HF.out.2.2 _ (rd39_mem HIN.out)⟩
            as_aux_lemma =>
              go_upto_region 10 with (first | fail)
              have HLn := Aside0.mk (HL.out.alloc #[.int .i64 y.f0, .int .i64 y.f1, .int .i64 y.f2, .int .i64 y.f3, .int .i64 y.f4] 36)
              have hS5 := Kd.S_old HS.out (below_alloc (Below.refl _ _) (.cells #[.int .i64 y.f0, .int .i64 y.f1, .int .i64 y.f2, .int .i64 y.f3, .int .i64 y.f4] 36 (0, 0)))
              generalize World.alloc wr _ = w5 at HLn hS5 ⊢
              generalize wr.heap.size = g8 at HLn hS5 ⊢
              obtain ⟨A5, c5, hA5, hcells5⟩ := S_at hS5 i (by rw [mid_len]; exact HIN.out)
              obtain ⟨gj, rfl, hxx, hfr, hok, hst⟩ := hcells5 k (by rw [mid_flen HIN.out]; exact HKN.out)
              rw [mid_flen HIN.out] at hA5
              rw [mid_rd HIN.out HKN.out, HY.out] at hxx
              have hng8 : gj ≠ g8 := by have := hok.1.2; omega
              have HST := Aside0.mk hst
              have HOK := Aside0.mk hok
              have HS5 := Aside0.mk hS5
              clear hcells5 hst hok hS5 HL HS hA hx
              have HL := HLn
              clear HLn
              (try clear hf); have hf := HL.out.facts; simp only [factsOf, List.cons_append, List.nil_append] at hf; skip
              by_cases h5 : y.f0 = 5
              · have H5 := Aside0.mk h5
                by_cases h0 : y.f2 = 0
                · have H0 := Aside0.mk h0
                  go_wp2_with (first | fail)
                  go_roundg ((rd_T39 L1 (i : Int)).f3.length - (k + 1) + 1)
                  case measure => have := HKN.out; have := HK.out; omega
                  case rel => exact ⟨k + 1, by rw [wrap_nat (by have := HKN.out; have := HFL.out; omega)], ⟨by have := HKN.out; omega, HKN.out⟩, ⟨ls_grown HL.out ty24 HOK.out.2.2 HOK.out.2.1 (HST.out (0 : Int)).2⟩, ⟨by have e := (HST.out (0 : Int)).1; rw [mid_put HIN.out HKN.out (by rw [HY.out]; exact H5.out) (by rw [HY.out, H0.out, sg_zero])] at e; exact Kd.S_mono e (fun _ _ => trivial)⟩⟩
                · have HN0 := Aside0.mk (sg_else h0 h0)
                  have h0b : (y.f2 == 0) = false := beq_eq_false_iff_ne.mpr h0
                  clear h0
                  go_wp2_with (first | fail)
                  go_roundg ((rd_T39 L1 (i : Int)).f3.length - (k + 1) + 1)
                  case measure => have := HKN.out; have := HK.out; omega
                  case rel => exact ⟨k + 1, by rw [wrap_nat (by have := HKN.out; have := HFL.out; omega)], ⟨by have := HKN.out; omega, HKN.out⟩, ⟨HL.out.sub (List.Sublist.cons _ (List.Sublist.refl _))⟩, ⟨by have e := HS5.out; rw [mid_keep HIN.out HKN.out (by rw [HY.out]; exact Or.inr HN0.out)] at e; exact Kd.S_mono e (fun _ _ => trivial)⟩⟩
              · have HN5 := Aside0.mk h5
                have h5b : (y.f0 == 5) = false := beq_eq_false_iff_ne.mpr h5
                clear h5
                go_wp2_with (first | fail)
                go_roundg ((rd_T39 L1 (i : Int)).f3.length - (k + 1) + 1)
                case measure => have := HKN.out; have := HK.out; omega
                case rel => exact ⟨k + 1, by rw [wrap_nat (by have := HKN.out; have := HFL.out; omega)], ⟨by have := HKN.out; omega, HKN.out⟩, ⟨HL.out.sub (List.Sublist.cons _ (List.Sublist.refl _))⟩, ⟨by have e := HS5.out; rw [mid_keep HIN.out HKN.out (by rw [HY.out]; exact Or.inl HN5.out)] at e; exact Kd.S_mono e (fun _ _ => trivial)⟩⟩
          · have hk2 : (k : Int) = ((rd_T39 L1 (i : Int)).f3.length : Int) := by have := HK.out; omega
            have HKE := Aside0.mk hk
            clear hk hcells
            go_wp2_with (first | fail)
            go_roundg (L1.length - (i + 1) + 1)
            case measure => have := HI.out; have := HIN.out; omega
            case rel => exact ⟨i + 1, by rw [wrap_nat (by have := HIN.out; have := HF.out.2.1; have := HLEN.out.1; omega)], ⟨by have := HIN.out; omega, HIN.out⟩, HL, ⟨by have e := HS.out; rw [mid_full HIN.out (by have := HKE.out; omega)] at e; exact e⟩⟩
      · have hin2 : (i : Int) = (L.length : Int) := by have := HI.out; have := HF.out.2.1; omega
        have HIE := Aside0.mk hin
        clear hin
        go_wp2_with (first | fail)
        have HLf := HL.out.set 1 rfl 0 (.slice (some ⟨gr, 0, none⟩) L.length cv)
        have e := HS.out
        rw [part_full _ (by have := HIE.out; omega), ← HF.out.1] at e
        have e2 := Kd.S_set e (HL.out.at 1 rfl) E39 0 (.slice (some ⟨gr, 0, none⟩) L.length cv)
        refine bodyPost_ret (results_cell_row rfl _ _ g4 24 #[(.slice (some ⟨gr, 0, none⟩) L.length cv)] (0, 0) _ rfl (HLf.at 1 rfl) Tryd.underlying24 rfl (by kernel_rfl)) rfl ?_
        exact ⟨_, rfl, e2, HLf.below⟩
end Go.Proofs.YtcioegimmjppcaaDoor.P
