/- plunderlaw6.SerialPause: the law's function answers true (machine side). -/
import Derived.Test.YtcioegimmjppcaaDoorZJD
import Derived.Test.YtcioegimmjppcaaDoorZPx5
import Derived.Test.YtcioegimmjppcaaDoorZJL
import Derived.Test.YtcioegimmjppcaaDoorZJR
import Derived.Deep.RegionHeld3
namespace Go.Proofs.YtcioegimmjppcaaDoor.P
open Go.RowKit Go.Proofs.YtcioegimmjppcaaDoorW.PrintWords Go.Proofs.YtcioegimmjppcaaDoorW.PrintLast Go.Proofs.YtcioegimmjppcaaDoorW.PrintMore
set_option linter.unusedVariables false
set_option linter.unusedSimpArgs false
set_option maxHeartbeats 4000000
set_option maxRecDepth 100000

theorem grown_cell {W W1 : World} {row : Option Nat} (hg : W.grownBy W1 row) {g j : Nat} {v : Value} (hc : W.cell? ⟨g, j, none⟩ = some v) (hne : some g ≠ row) : W1.cell? ⟨g, j, none⟩ = some v := by
  have hlt := World.block_lt_of_cell? W _ hc
  have := hg.block g hlt hne
  unfold World.cell? at hc ⊢
  simp only at hc ⊢
  rw [this]
  exact hc

theorem S_okb {W : World} {b g n c : Nat} {ok : Nat → Prop} {M : List S39} (h : Kd.S k39 39 W b ok (.slice (some ⟨g, 0, none⟩) n c) M) : ok g := by
  obtain ⟨f, hR⟩ := h
  exact hR.1 g rfl
theorem S_fr {W : World} {b g n c : Nat} {ok : Nat → Prop} {M : List S39} (h : Kd.S k39 39 W b ok (.slice (some ⟨g, 0, none⟩) n c) M) (i : Nat) (hi : i < M.length) : W.frozen? ⟨g, i * 4 + 3, none⟩ = false := by
  have hn : n = M.length := (Kd.S_reads' h).1
  obtain ⟨oki, cs, hcl, hM, hcc, hfr, hoki, hH⟩ := Kd.S_elem h z39 (i : Int) (by omega) (by omega)
  have := hfr 3
  rw [Int.toNat_natCast] at this
  exact this
theorem ls_lt3 {w W : World} {a b c : Nat} {ca cb cc : Array Value} {ta tb tc : TypeId} (h : Locs w W [(a, ca, ta), (b, cb, tb), (c, cc, tc)]) : a < W.heap.size ∧ b < W.heap.size ∧ c < W.heap.size :=
  ⟨h.lt _ (List.Mem.head _), h.lt _ (List.Mem.tail _ (List.Mem.head _)), h.lt _ (List.Mem.tail _ (List.Mem.tail _ (List.Mem.head _)))⟩
/-- behind an append to the code that grows -/
theorem pau_app {w W W1 : World} {g9 g7 g3 gr n cv s i : Nat} {c9 c7 c3 : Array Value} {V : Value} {M : List S39} {x : Value} {l : List S36} (HL : Locs w W [(g9, c9, 24), (g7, c7, 28), (g3, c3, 24)]) (HG : g9 < s ∧ g7 < s ∧ g3 < s)
    (HS : Kd.S k39 39 W w.heap.size (fun x => True ∧ x < s) (.slice (some ⟨gr, 0, none⟩) n cv) M) (HA : W.cell? ⟨gr, i * 4 + 3, none⟩ = some x) (HR : Kd.R k36 36 W w.heap.size (fun x => s ≤ x) V l) (HZ : s ≤ W.heap.size)
    (hb : Below w.heap.size w W1) (hg : W.grownBy W1 V.ownBlock) :
    Locs w W1 [(g9, c9, 24), (g7, c7, 28), (g3, c3, 24)] ∧ Kd.S k39 39 W1 w.heap.size (fun x => True ∧ x < s) (.slice (some ⟨gr, 0, none⟩) n cv) M ∧ W1.cell? ⟨gr, i * 4 + 3, none⟩ = some x ∧ s ≤ W1.heap.size := by
  have hne : ∀ k, k < s → some k ≠ V.ownBlock := fun k hk he => by have := HR.1 k he.symm; omega
  refine ⟨HL.grown hb hg (fun b hb' => ?_), Kd.S_grown HS hg (fun k hk => hne k hk.2), grown_cell hg HA (hne gr (S_okb HS).2), Nat.le_trans HZ hg.size⟩
  rcases List.mem_cons.1 hb' with rfl | hb'
  · exact hne _ HG.1
  rcases List.mem_cons.1 hb' with rfl | hb'
  · exact hne _ HG.2.1
  rcases List.mem_cons.1 hb' with rfl | hb'
  · exact hne _ HG.2.2
  cases hb'
/-- the code is put into its place -/
theorem pau_put {w W : World} {g9 g7 g3 gr cv s i k : Nat} {c9 c7 c3 : Array Value} {V : Value} {L : List S39} (hi : i < L.length) (hk : (rd_T39 L (i : Int)).f3.length ≤ k) (HL : Locs w W [(g9, c9, 24), (g7, c7, 28), (g3, c3, 24)])
    (HS : Kd.S k39 39 W w.heap.size (fun x => True ∧ x < s) (.slice (some ⟨gr, 0, none⟩) L.length cv) (part psS i L)) (HR : Kd.R k36 36 W w.heap.size (fun x => s ≤ x) V (lng k (rd_T39 L (i : Int)).f3)) :
    Locs w (W.setCell ⟨gr, i * 4 + 3, none⟩ V) [(g9, c9, 24), (g7, c7, 28), (g3, c3, 24)] ∧ Kd.S k39 39 (W.setCell ⟨gr, i * 4 + 3, none⟩ V) w.heap.size (fun _ => True) (.slice (some ⟨gr, 0, none⟩) L.length cv) (part psS (i + 1) L) := by
  have hgs := (S_okb HS).2
  obtain ⟨h1, hg⟩ := S_code HS i (by rw [part_len]; exact hi) HR (fun k hk => by omega) (fun k hk he => by omega)
  rw [part_put hi _ (lng_full hk)] at h1
  have hb := Kd.S_base HS gr rfl
  refine ⟨HL.grown (below_grown HL.below hg hb) hg (fun b hb' he => ?_), Kd.S_mono h1 (fun _ _ => trivial)⟩
  injection he with he
  rcases List.mem_cons.1 hb' with rfl | hb'
  · exact Kd.S_ne HS (HL.at 0 rfl) (by decide) (by show some _ = some gr; exact congrArg some he)
  rcases List.mem_cons.1 hb' with rfl | hb'
  · exact Kd.S_ne HS (HL.at 1 rfl) (by decide) (by show some _ = some gr; exact congrArg some he)
  rcases List.mem_cons.1 hb' with rfl | hb'
  · exact Kd.S_ne HS (HL.at 2 rfl) (by decide) (by show some _ = some gr; exact congrArg some he)
  cases hb'
theorem eval_paused {W : World} {b gr cv : Nat} {L : List S39} {A1 : Option Addr} {c1 : Nat} {l1 : List Int} {f v wk tk dp s3 : Int} (hT : Tab W) (HS : Kd.S k39 39 W b (fun _ => True) (.slice (some ⟨gr, 0, none⟩) L.length cv) (L.map psS))
    (h1 : Kd.C (Kd.int .i64) W A1 l1.length l1) (hc1 : l1.length ≤ c1) (he : evalOf pdS apS ((L.map psS).map fnS) l1 f = (v, wk, tk, dp, s3, 0)) :
    Calls Tryd.prog 14 #[.agg #[.slice (some ⟨gr, 0, none⟩) L.length cv], .slice A1 l1.length c1, .int .i64 f] W fun e w' => e = .returned (.tuple #[.agg #[.int .i64 v, .int .i64 wk, .int .i64 tk, .int .i64 dp, .int .i64 s3], .int .i64 0]) ∧ Below W.heap.size W w' := by
  obtain ⟨e1, e2, e3⟩ := Kd.S_reads' HS
  have h := serial_Eval.calls 0 (some ⟨gr, 0, none⟩) cv (L.map psS) A1 c1 l1 f v wk tk dp s3 0 W hT (by rw [← e1]; rw [← e1] at e3; exact e3) (by rw [← e1]; exact e2) h1 hc1 (by unfold serial_Eval.f; rw [he])
  rw [← e1] at h
  exact h

section
variable {P : Program} {ops : Array Oper} {rest : List Oper} {o : Oper} {a : Act} {Q : Exit → Act → World → Prop}
theorem lit_one {W : World} (hgd : o.guard = none) {N : Tmp} (hd : o.dst = some N) (hrun : (execOp a.eval o).run P W = .ok (.value (.slice (some ⟨W.heap.size, 0, none⟩) 1 1)) (W.alloc (.cells #[.int .i64 6, .int .i64 0, .int .i64 0, .int .i64 0, .int .i64 0] 36)))
    (h : ∀ v1 w1, Kd.R k36 36 w1 W.heap.size (fun x => W.heap.size ≤ x) v1 [(⟨6, 0, 0, 0, 0⟩ : S36)] → Below W.heap.size W w1 → wpList P ops Q rest (a.put o.dst v1) w1) : wpList P ops Q (o :: rest) a W :=
  Kd.R_lit k36 _ 36 hgd hd (xs := ([(⟨6, 0, 0, 0, 0⟩ : S36)] : List S36)) (inner := [.int .i64 6, .int .i64 0, .int .i64 0, .int .i64 0, .int .i64 0]) (ok := fun x => W.heap.size ≤ x) (okp := fun _ => False) hrun
    (Reps.c5 (show Kd.M k36 _ _ _ (⟨6, 0, 0, 0, 0⟩ : S36) [.int .i64 6, .int .i64 0, .int .i64 0, .int .i64 0, .int .i64 0] from (k36_mkM _ _ _ (⟨6, 0, 0, 0, 0⟩ : S36))) (Reps.none _ _)) (fun _ hk => hk.elim) (Nat.le_refl _) (Below.refl _ _) (Nat.le_refl _) (by simp) (fun v1 w1 h1 h2 _ _ => h v1 w1 h1 h2)
end

theorem pause_err (A0 : Option Addr) (c0 : Nat) (L : List S39) (A1 : Option Addr) (c1 : Nat) (l1 : List Int) (a2 : Int) (w : World) (hT : Tab w) (h0 : Kd.C k39 w A0 L.length L) (hc0 : L.length ≤ c0) (h1 : Kd.C (Kd.int .i64) w A1 l1.length l1) (hc1 : l1.length ≤ c1)
    (er : Int) (her : er ≠ 0) (hev : evalOf pdS apS (L.map fnS) l1 a2 = (0, 0, 0, 0, 0, er)) :
    Calls Tryd.prog 10 #[.agg #[.slice A0 L.length c0], .slice A1 l1.length c1, .int .i64 a2] w fun e w' => e = .returned (.bool true) ∧ Below w.heap.size w w' := by
  have HL := Aside0.mk (Locs.nil w)
  have HT := Aside0.mk hT
  have HC := Aside0.mk h0
  have HC1 := Aside0.mk h1
  have HCC := Aside0.mk (And.intro hc0 hc1)
  have hu24 := Tryd.underlying24
  have hu28 := Tryd.underlying28
  have HE : Aside0 (serial_Eval.f 0 L l1 a2 = some (0, 0, 0, 0, 0, er)) := ⟨by unfold serial_Eval.f; rw [hev]⟩
  have hb0 : (er != 0) = true := bne_iff_ne.2 her
  have hb1 : (er == 0) = false := beq_eq_false_iff_ne.mpr her
  clear h0 h1 hT hev hc0 hc1 her
  go_enter Tryd.func10, Tryd.ntmps10
  go_upto_region 2 with (first | ((with_reducible refine gate_dst (N := 3) rfl ?_); (try (refine gate_guard (by rfl) ?_; dsimp only)); refine box_locs (by repeat (first | exact HL.out | refine Locs.drew ?_ | refine Locs.drewN ?_ _)) ?hg (N := 3) ?hd (cs := #[.slice A0 L.length c0]) (t := 24) ?hr ?_; (case hd => rfl); (case hg => rfl); (case hr => first | (go_simp; done) | (go_simp; rfl)); intro g3 wb1 HLn HKb; clear HL; have HL := HLn; clear HLn HKb; (try clear hf); have hf := HL.out.facts; simp only [factsOf, List.cons_append, List.nil_append] at hf; skip) | (go_at_call 14; have hcall := serial_Eval.calls 0 A0 c0 L A1 c1 l1 a2 0 0 0 0 0 er _ (HT.out.below HL.out.below) (Kd.C_below HC.out HL.out.below) HCC.out.1 (Kd.C_below HC1.out HL.out.below) HCC.out.2 HE.out; with_reducible refine hcall.mono ?_; clear hcall; rintro e_ wc ⟨rfl, hb_⟩; have HLn := Aside0.mk (HL.out.step hb_); clear HL hb_; have HL := HLn; clear HLn; (try clear hf); have hf := HL.out.facts; simp only [factsOf, List.cons_append, List.nil_append] at hf; skip) | ((with_reducible refine gate_dst (N := 7) rfl ?_); (try (refine gate_guard (by rfl) ?_; dsimp only)); refine box_locs (by repeat (first | exact HL.out | refine Locs.drew ?_ | refine Locs.drewN ?_ _)) ?hg (N := 7) ?hd (cs := #[.int .i64 0, .int .i64 0, .int .i64 0, .int .i64 0, .int .i64 0]) (t := 28) ?hr ?_; (case hd => rfl); (case hg => rfl); (case hr => first | (go_simp; done) | (go_simp; rfl)); intro g7 wb4 HLn HKb; clear HL; have HL := HLn; clear HLn HKb; (try clear hf); have hf := HL.out.facts; simp only [factsOf, List.cons_append, List.nil_append] at hf; skip))
  generalize hwt : World.setCell _ _ _ = w3
  have HLn : Aside0 (Locs w w3 [(g7, #[.int .i64 0, .int .i64 0, .int .i64 0, .int .i64 0, .int .i64 0], 28), (g3, #[.slice A0 L.length c0], 24)]) := ⟨by rw [← hwt]; exact ((((((HL.out.set 0 rfl 0 (.int .i64 0)).set 0 rfl 1 (.int .i64 0)).set 0 rfl 2 (.int .i64 0)).set 0 rfl 3 (.int .i64 0)).set 0 rfl 4 (.int .i64 0)))⟩
  clear HL hwt
  have HL := HLn
  clear HLn
  (try clear hf); have hf := HL.out.facts; simp only [factsOf, List.cons_append, List.nil_append] at hf; skip
  go_wp2_with (first | (go_at_call 24; have hcall := plunderlaw6_lives.calls 0 a2 true _ (HT.out.below HL.out.below) (lives_true a2 0); with_reducible refine hcall.mono ?_; clear hcall; rintro e_ wc7 ⟨rfl, hb_⟩; have HLn := Aside0.mk (Locs.step (by repeat (first | exact HL.out | refine Locs.drew ?_ | refine Locs.drewN ?_ _)) hb_); clear HL hb_; have HL := HLn; clear HLn; (try clear hf); have hf := HL.out.facts; simp only [factsOf, List.cons_append, List.nil_append] at hf; skip))
  go_ret
  exact ⟨rfl, HL.out.below⟩

theorem pause_ok (A0 : Option Addr) (c0 : Nat) (L : List S39) (A1 : Option Addr) (c1 : Nat) (l1 : List Int) (a2 : Int) (w : World) (hT : Tab w) (h0 : Kd.C k39 w A0 L.length L) (hc0 : L.length ≤ c0) (h1 : Kd.C (Kd.int .i64) w A1 l1.length l1) (hc1 : l1.length ≤ c1)
    (v wk tk dp sp : Int) (hv : Valid (L.map fnS)) (hw0 : 0 ≤ wk) (hw1 : wk ≤ 4194304) (ht0 : 0 ≤ tk) (ht1 : tk ≤ 4194304) (hev : evalOf pdS apS (L.map fnS) l1 a2 = (v, wk, tk, dp, sp, 0))
    (hfin : wk + tk ≤ 4194304 → (∀ f ∈ L, f.f3.length < 512) → ∃ s3, sp < s3 ∧ evalOf pdS apS ((L.map psS).map fnS) l1 (wk + tk) = (v, wk + tk, tk, dp, s3, 0)) :
    Calls Tryd.prog 10 #[.agg #[.slice A0 L.length c0], .slice A1 l1.length c1, .int .i64 a2] w fun e w' => e = .returned (.bool true) ∧ Below w.heap.size w w' := by
  have HL := Aside0.mk (Locs.nil w)
  have HT := Aside0.mk hT
  have HC := Aside0.mk h0
  have HC1 := Aside0.mk h1
  have HCC := Aside0.mk (And.intro hc0 hc1)
  have hu24 := Tryd.underlying24
  have hu28 := Tryd.underlying28
  have hu39 := Tryd.underlying39
  have hu36 := Tryd.underlying36
  have HE : Aside0 (serial_Eval.f 0 L l1 a2 = some (v, wk, tk, dp, sp, 0)) := ⟨by unfold serial_Eval.f; rw [hev]⟩
  have HV := Aside0.mk hv
  have HFIN := Aside0.mk hfin
  clear h0 h1 hT hev hc0 hc1 hv hfin
  go_enter Tryd.func10, Tryd.ntmps10
  go_upto_region 2 with (first | ((with_reducible refine gate_dst (N := 3) rfl ?_); (try (refine gate_guard (by rfl) ?_; dsimp only)); refine box_locs (by repeat (first | exact HL.out | refine Locs.drew ?_ | refine Locs.drewN ?_ _)) ?hg (N := 3) ?hd (cs := #[.slice A0 L.length c0]) (t := 24) ?hr ?_; (case hd => rfl); (case hg => rfl); (case hr => first | (go_simp; done) | (go_simp; rfl)); intro g3 wb8 HLn HKb; clear HL; have HL := HLn; clear HLn HKb; (try clear hf); have hf := HL.out.facts; simp only [factsOf, List.cons_append, List.nil_append] at hf; skip) | (go_at_call 14; have hcall := serial_Eval.calls 0 A0 c0 L A1 c1 l1 a2 v wk tk dp sp 0 _ (HT.out.below HL.out.below) (Kd.C_below HC.out HL.out.below) HCC.out.1 (Kd.C_below HC1.out HL.out.below) HCC.out.2 HE.out; with_reducible refine hcall.mono ?_; clear hcall; rintro e_ wc ⟨rfl, hb_⟩; have HLn := Aside0.mk (HL.out.step hb_); clear HL hb_; have HL := HLn; clear HLn; (try clear hf); have hf := HL.out.facts; simp only [factsOf, List.cons_append, List.nil_append] at hf; skip) | ((with_reducible refine gate_dst (N := 7) rfl ?_); (try (refine gate_guard (by rfl) ?_; dsimp only)); refine box_locs (by repeat (first | exact HL.out | refine Locs.drew ?_ | refine Locs.drewN ?_ _)) ?hg (N := 7) ?hd (cs := #[.int .i64 0, .int .i64 0, .int .i64 0, .int .i64 0, .int .i64 0]) (t := 28) ?hr ?_; (case hd => rfl); (case hg => rfl); (case hr => first | (go_simp; done) | (go_simp; rfl)); intro g7 wb11 HLn HKb; clear HL; have HL := HLn; clear HLn HKb; (try clear hf); have hf := HL.out.facts; simp only [factsOf, List.cons_append, List.nil_append] at hf; skip))
  generalize hwt : World.setCell _ _ _ = w3
  have HLn : Aside0 (Locs w w3 [(g7, #[.int .i64 v, .int .i64 wk, .int .i64 tk, .int .i64 dp, .int .i64 sp], 28), (g3, #[.slice A0 L.length c0], 24)]) := ⟨by rw [← hwt]; exact ((((((HL.out.set 0 rfl 0 (.int .i64 v)).set 0 rfl 1 (.int .i64 wk)).set 0 rfl 2 (.int .i64 tk)).set 0 rfl 3 (.int .i64 dp)).set 0 rfl 4 (.int .i64 sp)))⟩
  clear HL hwt
  have HL := HLn
  clear HLn
  (try clear hf); have hf := HL.out.facts; simp only [factsOf, List.cons_append, List.nil_append] at hf; skip
  have hs0 : 0 ≤ wk + tk := by omega
  have hs1 : wk + tk ≤ 8388608 := by omega
  by_cases hbig : 4194304 < wk + tk
  · go_wp2_with (first | (go_at_call 24; have hcall := plunderlaw6_lives.calls 0 a2 true _ (HT.out.below HL.out.below) (lives_true a2 0); with_reducible refine hcall.mono ?_; clear hcall; rintro e_ wc14 ⟨rfl, hb_⟩; have HLn := Aside0.mk (Locs.step (by repeat (first | exact HL.out | refine Locs.drew ?_ | refine Locs.drewN ?_ _)) hb_); clear HL hb_; have HL := HLn; clear HLn; (try clear hf); have hf := HL.out.facts; simp only [factsOf, List.cons_append, List.nil_append] at hf; skip))
    go_ret
    exact ⟨rfl, HL.out.below⟩
  have HSM : Aside0 (wk + tk ≤ 4194304) := ⟨by omega⟩
  have hlen : 1 ≤ L.length ∧ L.length ≤ 32 := by have h1 := HV.out.some; have h2 := HV.out.few; rw [List.length_map] at h1 h2; exact ⟨h1, h2⟩
  have hl512 : ∀ f ∈ L, f.f3.length ≤ 512 := fun f hf => by
    have h1 := (HV.out.each _ (List.mem_map.2 ⟨f, hf, rfl⟩)).shape
    unfold shapeOK at h1
    have e : (fnS f).code.length = f.f3.length := by show (f.f3.map insS).length = _; rw [List.length_map]
    rw [e] at h1
    omega
  have HLEN := Aside0.mk (And.intro hlen hl512)
  clear hlen hl512
  go_upto_region 7 with (first | (go_at_call 24; have hcall := plunderlaw6_lives.calls 0 a2 true _ (HT.out.below HL.out.below) (lives_true a2 0); with_reducible refine hcall.mono ?_; clear hcall; rintro e_ wc15 ⟨rfl, hb_⟩; have HLn := Aside0.mk (Locs.step (by repeat (first | exact HL.out | refine Locs.drew ?_ | refine Locs.drewN ?_ _)) hb_); clear HL hb_; have HL := HLn; clear HLn; (try clear hf); have hf := HL.out.facts; simp only [factsOf, List.cons_append, List.nil_append] at hf; skip) | (go_at_call 13; have hcall := plunderlaw6_copied.calls (L.length + 1) A0 c0 L L _ (Kd.C_below HC.out HL.out.below) HCC.out.1 (copied_some L HLEN.out.1.2 HLEN.out.2); with_reducible refine hcall.mono ?_; clear hcall; rintro e_ wc ⟨v0, rfl, hS, hb_⟩; obtain ⟨cv, gr, rfl⟩ : ∃ (cv gr : Nat), v0 = .slice (some ⟨gr, 0, none⟩) L.length cv := (by obtain ⟨q, c, e, _, e2, _⟩ := Kd.S_form hS (by have := HLEN.out; omega); exact ⟨c, q, e⟩); have HS := Aside0.mk (Kd.S_lower hS HL.out.below.size); have HLn := Aside0.mk (Locs.step HL.out hb_); clear HL hb_ hS; have HL := HLn; clear HLn; (try clear hf); have hf := HL.out.facts; simp only [factsOf, List.cons_append, List.nil_append] at hf; skip) | ((with_reducible refine gate_dst (N := 9) rfl ?_); (try (refine gate_guard (by rfl) ?_; dsimp only)); refine box_locs (by repeat (first | exact HL.out | refine Locs.drew ?_ | refine Locs.drewN ?_ _)) ?hg (N := 9) ?hd (cs := #[.slice none 0 0]) (t := 24) ?hr ?_; (case hd => rfl); (case hg => rfl); (case hr => first | (go_simp; done) | (go_simp; rfl)); intro g9 wb17 HLn HKb; have HS2 := Aside0.mk (Kd.S_below HS.out HKb.out); clear HS; have HS := HS2; clear HS2; clear HL; have HL := HLn; clear HLn HKb; (try clear hf); have hf := HL.out.facts; simp only [factsOf, List.cons_append, List.nil_append] at hf; skip))
  generalize hwt : World.setCell _ _ _ = w4
  have HLn : Aside0 (Locs w w4 [(g9, #[.slice (some ⟨gr, 0, none⟩) L.length cv], 24), (g7, #[.int .i64 v, .int .i64 wk, .int .i64 tk, .int .i64 dp, .int .i64 sp], 28), (g3, #[.slice A0 L.length c0], 24)]) := ⟨by rw [← hwt]; exact HL.out.set 0 rfl 0 _⟩
  have HSn : Aside0 (Kd.S k39 39 w4 w.heap.size (fun _ => True) (.slice (some ⟨gr, 0, none⟩) L.length cv) (part psS 0 L)) := ⟨by rw [← hwt, part_zero]; exact Kd.S_set HS.out (HL.out.at 0 rfl) E39 0 _⟩
  clear HL HS hwt hf
  have HL := HLn
  have HS := HSn
  clear HLn HSn hbig
  focus
    go_wp2_with (first | fail)
    go_loopg [10] (L.length + 1) (fun kq v10 w' => ∃ (i : Nat), v10 = .int .i64 (i : Int) ∧ Aside0 ((L.length - i < kq ∧ i ≤ L.length) ∧ ∀ j : Nat, j < i → (rd_T39 L (j : Int)).f3.length < 512) ∧ Aside0 (Locs w w' [(g9, #[.slice (some ⟨gr, 0, none⟩) L.length cv], 24), (g7, #[.int .i64 v, .int .i64 wk, .int .i64 tk, .int .i64 dp, .int .i64 sp], 28), (g3, #[.slice A0 L.length c0], 24)]) ∧ Aside0 (Kd.S k39 39 w' w.heap.size (fun _ => True) (.slice (some ⟨gr, 0, none⟩) L.length cv) (part psS i L)))
    case atStart => exact ⟨0, rfl, ⟨⟨by omega, by omega⟩, fun j hj => absurd hj (Nat.not_lt_zero _)⟩, HL, HS⟩
    case round =>
      clear HL HS
      obtain ⟨i, rfl, HI, HL, HS⟩ := hrel
      by_cases hin : i < L.length
      · have HIN := Aside0.mk hin
        have hin2 : (i : Int) < (L.length : Int) := by omega
        obtain ⟨A3, c3, hA, hcells⟩ := S_at HS.out i (by rw [part_len]; exact hin)
        rw [part_rd psS hin] at hA hcells
        obtain ⟨gi, rfl, -⟩ := hcells 0 (code_pos HV.out hin)
        clear hcells
        have HA := Aside0.mk hA
        (try clear hf); have hf := HL.out.facts; simp only [factsOf, List.cons_append, List.nil_append] at hf; skip
        by_cases hbg : 512 ≤ (rd_T39 L (i : Int)).f3.length
        · have hbg2 : (512 : Int) ≤ ((rd_T39 L (i : Int)).f3.length : Int) := by omega
          clear hin
          go_wp2_with (first | fail)
          go_ret
          exact ⟨rfl, HL.out.below⟩
        · have hbg2 : ((rd_T39 L (i : Int)).f3.length : Int) < 512 := by omega
          have HBL : Aside0 ((rd_T39 L (i : Int)).f3.length < 512) := ⟨by omega⟩
          clear hin hbg
          go_upto_region 14 with (first | ((with_reducible refine gate_dst (N := 56) rfl ?_); refine lit_one ?hg (N := 56) ?hd ?hr ?_; (case hd => rfl); (case hg => rfl); (case hr => first | (go_simp; done) | (go_simp; rfl)); intro v56 w5 hR hb; have HR := Aside0.mk (Kd.R_lower hR HL.out.below.size); have HLn := Aside0.mk (HL.out.step hb); have HSn := Aside0.mk (Kd.S_old HS.out hb); have HAn := Aside0.mk (pw_cell_below hb HA.out); have HSZ := Aside0.mk hb.size; have HGS := Aside0.mk (ls_lt3 HL.out); clear hR hb HL HS HA hA; have HL := HLn; have HS := HSn; have HA := HAn; clear HLn HSn HAn))
          obtain ⟨s, hs⟩ : ∃ s, wr.heap.size = s := ⟨_, rfl⟩
          rw [hs] at HR HS HSZ HGS
          clear hs hf
          focus
            go_wp2_with (first | fail)
            go_loopg [12, 13] ((rd_T39 L (i : Int)).f3.length + 1) (fun kq v12 v13 w' => ∃ (k : Nat) (V : Value), V = v12 ∧ v13 = .int .i64 (k : Int) ∧ Aside0 ((rd_T39 L (i : Int)).f3.length - k < kq ∧ k ≤ (rd_T39 L (i : Int)).f3.length) ∧ Aside0 (Locs w w' [(g9, #[.slice (some ⟨gr, 0, none⟩) L.length cv], 24), (g7, #[.int .i64 v, .int .i64 wk, .int .i64 tk, .int .i64 dp, .int .i64 sp], 28), (g3, #[.slice A0 L.length c0], 24)]) ∧ Aside0 (Kd.S k39 39 w' w.heap.size (fun x => True ∧ x < s) (.slice (some ⟨gr, 0, none⟩) L.length cv) (part psS i L)) ∧ Aside0 (w'.cell? ⟨gr, i * 4 + 3, none⟩ = some (.slice (some ⟨gi, 0, none⟩) (rd_T39 L (i : Int)).f3.length c3)) ∧ Aside0 (Kd.R k36 36 w' w.heap.size (fun x => s ≤ x) V (lng k (rd_T39 L (i : Int)).f3)) ∧ Aside0 (s ≤ w'.heap.size))
            case atStart => exact ⟨0, v56, rfl, rfl, ⟨by omega, by omega⟩, HL, HS, HA, HR, HSZ⟩
            case round =>
              clear HL HS HA HR HSZ
              obtain ⟨k, V, rfl, rfl, HK, HL, HS, HA, HR, HSZ⟩ := hrel
              by_cases hk : k < (rd_T39 L (i : Int)).f3.length
              · focus
                  have HKN := Aside0.mk hk
                  obtain ⟨A4, c4, hA4, hcells⟩ := S_at HS.out i (by rw [part_len]; exact HIN.out)
                  rw [part_rd psS HIN.out] at hA4 hcells
                  obtain ⟨gj, hgj, hx, -, -, -⟩ := hcells k hk
                  have hij : gi = gj := by
                    have hq := HA.out.symm.trans hA4
                    rw [hgj] at hq
                    injection hq with hq
                    injection hq with hq1 hq2 hq3
                    injection hq1 with hq1
                    injection hq1 with hq1
                  rw [← hij] at hx
                  have hbd := shS_bd HV.out HIN.out hk
                  obtain ⟨y, hy⟩ : ∃ y, rd_T36 (rd_T39 L (i : Int)).f3 (k : Int) = y := ⟨_, rfl⟩
                  rw [hy] at hx hbd
                  have HY := Aside0.mk hy
                  have hk2 : (k : Int) < ((rd_T39 L (i : Int)).f3.length : Int) := by omega
                  clear hij hgj hA4 hcells hy hk
                  go_upto_region 18 with (first | fail)
                  have HL6 := Aside0.mk (HL.out.alloc #[.int .i64 y.f0, .int .i64 y.f1, .int .i64 y.f2, .int .i64 y.f3, .int .i64 y.f4] 36)
                  have HS6 := Aside0.mk (Kd.S_alloc HS.out (.cells #[.int .i64 y.f0, .int .i64 y.f1, .int .i64 y.f2, .int .i64 y.f3, .int .i64 y.f4] 36 (0, 0)))
                  have HR6 := Aside0.mk (Kd.R_alloc (Kd.R_elderB HR.out wr.heap.size (Nat.le_refl _)) (.cells #[.int .i64 y.f0, .int .i64 y.f1, .int .i64 y.f2, .int .i64 y.f3, .int .i64 y.f4] 36 (0, 0)))
                  have HA6 := Aside0.mk (pw_cell_below (below_alloc (Below.refl _ _) (.cells #[.int .i64 y.f0, .int .i64 y.f1, .int .i64 y.f2, .int .i64 y.f3, .int .i64 y.f4] 36 (0, 0))) HA.out)
                  have HZ6 : Aside0 (s ≤ wr.heap.size ∧ s ≤ (wr.alloc (.cells #[.int .i64 y.f0, .int .i64 y.f1, .int .i64 y.f2, .int .i64 y.f3, .int .i64 y.f4] 36 (0, 0))).heap.size) := ⟨HSZ.out, Nat.le_trans HSZ.out (by simp)⟩
                  generalize World.alloc wr _ = w6 at HL6 HS6 HR6 HA6 HZ6 ⊢
                  generalize wr.heap.size = g14 at HL6 HR6 HZ6 ⊢
                  clear HL HS HR HA HSZ hx
                  have HL := HL6
                  (try clear hf); have hf := HL.out.facts; simp only [factsOf, List.cons_append, List.nil_append] at hf; skip
                  by_cases h3 : y.f0 = 3
                  · obtain ⟨hy0, hy1⟩ := hbd.1 h3
                    have H3 := Aside0.mk h3
                    go_upto_region 22 with (first | fail)
                    generalize hwt : World.setCell _ _ _ = w7
                    have HL7 : Aside0 (Locs w w7 ((g14, #[.int .i64 y.f0, .int .i64 (y.f1 + 1), .int .i64 y.f2, .int .i64 y.f3, .int .i64 y.f4], 36) :: [(g9, #[.slice (some ⟨gr, 0, none⟩) L.length cv], 24), (g7, #[.int .i64 v, .int .i64 wk, .int .i64 tk, .int .i64 dp, .int .i64 sp], 28), (g3, #[.slice A0 L.length c0], 24)])) := ⟨by rw [← hwt]; exact HL6.out.set 0 rfl 1 _⟩
                    have HS7 : Aside0 (Kd.S k39 39 w7 w.heap.size (fun x => True ∧ x < s) (.slice (some ⟨gr, 0, none⟩) L.length cv) (part psS i L)) := ⟨by rw [← hwt]; exact Kd.S_far (p := ⟨g14, 1, none⟩) HS6.out (fun x hx => by have := hx.2; have := HZ6.out.1; show x ≠ g14; omega) _⟩
                    have HR7 : Aside0 (Kd.R k36 36 w7 w.heap.size (fun x => s ≤ x) V (lng k (rd_T39 L (i : Int)).f3)) := ⟨by rw [← hwt]; exact Kd.R_mono (Kd.R_far (p := ⟨g14, 1, none⟩) HR6.out (fun x hx => hx.2) _) (fun x hx => hx.1)⟩
                    have HA7 : Aside0 (w7.cell? ⟨gr, i * 4 + 3, none⟩ = some (.slice (some ⟨gi, 0, none⟩) (rd_T39 L (i : Int)).f3.length c3)) := ⟨by rw [← hwt, cell_far (by have := (S_okb HS6.out).2; have := HZ6.out.1; show gr ≠ g14; omega)]; exact HA6.out⟩
                    have HZ7 : Aside0 (s ≤ w7.heap.size) := ⟨by rw [← hwt]; exact Nat.le_trans HZ6.out.2 (by simp)⟩
                    clear hwt HL HL6 HS6 HR6 HA6 HZ6
                    have HL := HL7
                    (try clear hf); have hf := HL.out.facts; simp only [factsOf, List.cons_append, List.nil_append] at hf; skip
                    clear h3
                    go_wp2_with (first | ((with_reducible refine gate_builtin (b := .append) (xs := #[.tmp 81, .tmp 83]) rfl ?_); at_builtin; refine Kd.R_append k36 (w0 := w) w.heap.size rfl (.tmp 81) (.tmp 83) 37 36 (.agg #[(.int .i64 0), (.int .i64 0), (.int .i64 0), (.int .i64 0), (.int .i64 0)]) 40 rfl Tryd.underlying37 info36 rfl (by decide) (by omega) V (lng k (rd_T39 L (i : Int)).f3) (⟨y.f0, (y.f1 + 1), y.f2, y.f3, y.f4⟩ : S36) [.int .i64 y.f0, .int .i64 (y.f1 + 1), .int .i64 y.f2, .int .i64 y.f3, .int .i64 y.f4] (fun x => s ≤ x) (fun _ => False) rfl rfl ?aP (fun _ hk => hk.elim) ?aF ?aO ?aB ?aS ?aL ?_; (case aP => exact k36_mkM _ _ _ (⟨y.f0, (y.f1 + 1), y.f2, y.f3, y.f4⟩ : S36)); (case aB => exact HL7.out.below); (case aF => exact (fun k_ hk => Nat.le_trans HZ7.out hk)); (case aO => exact HR7.out); (case aS => exact below_size HL7.out.below); (case aL => rw [lng_len (by have := HKN.out; omega)]; have := HKN.out; have := HBL.out; omega); intro v84 w8 ho hb hg hat; obtain ⟨p1, p2, p3, p4⟩ := pau_app (HL7.out.sub (List.Sublist.cons _ (List.Sublist.refl _))) HGS.out HS7.out HA7.out HR7.out HZ7.out hb hg; have P1 := Aside0.mk p1; have P2 := Aside0.mk p2; have P3 := Aside0.mk p3; have P4 := Aside0.mk p4; have P5 := Aside0.mk ho; clear p1 p2 p3 p4 ho hb hg hat; (try clear hf)) | fail)
                    go_roundg ((rd_T39 L (i : Int)).f3.length - (k + 1) + 1)
                    case measure => have := HKN.out; have := HK.out; omega
                    case rel => exact ⟨k + 1, v84, rfl, int_succ k, ⟨Nat.lt_succ_self _, HKN.out⟩, P1, P2, P3, ⟨lng_step HKN.out HY.out (shS_three H3.out) ▸ P5.out⟩, P4⟩
                  · have HN3 := Aside0.mk h3
                    have h3b : (y.f0 == 3) = false := beq_eq_false_iff_ne.mpr h3
                    clear h3
                    by_cases h4 : y.f0 = 4
                    · obtain ⟨hy0, hy1⟩ := hbd.2.1 h4
                      have H4 := Aside0.mk h4
                      go_upto_region 22 with (first | fail)
                      generalize hwt : World.setCell _ _ _ = w7
                      have HL7 : Aside0 (Locs w w7 ((g14, #[.int .i64 y.f0, .int .i64 y.f1, .int .i64 (y.f2 + 1), .int .i64 y.f3, .int .i64 y.f4], 36) :: [(g9, #[.slice (some ⟨gr, 0, none⟩) L.length cv], 24), (g7, #[.int .i64 v, .int .i64 wk, .int .i64 tk, .int .i64 dp, .int .i64 sp], 28), (g3, #[.slice A0 L.length c0], 24)])) := ⟨by rw [← hwt]; exact HL6.out.set 0 rfl 2 _⟩
                      have HS7 : Aside0 (Kd.S k39 39 w7 w.heap.size (fun x => True ∧ x < s) (.slice (some ⟨gr, 0, none⟩) L.length cv) (part psS i L)) := ⟨by rw [← hwt]; exact Kd.S_far (p := ⟨g14, 2, none⟩) HS6.out (fun x hx => by have := hx.2; have := HZ6.out.1; show x ≠ g14; omega) _⟩
                      have HR7 : Aside0 (Kd.R k36 36 w7 w.heap.size (fun x => s ≤ x) V (lng k (rd_T39 L (i : Int)).f3)) := ⟨by rw [← hwt]; exact Kd.R_mono (Kd.R_far (p := ⟨g14, 2, none⟩) HR6.out (fun x hx => hx.2) _) (fun x hx => hx.1)⟩
                      have HA7 : Aside0 (w7.cell? ⟨gr, i * 4 + 3, none⟩ = some (.slice (some ⟨gi, 0, none⟩) (rd_T39 L (i : Int)).f3.length c3)) := ⟨by rw [← hwt, cell_far (by have := (S_okb HS6.out).2; have := HZ6.out.1; show gr ≠ g14; omega)]; exact HA6.out⟩
                      have HZ7 : Aside0 (s ≤ w7.heap.size) := ⟨by rw [← hwt]; exact Nat.le_trans HZ6.out.2 (by simp)⟩
                      clear hwt HL HL6 HS6 HR6 HA6 HZ6
                      have HL := HL7
                      (try clear hf); have hf := HL.out.facts; simp only [factsOf, List.cons_append, List.nil_append] at hf; skip
                      clear h4 h3b
                      go_wp2_with (first | ((with_reducible refine gate_builtin (b := .append) (xs := #[.tmp 81, .tmp 83]) rfl ?_); at_builtin; refine Kd.R_append k36 (w0 := w) w.heap.size rfl (.tmp 81) (.tmp 83) 37 36 (.agg #[(.int .i64 0), (.int .i64 0), (.int .i64 0), (.int .i64 0), (.int .i64 0)]) 40 rfl Tryd.underlying37 info36 rfl (by decide) (by omega) V (lng k (rd_T39 L (i : Int)).f3) (⟨y.f0, y.f1, (y.f2 + 1), y.f3, y.f4⟩ : S36) [.int .i64 y.f0, .int .i64 y.f1, .int .i64 (y.f2 + 1), .int .i64 y.f3, .int .i64 y.f4] (fun x => s ≤ x) (fun _ => False) rfl rfl ?aP (fun _ hk => hk.elim) ?aF ?aO ?aB ?aS ?aL ?_; (case aP => exact k36_mkM _ _ _ (⟨y.f0, y.f1, (y.f2 + 1), y.f3, y.f4⟩ : S36)); (case aB => exact HL7.out.below); (case aF => exact (fun k_ hk => Nat.le_trans HZ7.out hk)); (case aO => exact HR7.out); (case aS => exact below_size HL7.out.below); (case aL => rw [lng_len (by have := HKN.out; omega)]; have := HKN.out; have := HBL.out; omega); intro v84 w8 ho hb hg hat; obtain ⟨p1, p2, p3, p4⟩ := pau_app (HL7.out.sub (List.Sublist.cons _ (List.Sublist.refl _))) HGS.out HS7.out HA7.out HR7.out HZ7.out hb hg; have P1 := Aside0.mk p1; have P2 := Aside0.mk p2; have P3 := Aside0.mk p3; have P4 := Aside0.mk p4; have P5 := Aside0.mk ho; clear p1 p2 p3 p4 ho hb hg hat; (try clear hf)) | fail)
                      go_roundg ((rd_T39 L (i : Int)).f3.length - (k + 1) + 1)
                      case measure => have := HKN.out; have := HK.out; omega
                      case rel => exact ⟨k + 1, v84, rfl, int_succ k, ⟨Nat.lt_succ_self _, HKN.out⟩, P1, P2, P3, ⟨lng_step HKN.out HY.out (shS_four HN3.out H4.out) ▸ P5.out⟩, P4⟩
                    · have HN4 := Aside0.mk h4
                      have h4b : (y.f0 == 4) = false := beq_eq_false_iff_ne.mpr h4
                      have HZ7 : Aside0 (s ≤ w6.heap.size) := ⟨HZ6.out.2⟩
                      have HR7 : Aside0 (Kd.R k36 36 w6 w.heap.size (fun x => s ≤ x) V (lng k (rd_T39 L (i : Int)).f3)) := ⟨Kd.R_mono HR6.out (fun x hx => hx.1)⟩
                      have HL7 := HL6
                      have HS7 := HS6
                      have HA7 := HA6
                      clear h4
                      go_wp2_with (first | ((with_reducible refine gate_builtin (b := .append) (xs := #[.tmp 81, .tmp 83]) rfl ?_); at_builtin; refine Kd.R_append k36 (w0 := w) w.heap.size rfl (.tmp 81) (.tmp 83) 37 36 (.agg #[(.int .i64 0), (.int .i64 0), (.int .i64 0), (.int .i64 0), (.int .i64 0)]) 40 rfl Tryd.underlying37 info36 rfl (by decide) (by omega) V (lng k (rd_T39 L (i : Int)).f3) (⟨y.f0, y.f1, y.f2, y.f3, y.f4⟩ : S36) [.int .i64 y.f0, .int .i64 y.f1, .int .i64 y.f2, .int .i64 y.f3, .int .i64 y.f4] (fun x => s ≤ x) (fun _ => False) rfl rfl ?aP (fun _ hk => hk.elim) ?aF ?aO ?aB ?aS ?aL ?_; (case aP => exact k36_mkM _ _ _ (⟨y.f0, y.f1, y.f2, y.f3, y.f4⟩ : S36)); (case aB => exact HL7.out.below); (case aF => exact (fun k_ hk => Nat.le_trans HZ7.out hk)); (case aO => exact HR7.out); (case aS => exact below_size HL7.out.below); (case aL => rw [lng_len (by have := HKN.out; omega)]; have := HKN.out; have := HBL.out; omega); intro v84 w8 ho hb hg hat; obtain ⟨p1, p2, p3, p4⟩ := pau_app (HL7.out.sub (List.Sublist.cons _ (List.Sublist.refl _))) HGS.out HS7.out HA7.out HR7.out HZ7.out hb hg; have P1 := Aside0.mk p1; have P2 := Aside0.mk p2; have P3 := Aside0.mk p3; have P4 := Aside0.mk p4; have P5 := Aside0.mk ho; clear p1 p2 p3 p4 ho hb hg hat; (try clear hf)) | fail)
                      go_roundg ((rd_T39 L (i : Int)).f3.length - (k + 1) + 1)
                      case measure => have := HKN.out; have := HK.out; omega
                      case rel => exact ⟨k + 1, v84, rfl, int_succ k, ⟨Nat.lt_succ_self _, HKN.out⟩, P1, P2, P3, ⟨lng_step HKN.out HY.out (shS_other HN3.out HN4.out) ▸ P5.out⟩, P4⟩
              · have hk2 : (k : Int) = ((rd_T39 L (i : Int)).f3.length : Int) := by have := HK.out; omega
                have HKE := Aside0.mk hk
                obtain ⟨Al, cl, rfl⟩ := Kd.R_slice HR.out
                have hA := HA.out
                have hfr := S_fr HS.out i (by rw [part_len]; exact HIN.out)
                (try clear hf); have hf := HL.out.facts; simp only [factsOf, List.cons_append, List.nil_append] at hf; skip
                clear hk
                go_wp2_with (first | fail)
                go_roundg (L.length - (i + 1) + 1)
                case measure => have := HI.out; have := HIN.out; omega
                case rel =>
                  obtain ⟨q1, q2⟩ := pau_put HIN.out (by have := HKE.out; omega) HL.out HS.out HR.out
                  exact ⟨i + 1, (by first | exact int_succ i | (rw [wrap_nat (by have := HIN.out; have := HLEN.out.1; omega)])), ⟨⟨Nat.lt_succ_self _, HIN.out⟩, fun j hj => by
                    by_cases e : j = i
                    · rw [e]; exact HBL.out
                    · exact HI.out.2 j (by omega)⟩, ⟨q1⟩, ⟨q2⟩⟩
      · have hie : i = L.length := by have := HI.out.1; omega
        subst hie
        have hl : ∀ f ∈ L, f.f3.length < 512 := fun f hf => by
          obtain ⟨j, hj, rfl⟩ := List.getElem_of_mem hf
          have := HI.out.2 j hj
          rwa [rd39_nat hj] at this
        obtain ⟨s3, hlt, hev3⟩ := HFIN.out HSM.out hl
        have HE3 := Aside0.mk hev3
        have hgt : decide (sp < s3) = true := decide_eq_true hlt
        have hSe := HS.out
        rw [part_full psS (Nat.le_refl _)] at hSe
        have HSE := Aside0.mk hSe
        have hin2 : ¬ ((L.length : Int) < (L.length : Int)) := by omega
        clear hl hev3 hlt hSe HS hin
        (try clear hf); have hf := HL.out.facts; simp only [factsOf, List.cons_append, List.nil_append] at hf; skip
        go_upto_region 25 with (first | (go_at_call 14; have hcall := eval_paused (HT.out.below HL.out.below) HSE.out (Kd.C_below HC1.out HL.out.below) HCC.out.2 HE3.out; with_reducible refine hcall.mono ?_; clear hcall; rintro e_ wz ⟨rfl, hb_⟩; have HLn := Aside0.mk (HL.out.step hb_); clear HL hb_; have HL := HLn; clear HLn; (try clear hf); have hf := HL.out.facts; simp only [factsOf, List.cons_append, List.nil_append] at hf; skip) | ((with_reducible refine gate_dst (N := 15) rfl ?_); (try (refine gate_guard (by rfl) ?_; dsimp only)); refine box_locs (by repeat (first | exact HL.out | refine Locs.drew ?_ | refine Locs.drewN ?_ _)) ?hg (N := 15) ?hd (cs := #[.int .i64 0, .int .i64 0, .int .i64 0, .int .i64 0, .int .i64 0]) (t := 28) ?hr ?_; (case hd => rfl); (case hg => rfl); (case hr => first | (go_simp; done) | (go_simp; rfl)); intro g15 wb65 HLn HKb; clear HL; have HL := HLn; clear HLn HKb; (try clear hf); have hf := HL.out.facts; simp only [factsOf, List.cons_append, List.nil_append] at hf; skip))
        generalize hwt : World.setCell _ _ _ = w9
        have HLn : Aside0 (Locs w w9 ((g15, #[.int .i64 v, .int .i64 (wk + tk), .int .i64 tk, .int .i64 dp, .int .i64 s3], 28) :: [(g9, #[.slice (some ⟨gr, 0, none⟩) L.length cv], 24), (g7, #[.int .i64 v, .int .i64 wk, .int .i64 tk, .int .i64 dp, .int .i64 sp], 28), (g3, #[.slice A0 L.length c0], 24)])) := ⟨by rw [← hwt]; exact ((((((HL.out.set 0 rfl 0 (.int .i64 v)).set 0 rfl 1 (.int .i64 (wk + tk))).set 0 rfl 2 (.int .i64 tk)).set 0 rfl 3 (.int .i64 dp)).set 0 rfl 4 (.int .i64 s3)))⟩
        clear HL hwt
        have HL := HLn
        clear HLn
        (try clear hf); have hf := HL.out.facts; simp only [factsOf, List.cons_append, List.nil_append] at hf; skip
        go_wp2_with (first | fail)
        go_ret
        exact ⟨rfl, HL.out.below⟩

def plunderlaw6_SerialPause.f (k : Nat) (l0 : List S39) (l1 : List Int) (a2 : Int) : Option Bool := some true
theorem plunderlaw6_SerialPause.calls (k : Nat) (A0 : Option Addr) (c0 : Nat) (l0 : List S39) (A1 : Option Addr) (c1 : Nat) (l1 : List Int) (a2 : Int) (r : Bool) (w : World) (hTab : Tab w) (hr0 : Kd.C k39 w A0 l0.length l0) (hc0 : l0.length ≤ c0) (hr1 : Kd.C (Kd.int .i64) w A1 l1.length l1) (hc1 : l1.length ≤ c1) (h : plunderlaw6_SerialPause.f k l0 l1 a2 = some r) :
    Calls Tryd.prog 10 #[.agg #[.slice A0 l0.length c0], .slice A1 l1.length c1, .int .i64 a2] w fun e w' => e = .returned (.bool r) ∧ Below w.heap.size w w' := by
  obtain rfl := Option.some.inj h
  rcases both_cases pdS apS (l0.map fnS) l1 a2 with ⟨er, her, hev, -⟩ | ⟨hv, hf0, hf1, harg, rs, v, s, hw, hev, -⟩
  · exact pause_err A0 c0 l0 A1 c1 l1 a2 w hTab hr0 hc0 hr1 hc1 er her hev
  · obtain ⟨wk, tk, b1, b2, b3, b4, b5, b6, b7⟩ := pause_first hv hf0 hf1 harg hw
    rw [b5, b6] at hev
    exact pause_ok A0 c0 l0 A1 c1 l1 a2 w hTab hr0 hc0 hr1 hc1 v wk tk rs.deepest s hv b1 b2 b3 b4 hev b7
end Go.Proofs.YtcioegimmjppcaaDoor.P
