/- races.First, races.Detect: their answers as plain functions, and their calls, in the print's form. -/
import Derived.Deep.RegionHeld3
import Derived.Test.YtkecgjmbamaejaaPAPx8
import Derived.Test.YtkecgjmbamaejaaPARD
import Derived.Test.YtkecgjmbamaejaaPARG
set_option linter.unusedVariables false
set_option linter.unusedSimpArgs false
namespace Go.Proofs.Ytkecgjmbamaejaa.P
open Go.RowKit Go.Proofs.YtkecgjmbamaejaaW.PrintWords Go.Proofs.YtkecgjmbamaejaaW.PrintLast Go.Proofs.YtkecgjmbamaejaaW.PrintMore
set_option linter.unusedVariables false
set_option linter.unusedSimpArgs false
set_option maxHeartbeats 1000000
set_option maxRecDepth 100000
def tchB (a0 a1 b0 b1 : Int) : Bool := decide (3 ≤ a0 ∧ 3 ≤ b0 ∧ a1 = b1 ∧ (a0 = 4 ∨ b0 = 4))
theorem touches_calls (a0 a1 b0 b1 : Int) (w : World) (ha : a0 ≤ 4) (hb : b0 ≤ 4) : Calls Try.prog 47 #[.agg #[.int .i64 a0, .int .i64 a1], .agg #[.int .i64 b0, .int .i64 b1]] w fun e w' => e = .returned (.bool (tchB a0 a1 b0 b1)) ∧ Below w.heap.size w w' := by
  have HL := Aside0.mk (Locs.nil w)
  have hu52 := Try.underlying52
  obtain ⟨P, hP⟩ : ∃ P : Ending → World → Prop, (fun e w' => e = .returned (.bool (tchB a0 a1 b0 b1)) ∧ Below w.heap.size w w') = P := ⟨_, rfl⟩
  have HP := Aside0.mk hP
  have HAB := Aside0.mk (And.intro ha hb)
  rw [hP]
  clear hP ha hb
  go_enter Try.func47, Try.ntmps47
  go_upto_region 1 with (first | ((with_reducible refine gate_dst (N := 2) rfl ?_); (try (refine gate_guard (by rfl) ?_; dsimp only)); refine box_locs (by repeat (first | exact HL.out | refine Locs.drew ?_ | refine Locs.drewN ?_ _)) ?hg (N := 2) ?hd (cs := #[.int .i64 a0, .int .i64 a1]) (t := 52) ?hr ?_; (case hd => rfl); (case hg => rfl); (case hr => first | (go_simp; done) | (go_simp; rfl)); intro g2 wb1 HLn HKb; clear HL; have HL := HLn; clear HLn HKb; (try clear hf); have hf := HL.out.facts; simp only [factsOf, List.cons_append, List.nil_append] at hf; skip) | ((with_reducible refine gate_dst (N := 3) rfl ?_); (try (refine gate_guard (by rfl) ?_; dsimp only)); refine box_locs (by repeat (first | exact HL.out | refine Locs.drew ?_ | refine Locs.drewN ?_ _)) ?hg (N := 3) ?hd (cs := #[.int .i64 b0, .int .i64 b1]) (t := 52) ?hr ?_; (case hd => rfl); (case hg => rfl); (case hr => first | (go_simp; done) | (go_simp; rfl)); intro g3 wb2 HLn HKb; clear HL; have HL := HLn; clear HLn HKb; (try clear hf); have hf := HL.out.facts; simp only [factsOf, List.cons_append, List.nil_append] at hf; skip))
  have fin : ∀ (r : Bool), tchB a0 a1 b0 b1 = r → ∀ W, Below w.heap.size w W → P (.returned (.bool r)) W := fun r hr W hW => by rw [← HP.out, hr]; exact ⟨rfl, hW⟩
  have HFIN := Aside0.mk fin
  clear fin
  have ca : a0 = 3 ∨ a0 = 4 ∨ (a0 ≠ 3 ∧ a0 ≠ 4) := by omega
  have cb : b0 = 3 ∨ b0 = 4 ∨ (b0 ≠ 3 ∧ b0 ≠ 4) := by omega
  have ce : a1 = b1 ∨ a1 ≠ b1 := by omega
  rcases ca with ca | ca
  · subst ca
    rcases cb with cb | cb
    · subst cb
      clear ce
      go_wp2_with (first | fail)
      all_goals exact HFIN.out false (decide_eq_false (by omega)) _ HL.out.below
    rcases cb with cb | cb
    · subst cb
      rcases ce with ce | ce
      · subst ce
        go_wp2_with (first | fail)
        exact HFIN.out true (decide_eq_true (by omega)) _ HL.out.below
      · have ce1 : (a1 == b1) = false := beq_eq_false_iff_ne.mpr ce
        have CE := Aside0.mk ce
        clear ce
        go_wp2_with (first | fail)
        exact HFIN.out false (decide_eq_false (by have := CE.out; omega)) _ HL.out.below
    have cb1 : (b0 != 3) = true := by simp [cb.1]
    have cb2 : (b0 != 4) = true := by simp [cb.2]
    have CB := Aside0.mk cb
    clear cb ce
    go_wp2_with (first | fail)
    exact HFIN.out false (decide_eq_false (by have := CB.out; have := HAB.out; omega)) _ HL.out.below
  rcases ca with ca | ca
  · subst ca
    rcases cb with cb | cb
    · subst cb
      rcases ce with ce | ce
      · subst ce
        go_wp2_with (first | fail)
        exact HFIN.out true (decide_eq_true (by omega)) _ HL.out.below
      · have ce1 : (a1 == b1) = false := beq_eq_false_iff_ne.mpr ce
        have CE := Aside0.mk ce
        clear ce
        go_wp2_with (first | fail)
        exact HFIN.out false (decide_eq_false (by have := CE.out; omega)) _ HL.out.below
    rcases cb with cb | cb
    · subst cb
      rcases ce with ce | ce
      · subst ce
        go_wp2_with (first | fail)
        exact HFIN.out true (decide_eq_true (by omega)) _ HL.out.below
      · have ce1 : (a1 == b1) = false := beq_eq_false_iff_ne.mpr ce
        have CE := Aside0.mk ce
        clear ce
        go_wp2_with (first | fail)
        exact HFIN.out false (decide_eq_false (by have := CE.out; omega)) _ HL.out.below
    have cb1 : (b0 != 3) = true := by simp [cb.1]
    have cb2 : (b0 != 4) = true := by simp [cb.2]
    have CB := Aside0.mk cb
    clear cb ce
    go_wp2_with (first | fail)
    exact HFIN.out false (decide_eq_false (by have := CB.out; have := HAB.out; omega)) _ HL.out.below
  have ca1 : (a0 != 3) = true := by simp [ca.1]
  have ca2 : (a0 != 4) = true := by simp [ca.2]
  have CA := Aside0.mk ca
  clear ca cb ce
  go_wp2_with (first | fail)
  exact HFIN.out false (decide_eq_false (by have := CA.out; have := HAB.out; omega)) _ HL.out.below
end Go.Proofs.Ytkecgjmbamaejaa.P
namespace Go.Proofs.Ytkecgjmbamaejaa.P
open Go.RowKit Go.Maps Go.Proofs.YtkecgjmbamaejaaW.PrintWords Go.Proofs.YtkecgjmbamaejaaW.PrintLast Go.Proofs.YtkecgjmbamaejaaW.PrintMore
set_option linter.unusedVariables false
set_option linter.unusedSimpArgs false
set_option maxHeartbeats 1000000
set_option maxRecDepth 100000
structure FR (w W : World) (bs : List (Nat × Array Value × TypeId)) (b r n : Nat) (D : DataW Unit) (left : Lit → Bool) (cnt : Nat) : Prop where
  rg : W.ranges Try.prog 2 (plainElem Try.prog 3) b r n D left cnt
  L : Locs w W bs
  lt : ∀ q ∈ bs, q.1 < r
  rb : w.heap.size ≤ r
theorem FR.next {w W W' : World} {bs : List (Nat × Array Value × TypeId)} {b r n : Nat} {D : DataW Unit} {left left' : Lit → Bool} {cnt cnt' : Nat} (h : FR w W bs b r n D left cnt) (hr : W'.ranges Try.prog 2 (plainElem Try.prog 3) b r n D left' cnt') (hg : W.grownBy W' (some r)) : FR w W' bs b r n D left' cnt' :=
  ⟨hr, h.L.grown (h.L.below.grown hg (below_size h.L.below) (fun k e => by injection e with e; have := h.rb; omega)) hg (fun q hq e => by injection e with e; have := h.lt q hq; omega), h.lt, h.rb⟩
def FirPost (l : List S52) (w : World) (e : Ending) (w' : World) : Prop := e = .returned (.tuple #[.agg #[.int .i64 (firstV l).1, .int .i64 (firstV l).2.1, .int .i64 (firstV l).2.2.1], .bool (firstV l).2.2.2.1, .int .i64 (firstV l).2.2.2.2]) ∧ Below w.heap.size w w'
theorem fr_state {w W : World} {g5 g2 : Nat} {c1 c2 : Int} (h : Locs w W [(g5, #[.int .i64 c1, .int .i64 c2], 58), (g2, #[.int .i64 0, .int .i64 0, .int .i64 0], 37)]) : (∀ j, W.cell? ⟨g5, j, none⟩ = #[Value.int .i64 c1, Value.int .i64 c2][j]?) ∧ (∀ j, W.cell? ⟨g2, j, none⟩ = #[Value.int .i64 0, .int .i64 0, .int .i64 0][j]?) ∧ ∀ j, W.frozen? ⟨g2, j, none⟩ = false := by
  have hf := h.facts
  simp only [factsOf] at hf
  exact ⟨hf.1.1, hf.2.1.1, hf.2.1.2⟩
theorem tq_step {w W W1 : World} {bs : List (Nat × Array Value × TypeId)} {base : Nat} {v : Value} {pl : List Int} (h : Locs w W bs ∧ Kd.R (Kd.int .i64) 3 W base (fun _ => True) v pl) (k : Below W.heap.size W W1) : Locs w W1 bs ∧ Kd.R (Kd.int .i64) 3 W1 base (fun _ => True) v pl :=
  ⟨h.1.step k, Kd.R_below h.2 k⟩
structure BelowBy (w : World) where
  W : World
  h : Below w.heap.size w W
theorem wp_region_below {P : Program} {id : Nat} {Q : Exit → Act → World → Prop} {a : Act} {w : World} {l : List Oper} (hm : P.follows .mixedOrders = true) (hB : Region.lexB .any l.toArray = true)
    (h : wpQuiet P l.toArray (fun w' => ∃ p : BelowBy w, w' = p.W) (fun a' => ∀ w', (∃ p : BelowBy w, w' = p.W) → Q .normal a' w') l a) : (Code.region id l.toArray true).wp P Q a w :=
  wp_region_quiet (C := fun w' => ∃ p : BelowBy w, w' = p.W) hm hB ⟨⟨w.drew, below_drew (Below.refl _ _)⟩, rfl⟩ (by simpa using h)
theorem calls_below {P : Program} {f : FuncId} {args : Array Value} {w : World} {p : BelowBy w} {v : Value} (h : Calls P f args p.W fun e w' => e = .returned v ∧ Below p.W.heap.size p.W w') : Calls P f args p.W fun e w'' => e = .returned v ∧ ∃ p : BelowBy w, w'' = p.W :=
  h.mono fun _ w'' ⟨he, hb⟩ => ⟨he, ⟨w'', below_step p.h hb⟩, rfl⟩
theorem first_calls (A0 : Option Addr) (c0 : Nat) (l0 : List S52) (w : World) (hr0 : Kd.C k52 w A0 l0.length l0) (hc0 : l0.length ≤ c0) (hw : wfB l0 = true) (hl : l0.length < 17592186044416) :
    Calls Try.prog 23 #[.slice A0 l0.length c0] w (FirPost l0 w) := by
  have HKK : Aside0 (∃ k, races_Check.f k l0 = some ((chk l0).1, (chk l0).2)) := ⟨(racesCheck_ev2 l0).rounds⟩
  have HC := Aside0.mk hr0
  have HW := Aside0.mk hw
  have HL := Aside0.mk (Locs.nil w)
  have hu58 := Try.underlying58
  have hu37 := Try.underlying37
  have hu52 := Try.underlying52
  obtain ⟨P, hP⟩ : ∃ P, FirPost l0 w = P := ⟨_, rfl⟩
  have HP := Aside0.mk hP
  rw [hP]
  clear hr0 hw hP hl
  obtain ⟨c1, hc1⟩ : ∃ x, (chk l0).1 = x := ⟨_, rfl⟩
  obtain ⟨c2, hc2⟩ : ∃ x, (chk l0).2 = x := ⟨_, rfl⟩
  rw [hc1, hc2] at HKK
  have HC1 := Aside0.mk hc1
  clear hc1 hc2
  go_enter Try.func23, Try.ntmps23
  go_upto_region 2 with (first | ((with_reducible refine gate_dst (N := 2) rfl ?_); (try (refine gate_guard (by rfl) ?_; dsimp only)); refine box_locs (by repeat (first | exact HL.out | refine Locs.drew ?_ | refine Locs.drewN ?_ _)) ?hg (N := 2) ?hd (cs := #[.int .i64 0, .int .i64 0, .int .i64 0]) (t := 37) ?hr ?_; (case hd => rfl); (case hg => rfl); (case hr => first | (go_simp; done) | (go_simp; rfl)); intro g2 wb1 HLn HKb; clear HL; have HL := HLn; clear HLn HKb; (try clear hf); have hf := HL.out.facts; simp only [factsOf, List.cons_append, List.nil_append] at hf; skip) | (go_at_call 37; have hcall := races_Check.calls HKK.out.choose A0 c0 l0 c1 c2 _ (Kd.C_below HC.out HL.out.below) hc0 HKK.out.choose_spec; (with_reducible refine hcall.mono ?_); clear hcall; rintro e_ w2 ⟨rfl, hb_⟩; have HLn := Aside0.mk (HL.out.step hb_); clear HL hb_; have HL := HLn; clear HLn; (try clear hf); have hf := HL.out.facts; simp only [factsOf, List.cons_append, List.nil_append] at hf; skip) | ((with_reducible refine gate_dst (N := 5) rfl ?_); (try (refine gate_guard (by rfl) ?_; dsimp only)); refine box_locs (by repeat (first | exact HL.out | refine Locs.drew ?_ | refine Locs.drewN ?_ _)) ?hg (N := 5) ?hd (cs := #[.int .i64 0, .int .i64 0]) (t := 58) ?hr ?_; (case hd => rfl); (case hg => rfl); (case hr => first | (go_simp; done) | (go_simp; rfl)); intro g5 wb3 HLn HKb; clear HL; have HL := HLn; clear HLn HKb; (try clear hf); have hf := HL.out.facts; simp only [factsOf, List.cons_append, List.nil_append] at hf; skip))
  generalize hwt : World.setCell _ _ _ = w3
  have HLn : Aside0 (Locs w w3 [(g5, #[.int .i64 c1, .int .i64 c2], 58), (g2, #[.int .i64 0, .int .i64 0, .int .i64 0], 37)]) := ⟨by rw [← hwt]; exact (HL.out.set 0 rfl 0 _).set 0 rfl 1 _⟩
  clear HL hwt; have HL := HLn; clear HLn; (try clear hf); have hf := HL.out.facts; simp only [factsOf, List.cons_append, List.nil_append] at hf; skip
  by_cases h0 : c1 = 0
  · subst h0
    have hg := chk_good HC1.out
    have HG := Aside0.mk hg
    clear hg
    go_upto_region 5 with (first | (go_at_call 46; have hcall := walk_good A0 c0 l0 _ (Kd.C_below HC.out HL.out.below) hc0 HG.out HW.out; (with_reducible refine hcall.mono ?_); clear hcall; rintro e_ w4 ⟨⟨bf, nf, F, rfl, ⟨D, hM, hD⟩, hF1, hF2, hnf, hbf⟩, hb_⟩; have HM := Aside0.mk (And.intro hM (And.intro hD (And.intro hnf hbf))); have HF : Aside0 (WalkF l0 F) := ⟨⟨hF1, hF2⟩⟩; have HLn := Aside0.mk (HL.out.step hb_); clear HL hb_ hM hD hF1 hF2 hnf hbf; have HL := HLn; clear HLn; (try clear hf); have hf := HL.out.facts; simp only [factsOf, List.cons_append, List.nil_append] at hf; skip))
    by_cases hs : Maps.size D = 0
    · have HNO := Aside0.mk (fm_size0 HM.out.2.1 hs)
      go_wp2_with (first | (at_len; refine wpList_len_own _ rfl _ 69 rfl 2 3 Try.underlying69 _ bf nf D rfl HM.out.1 ?_) | fail)
      generalize hwt : World.setCell _ _ _ = w5
      have HLn : Aside0 (Locs w w5 [(g5, #[.int .i64 0, .int .i64 c2], 58), (g2, #[.int .i64 0, .int .i64 0, .int .i64 0], 37)]) := ⟨by rw [← hwt]; exact (((HL.out.set 1 rfl 0 _).set 1 rfl 1 _).set 1 rfl 2 _)⟩
      clear HL hwt; have HL := HLn; clear HLn; (try clear hf); have hf := HL.out.facts; simp only [factsOf, List.cons_append, List.nil_append] at hf; skip
      go_wp2_with (first | fail)
      refine bodyPost_ret (results_ctt rfl _ _ g2 37 #[.int .i64 0, .int .i64 0, .int .i64 0] (0, 0) _ rfl (HL.out.at 1 rfl) Try.underlying37 rfl (by kernel_rfl)) rfl ?_
      have e := firstV_none HC1.out (HF.out.none HNO.out)
      rw [← HP.out]
      exact ⟨by rw [e]; rfl, HL.out.below⟩
    · have hs0 : ((Maps.size D : Int) == 0) = false := beq_eq_false_iff_ne.mpr (by omega)
      have HSZ := Aside0.mk hs
      clear hs
      go_upto_block 0 with (first | (at_len; refine wpList_len_own _ rfl _ 69 rfl 2 3 Try.underlying69 _ bf nf D rfl HM.out.1 ?_) | (at_range; refine wpList_range_own _ rfl _ 69 rfl 2 3 locLaw Try.underlying69 _ bf nf D rfl HM.out.1 ?_; intro w5 hrg hgr hsz))
      go_frame
      have hrb : w.heap.size ≤ w4.heap.size := below_size HL.out.below
      have hbs := HL.out.lt
      have HS : Aside0 (FR w w5 [(g5, #[.int .i64 0, .int .i64 c2], 58), (g2, #[.int .i64 0, .int .i64 0, .int .i64 0], 37)] bf w4.heap.size nf D (Maps.has D) (Maps.size D)) := ⟨hrg, HL.out.grown (HL.out.below.grown hgr hrb (fun k e => by cases e)) hgr (fun _ _ e => by cases e), hbs, hrb⟩
      have HKS : Aside0 (MK l0 F (Maps.has D) l0.length) := ⟨MK.start HM.out.2.1⟩
      obtain ⟨gr, hgr2⟩ : ∃ g, w4.heap.size = g := ⟨_, rfl⟩
      rw [hgr2] at HS ⊢
      clear hrg hgr hsz hrb hbs hgr2 HL hf
      go_wp2_with (first | fail)
      go_loopg [7] (Maps.size D + 1) (fun kq v7 w' => ∃ (m cnt : Nat) (left : Lit → Bool), v7 = .int .i64 (m : Int) ∧ Aside0 (cnt < kq ∧ (m = l0.length → cnt = Maps.size D)) ∧ Aside0 (MK l0 F left m) ∧ Aside0 (FR w w' [(g5, #[.int .i64 0, .int .i64 c2], 58), (g2, #[.int .i64 0, .int .i64 0, .int .i64 0], 37)] bf gr nf D left cnt))
      case atStart => exact ⟨l0.length, _, _, rfl, ⟨Nat.lt_succ_self _, fun _ => rfl⟩, HKS, HS⟩
      case round =>
        clear HS HKS
        obtain ⟨m, cnt, left, rfl, HN, HK, HS⟩ := hrel
        go_wp2_with (first | (at_next; refine wpList_next_ranges_ii _ rfl _ rfl 2 3 .i64 .i64 locLaw Try.underlying2 Try.underlying3 bf gr nf D left cnt rfl HS.out.rg ?_ ?_) | fail)
        · intro hcnt hl0
          have HDN := Aside0.mk (HK.out.done HF.out hl0)
          have hml : m < l0.length := by
            have h1 := HK.out.le
            have h2 := HN.out.2
            have h3 := HSZ.out
            omega
          have HML := Aside0.mk hml
          have HL := Aside0.mk HS.out.L
          obtain ⟨pl, hpl, hpn, hpi⟩ := places_ev HG.out
          have HPL := Aside0.mk hpl.rounds
          have HPI := Aside0.mk (And.intro hpn hpi)
          have hml2 : (m : Int) < (l0.length : Int) := by omega
          have hml3 : (m : Int) < (pl.length : Int) := by omega
          have hm4 : (m : Int) ≤ 4096 := by have := HG.out.len; omega
          obtain ⟨ad, rfl, -, -⟩ := at_T52 (Kd.C_below HC.out HL.out.below) (m : Int) (by omega) hml2
          have HDC : Aside0 (∀ W, Below w.heap.size w W → ∀ k : Nat, k < l0.length → W.cell? (ad.add (k * 2)) = some (.int .i64 ((kdsOf l0).getD k 0)) ∧ W.cell? ⟨(ad.add (k * 2)).block, (ad.add (k * 2)).off + 1, none⟩ = some (.int .i64 ((lcsOf l0).getD k 0))) := ⟨fun W hW k hk => by
            obtain ⟨ad2, e2, h1, h2⟩ := at_T52 (Kd.C_below HC.out hW) (k : Int) (by omega) (by omega)
            cases e2
            rw [Int.toNat_natCast] at h1 h2
            rw [kds_at l0 k hk, lcs_at l0 k hk]
            exact ⟨h1, h2⟩⟩
          clear hcnt hl0 HS HK hml hpl hpn hpi
          (try clear hf); have hf := HL.out.facts; simp only [factsOf, List.cons_append, List.nil_append] at hf; skip
          go_upto_region 13 with (first | (go_at_call 45; have hcall := races_places.calls HPL.out.choose (some ad) c0 l0 pl _ (Kd.C_below HC.out HL.out.below) hc0 HPL.out.choose_spec; (with_reducible refine hcall.mono ?_); clear hcall; rintro e_ w6 ⟨vp, rfl, hR, hb_⟩; have HR := Aside0.mk (Kd.R_lower hR (below_size HL.out.below)); have HLn := Aside0.mk (HL.out.step hb_); clear HL hb_ hR; have HL := HLn; clear HLn; (try clear hf); have hf := HL.out.facts; simp only [factsOf, List.cons_append, List.nil_append] at hf; skip))
          obtain ⟨ga, ca, hvp, -⟩ := Kd.R_form HR.out (by omega)
          subst hvp
          have HPC : Aside0 (∀ W, Kd.R (Kd.int .i64) 3 W w.heap.size (fun _ => True) (.slice (some ⟨ga, 0, none⟩) pl.length ca) pl → ∀ k : Nat, k < l0.length → W.cell? ⟨ga, k, none⟩ = some (.int .i64 (((ord l0).idxOf k : Nat) : Int))) := ⟨fun W hW k hk => by
            have h1 := (Kd.R_celln (0 : Int) hW (k : Int) (by omega) (by have := HPI.out.1; omega)).1
            rw [Int.toNat_natCast] at h1
            rw [h1]
            exact congrArg some (congrArg (Value.int .i64) (HPI.out.2 k hk))⟩
          have HS : Aside0 (Locs w w6 [(g5, #[.int .i64 0, .int .i64 c2], 58), (g2, #[.int .i64 0, .int .i64 0, .int .i64 0], 37)] ∧ Kd.R (Kd.int .i64) 3 w6 w.heap.size (fun _ => True) (.slice (some ⟨ga, 0, none⟩) pl.length ca) pl) := ⟨HL.out, HR.out⟩
          clear HL HR hf
          go_wp2_with (first | fail)
          go_loopg [40] (m + 1) (fun kq v40 w' => ∃ i : Nat, v40 = .int .i64 (i : Int) ∧ Aside0 (m - i < kq ∧ i ≤ m) ∧ Aside0 (∀ k, k < i → ¬ (Touch (kdsOf l0) (lcsOf l0) k m ∧ ¬ Ahead (kdsOf l0) k m)) ∧ Aside0 (Locs w w' [(g5, #[.int .i64 0, .int .i64 c2], 58), (g2, #[.int .i64 0, .int .i64 0, .int .i64 0], 37)] ∧ Kd.R (Kd.int .i64) 3 w' w.heap.size (fun _ => True) (.slice (some ⟨ga, 0, none⟩) pl.length ca) pl))
          case atStart => exact ⟨0, rfl, ⟨by omega, by omega⟩, ⟨fun k hk => absurd hk (Nat.not_lt_zero _)⟩, HS⟩
          case round =>
            clear HS
            obtain ⟨i, rfl, HI, HNO, HS⟩ := hrel
            by_cases him : i < m
            · have him2 : (i : Int) < (m : Int) := by omega
              have hil : (i : Int) < (l0.length : Int) := by omega
              have hip : (i : Int) < (pl.length : Int) := by omega
              have hi4 : (i : Int) ≤ 4096 := by omega
              have HIM := Aside0.mk him
              obtain ⟨ki, hki⟩ : ∃ x, (kdsOf l0).getD i 0 = x := ⟨_, rfl⟩
              obtain ⟨li, hli⟩ : ∃ x, (lcsOf l0).getD i 0 = x := ⟨_, rfl⟩
              obtain ⟨km, hkm⟩ : ∃ x, (kdsOf l0).getD m 0 = x := ⟨_, rfl⟩
              obtain ⟨lm, hlm⟩ : ∃ x, (lcsOf l0).getD m 0 = x := ⟨_, rfl⟩
              obtain ⟨pi, hpi⟩ : ∃ x, (ord l0).idxOf i = x := ⟨_, rfl⟩
              obtain ⟨pm, hpm⟩ : ∃ x, (ord l0).idxOf m = x := ⟨_, rfl⟩
              have hdi : ∀ W, Below w.heap.size w W → _ := fun W hW => HDC.out W hW i (by have := HML.out; omega)
              have hdm : ∀ W, Below w.heap.size w W → _ := fun W hW => HDC.out W hW m HML.out
              rw [hki, hli] at hdi
              rw [hkm, hlm] at hdm
              have hqi := fun W hW => HPC.out W hW i (by have := HML.out; omega)
              have hqm := fun W hW => HPC.out W hW m HML.out
              rw [hpi] at hqi
              rw [hpm] at hqm
              have HCF := Aside0.mk (And.intro hdi (And.intro hdm (And.intro hqi hqm)))
              obtain ⟨tb, htb⟩ : ∃ b, tchB ki li km lm = b := ⟨_, rfl⟩
              have HTC : Aside0 (∀ W, Calls Try.prog 47 #[.agg #[.int .i64 ki, .int .i64 li], .agg #[.int .i64 km, .int .i64 lm]] W fun e w' => e = .returned (.bool tb) ∧ Below W.heap.size W w') := ⟨fun W => by
                have h := touches_calls ki li km lm W (by rw [← hki]; exact (HG.out.knd i (by have := HML.out; omega)).2) (by rw [← hkm]; exact (HG.out.knd m HML.out).2)
                rw [htb] at h
                exact h⟩
              have HTB : Aside0 (tb = true ↔ Touch (kdsOf l0) (lcsOf l0) i m) := ⟨by rw [← htb, ← hki, ← hkm, ← hli, ← hlm]; exact decide_eq_true_iff⟩
              have HAH : Aside0 (pi < pm ↔ Ahead (kdsOf l0) i m) := ⟨by rw [← hpi, ← hpm]; exact second_ahead HG.out HIM.out HML.out⟩
              have HNE : Aside0 (pi ≠ pm) := ⟨by rw [← hpi, ← hpm]; exact idx_ne HG.out (by have := HML.out; omega) HML.out (by omega)⟩
              have HLM := Aside0.mk hlm
              clear him hki hli hkm hlm hpi hpm hdi hdm hqi hqm htb
              have hfp : ∀ p : BelowBy wr, (p.W.cell? (ad.add (i * 2)) = some (.int .i64 ki) ∧ p.W.cell? ⟨(ad.add (i * 2)).block, (ad.add (i * 2)).off + 1, none⟩ = some (.int .i64 li)) ∧ (p.W.cell? (ad.add (m * 2)) = some (.int .i64 km) ∧ p.W.cell? ⟨(ad.add (m * 2)).block, (ad.add (m * 2)).off + 1, none⟩ = some (.int .i64 lm)) ∧ p.W.cell? ⟨ga, i, none⟩ = some (.int .i64 (pi : Int)) ∧ p.W.cell? ⟨ga, m, none⟩ = some (.int .i64 (pm : Int)) := fun p => by
                have h := tq_step HS.out p.h
                exact ⟨HCF.out.1 p.W h.1.below, HCF.out.2.1 p.W h.1.below, HCF.out.2.2.1 p.W h.2, HCF.out.2.2.2 p.W h.2⟩
              go_upto_region 16 with (first | fail)
              cases tb with
              | false =>
                haveI hinh : Inhabited (BelowBy wr) := ⟨⟨wr, Below.refl _ _⟩⟩; (refine wp_region_below (by kernel_rfl) (by kernel_rfl) ?_); (repeat (go_big_quiet_step ((go_at_call 47; exact calls_below (HTC.out _))))); (refine wpQuiet_nil ?_); rintro _ ⟨pw, rfl⟩; clear hfp hinh; obtain ⟨wS, hbS⟩ := pw; dsimp only; have HSn := Aside0.mk (tq_step HS.out hbS); clear HS; have HS := HSn; clear HSn hbS
                go_wp2_with (first | fail)
                go_roundg (m - (i + 1) + 1)
                case measure => have := HI.out.1; have := HIM.out; omega
                case rel => exact ⟨i + 1, (by first | rfl | rw [wrap_ix (by have := HIM.out; omega)] | simp), ⟨by omega, by have := HIM.out; omega⟩, ⟨fun k hk => (Nat.lt_or_eq_of_le (Nat.le_of_lt_succ hk)).elim (fun h => HNO.out k h) (fun h => by rw [h]; exact fun hq => by have := HTB.out.2 hq.1; simp at this)⟩, HS⟩
              | true =>
                by_cases hgt : pm < pi
                · have hgt2 : (pi : Int) > (pm : Int) := by omega
                  have HGT := Aside0.mk hgt
                  clear hgt
                  haveI hinh : Inhabited (BelowBy wr) := ⟨⟨wr, Below.refl _ _⟩⟩; (refine wp_region_below (by kernel_rfl) (by kernel_rfl) ?_); (repeat (go_big_quiet_step ((go_at_call 47; exact calls_below (HTC.out _))))); (refine wpQuiet_nil ?_); rintro _ ⟨pw, rfl⟩; clear hfp hinh; obtain ⟨wS, hbS⟩ := pw; dsimp only; have HSn := Aside0.mk (tq_step HS.out hbS); clear HS; have HS := HSn; clear HSn hbS
                  have hcm := HCF.out.2.1 _ HS.out.1.below
                  have HL := Aside0.mk HS.out.1
                  clear HS
                  (try clear hf); have hf := HL.out.facts; simp only [factsOf, List.cons_append, List.nil_append] at hf; skip
                  go_wp2_with (first | fail)
                  generalize hwt : World.setCell _ _ _ = w9
                  have HLn : Aside0 (Locs w w9 [(g5, #[.int .i64 0, .int .i64 c2], 58), (g2, #[.int .i64 (m : Int), .int .i64 (i : Int), .int .i64 lm], 37)]) := ⟨by rw [← hwt]; exact (((HL.out.set 1 rfl 0 _).set 1 rfl 1 _).set 1 rfl 2 _)⟩
                  clear HL hwt; have HL := HLn; clear HLn; (try clear hf); have hf := HL.out.facts; simp only [factsOf, List.cons_append, List.nil_append] at hf; skip
                  go_wp2_with (first | fail)
                  refine bodyPost_ret (results_ctt rfl _ _ g2 37 #[.int .i64 (m : Int), .int .i64 (i : Int), .int .i64 lm] (0, 0) _ rfl (HL.out.at 1 rfl) Try.underlying37 rfl (by kernel_rfl)) rfl ?_
                  have e := firstV_some HC1.out HML.out HDN.out.2 HIM.out ⟨HTB.out.1 (by simp), fun h => by have := HAH.out.2 h; have := HGT.out; omega⟩ HNO.out
                  rw [← HP.out]
                  exact ⟨by rw [e, HLM.out]; rfl, HL.out.below⟩
                · have hgt2 : ¬ (pi : Int) > (pm : Int) := by omega
                  have HGT := Aside0.mk hgt
                  clear hgt
                  haveI hinh : Inhabited (BelowBy wr) := ⟨⟨wr, Below.refl _ _⟩⟩; (refine wp_region_below (by kernel_rfl) (by kernel_rfl) ?_); (repeat (go_big_quiet_step ((go_at_call 47; exact calls_below (HTC.out _))))); (refine wpQuiet_nil ?_); rintro _ ⟨pw, rfl⟩; clear hfp hinh; obtain ⟨wS, hbS⟩ := pw; dsimp only; have HSn := Aside0.mk (tq_step HS.out hbS); clear HS; have HS := HSn; clear HSn hbS
                  go_wp2_with (first | fail)
                  go_roundg (m - (i + 1) + 1)
                  case measure => have := HI.out.1; have := HIM.out; omega
                  case rel => exact ⟨i + 1, (by first | rfl | rw [wrap_ix (by have := HIM.out; omega)] | simp), ⟨by omega, by have := HIM.out; omega⟩, ⟨fun k hk => (Nat.lt_or_eq_of_le (Nat.le_of_lt_succ hk)).elim (fun h => HNO.out k h) (fun h => by rw [h]; exact fun hq => hq.2 (HAH.out.1 (by have := HGT.out; have := HNE.out; omega)))⟩, HS⟩
            · have hlt : ¬ ((i : Int) < (m : Int)) := by omega
              have hx := HDN.out.1 HML.out
              obtain ⟨x, h1, h2⟩ := hx
              exact absurd h2 (HNO.out x (by omega))
        · intro x c_ w6 cnt1 hwx hwc hlx hat hrg1 hlt hg1 hs1 hen
          obtain ⟨j, hj, hcj⟩ := fm_hit HM.out.2.1 hat
          have HSn := Aside0.mk (HS.out.next hrg1 hg1)
          have HKn := Aside0.mk (HK.out.step HF.out hj)
          have HLT := Aside0.mk hlt
          have HJL := Aside0.mk (HF.out.hit x j hj).1
          clear HS HK hwx hwc hlx hat hrg1 hlt hg1 hs1 hj
          subst hcj
          have HS := HSn
          clear HSn
          go_wp2_with (first | fail)
          go_roundg (cnt1 + 1)
          case measure => have := HN.out.1; have := HLT.out; omega
          case rel => exact ⟨min m j, cnt1, _, congrArg (Value.int .i64) (by omega), ⟨by omega, fun e => by have := HJL.out; omega⟩, ⟨HKn.out⟩, HS⟩
  · have h0b : (c1 == 0) = false := beq_eq_false_iff_ne.mpr h0
    have H0 := Aside0.mk h0
    clear h0
    go_upto_region 3 with (first | fail)
    go_region_held3 (fun W' => (∀ j, W'.cell? ⟨g5, j, none⟩ = #[Value.int .i64 c1, Value.int .i64 c2][j]?) ∧ (∀ j, W'.cell? ⟨g2, j, none⟩ = #[Value.int .i64 0, .int .i64 0, .int .i64 0][j]?) ∧ ∀ j, W'.frozen? ⟨g2, j, none⟩ = false) (first | exact fr_state HL.out.drew | exact fr_state HL.out | exact fr_state (((HL.out.set 1 rfl 0 _).set 1 rfl 1 _).set 1 rfl 2 _).drew | exact fr_state (((HL.out.set 1 rfl 0 _).set 1 rfl 1 _).set 1 rfl 2 _)) (first | fail)
    generalize hwt : World.drew _ = w4
    have HLn : Aside0 (Locs w w4 [(g5, #[.int .i64 c1, .int .i64 c2], 58), (g2, #[.int .i64 0, .int .i64 0, .int .i64 0], 37)]) := ⟨by rw [← hwt]; exact (((HL.out.set 1 rfl 0 _).set 1 rfl 1 _).set 1 rfl 2 _).drew⟩
    clear HL hwt; have HL := HLn; clear HLn; (try clear hf); have hf := HL.out.facts; simp only [factsOf, List.cons_append, List.nil_append] at hf; skip
    go_wp2_with (first | fail)
    refine bodyPost_ret (results_ctt rfl _ _ g2 37 #[.int .i64 0, .int .i64 0, .int .i64 0] (0, 0) _ rfl (HL.out.at 1 rfl) Try.underlying37 rfl (by kernel_rfl)) rfl ?_
    have e := firstV_bad (l := l0) (by rw [HC1.out]; exact H0.out)
    rw [← HP.out]
    exact ⟨by rw [e, HC1.out]; rfl, HL.out.below⟩
end Go.Proofs.Ytkecgjmbamaejaa.P
namespace Go.Proofs.Ytkecgjmbamaejaa.P
open Go.RowKit Go.Proofs.YtkecgjmbamaejaaW.PrintWords Go.Proofs.YtkecgjmbamaejaaW.PrintLast Go.Proofs.YtkecgjmbamaejaaW.PrintMore
set_option linter.unusedVariables false
end Go.Proofs.Ytkecgjmbamaejaa.P
