/- DagLazy, the plain law: for every list of edges, every number of processors, every list of ranks and every delay the law's function answers true. -/
import Derived.Test.YtbahnialbffkeaaLLazy
import Derived.Test.YtbahnialbffkeaaLJB
import Derived.Test.YtbahnialbffkeaaLOpensP
namespace Go.Proofs.Ytbahnialbffkeaa.P
open Go.RowKit Go.Proofs.YtbahnialbffkeaaW.PrintWords Go.Proofs.YtbahnialbffkeaaW.PrintLast Go.Proofs.YtbahnialbffkeaaW.PrintMore
theorem count_add (R : List Int) (K x : Int) : (R.map (· + K)).count (x + K) = R.count x := by
  induction R with
  | nil => rfl
  | cons a R ih =>
    rw [List.map_cons, List.count_cons, List.count_cons, ih]
    by_cases h : a = x
    · rw [h]; simp
    · have h2 : ¬ a + K = x + K := by omega
      simp [h, h2]
theorem rd_add (R : List Int) (K : Int) (i : Nat) (h : i < R.length) : rd (R.map (· + K)) (i : Int) = rd R (i : Int) + K := by
  rw [rdi R i h, rdi (R.map (· + K)) i (by simpa using h), List.getElem_map]
/-- what is put off is a schedule, but no greedy one -/
theorem late_vdt {N : Nat} {E : List S50} (hok : ∀ e ∈ E, okE (N : Int) e) {p K : Int} (hp1 : 1 ≤ p) (hK : 1 ≤ K) {R : List Int} (hR : R.length = N) (hs : posT R ∧ capT R p ∧ ordT E R) (hN : 0 < N) : vdt N E p (R.map (· + K)) = 1 := by
  have hpos : posT (R.map (· + K)) := fun x hx => by
    obtain ⟨r, hr, rfl⟩ := List.mem_map.mp hx
    have := hs.1 r hr
    omega
  refine vdt_lazy ⟨hpos, fun x hx => ?_, fun e he => ?_⟩ (fun hb => ?_)
  · obtain ⟨r, hr, rfl⟩ := List.mem_map.mp hx
    rw [count_add]
    exact hs.2.1 r hr
  · obtain ⟨b1, b2, b3⟩ := hok e he
    have h0 := rd_add R K e.f0.toNat (by omega)
    have h1 := rd_add R K e.f1.toNat (by omega)
    rw [show ((e.f0.toNat : Nat) : Int) = e.f0 from by omega] at h0
    rw [show ((e.f1.toNat : Nat) : Int) = e.f1 from by omega] at h1
    rw [h0, h1]
    have := hs.2.2 e he
    omega
  · have h0 := rd_add R K 0 (by omega)
    have h1 := hs.1 _ (rd_lt_mem (T := R) (i := 0) (by omega))
    have h2 := hb 0 hN 1 (by omega) (by rw [h0]; omega) (fun k hk => by
      obtain ⟨e, he, a1, a2⟩ := preds_mem hk
      obtain ⟨b1, b2, b3⟩ := hok e he
      omega)
    have h3 : (1 : Int) ∈ R.map (· + K) := by
      rw [← List.count_pos_iff]
      omega
    obtain ⟨r, hr, hr2⟩ := List.mem_map.mp h3
    have := hs.1 r hr
    have hr3 : r + K = 1 := hr2
    omega
theorem lazy_l0 (N : Nat) (hN : N ≤ 200) (E : List S50) (q p K : Int) (hK : 1 ≤ K ∧ K ≤ 1099511627776) (R : List Int) (hR : R.length = N) (hg : ∀ x ∈ R, 1 ≤ x ∧ x ≤ 200) (r : Bool) (next : Ev (fun k => plunderlaw7_DagLazy.l0 k q p K R (R.map (· + K)) (N : Int) (N : Int) E) r) :
    ∀ (d i : Nat), i + d = N → Ev (fun k => plunderlaw7_DagLazy.l0 k q p K R ((R.take i).map (· + K)) (i : Int) (N : Int) E) r := by
  intro d
  induction d with
  | zero =>
    intro i hi
    obtain rfl : i = N := by omega
    rw [List.take_of_length_le (by omega)]
    exact next
  | succ d ih =>
    intro i hi
    have hlt : i < R.length := by omega
    have h := ih (i + 1) (by omega)
    have hx := hg _ (List.getElem_mem hlt)
    rw [List.take_succ_eq_append_getElem hlt, List.map_append] at h
    refine Ev.step (fun k => ?_) h
    simp only [plunderlaw7_DagLazy.l0]
    rw [if_pos (by omega), if_pos (by omega), if_pos (by omega), if_pos (by simp; omega), rdi R i hlt, w64 (x := R[i] + K) (by omega) (by omega), w64s (by omega)]
    rfl
theorem DagLazy_pure (n : Int) (l : List S50) (a2 : Int) (o : List Int) (q : Int) (_ : (Lit.int .i64 n).wf = true) (_ : ∀ e ∈ l, gE e 0) (_ : (Lit.int .i64 a2).wf = true) (_ : ∀ e ∈ o, (Lit.int .i64 e).wf = true) (_ : (Lit.int .i64 q).wf = true) : ∃ k, plunderlaw7_DagLazy.f k n l a2 o q = some true := by
  obtain ⟨N, E, e1, e2, e3, hok, hc, hf⟩ := fit_ev n l
  obtain ⟨hm, hp1, hp⟩ := procs a2
  have hK0 := modI_bd q 1099511627776 (by omega)
  have hK : wrap64 (1 + modI q 1099511627776) = 1 + modI q 1099511627776 := w64 (by omega) (by omega)
  have hKb : 1 ≤ wrap64 (1 + modI q 1099511627776) ∧ wrap64 (1 + modI q 1099511627776) ≤ 1099511627776 := by rw [hK]; omega
  clear hK
  generalize hKK : wrap64 (1 + modI q 1099511627776) = K at hKb
  generalize hpp : wrap64 (1 + modI a2 64) = p at hp1 hp
  obtain ⟨R, r1, r2, ⟨r3, r4⟩, r5⟩ := listed_ev N E hok (by omega) (by omega) p hp1 hp o
  have hRb : ∀ x ∈ R, 1 ≤ x ∧ x ≤ 200 := fun x hx => by
    have := great_ge hx
    have := r3.1 x hx
    omega
  have v1 := dagJudge_ev (N : Int) E p (R.map (· + K)) (by omega) (fun x hx => by
    obtain ⟨r, hr, rfl⟩ := List.mem_map.mp hx
    have := hRb r hr
    omega)
  rw [judge_of N E hc p hp1 hp _ (by simpa using r2)] at v1
  refine Ev.rounds (r := true) ?_
  unfold plunderlaw7_DagLazy.f
  simp only [hm, mod_f q 1099511627776 (by omega) (by omega), Option.bind_some, hpp, hKK]
  refine Ev.bind hf ?_
  refine Ev.bind r1 ?_
  refine lazy_l0 N e2 E q p K (by omega) R r2 hRb true ?_ N 0 (by omega)
  refine Ev.step (f := fun k => (dag_Judge.f k (N : Int) E p (R.map (· + K))).bind fun bt147 => (if bt147.2 = 0 then (if (N : Int) = 0 then (some (bt147.1 == 2)) else (if bt147.1 = 1 then (if (E.length : Int) = 0 then (some true) else ((plunderlaw7_mod.f q (E.length : Int)).bind fun t149 => (if 0 ≤ t149 then (if t149 < (E.length : Int) then (if 0 ≤ ((rd_T50 E t149).f1) then (if ((rd_T50 E t149).f1) < (R.length : Int) then (if 0 ≤ ((rd_T50 E t149).f0) then (if ((rd_T50 E t149).f0) < (R.length : Int) then (if ((rd_T50 E t149).f0) = ((rd_T50 E t149).f1) then (none) else ((dag_Judge.f k (N : Int) E p ((R.set (((rd_T50 E t149).f0) : Int).toNat (rd R ((rd_T50 E t149).f1))).set (((rd_T50 E t149).f1) : Int).toNat (rd R ((rd_T50 E t149).f0)))).bind fun bt156 => (if bt156.2 = 0 then (some (bt156.1 == 0)) else (none)))) else (none)) else (none)) else (none)) else (none)) else (none)) else (none)))) else (some false))) else (some false))) (fun k => ?_) (Ev.bind v1 ?_)
  · simp only [plunderlaw7_DagLazy.l0]
    rw [if_neg (by omega)]
  · by_cases hN : N = 0
    · subst hN
      have hE : E = [] := by
        cases E with
        | nil => rfl
        | cons e E =>
          obtain ⟨b1, b2, b3⟩ := hok e List.mem_cons_self
          omega
      have hR0 : R = [] := List.length_eq_zero_iff.mp r2
      subst hE hR0
      rw [show ([] : List Int).map (· + K) = [] from rfl, vdt_busy r3 r4]
      exact Ev.now true
    · have hN0 : ¬ (N : Int) = 0 := by omega
      rw [late_vdt hok hp1 (by omega) r2 r3 (by omega)]
      simp only [if_true, if_neg hN0]
      by_cases hE : (E.length : Int) = 0
      · simp only [if_pos hE]
        exact Ev.now true
      · have hmb := modI_bd q (E.length : Int) (by omega)
        have hmf := mod_f q (E.length : Int) (by omega) (by omega)
        obtain ⟨m, hmm⟩ : ∃ m : Nat, (m : Int) = modI q (E.length : Int) := ⟨(modI q (E.length : Int)).toNat, by omega⟩
        rw [← hmm] at hmf
        have hlt : m < E.length := by omega
        obtain ⟨e, hee⟩ : ∃ e, e = E[m] := ⟨_, rfl⟩
        have hmem : e ∈ E := by rw [hee]; exact List.getElem_mem hlt
        obtain ⟨b1, b2, b3⟩ := hok e hmem
        have hord := r3.2.2 e hmem
        have g1 : 0 ≤ (m : Int) := by omega
        have g2 : (m : Int) < (E.length : Int) := by omega
        have g3 : 0 ≤ e.f1 := by omega
        have g4 : e.f1 < (R.length : Int) := by omega
        have g5 : e.f0 < (R.length : Int) := by omega
        have g6 : ¬ e.f0 = e.f1 := by omega
        simp only [if_neg hE, hmf, Option.bind_some, if_pos g1, if_pos g2, rd50 E m hlt, ← hee, if_pos g3, if_pos g4, if_pos b1, if_pos g5, if_neg g6]
        have hrd : ∀ k, 0 ≤ k → rd ((R.set e.f0.toNat (rd R e.f1)).set e.f1.toNat (rd R e.f0)) k = if k = e.f1 then rd R e.f0 else if k = e.f0 then rd R e.f1 else rd R k := fun k hk => by
          rw [rd_setJ _ e.f1 k _ g3 hk, List.length_set, rd_setJ R e.f0 k _ b1 hk]
          by_cases c1 : k = e.f1
          · rw [if_pos ⟨c1, g4⟩, if_pos c1]
          · rw [if_neg (fun h => c1 h.1), if_neg c1]
            by_cases c0 : k = e.f0
            · rw [if_pos ⟨c0, g5⟩, if_pos c0]
            · rw [if_neg (fun h => c0 h.1), if_neg c0]
        have hTl : ((R.set e.f0.toNat (rd R e.f1)).set e.f1.toNat (rd R e.f0)).length = N := by rw [List.length_set, List.length_set]; exact r2
        have v2 := dagJudge_ev (N : Int) E p ((R.set e.f0.toNat (rd R e.f1)).set e.f1.toNat (rd R e.f0)) (by omega) (fun x hx => by
          obtain ⟨i, hi, rfl⟩ := mem_rd hx
          rw [hTl] at hi
          have w0 := hRb _ (rd_mem b1 g5)
          have w1 := hRb _ (rd_mem g3 g4)
          have w2 := hRb _ (rd_lt_mem (T := R) (i := i) (by omega))
          rw [hrd (i : Int) (by omega)]
          split
          · omega
          · split <;> omega)
        rw [judge_of N E hc p hp1 hp _ hTl, vdt_no (fun h => by
          have h3 := h.2.2 e hmem
          rw [hrd e.f0 b1, hrd e.f1 g3, if_neg g6, if_pos rfl, if_pos rfl] at h3
          omega)] at v2
        refine Ev.bind v2 ?_
        exact Ev.now true
end Go.Proofs.Ytbahnialbffkeaa.P
