/- DagJudged, the plain law: for every list of edges, every number of processors and every list of times the law's function answers true. -/
import Derived.Test.YtbahnialbffkeaaDPx26
import Derived.Test.YtbahnialbffkeaaDJB
import Derived.Test.YtbahnialbffkeaaDOpensP
namespace Go.Proofs.Ytbahnialbffkeaa.P
open Go.RowKit Go.Proofs.YtbahnialbffkeaaW.PrintWords Go.Proofs.YtbahnialbffkeaaW.PrintLast Go.Proofs.YtbahnialbffkeaaW.PrintMore
theorem tab_set (n : Nat) (f : Int → Int) (i v : Int) (h0 : 0 ≤ i) (h : i < (n : Int)) : (tab n f).set i.toNat v = tab n (fun k => if k = i then v else f k) := by
  refine ext_rd (by rw [List.length_set, tab_length, tab_length]) (fun k a b => ?_)
  rw [List.length_set, tab_length] at b
  rw [rd_setJ (tab n f) i k v h0 a, tab_length, rd_tab n f k a b, rd_tab n (fun k => if k = i then v else f k) k a b]
  by_cases e : k = i
  · rw [if_pos ⟨e, h⟩, if_pos e]
  · rw [if_neg (fun h2 => e h2.1), if_neg e]
theorem tab_congr (n : Nat) {f g : Int → Int} (h : ∀ k, 0 ≤ k → k < (n : Int) → f k = g k) : tab n f = tab n g :=
  ext_rd (by rw [tab_length, tab_length]) (fun k a b => by rw [tab_length] at b; rw [rd_tab n f k a b, rd_tab n g k a b, h k a b])
theorem tab_snoc (n : Nat) (f : Int → Int) : tab (n + 1) f = tab n f ++ [f (n : Int)] := by simp [tab, List.range_succ]
theorem judged_l1 (N : Nat) (hN : N ≤ 200) (E : List S50) (o : List Int) (p S : Int) (r : Bool) (next : Ev (fun k => (dag_Judge.f k (N : Int) E p (tab N (rnk o))).bind fun bt => (if bt.2 = 0 then (if bt.1 < 0 then (plunderlaw7_DagJudged.j3 k p S (tab N (rnk o)) bt.1 true (N : Int) E) else (plunderlaw7_DagJudged.j3 k p S (tab N (rnk o)) bt.1 (decide (bt.1 > 2)) (N : Int) E)) else (plunderlaw7_DagJudged.j3 k p S (tab N (rnk o)) bt.1 true (N : Int) E))) r) :
    ∀ (d i : Nat), i + d = N → Ev (fun k => plunderlaw7_DagJudged.l1 k o p S (tab i (rnk o)) (i : Int) (N : Int) E) r := by
  intro d
  induction d with
  | zero =>
    intro i hi
    obtain rfl : i = N := by omega
    refine Ev.step (fun k => ?_) next
    simp only [plunderlaw7_DagJudged.l1]
    rw [if_neg (by omega)]
  | succ d ih =>
    intro i hi
    have h := ih (i + 1) (by omega)
    rw [tab_snoc] at h
    refine Ev.step (fun k => ?_) h
    simp only [plunderlaw7_DagJudged.l1]
    rw [if_pos (by omega), rank_f o (i : Int) (by omega), Option.bind_some, if_pos (by rw [tab_length]; omega), w64s (by omega)]
theorem judged_l0 (N : Nat) (hN : N ≤ 200) (E : List S50) (o : List Int) (p : Int) (r : Bool) (next : Ev (fun k => plunderlaw7_DagJudged.l0 k o p (tab N (fun k => k + 1)) (N : Int) (N : Int) E) r) :
    ∀ (d i : Nat), i + d = N → Ev (fun k => plunderlaw7_DagJudged.l0 k o p (tab N (fun k => if k < (i : Int) then k + 1 else 0)) (i : Int) (N : Int) E) r := by
  intro d
  induction d with
  | zero =>
    intro i hi
    obtain rfl : i = N := by omega
    have h := next
    rw [tab_congr i (f := fun k => if k < (i : Int) then k + 1 else 0) (g := fun k => k + 1) (fun k a b => if_pos b)]
    exact h
  | succ d ih =>
    intro i hi
    have h := ih (i + 1) (by omega)
    have e : (tab N (fun k => if k < (i : Int) then k + 1 else 0)).set (i : Int).toNat ((i + 1 : Nat) : Int) = tab N (fun k => if k < ((i + 1 : Nat) : Int) then k + 1 else 0) := by
      rw [tab_set N _ (i : Int) _ (by omega) (by omega)]
      refine tab_congr N (fun k a b => ?_)
      by_cases c : k = (i : Int)
      · rw [if_pos c, if_pos (by omega)]; omega
      · rw [if_neg c]
        by_cases c2 : k < (i : Int)
        · rw [if_pos c2, if_pos (by omega)]
        · rw [if_neg c2, if_neg (by omega)]
    rw [← e] at h
    refine Ev.step (fun k => ?_) h
    simp only [plunderlaw7_DagJudged.l0]
    rw [if_pos (by omega), if_pos (by omega), if_pos (by rw [tab_length]; omega), w64s (by omega)]
theorem DagJudged_pure (n : Int) (l : List S50) (q : Int) (o : List Int) (_ : (Lit.int .i64 n).wf = true) (_ : ∀ e ∈ l, gE e 0) (_ : (Lit.int .i64 q).wf = true) (ho : ∀ e ∈ o, (Lit.int .i64 e).wf = true) : ∃ k, plunderlaw7_DagJudged.f k n l q o = some true := by
  obtain ⟨N, E, e1, e2, e3, hok, hc, hf⟩ := fit_ev n l
  obtain ⟨hm, hp1, hp⟩ := procs q
  generalize hpp : wrap64 (1 + modI q 64) = p at hp1 hp
  -- the nodes in their numbers' order
  obtain ⟨a2, a3, a4⟩ := gr_greedy (n := N) (l := E) hok (p := 1) (by omega)
  rw [gr_one N E hok] at a2 a3 a4
  have a5 : great (tab N (fun k => k + 1)) ≤ N := busy_short N E hok 1 (by omega) _ a2 a3.2.2 a4
  have v1 := dagJudge_ev (N : Int) E 1 (tab N (fun k => k + 1)) (by omega) (great_max a5 (by omega))
  rw [judge_of N E hc _ (by omega) (by omega) _ a2, vdt_busy a3 a4] at v1
  have v2 := dagJudge_ev (N : Int) E p (tab N (fun k => k + 1)) (by omega) (great_max a5 (by omega))
  rw [judge_of N E hc _ hp1 hp _ a2] at v2
  have hsch : posT (tab N (fun k => k + 1)) ∧ capT (tab N (fun k => k + 1)) p ∧ ordT E (tab N (fun k => k + 1)) := ⟨a3.1, fun x hx => by have := a3.2.1 x hx; omega, a3.2.2⟩
  have hv2 : (vdt N E p (tab N (fun k => k + 1)) == 0) = false := by
    by_cases hb : busy N E p (tab N (fun k => k + 1))
    · rw [vdt_busy hsch hb]; rfl
    · rw [vdt_lazy hsch hb]; rfl
  have v3 := dagSpan_ev (N : Int) E (by omega)
  rw [span_of N E hc] at v3
  -- the times
  have hR : (tab N (rnk o)).length = N := tab_length _ _
  have hRm : ∀ x ∈ tab N (rnk o), x ≤ 9223372036854775807 := fun x hx => by
    obtain ⟨i, hi, rfl⟩ := mem_rd hx
    rw [hR] at hi
    rw [rd_tab N _ _ (by omega) (by omega)]
    unfold rnk
    split
    · exact (wf_i64 (ho _ (rd_mem (by omega) (by assumption)))).2
    · omega
  have v4 := dagJudge_ev (N : Int) E p (tab N (rnk o)) (by omega) hRm
  rw [judge_of N E hc _ hp1 hp _ hR] at v4
  generalize hRR : tab N (rnk o) = R at hR hRm v4
  have hS := span_bd N E hok
  have hG := great_nonneg R
  have hGm : great R ≤ 9223372036854775807 := by
    rcases great_is R with h | h
    · omega
    · exact hRm _ h
  have hp0 : ¬ p = 0 := by omega
  have hd : wrap64 (wrap64 ((N : Int) + p) - 1) = (N : Int) + p - 1 := by
    rw [w64 (x := (N : Int) + p) (by omega) (by omega), w64 (by omega) (by omega)]
  have hc0 : 0 ≤ ((N : Int) + p - 1) / p := Int.ediv_nonneg (by omega) (by omega)
  have hc1 : ((N : Int) + p - 1) / p ≤ (N : Int) + p - 1 := Int.ediv_le_self _ (by omega)
  have hj3 : Ev (fun k => plunderlaw7_DagJudged.j3 k p (great (ear (rowsOf N E) N)) R (vdt N E p R) false (N : Int) E) true := by
    by_cases hs : posT R ∧ capT R p ∧ ordT E R
    · have g1 := sched_span hok hR hs.1 hs.2.2
      have g2 := sched_work (by omega) hR hs.1 hs.2.1
      have g3 : ((N : Int) + p - 1) / p ≤ great R := by
        have := Int.ediv_lt_of_lt_mul (a := (N : Int) + p - 1) (b := great R + 1) (c := p) (by omega) (by rw [Int.add_mul, Int.one_mul, Int.mul_comm (great R) p]; omega)
        omega
      have hv0 : ¬ vdt N E p R = 0 := by
        by_cases hb : busy N E p R
        · rw [vdt_busy hs hb]; decide
        · rw [vdt_lazy hs hb]; decide
      refine Ev.step (f := fun k => (plunderlaw7_length.f k R).bind fun t => (if t < great (ear (rowsOf N E) N) then (some false) else (if p = 0 then (none) else (if t < (wrap64 (Int.tdiv (wrap64 ((wrap64 ((N : Int) + p)) - 1)) p)) then (some false) else (if vdt N E p R = 1 then (some true) else (if t ≤ (N : Int) then ((plunderlaw7_bounds.f (N : Int) (great (ear (rowsOf N E) N)) p t).bind fun t504 => (some t504)) else (some false))))))) (fun k => ?_) (Ev.bind (length_ev R (by omega)) ?_)
      · simp only [plunderlaw7_DagJudged.j3]
        rw [if_neg (by decide), if_neg hv0]
      · rw [hd, Int.tdiv_eq_ediv_of_nonneg (by omega), w64 (x := ((N : Int) + p - 1) / p) (by omega) (by omega)]
        have c1 : ¬ great R < great (ear (rowsOf N E) N) := by omega
        have c2 : ¬ great R < ((N : Int) + p - 1) / p := by omega
        simp only [if_neg c1, if_neg hp0, if_neg c2]
        by_cases hb : busy N E p R
        · have hs3 := busy_short N E hok p hp1 R hR hs.2.2 hb
          rw [vdt_busy hs hb]
          simp only [if_pos hs3, greedy_bounds e2 hok hp1 hp hR hs hb hs3, Option.bind_some]
          exact Ev.now true
        · rw [vdt_lazy hs hb]
          exact Ev.now true
    · rw [vdt_no hs]
      refine Ev.step (f := fun _ => some true) (fun k => ?_) (Ev.now _)
      simp only [plunderlaw7_DagJudged.j3]
      rw [if_neg (by decide), if_pos trivial]
  have hvr : ¬ vdt N E p R < 0 ∧ ¬ vdt N E p R > 2 := by
    by_cases hs : posT R ∧ capT R p ∧ ordT E R
    · by_cases hb : busy N E p R
      · rw [vdt_busy hs hb]; decide
      · rw [vdt_lazy hs hb]; decide
    · rw [vdt_no hs]; decide
  refine Ev.rounds (r := true) ?_
  unfold plunderlaw7_DagJudged.f
  simp only [hm, Option.bind_some, hpp]
  refine Ev.bind hf ?_
  have n0 : (0 : Int) ≤ (N : Int) := by omega
  have n1 : N ≤ 35184372088832 := by omega
  simp only [if_pos n0, Int.toNat_natCast, if_pos n1]
  have h0 := judged_l0 N e2 E o p true ?_ N 0 (by omega)
  · rw [zeros_tab N (fun k => if k < ((0 : Nat) : Int) then k + 1 else 0) (fun k a b => if_neg (by omega))]
    exact h0
  · refine Ev.step (f := fun k => ((dag_Judge.f k (N : Int) E 1 (tab N (fun k => k + 1))).bind fun bt491 => ((dag_Judge.f k (N : Int) E p (tab N (fun k => k + 1))).bind fun bt493 => ((dag_Span.f k (N : Int) E).bind fun bt495 => (if bt491.2 = 0 then (if bt493.2 = 0 then (if bt495.2 = 0 then (if bt491.1 = 2 then (plunderlaw7_DagJudged.j1 k o p bt495.1 (bt493.1 == 0) (N : Int) E) else (plunderlaw7_DagJudged.j1 k o p bt495.1 true (N : Int) E)) else (plunderlaw7_DagJudged.j1 k o p bt495.1 true (N : Int) E)) else (plunderlaw7_DagJudged.j1 k o p bt495.1 true (N : Int) E)) else (plunderlaw7_DagJudged.j1 k o p bt495.1 true (N : Int) E)))))) (fun k => ?_) ?_
    · simp only [plunderlaw7_DagJudged.l0]
      rw [if_neg (by omega)]
    · refine Ev.bind v1 ?_
      refine Ev.bind v2 ?_
      refine Ev.bind v3 ?_
      simp only [if_true, hv2]
      refine Ev.step (f := fun k => plunderlaw7_DagJudged.l1 k o p (great (ear (rowsOf N E) N)) (tab 0 (rnk o)) ((0 : Nat) : Int) (N : Int) E) (fun k => ?_) (judged_l1 N e2 E o p (great (ear (rowsOf N E) N)) true ?_ N 0 (by omega))
      · simp only [plunderlaw7_DagJudged.j1]
        rw [if_neg (by decide)]
        rfl
      · rw [hRR]
        refine Ev.bind v4 ?_
        simp only [if_true, if_neg hvr.1]
        rw [decide_eq_false hvr.2]
        exact hj3
end Go.Proofs.Ytbahnialbffkeaa.P
