/- DagGraham, the plain law: for every list of edges and every number of processors the law's function answers true. -/
import Derived.Test.YtbahnialbffkeaaGPx27
import Derived.Test.YtbahnialbffkeaaGJB
import Derived.Test.YtbahnialbffkeaaGOpensP
namespace Go.Proofs.Ytbahnialbffkeaa.P
open Go.RowKit Go.Proofs.YtbahnialbffkeaaW.PrintWords Go.Proofs.YtbahnialbffkeaaW.PrintLast Go.Proofs.YtbahnialbffkeaaW.PrintMore
theorem twice (N S p G c M : Int) (hp : 1 ≤ p) (hM : 0 ≤ M) (h1 : p * G ≤ N + (p - 1) * S) (h2 : N ≤ p * c) (h3 : S ≤ M) (h4 : c ≤ M) : G ≤ 2 * M := by
  refine Int.not_lt.mp (fun h => ?_)
  have a1 : p * c ≤ p * M := Int.mul_le_mul_of_nonneg_left h4 (by omega)
  have a2 : (p - 1) * S ≤ (p - 1) * M := Int.mul_le_mul_of_nonneg_left h3 (by omega)
  have a3 : p * (2 * M + 1) ≤ p * G := Int.mul_le_mul_of_nonneg_left (by omega) (by omega)
  have a4 : p * (2 * M + 1) = 2 * (p * M) + p := by rw [Int.mul_add, Int.mul_one, Int.mul_left_comm]
  have a5 : (p - 1) * M = p * M - M := by rw [Int.sub_mul, Int.one_mul]
  omega
theorem DagGraham_pure (n : Int) (l : List S50) (q : Int) (_ : (Lit.int .i64 n).wf = true) (_ : ∀ e ∈ l, gE e 0) (_ : (Lit.int .i64 q).wf = true) : ∃ k, plunderlaw7_DagGraham.f k n l q = some true := by
  obtain ⟨N, E, e1, e2, e3, hok, hc, hf⟩ := fit_ev n l
  obtain ⟨hm, hp1, hp⟩ := procs q
  generalize hpp : wrap64 (1 + modI q 64) = p at hp1 hp
  obtain ⟨r2, r3, r4⟩ := gr_greedy (n := N) (l := E) hok hp1
  have r5 : great (gr N E p N (List.replicate N 0) 1) ≤ N := busy_short N E hok p hp1 _ r2 r3.2.2 r4
  generalize hR : gr N E p N (List.replicate N 0) 1 = R at r2 r3 r4 r5
  have v0 := dagGreedy_ev (N : Int) E p (by omega)
  have hg : greedyR (N : Int) E p = (R, 0) := by
    unfold greedyR
    rw [if_pos hc, if_neg (by omega), Int.toNat_natCast, hR]
  rw [hg] at v0
  have v1 := dagJudge_ev (N : Int) E p R (by omega) (great_max r5 (by omega))
  rw [judge_of N E hc _ hp1 hp R r2, vdt_busy r3 r4] at v1
  have v2 := dagSpan_ev (N : Int) E (by omega)
  rw [span_of N E hc] at v2
  have hS := span_bd N E hok
  have hG := great_nonneg R
  have hB := brent hok hp1 r2 r3.1 r3.2.1 r3.2.2 r4
  refine Ev.rounds (r := true) ?_
  unfold plunderlaw7_DagGraham.f
  simp only [hm, Option.bind_some, hpp]
  refine Ev.bind hf ?_
  refine Ev.bind v0 ?_
  refine Ev.bind v1 ?_
  refine Ev.bind v2 ?_
  simp only [if_true, r2, bne_self_eq_false]
  refine Ev.step (f := fun k => (plunderlaw7_length.f k R).bind fun t => if p = 0 then none else (plunderlaw7_bounds.f (N : Int) (great (ear (rowsOf N E) N)) p t).bind fun u => if u = true then some (decide (t ≤ wrap64 (2 * mx (great (ear (rowsOf N E) N)) (wrap64 (Int.tdiv (wrap64 (wrap64 ((N : Int) + p) - 1)) p))))) else some false) (fun k => ?_) (Ev.bind (length_ev R (by omega)) ?_)
  · simp only [plunderlaw7_DagGraham.j0]
    rw [if_neg (by decide)]
  · have hp0 : ¬ p = 0 := by omega
    have hd : wrap64 (wrap64 ((N : Int) + p) - 1) = (N : Int) + p - 1 := by
      rw [w64 (x := (N : Int) + p) (by omega) (by omega), w64 (by omega) (by omega)]
    have hc0 : 0 ≤ ((N : Int) + p - 1) / p := Int.ediv_nonneg (by omega) (by omega)
    have hc1 : ((N : Int) + p - 1) / p ≤ (N : Int) + p - 1 := Int.ediv_le_self _ (by omega)
    have hc2 := Int.lt_mul_ediv_self_add (x := (N : Int) + p - 1) (k := p) (by omega)
    simp only [if_neg hp0, greedy_bounds e2 hok hp1 hp r2 r3 r4 r5, Option.bind_some, if_true, hd]
    rw [Int.tdiv_eq_ediv_of_nonneg (by omega), w64 (x := ((N : Int) + p - 1) / p) (by omega) (by omega)]
    have hM : 0 ≤ mx (great (ear (rowsOf N E) N)) (((N : Int) + p - 1) / p) ∧ great (ear (rowsOf N E) N) ≤ mx (great (ear (rowsOf N E) N)) (((N : Int) + p - 1) / p) ∧ ((N : Int) + p - 1) / p ≤ mx (great (ear (rowsOf N E) N)) (((N : Int) + p - 1) / p) ∧ mx (great (ear (rowsOf N E) N)) (((N : Int) + p - 1) / p) ≤ 1000 := by
      unfold mx
      omega
    have hT := twice (N : Int) (great (ear (rowsOf N E) N)) p (great R) (((N : Int) + p - 1) / p) (mx (great (ear (rowsOf N E) N)) (((N : Int) + p - 1) / p)) hp1 hM.1 hB (by omega) hM.2.1 hM.2.2.1
    rw [w64 (by omega) (by omega), decide_eq_true hT]
    exact Ev.now true
end Go.Proofs.Ytbahnialbffkeaa.P
