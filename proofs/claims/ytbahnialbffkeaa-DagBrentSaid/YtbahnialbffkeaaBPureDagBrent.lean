/- DagBrent, the plain law: for every list of edges, every number of processors and every list of ranks the law's function answers true. -/
import Derived.Test.YtbahnialbffkeaaBPx25
import Derived.Test.YtbahnialbffkeaaBJB
import Derived.Test.YtbahnialbffkeaaBOpensP
namespace Go.Proofs.Ytbahnialbffkeaa.P
open Go.RowKit Go.Proofs.YtbahnialbffkeaaW.PrintWords Go.Proofs.YtbahnialbffkeaaW.PrintLast Go.Proofs.YtbahnialbffkeaaW.PrintMore
theorem DagBrent_pure (n : Int) (l : List S50) (q : Int) (o : List Int) (_ : (Lit.int .i64 n).wf = true) (_ : ∀ e ∈ l, gE e 0) (_ : (Lit.int .i64 q).wf = true) (_ : ∀ e ∈ o, (Lit.int .i64 e).wf = true) : ∃ k, plunderlaw7_DagBrent.f k n l q o = some true := by
  obtain ⟨N, E, e1, e2, e3, hok, hc, hf⟩ := fit_ev n l
  obtain ⟨hm, hp1, hp⟩ := procs q
  obtain ⟨R, r1, r2, ⟨r3, r4⟩, r5⟩ := listed_ev N E hok (by omega) (by omega) (wrap64 (1 + modI q 64)) hp1 hp o
  have v1 := dagJudge_ev (N : Int) E (wrap64 (1 + modI q 64)) R (by omega) (great_max r5 (by omega))
  rw [judge_of N E hc _ hp1 hp R r2, vdt_busy r3 r4] at v1
  have v2 := dagSpan_ev (N : Int) E (by omega)
  rw [span_of N E hc] at v2
  refine Ev.rounds (r := true) ?_
  unfold plunderlaw7_DagBrent.f
  simp only [hm, Option.bind_some]
  refine Ev.bind hf ?_
  refine Ev.bind r1 ?_
  refine Ev.bind v1 ?_
  refine Ev.bind v2 ?_
  simp only [if_true, bne_self_eq_false]
  refine Ev.step (f := fun k => (plunderlaw7_length.f k R).bind fun t => (plunderlaw7_bounds.f (N : Int) (great (ear (rowsOf N E) N)) (wrap64 (1 + modI q 64)) t).bind fun u => some u) (fun k => ?_) (Ev.bind (length_ev R (by omega)) ?_)
  · simp only [plunderlaw7_DagBrent.j0]
    rw [if_neg (by decide)]
  · simp only [greedy_bounds e2 hok hp1 hp r2 r3 r4 r5, Option.bind_some]
    exact Ev.now true
end Go.Proofs.Ytbahnialbffkeaa.P
