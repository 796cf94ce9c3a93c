/- DagGreedy, the plain law: for every dag whose list of edges has at most 1048576 edges, and every number of processors, the law's function answers true. -/
import Derived.Test.YtbahnialbffkeaaPx17
import Derived.Test.YtbahnialbffkeaaDagK
import Derived.Test.YtbahnialbffkeaaOpensP
namespace Go.Proofs.Ytbahnialbffkeaa.P
open Go.RowKit Go.Proofs.YtbahnialbffkeaaW.PrintWords Go.Proofs.YtbahnialbffkeaaW.PrintLast Go.Proofs.YtbahnialbffkeaaW.PrintMore
theorem DagGreedy_pure (n : Int) (l : List S50) (p : Int) (_ : (Lit.int .i64 n).wf = true) (hl : l.length ≤ 1048576) (_ : ∀ e ∈ l, gE e 0) (_ : (Lit.int .i64 p).wf = true) : ∃ k, plunderlaw7_DagGreedy.f k n l p = some true := by
  have hq := greedyR_length n l p
  obtain ⟨r, hr, hs⟩ := spoilt_ev (greedyR n l p).1 (by omega)
  refine Ev.rounds (Ev.bind (moved_ev n l (by omega)) ?_)
  refine Ev.bind (dagGreedy_ev n (l.map mvE) p (by simp; omega)) ?_
  refine Ev.bind (back_ev n n l (l.map mvE) (by omega) (by simp)) ?_
  refine Ev.bind (dagGreedy_ev n l p (by omega)) ?_
  refine Ev.bind (dagGreedy_ev n l p (by omega)) ?_
  refine Ev.bind hs ?_
  refine Ev.bind (refGreedy_ev n l p (by omega)) ?_
  refine Ev.bind (same_ev _ (by omega)) ?_
  simp only [if_true, plunderlaw7_marked.f, Option.bind_some]
  refine Ev.bind (sameEdges_ev l (by omega)) ?_
  simp only [if_true]
  rw [w64s (by omega), hr]
  simp only [beq_self_eq_true]
  exact Ev.now true
end Go.Proofs.Ytbahnialbffkeaa.P
