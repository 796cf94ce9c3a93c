/- DagSpan, the plain law: for every dag whose list of edges has at most 1048576 edges the law's function answers true. -/
import Derived.Test.YtbahnialbffkeaaPx12
import Derived.Test.YtbahnialbffkeaaDagC
import Derived.Test.YtbahnialbffkeaaOpensP
namespace Go.Proofs.Ytbahnialbffkeaa.P
open Go.RowKit Go.Proofs.YtbahnialbffkeaaW.PrintWords Go.Proofs.YtbahnialbffkeaaW.PrintLast Go.Proofs.YtbahnialbffkeaaW.PrintMore
theorem DagSpan_pure (n : Int) (l : List S50) (_ : (Lit.int .i64 n).wf = true) (hl : l.length ≤ 1048576) (_ : ∀ e ∈ l, gE e 0) : ∃ k, plunderlaw7_DagSpan.f k n l = some true := by
  refine Ev.rounds (Ev.bind (moved_ev n l (by omega)) ?_)
  refine Ev.bind (dagSpan_ev n (l.map mvE) (by simp; omega)) ?_
  refine Ev.bind (back_ev n n l (l.map mvE) (by omega) (by simp)) ?_
  refine Ev.bind (dagSpan_ev n l (by omega)) ?_
  refine Ev.bind (refSpan_ev n l (by omega)) ?_
  simp only [if_true, plunderlaw7_marked.f, Option.bind_some]
  refine Ev.bind (sameEdges_ev l (by omega)) ?_
  exact Ev.now true
end Go.Proofs.Ytbahnialbffkeaa.P
