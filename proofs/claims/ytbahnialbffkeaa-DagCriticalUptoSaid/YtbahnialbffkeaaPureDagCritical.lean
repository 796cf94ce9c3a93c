/- DagCritical, the plain law: for every dag whose list of edges has at most 1048576 edges the law's function answers true. -/
import Derived.Test.YtbahnialbffkeaaPx15
import Derived.Test.YtbahnialbffkeaaDagD
import Derived.Test.YtbahnialbffkeaaOpensP
namespace Go.Proofs.Ytbahnialbffkeaa.P
open Go.RowKit Go.Proofs.YtbahnialbffkeaaW.PrintWords Go.Proofs.YtbahnialbffkeaaW.PrintLast Go.Proofs.YtbahnialbffkeaaW.PrintMore
theorem DagCritical_pure (n : Int) (l : List S50) (_ : (Lit.int .i64 n).wf = true) (hl : l.length ≤ 1048576) (_ : ∀ e ∈ l, gE e 0) : ∃ k, plunderlaw7_DagCritical.f k n l = some true := by
  obtain ⟨q1, _, _, _, hev1⟩ := critical_ev n (l.map mvE) (by simp; omega)
  obtain ⟨q, hq, hyes, hno, hev⟩ := critical_ev n l (by omega)
  obtain ⟨r, hr, hs⟩ := spoilt_ev q (by omega)
  refine Ev.rounds (Ev.bind (moved_ev n l (by omega)) ?_)
  refine Ev.bind hev1 ?_
  refine Ev.bind (back_ev n n l (l.map mvE) (by omega) (by simp)) ?_
  refine Ev.bind hev ?_
  refine Ev.bind hev ?_
  refine Ev.bind hs ?_
  refine Ev.bind (refCheck_ev n l (by omega)) ?_
  simp only [if_true, plunderlaw7_marked.f, Option.bind_some]
  refine Ev.bind (sameEdges_ev l (by omega)) ?_
  have hd : decide ((r.length : Int) < 1) = false := decide_eq_false (by omega)
  simp only [if_true, hd]
  by_cases h : chk n l = 0
  · obtain ⟨h1, h2⟩ := hyes h
    refine Ev.step (f := fun k => (plunderref7_Path.f k n l q).bind fun t => some t) (fun k => ?_) (Ev.bind (path_ev n l (by omega) h q hq h1 h2) (Ev.now true))
    simp only [plunderlaw7_DagCritical.j0]
    rw [if_neg (by decide), if_pos h]
  · refine Ev.step (f := fun _ => some true) (fun k => ?_) (Ev.now true)
    simp only [plunderlaw7_DagCritical.j0]
    rw [if_neg (by decide), if_neg h, hno h]
    rfl
end Go.Proofs.Ytbahnialbffkeaa.P
