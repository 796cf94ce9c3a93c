/- RacesCheck, the plain law: for every list of at most 1048576 deeds the law's function answers true. -/
import Derived.Test.YtjbnbepjbioboaaPx6
import Derived.Test.YtjbnbepjbioboaaRacA
import Derived.Test.YtjbnbepjbioboaaOpensP
namespace Go.Proofs.Ytjbnbepjbioboaa.P
open Go.RowKit Go.Proofs.YtjbnbepjbioboaaW.PrintWords Go.Proofs.YtjbnbepjbioboaaW.PrintLast Go.Proofs.YtjbnbepjbioboaaW.PrintMore
theorem checkPlaced_ev (l : List S55) (hl : l.length < 1099511627776) : Ev (fun k => plunderlaw19_checkPlaced.f k l) true := by
  unfold plunderlaw19_checkPlaced.f
  have hm : (l.map tnE).length = l.length := by simp
  have h0 : (0 : Int) ≤ ((l.map tnE).length : Int) := by omega
  have h1 : ((l.map tnE).length : Int) ≤ ((l.map tnE ++ odd).length : Int) := by simp [odd]; omega
  have h3 : (l.map tnE ++ odd).take (((l.map tnE).length : Int)).toNat = l.map tnE := by simp
  refine Ev.bind (turned_ev l hl) ?_
  refine Ev.bind (spare_ev _ (by omega)) ?_
  simp only [if_pos h0, if_pos h1, h3, Option.bind_some]
  refine Ev.bind (racesCheck_ev _ (by omega)) ?_
  refine Ev.bind (lay_ev _ l hl (by simp)) ?_
  refine Ev.bind (racesCheck_ev l hl) ?_
  refine Ev.bind (refCheck_ev _ (by omega)) ?_
  simp only [beq_self_eq_true, Bool.and_self, if_true]
  refine Ev.bind (refCheck_ev l hl) ?_
  simp only [beq_self_eq_true, Bool.and_self]
  exact Ev.now true
theorem RacesCheck_pure (l : List S55) (hl : l.length ≤ 1048576) (_ : ∀ e ∈ l, gE e 0) : ∃ k, plunderlaw19_RacesCheck.f k l = some true := by
  refine Ev.rounds ?_
  unfold plunderlaw19_RacesCheck.f
  have h0 : (0 : Int) ≤ (l.length : Int) := by omega
  have h1 : (l.length : Int) ≤ ((l ++ odd).length : Int) := by simp [odd]; omega
  have h3 : (l ++ odd).take ((l.length : Int)).toNat = l := by simp
  refine Ev.bind (spare_ev l (by omega)) ?_
  simp only [if_pos h0, if_pos h1, h3]
  refine Ev.bind (racesCheck_ev l (by omega)) ?_
  refine Ev.bind (refCheck_ev l (by omega)) ?_
  simp only [beq_self_eq_true, Bool.and_self, if_true]
  refine Ev.bind (untouched_ev l (by omega)) ?_
  simp only [if_true]
  refine Ev.bind (checkPlaced_ev l (by omega)) ?_
  exact Ev.now true
end Go.Proofs.Ytjbnbepjbioboaa.P
