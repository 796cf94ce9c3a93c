/- DagEnds, the plain law: for every list of edges the law's function answers true. -/
import Derived.Test.YtbahnialbffkeaaPx19
import Derived.Test.YtbahnialbffkeaaDagL
import Derived.Test.YtbahnialbffkeaaOpensP
namespace Go.Proofs.Ytbahnialbffkeaa.P
open Go.RowKit Go.Proofs.YtbahnialbffkeaaW.PrintWords Go.Proofs.YtbahnialbffkeaaW.PrintLast Go.Proofs.YtbahnialbffkeaaW.PrintMore
theorem ends_l0 (x8 : List Int) (hx : x8.length < 1099511627776) (N : Nat) (hN : N ≤ 200) (E : List S50) (h8 : x8.length = N) : ∀ (d i : Nat), i + d = N →
    Ev (fun k => plunderlaw7_DagEnds.l0 k x8 x8 (tab N (fun k => k + 1)) (i : Int) (N : Int) E) true := by
  intro d
  induction d with
  | zero =>
    intro i hi
    refine Ev.step (f := fun k => (plunderlaw7_same.f k x8 x8).bind fun t => if t = true then some ((x8.length : Int) == (N : Int)) else some false) (fun k => ?_) ?_
    · simp only [plunderlaw7_DagEnds.l0]
      rw [if_neg (by omega)]
    · refine Ev.bind (same_ev x8 hx) ?_
      rw [if_pos rfl, h8, beq_self_eq_true]
      exact Ev.now true
  | succ d ih =>
    intro i hi
    refine Ev.step (f := fun k => plunderlaw7_DagEnds.l0 k x8 x8 (tab N (fun k => k + 1)) ((i + 1 : Nat) : Int) (N : Int) E) (fun k => ?_) (ih (i + 1) (by omega))
    simp only [plunderlaw7_DagEnds.l0]
    rw [if_pos (by omega), if_pos (by omega), if_pos (by rw [tab_length]; omega), rd_tab N _ _ (by omega) (by omega), w64s (by omega), if_pos (by omega)]
theorem DagEnds_pure (n : Int) (l : List S50) (_ : (Lit.int .i64 n).wf = true) (_ : ∀ e ∈ l, gE e 0) : ∃ k, plunderlaw7_DagEnds.f k n l = some true := by
  have hb := modI_bd n 65 (by omega)
  obtain ⟨N, E, e1, e2, e3, hok, hc, hf⟩ := fit_ev (modI n 65) l
  rw [modI_id (modI n 65) 201 hb.1 (by omega)] at e1
  have hE : E.length < 1099511627776 := by omega
  have g1 : greedyR (N : Int) E 64 = (ear (rowsOf N E) N, 0) := by
    unfold greedyR
    rw [if_pos hc, if_neg (by omega), Int.toNat_natCast, gr_wide N E hok 64 (by omega)]
  have g2 : greedyR (N : Int) E 1 = (tab N (fun k => k + 1), 0) := by
    unfold greedyR
    rw [if_pos hc, if_neg (by omega), Int.toNat_natCast, gr_one N E hok]
  have g3 : earl (N : Int) E = (ear (rowsOf N E) N, 0) := by
    unfold earl
    rw [if_pos hc, Int.toNat_natCast]
  have hlen : (ear (rowsOf N E) N).length = N := ear_length _ _
  have hl0 := ends_l0 (ear (rowsOf N E) N) (by omega) N e2 E hlen N 0 (by omega)
  have v1 := dagGreedy_ev (N : Int) E 64 hE
  have v2 := dagEarliest_ev (N : Int) E hE
  have v3 := dagGreedy_ev (N : Int) E 1 hE
  rw [g1] at v1
  rw [g2] at v3
  rw [g3] at v2
  refine Ev.rounds (r := true) ?_
  unfold plunderlaw7_DagEnds.f
  simp only [mod_f n 65 (by omega) (by omega), Option.bind_some]
  refine Ev.bind hf ?_
  refine Ev.bind v1 ?_
  refine Ev.bind v2 ?_
  refine Ev.bind v3 ?_
  simp only [if_true, tab_length, bne_self_eq_false]
  refine Ev.step (f := fun k => plunderlaw7_DagEnds.l0 k (ear (rowsOf N E) N) (ear (rowsOf N E) N) (tab N (fun k => k + 1)) ((0 : Nat) : Int) (N : Int) E) (fun k => ?_) hl0
  simp only [plunderlaw7_DagEnds.j0]
  rw [if_neg (by decide)]
  rfl
end Go.Proofs.Ytbahnialbffkeaa.P
