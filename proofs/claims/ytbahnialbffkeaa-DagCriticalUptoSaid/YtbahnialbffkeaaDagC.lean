/- Plain law, part C: what Span of layer 7 comes to, the program's and the document's. -/
import Derived.Test.YtbahnialbffkeaaDagB
import Derived.Test.YtbahnialbffkeaaPx11
namespace Go.Proofs.Ytbahnialbffkeaa.P
open Go.RowKit Go.Proofs.YtbahnialbffkeaaW.PrintWords Go.Proofs.YtbahnialbffkeaaW.PrintLast Go.Proofs.YtbahnialbffkeaaW.PrintMore
set_option linter.unusedVariables false

/-- the greatest of a list, 0 if none is above 0 -/
def great (x : List Int) : Int := x.foldl mx 0
def span (n : Int) (l : List S50) : Int × Int := if chk n l = 0 then (great (earl n l).1, 0) else (0, chk n l)
theorem great_snoc (x : List Int) (v : Int) : great (x ++ [v]) = mx (great x) v := by simp [great, List.foldl_append]

theorem dagSpan_l0 (x : List Int) (hx : x.length < 1099511627776) : ∀ (d j : Nat), j + d = x.length → Ev (fun k => dag_Span.l0 k (great (x.take j)) x (x.length : Int) (j : Int)) (great x, 0) := by
  intro d
  induction d with
  | zero =>
    intro j hj
    refine Ev.step (f := fun _ => some (great x, 0)) (fun k => ?_) (Ev.now _)
    simp only [dag_Span.l0]
    rw [if_neg (by omega), List.take_of_length_le (by omega)]
  | succ d ih =>
    intro j hj
    have hlt : j < x.length := by omega
    refine Ev.step (f := fun k => dag_Span.l0 k (great (x.take (j + 1))) x (x.length : Int) ((j + 1 : Nat) : Int)) (fun k => ?_) (ih (j + 1) (by omega))
    simp only [dag_Span.l0]
    rw [if_pos (by omega), if_pos (by omega), if_pos (by omega), rdi x j hlt, w64s (by omega), List.take_succ_eq_append_getElem hlt, great_snoc]
theorem refGreatest_l0 (x : List Int) (hx : x.length < 1099511627776) : ∀ (d j : Nat), j + d = x.length → Ev (fun k => plunderref7_greatest.l0 k x (great (x.take j)) (j : Int)) (great x) := by
  intro d
  induction d with
  | zero =>
    intro j hj
    refine Ev.step (f := fun _ => some (great x)) (fun k => ?_) (Ev.now _)
    simp only [plunderref7_greatest.l0]
    rw [if_neg (by omega), List.take_of_length_le (by omega)]
  | succ d ih =>
    intro j hj
    have hlt : j < x.length := by omega
    refine Ev.step (f := fun k => plunderref7_greatest.l0 k x (great (x.take (j + 1))) ((j + 1 : Nat) : Int)) (fun k => ?_) (ih (j + 1) (by omega))
    simp only [plunderref7_greatest.l0]
    rw [if_pos (by omega), if_pos (by omega), rdi x j hlt, w64s (by omega), List.take_succ_eq_append_getElem hlt, great_snoc]
theorem refGreatest_ev (x : List Int) (hx : x.length < 1099511627776) : Ev (fun k => plunderref7_greatest.f k x) (great x) :=
  refGreatest_l0 x hx x.length 0 (by omega)
theorem earl_snd (n : Int) (l : List S50) : (earl n l).2 = chk n l := by
  unfold earl
  split
  · rename_i h; exact h.symm
  · rfl
theorem dagSpan_ev (n : Int) (l : List S50) (hl : l.length < 1099511627776) : Ev (fun k => dag_Span.f k n l) (span n l) := by
  have hq := earl_length n l
  unfold dag_Span.f
  refine Ev.bind (dagEarliest_ev n l hl) ?_
  simp only [earl_snd]
  by_cases h : chk n l = 0
  · simp only [if_pos h, span]
    exact dagSpan_l0 (earl n l).1 (by omega) (earl n l).1.length 0 (by omega)
  · simp only [if_neg h, span]
    exact Ev.now _
theorem refSpan_ev (n : Int) (l : List S50) (hl : l.length < 1099511627776) : Ev (fun k => plunderref7_Span.f k n l) (span n l) := by
  have hq := earl_length n l
  unfold plunderref7_Span.f
  refine Ev.bind (refEarliest_ev n l hl) ?_
  simp only [earl_snd]
  by_cases h : chk n l = 0
  · simp only [if_pos h, span]
    refine Ev.bind (refGreatest_ev _ (by omega)) ?_
    exact Ev.now _
  · simp only [if_neg h, span]
    exact Ev.now _
end Go.Proofs.Ytbahnialbffkeaa.P
