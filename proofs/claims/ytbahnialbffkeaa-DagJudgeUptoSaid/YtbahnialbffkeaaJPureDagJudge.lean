/- DagJudge, the plain law: for every dag, every number of processors and every list of times, each list of at most 1048576 elements, the law's function answers true. -/
import Derived.Test.YtbahnialbffkeaaJPx22
import Derived.Test.YtbahnialbffkeaaJJB
import Derived.Test.YtbahnialbffkeaaJOpensP
namespace Go.Proofs.Ytbahnialbffkeaa.P
open Go.RowKit Go.Proofs.YtbahnialbffkeaaW.PrintWords Go.Proofs.YtbahnialbffkeaaW.PrintLast Go.Proofs.YtbahnialbffkeaaW.PrintMore
set_option linter.unusedVariables false
theorem wf_le {T : List Int} (h : ∀ x ∈ T, (Lit.int .i64 x).wf = true) : ∀ x ∈ T, x ≤ 9223372036854775807 := fun x hx => (wf_i64 (h x hx)).2
/-- the list of the call is filled with the times -/
theorem judge_fill (n : Int) (l : List S50) (p : Int) (T : List Int) (hl : l.length ≤ 1048576) (hT : T.length ≤ 1048576) (hw : ∀ x ∈ T, x ≤ 9223372036854775807) : ∀ (d i : Nat) (x : List Int), i + d = T.length → x.length = T.length → x.take i = T.take i →
    Ev (fun k => plunderlaw7_DagJudge.l1 k p T x (i : Int) n l n l) true := by
  intro d
  induction d with
  | zero =>
    intro i x hi hx ht
    rw [List.take_of_length_le (by omega), List.take_of_length_le (by omega)] at ht
    subst ht
    refine Ev.step (f := fun k => (dag_Judge.f k n l p x).bind fun bt412 => (plunderref7_Judge.f k n l p x).bind fun bt414 => if bt412.1 = bt414.1 then (if bt412.2 = bt414.2 then (if x.length < 4611686018427387904 then (plunderlaw7_same.f k x x).bind fun t421 => (if t421 = true then (plunderlaw7_marked.f n l).bind fun t422 => (if t422 = true then (plunderlaw7_sameEdges.f k l l).bind fun t423 => some t423 else none) else none) else none) else some false) else some false) (fun k => ?_) ?_
    · simp only [plunderlaw7_DagJudge.l1]
      rw [if_neg (by omega)]
    · refine Ev.bind (dagJudge_ev n l p x (by omega) hw) ?_
      refine Ev.bind (refJudge_ev n l p x (by omega)) ?_
      have hlen : x.length < 4611686018427387904 := by omega
      simp only [if_true, if_pos hlen]
      refine Ev.bind (same_ev x (by omega)) ?_
      simp only [if_true, plunderlaw7_marked.f, Option.bind_some]
      refine Ev.bind (sameEdges_ev l (by omega)) ?_
      exact Ev.now true
  | succ d ih =>
    intro i x hi hx ht
    have hlt : i < T.length := by omega
    refine Ev.step (f := fun k => plunderlaw7_DagJudge.l1 k p T (x.set (i : Int).toNat T[i]) ((i + 1 : Nat) : Int) n l n l) (fun k => ?_) (ih (i + 1) (x.set (i : Int).toNat T[i]) (by omega) (by rw [List.length_set]; exact hx) ?_)
    · simp only [plunderlaw7_DagJudge.l1]
      rw [if_pos (by omega), if_pos (by omega), if_pos (by omega), rdi T i hlt, w64s (by omega)]
    · rw [Int.toNat_natCast, List.take_succ_eq_append_getElem hlt, ← ht]
      rw [List.take_succ_eq_append_getElem (by rw [List.length_set]; omega), List.getElem_set_self, List.take_set_of_le (by omega)]
/-- the list of the call, made of the times from behind -/
theorem judge_made (n : Int) (l : List S50) (p : Int) (T : List Int) (hl : l.length ≤ 1048576) (hT : T.length ≤ 1048576) (hw : ∀ x ∈ T, x ≤ 9223372036854775807) : ∀ (d i : Nat) (x : List Int), i + d = T.length → x.length = i → (∀ y ∈ x, y ∈ T) →
    Ev (fun k => plunderlaw7_DagJudge.l0 k p T x (i : Int) n l n (l.map mvE)) true := by
  intro d
  induction d with
  | zero =>
    intro i x hi hx hm
    refine Ev.step (f := fun k => (dag_Judge.f k n (l.map mvE) p x).bind fun bt405 => (plunderlaw7_back.f k n (l.map mvE) n l).bind fun t407 => (dag_Judge.f k n t407 p x).bind fun bt408 => plunderlaw7_DagJudge.l1 k p T x 0 n l n t407) (fun k => ?_) ?_
    · simp only [plunderlaw7_DagJudge.l0]
      rw [if_neg (by omega), if_pos (by omega)]
    · refine Ev.bind (dagJudge_ev n (l.map mvE) p x (by simp; omega) (fun y hy => hw y (hm y hy))) ?_
      refine Ev.bind (back_ev n n l (l.map mvE) (by omega) (by simp)) ?_
      refine Ev.bind (dagJudge_ev n l p x (by omega) (fun y hy => hw y (hm y hy))) ?_
      exact judge_fill n l p T hl hT hw T.length 0 x (by omega) (by omega) (by simp)
  | succ d ih =>
    intro i x hi hx hm
    have hj : wrap64 (wrap64 ((T.length : Int) - 1) - (i : Int)) = ((T.length - 1 - i : Nat) : Int) := by
      rw [show wrap64 ((T.length : Int) - 1) = (T.length : Int) - 1 from by unfold wrap64; omega]
      unfold wrap64
      omega
    have hlt : T.length - 1 - i < T.length := by omega
    refine Ev.step (f := fun k => plunderlaw7_DagJudge.l0 k p T (x ++ [T[T.length - 1 - i]]) ((i + 1 : Nat) : Int) n l n (l.map mvE)) (fun k => ?_) (ih (i + 1) (x ++ [T[T.length - 1 - i]]) (by omega) (by simp; omega) (fun y hy => ?_))
    · simp only [plunderlaw7_DagJudge.l0]
      rw [if_pos (by omega), hj, if_pos (by omega), if_pos (by omega), if_pos (by omega), rdi T _ hlt, w64s (by omega)]
    · rcases List.mem_append.mp hy with h | h
      · exact hm y h
      · rw [List.mem_singleton.mp h]
        exact List.getElem_mem hlt
theorem DagJudge_pure (n : Int) (l : List S50) (p : Int) (T : List Int) (_ : (Lit.int .i64 n).wf = true) (hl : l.length ≤ 1048576) (_ : ∀ e ∈ l, gE e 0) (_ : (Lit.int .i64 p).wf = true) (hT : T.length ≤ 1048576) (hw : ∀ e ∈ T, (Lit.int .i64 e).wf = true) : ∃ k, plunderlaw7_DagJudge.f k n l p T = some true := by
  refine Ev.rounds (r := true) ?_
  unfold plunderlaw7_DagJudge.f
  refine Ev.bind (moved_ev n l (by omega)) ?_
  exact judge_made n l p T hl hT (wf_le hw) T.length 0 [] (by omega) rfl (fun y hy => by cases hy)
end Go.Proofs.Ytbahnialbffkeaa.P
