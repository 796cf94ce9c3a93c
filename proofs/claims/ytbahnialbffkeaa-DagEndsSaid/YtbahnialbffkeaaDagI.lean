/- Plain law, part I: the program's Greedy (with its heap) comes to the same greedy times. -/
import Derived.Test.YtbahnialbffkeaaDagH
import Derived.Test.YtbahnialbffkeaaGreedyF
import Derived.Test.YtbahnialbffkeaaHeapO
namespace Go.Proofs.Ytbahnialbffkeaa.P
open Go.RowKit Go.Proofs.YtbahnialbffkeaaW.PrintWords Go.Proofs.YtbahnialbffkeaaW.PrintLast Go.Proofs.YtbahnialbffkeaaW.PrintMore
set_option linter.unusedVariables false
set_option linter.unusedSimpArgs false
def succRows (n : Nat) (l : List S50) : List (List Int) := (List.range n).map (fun i : Nat => succs l (i : Int))
theorem succRows_length (n : Nat) (l : List S50) : (succRows n l).length = n := by simp [succRows]
theorem succRows_at (n : Nat) (l : List S50) (i : Int) (h0 : 0 ≤ i) (h1 : i < (n : Int)) : rd_L5 (succRows n l) i = succs l i := by
  show (succRows n l).getD i.toNat [] = _
  have h2 : i.toNat < n := by omega
  have h3 : ((i.toNat : Nat) : Int) = i := by omega
  simp [succRows, List.getD_eq_getElem?_getD, h2, h3]
theorem mem_succs {l : List S50} {i x : Int} (h : x ∈ succs l i) : ∃ e ∈ l, e.f0 = i ∧ e.f1 = x := by
  unfold succs at h
  simp only [List.mem_map, List.mem_filter, decide_eq_true_eq] at h
  obtain ⟨e, ⟨he, h1⟩, h2⟩ := h
  exact ⟨e, he, h1, h2⟩
theorem succs_len (l : List S50) (i : Int) : (succs l i).length ≤ l.length := by
  unfold succs
  rw [List.length_map]
  exact List.length_filter_le _ _
theorem cnt_le (l : List S50) (T : List Int) (k : Int) : cnt l T k ≤ l.length := List.length_filter_le _ _
/-- a node done: those behind it wait for fewer -/
theorem cnt_set (l : List S50) (T : List Int) (i t k : Int) (hf : ∀ e ∈ l, 0 ≤ e.f0) (h0 : 0 ≤ i) (hi : i < (T.length : Int)) (hz : rd T i = 0) (ht : t ≠ 0) :
    cnt l T k = cnt l (T.set i.toNat t) k + (succs l i).count k := by
  induction l with
  | nil => rfl
  | cons e l ih =>
    have ih := ih (fun e he => hf e (List.mem_cons_of_mem _ he))
    have he0 := hf e List.mem_cons_self
    have hr := rd_set T i e.f0 t h0 he0
    unfold cnt succs at ih ⊢
    by_cases h1 : e.f0 = i
    · have h2 : rd (T.set i.toNat t) e.f0 = t := by rw [hr, if_pos ⟨h1, hi⟩]
      have h3 : rd T e.f0 = 0 := by rw [h1]; exact hz
      by_cases hk : e.f1 = k
      · simp [List.filter_cons, h1, hk, h2, h3, ht, List.count_cons] at ih ⊢
        simp [h1 ▸ h2, hz, ht]
        omega
      · simp [List.filter_cons, h1, hk, h2, h3, ht, List.count_cons] at ih ⊢
        omega
    · have h2 : rd (T.set i.toNat t) e.f0 = rd T e.f0 := by rw [hr, if_neg (fun h => h1 h.1)]
      by_cases hk : e.f1 = k ∧ rd T e.f0 = 0
      · simp [List.filter_cons, h1, hk, h2] at ih ⊢
        omega
      · simp [List.filter_cons, h1, hk, h2] at ih ⊢
        exact ih
/-- what stands in the heap: the nodes that wait for nothing and are not done, nor among N -/
structure HeapIs (n : Nat) (T N W H : List Int) : Prop where
  heap : isHeap H
  nodup : H.Nodup
  mem : ∀ k, k ∈ H ↔ 0 ≤ k ∧ k < (n : Int) ∧ rd T k = 0 ∧ k ∉ N ∧ rd W k = 0
theorem HeapIs.len {n : Nat} {T N W H : List Int} (h : HeapIs n T N W H) : H.length ≤ n := by
  have hp : H.Perm ((nodes n).filter (fun k => decide (k ∈ H))) := by
    refine (List.perm_ext_iff_of_nodup h.nodup (nodup_of_lt ((nodes_lt n).filter _))).mpr ?_
    intro k
    simp only [List.mem_filter, mem_nodes, decide_eq_true_eq]
    constructor
    · intro hk
      have := (h.mem k).mp hk
      exact ⟨⟨this.1, this.2.1⟩, hk⟩
    · exact fun hk => hk.2
  have h2 := List.length_filter_le (fun k => decide (k ∈ H)) (nodes n)
  rw [hp.length_eq]
  simpa [nodes] using h2
theorem dagG_l5 (n : Nat) (l : List S50) (hok : ∀ e ∈ l, okE (n : Int) e) (hl : l.length < 1048576) (hn : n ≤ 4096) (p : Int) (hp1 : 1 ≤ p) (hp2 : p ≤ 64) (T1 N : List Int) (t j i : Int) (h0 : 0 ≤ i) (hi : i < (n : Int)) (hx : ∀ x ∈ succs l i, rd T1 x = 0 ∧ x ∉ N) (r : List Int × Int)
    (hend : ∀ W H, W.length = n → (∀ k, 0 ≤ k → k < (n : Int) → rd W k = (cnt l T1 k : Int)) → HeapIs n T1 N W H → Ev (fun k => dag_Greedy.l4 k p W (succRows n l) H T1 t N (wrap64 (j + 1))) r) :
    ∀ (d q : Nat) (W H : List Int), q + d = (succs l i).length → W.length = n → (∀ k, 0 ≤ k → k < (n : Int) → rd W k = (cnt l T1 k : Int) + (((succs l i).drop q).count k : Int)) → HeapIs n T1 N W H →
      Ev (fun k => dag_Greedy.l5 k p W (succRows n l) H T1 t N j i (q : Int)) r := by
  intro d
  induction d with
  | zero =>
    intro q W H hq hW hc hH
    refine Ev.step (f := fun k => dag_Greedy.l4 k p W (succRows n l) H T1 t N (wrap64 (j + 1))) (fun k => ?_) (hend W H hW ?_ hH)
    · simp only [dag_Greedy.l5]
      rw [succRows_at n l i h0 hi, if_neg (by omega)]
    · intro k a b
      have := hc k a b
      rw [List.drop_of_length_le (by omega)] at this
      simpa using this
  | succ d ih =>
    intro q W H hq hW hc hH
    have hlt : q < (succs l i).length := by omega
    have hsl := succs_len l i
    obtain ⟨x, hxe⟩ : ∃ x, x = (succs l i)[q] := ⟨_, rfl⟩
    have hxm : x ∈ succs l i := by rw [hxe]; exact List.getElem_mem hlt
    obtain ⟨e, he, e1, e2⟩ := mem_succs hxm
    obtain ⟨b1, b2, b3⟩ := hok e he
    have hx0 : 0 ≤ x ∧ x < (n : Int) := by omega
    obtain ⟨hz, hxN⟩ := hx x hxm
    have hdrop : (succs l i).drop q = x :: (succs l i).drop (q + 1) := by rw [hxe]; exact List.drop_eq_getElem_cons hlt
    have hWx := hc x hx0.1 hx0.2
    rw [hdrop, List.count_cons_self] at hWx
    have hcl := cnt_le l T1 x
    have hcc : ((succs l i).drop (q + 1)).count x ≤ l.length := Nat.le_trans (List.count_le_length) (by rw [List.length_drop]; omega)
    have hw : wrap64 (rd W x - 1) = rd W x - 1 := w64 (by omega) (by omega)
    have hset : ∀ k, 0 ≤ k → k < (n : Int) → rd (W.set x.toNat (rd W x - 1)) k = (cnt l T1 k : Int) + (((succs l i).drop (q + 1)).count k : Int) := by
      intro k a b
      rw [rd_set W x k _ hx0.1 a, hW]
      by_cases hk : k = x
      · rw [if_pos ⟨hk, hx0.2⟩, hk]
        omega
      · rw [if_neg (fun h => hk h.1), hc k a b, hdrop, List.count_cons_of_ne (fun h => hk h.symm)]
    by_cases hzero : rd W x - 1 = 0
    · refine Ev.step (f := fun k => dag_Greedy.l5 k p (W.set x.toNat (rd W x - 1)) (succRows n l) (pushL H x) T1 t N j i ((q + 1 : Nat) : Int)) (fun k => ?_) (ih (q + 1) _ _ (by omega) (by rw [List.length_set]; exact hW) hset ?_)
      · simp only [dag_Greedy.l5]
        rw [succRows_at n l i h0 hi, if_pos (by omega), rdi _ q hlt, ← hxe, if_pos ⟨by omega, hx0.1, by omega⟩, hw, if_pos hzero, if_pos (by have := hH.len; omega), w64s (by omega)]
      · have hxH : x ∉ H := fun h => by have := ((hH.mem x).mp h).2.2.2.2; omega
        have hpp := pushL_perm H x
        refine ⟨pushL_heap H x hH.heap, (List.Perm.nodup_iff hpp).mpr (List.nodup_cons.mpr ⟨hxH, hH.nodup⟩), ?_⟩
        intro k
        rw [hpp.mem_iff, List.mem_cons, hH.mem]
        constructor
        · rintro (rfl | ⟨a, b, c, dd, ee⟩)
          · refine ⟨hx0.1, hx0.2, hz, hxN, ?_⟩
            rw [rd_set W k k _ hx0.1 hx0.1, if_pos ⟨rfl, by omega⟩]
            exact hzero
          · refine ⟨a, b, c, dd, ?_⟩
            rw [rd_set W x k _ hx0.1 a, if_neg (fun h => by have h2 := h.1; rw [h2] at ee; omega)]
            exact ee
        · rintro ⟨a, b, c, dd, ee⟩
          by_cases hk : k = x
          · exact .inl hk
          · rw [rd_set W x k _ hx0.1 a, if_neg (fun h => hk h.1)] at ee
            exact .inr ⟨a, b, c, dd, ee⟩
    · refine Ev.step (f := fun k => dag_Greedy.l5 k p (W.set x.toNat (rd W x - 1)) (succRows n l) H T1 t N j i ((q + 1 : Nat) : Int)) (fun k => ?_) (ih (q + 1) _ _ (by omega) (by rw [List.length_set]; exact hW) hset ?_)
      · simp only [dag_Greedy.l5]
        rw [succRows_at n l i h0 hi, if_pos (by omega), rdi _ q hlt, ← hxe, if_pos ⟨by omega, hx0.1, by omega⟩, hw, if_neg hzero, w64s (by omega)]
      · refine ⟨hH.heap, hH.nodup, ?_⟩
        intro k
        rw [hH.mem]
        constructor
        · rintro ⟨a, b, c, dd, ee⟩
          refine ⟨a, b, c, dd, ?_⟩
          rw [rd_set W x k _ hx0.1 a, if_neg (fun h => by have h2 := h.1; rw [h2] at ee; omega)]
          exact ee
        · rintro ⟨a, b, c, dd, ee⟩
          rw [rd_set W x k _ hx0.1 a] at ee
          split at ee
          · exact absurd ee hzero
          · exact ⟨a, b, c, dd, ee⟩
end Go.Proofs.Ytbahnialbffkeaa.P
