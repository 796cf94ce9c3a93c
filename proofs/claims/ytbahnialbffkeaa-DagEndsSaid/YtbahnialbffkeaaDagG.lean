/- Plain law, part G: one round of a greedy schedule: which nodes are ready, and that the document's round takes the first p of them. -/
import Derived.Test.YtbahnialbffkeaaDagB
import Derived.Test.YtbahnialbffkeaaPx16
namespace Go.Proofs.Ytbahnialbffkeaa.P
open Go.RowKit Go.Proofs.YtbahnialbffkeaaW.PrintWords Go.Proofs.YtbahnialbffkeaaW.PrintLast Go.Proofs.YtbahnialbffkeaaW.PrintMore
set_option linter.unusedVariables false

def succs (l : List S50) (i : Int) : List Int := (l.filter (fun e => decide (e.f0 = i))).map (·.f1)
/-- by how many edges a node waits for nodes that are not done -/
def cnt (l : List S50) (T : List Int) (k : Int) : Nat := (l.filter (fun e => decide (e.f1 = k ∧ rd T e.f0 = 0))).length
def isRdy (l : List S50) (T : List Int) (i : Int) : Bool := decide (rd T i = 0 ∧ cnt l T i = 0)
def nodes (n : Nat) : List Int := (List.range n).map (fun i : Nat => (i : Int))
/-- the ready nodes, the lowest first -/
def S0 (n : Nat) (l : List S50) (T : List Int) : List Int := (nodes n).filter (isRdy l T)
def setT (T : List Int) (t : Int) (N : List Int) : List Int := N.foldl (fun T i => T.set i.toNat t) T

theorem nodes_succ (n : Nat) : nodes (n + 1) = nodes n ++ [(n : Int)] := by simp [nodes, List.range_succ]
theorem mem_nodes {n : Nat} {i : Int} : i ∈ nodes n ↔ 0 ≤ i ∧ i < (n : Int) := by
  unfold nodes
  simp only [List.mem_map, List.mem_range]
  constructor
  · rintro ⟨j, hj, rfl⟩
    omega
  · rintro ⟨h0, h1⟩
    exact ⟨i.toNat, by omega, by omega⟩
theorem mem_S0 {n : Nat} {l : List S50} {T : List Int} {i : Int} : i ∈ S0 n l T ↔ 0 ≤ i ∧ i < (n : Int) ∧ rd T i = 0 ∧ cnt l T i = 0 := by
  unfold S0 isRdy
  simp only [List.mem_filter, mem_nodes, decide_eq_true_eq, and_assoc]
theorem S0_yes {n : Nat} {l : List S50} {T : List Int} (h : isRdy l T (n : Int) = true) : S0 (n + 1) l T = S0 n l T ++ [(n : Int)] := by
  simp [S0, nodes_succ, List.filter_append, h]
theorem S0_no {n : Nat} {l : List S50} {T : List Int} (h : isRdy l T (n : Int) = false) : S0 (n + 1) l T = S0 n l T := by
  simp [S0, nodes_succ, List.filter_append, h]
theorem S0_more (l : List S50) (T : List Int) (i d : Nat) : ∃ rest, S0 (i + d) l T = S0 i l T ++ rest := by
  induction d with
  | zero => exact ⟨[], by simp⟩
  | succ d ih =>
    obtain ⟨rest, h⟩ := ih
    by_cases hr : isRdy l T ((i + d : Nat) : Int) = true
    · exact ⟨rest ++ [((i + d : Nat) : Int)], by rw [show i + (d + 1) = i + d + 1 from rfl, S0_yes hr, h, List.append_assoc]⟩
    · exact ⟨rest, by rw [show i + (d + 1) = i + d + 1 from rfl, S0_no (by simpa using hr), h]⟩
theorem S0_length (n : Nat) (l : List S50) (T : List Int) : (S0 n l T).length ≤ n := by
  have := List.length_filter_le (isRdy l T) (nodes n)
  simpa [S0, nodes] using this
theorem setT_length (T : List Int) (t : Int) (N : List Int) : (setT T t N).length = T.length := by
  unfold setT
  induction N generalizing T with
  | nil => rfl
  | cons x N ih => rw [List.foldl_cons, ih, List.length_set]
theorem setT_snoc (T : List Int) (t : Int) (N : List Int) (i : Int) : setT T t (N ++ [i]) = (setT T t N).set i.toNat t := by simp [setT, List.foldl_append]
theorem rd_set (T : List Int) (i k t : Int) (h0 : 0 ≤ i) (hk : 0 ≤ k) : rd (T.set i.toNat t) k = if k = i ∧ i < (T.length : Int) then t else rd T k := by
  unfold rd
  rw [List.getD_eq_getElem?_getD, List.getD_eq_getElem?_getD, List.getElem?_set]
  by_cases h1 : k = i
  · subst h1
    by_cases h2 : k < (T.length : Int)
    · rw [if_pos rfl, if_pos (by omega), if_pos ⟨rfl, h2⟩]; rfl
    · rw [if_pos rfl, if_neg (by omega), if_neg (fun h => h2 h.2), List.getElem?_eq_none (by omega)]
  · rw [if_neg (by omega), if_neg (fun h => h1 h.1)]
theorem rd_setT (t : Int) (N : List Int) (hN : ∀ x ∈ N, 0 ≤ x) (k : Int) (hk : 0 ≤ k) (T : List Int) : rd (setT T t N) k = if k ∈ N ∧ k < (T.length : Int) then t else rd T k := by
  induction N generalizing T with
  | nil => simp [setT]
  | cons x N ih =>
    have e : setT T t (x :: N) = setT (T.set x.toNat t) t N := rfl
    rw [e, ih (fun y hy => hN y (List.mem_cons_of_mem _ hy)), rd_set _ _ _ _ (hN x List.mem_cons_self) hk, List.length_set]
    by_cases h1 : k ∈ N ∧ k < (T.length : Int)
    · rw [if_pos h1, if_pos ⟨List.mem_cons_of_mem _ h1.1, h1.2⟩]
    · rw [if_neg h1]
      by_cases h2 : k = x ∧ x < (T.length : Int)
      · rw [if_pos h2, if_pos ⟨by rw [h2.1]; exact List.mem_cons_self, by omega⟩]
      · rw [if_neg h2, if_neg (fun h => by
          rcases List.mem_cons.mp h.1 with h3 | h3
          · exact h2 ⟨h3, by omega⟩
          · exact h1 ⟨h3, h.2⟩)]
theorem cnt_zero (l : List S50) (T : List Int) (i : Nat) : cnt l T (i : Int) = 0 ↔ ∀ k ∈ preds l i, rd T k ≠ 0 := by
  unfold cnt preds
  rw [List.length_eq_zero_iff, List.filter_eq_nil_iff]
  simp only [List.mem_map, List.mem_filter, decide_eq_true_eq]
  constructor
  · rintro h k ⟨e, ⟨he, h1⟩, rfl⟩ h2
    exact h e he ⟨h1, h2⟩
  · rintro h e he ⟨h1, h2⟩
    exact h e.f0 ⟨e, ⟨he, h1⟩, rfl⟩ h2
theorem ready_l0 (row T : List Int) (t : Int) (hrow : row.length < 1099511627776) (hb : ∀ k ∈ row, 0 ≤ k ∧ k < (T.length : Int)) : ∀ (d j : Nat), j + d = row.length →
    Ev (fun k => plunderref7_ready.l0 k row T t (j : Int)) ((row.drop j).all (fun k => decide (rd T k ≠ 0 ∧ rd T k < t))) := by
  intro d
  induction d with
  | zero =>
    intro j hj
    refine Ev.step (f := fun _ => some true) (fun k => ?_) (by rw [List.drop_of_length_le (by omega)]; simpa using Ev.now true)
    simp only [plunderref7_ready.l0]
    rw [if_neg (by omega)]
  | succ d ih =>
    intro j hj
    have hlt : j < row.length := by omega
    obtain ⟨h0, h1⟩ := hb row[j] (List.getElem_mem hlt)
    have hdrop : row.drop j = row[j] :: row.drop (j + 1) := List.drop_eq_getElem_cons hlt
    by_cases c1 : rd T row[j] = 0
    · refine Ev.step (f := fun _ => some false) (fun k => ?_) ?_
      · simp only [plunderref7_ready.l0]
        rw [if_pos (by omega), if_pos (by omega), rdi row j hlt, if_pos h0, if_pos h1, if_pos c1]
      · rw [hdrop, List.all_cons, decide_eq_false (fun h => h.1 c1), Bool.false_and]
        exact Ev.now false
    · by_cases c2 : rd T row[j] ≥ t
      · refine Ev.step (f := fun _ => some false) (fun k => ?_) ?_
        · simp only [plunderref7_ready.l0]
          rw [if_pos (by omega), if_pos (by omega), rdi row j hlt, if_pos h0, if_pos h1, if_neg c1, if_pos c2]
        · rw [hdrop, List.all_cons, decide_eq_false (fun h => by have := h.2; omega), Bool.false_and]
          exact Ev.now false
      · refine Ev.step (f := fun k => plunderref7_ready.l0 k row T t ((j + 1 : Nat) : Int)) (fun k => ?_) ?_
        · simp only [plunderref7_ready.l0]
          rw [if_pos (by omega), if_pos (by omega), rdi row j hlt, if_pos h0, if_pos h1, if_neg c1, if_neg c2, w64s (by omega)]
        · rw [hdrop, List.all_cons, decide_eq_true ⟨c1, by omega⟩, Bool.true_and]
          exact ih (j + 1) (by omega)
theorem take_sat {α : Type} (a b : List α) (p : Nat) (h : p ≤ a.length) : (a ++ b).take p = a.take p := List.take_append_of_le_length h
theorem refG_l1 (n : Nat) (l : List S50) (hok : ∀ e ∈ l, okE (n : Int) e) (hl : l.length < 1099511627776) (hn : n ≤ 4096) (p : Int) (hp1 : 1 ≤ p) (hp2 : p ≤ 64) (T : List Int) (hT : T.length = n) (t : Int) (ht : 1 ≤ t) (hTt : ∀ k, 0 ≤ k → k < (n : Int) → rd T k < t) (done : Int) (r : List Int × Int)
    (hend : Ev (fun k => plunderref7_Greedy.l0 k p (rowsOf n l) (setT T t ((S0 n l T).take p.toNat)) (wrap64 (done + (((S0 n l T).take p.toNat).length : Int))) (wrap64 (t + 1)) (n : Int) l) r) :
    ∀ (d i : Nat), i + d = n → Ev (fun k => plunderref7_Greedy.l1 k p (rowsOf n l) (setT T t ((S0 i l T).take p.toNat)) done t (((S0 i l T).take p.toNat).length : Int) (i : Int) (n : Int) l) r := by
  intro d
  induction d with
  | zero =>
    intro i hi
    obtain rfl : i = n := by omega
    refine Ev.step (f := fun k => plunderref7_Greedy.j3 k p (rowsOf i l) (setT T t ((S0 i l T).take p.toNat)) done t (((S0 i l T).take p.toNat).length : Int) (i : Int) false (i : Int) l) (fun k => ?_) ?_
    · simp only [plunderref7_Greedy.l1]
      rw [if_neg (by omega)]
    · refine Ev.step (f := fun k => plunderref7_Greedy.l0 k p (rowsOf i l) (setT T t ((S0 i l T).take p.toNat)) (wrap64 (done + (((S0 i l T).take p.toNat).length : Int))) (wrap64 (t + 1)) (i : Int) l) (fun k => ?_) hend
      simp only [plunderref7_Greedy.j3]
      rw [if_neg (by decide)]
  | succ d ih =>
    intro i hi
    have hin : i < n := by omega
    refine Ev.step (f := fun k => plunderref7_Greedy.j3 k p (rowsOf n l) (setT T t ((S0 i l T).take p.toNat)) done t (((S0 i l T).take p.toNat).length : Int) (i : Int) (decide ((((S0 i l T).take p.toNat).length : Int) < p)) (n : Int) l) (fun k => ?_) ?_
    · simp only [plunderref7_Greedy.l1]
      rw [if_pos (by omega)]
    have hlen : ((S0 i l T).take p.toNat).length = min p.toNat (S0 i l T).length := List.length_take
    by_cases hm : (((S0 i l T).take p.toNat).length : Int) < p
    · rw [decide_eq_true hm]
      have hfull : (S0 i l T).take p.toNat = S0 i l T := List.take_of_length_le (by omega)
      have hlt : (S0 i l T).length < p.toNat := by omega
      rw [hfull]
      have hpos : ∀ x ∈ S0 i l T, 0 ≤ x := fun x hx => (mem_S0.mp hx).1
      have hri : rd (setT T t (S0 i l T)) (i : Int) = rd T (i : Int) := by
        rw [rd_setT t _ hpos _ (by omega), if_neg (fun h => by have := (mem_S0.mp h.1).2.1; omega)]
      have hread : (preds l i).all (fun k => decide (rd (setT T t (S0 i l T)) k ≠ 0 ∧ rd (setT T t (S0 i l T)) k < t)) = decide (cnt l T (i : Int) = 0) := by
        rw [Bool.eq_iff_iff, List.all_eq_true, decide_eq_true_eq, cnt_zero]
        simp only [decide_eq_true_eq]
        have hk : ∀ k ∈ preds l i, 0 ≤ k ∧ k < (i : Int) := fun k hk => by
          obtain ⟨e, he, h1, h2⟩ := preds_mem hk
          obtain ⟨a1, a2, a3⟩ := hok e he
          omega
        constructor
        · intro h k hkm h0
          have h1 := h k hkm
          have h2 := hk k hkm
          rw [rd_setT t _ hpos _ h2.1] at h1
          split at h1
          · omega
          · exact h1.1 h0
        · intro h k hkm
          have h2 := hk k hkm
          have h3 := h k hkm
          rw [rd_setT t _ hpos _ h2.1, if_neg (fun h4 => h3 (mem_S0.mp h4.1).2.2.1)]
          exact ⟨h3, hTt k h2.1 (by omega)⟩
      have hlenT : (setT T t (S0 i l T)).length = n := by rw [setT_length, hT]
      by_cases hz : rd T (i : Int) = 0
      · refine Ev.step (f := fun k => (plunderref7_ready.f k (preds l i) (setT T t (S0 i l T)) t).bind fun b => if b = true then plunderref7_Greedy.l1 k p (rowsOf n l) ((setT T t (S0 i l T)).set (i : Int).toNat t) done t (wrap64 (((S0 i l T).length : Int) + 1)) (wrap64 ((i : Int) + 1)) (n : Int) l else plunderref7_Greedy.l1 k p (rowsOf n l) (setT T t (S0 i l T)) done t ((S0 i l T).length : Int) (wrap64 ((i : Int) + 1)) (n : Int) l) (fun k => ?_) ?_
        · simp only [plunderref7_Greedy.j3]
          rw [if_pos trivial, if_pos (by omega), if_pos (by rw [hlenT]; omega), hri, if_pos hz, if_pos (by rw [rowsOf_length]; omega)]
          rw [show rd_L5 (rowsOf n l) (i : Int) = preds l i from by show (rowsOf n l).getD (i : Int).toNat [] = _; rw [Int.toNat_natCast, rowsOf_getD _ _ _ hin]]
        · have hr := ready_l0 (preds l i) (setT T t (S0 i l T)) t (Nat.lt_of_le_of_lt (preds_len l i) hl) (fun k hk => by
            obtain ⟨e, he, h1, h2⟩ := preds_mem hk
            obtain ⟨a1, a2, a3⟩ := hok e he
            rw [hlenT]
            omega) (preds l i).length 0 (by omega)
          rw [List.drop_zero, hread] at hr
          refine Ev.bind hr ?_
          rw [w64s (by omega)]
          by_cases hc : cnt l T (i : Int) = 0
          · have hy : isRdy l T (i : Int) = true := decide_eq_true ⟨hz, hc⟩
            have h5 := ih (i + 1) (by omega)
            rw [S0_yes hy, List.take_of_length_le (by simp; omega), setT_snoc, List.length_append] at h5
            rw [w64s (by omega)]
            simpa [hc] using h5
          · have hy : isRdy l T (i : Int) = false := decide_eq_false (fun h => hc h.2)
            have h5 := ih (i + 1) (by omega)
            rw [S0_no hy, hfull] at h5
            rw [w64s (by omega)]
            simpa [hc] using h5
      · refine Ev.step (f := fun k => plunderref7_Greedy.l1 k p (rowsOf n l) (setT T t (S0 i l T)) done t ((S0 i l T).length : Int) ((i + 1 : Nat) : Int) (n : Int) l) (fun k => ?_) ?_
        · simp only [plunderref7_Greedy.j3]
          rw [if_pos trivial, if_pos (by omega), if_pos (by rw [hlenT]; omega), hri, if_neg hz, w64s (by omega)]
        · have hy : isRdy l T (i : Int) = false := decide_eq_false (fun h => hz h.1)
          have h5 := ih (i + 1) (by omega)
          rw [S0_no hy, hfull] at h5
          exact h5
    · rw [decide_eq_false hm]
      obtain ⟨rest, hrest⟩ := S0_more l T i (d + 1)
      rw [hi] at hrest
      have hsat : (S0 n l T).take p.toNat = (S0 i l T).take p.toNat := by rw [hrest]; exact take_sat _ _ _ (by omega)
      rw [hsat] at hend
      refine Ev.step (f := fun k => plunderref7_Greedy.l0 k p (rowsOf n l) (setT T t ((S0 i l T).take p.toNat)) (wrap64 (done + (((S0 i l T).take p.toNat).length : Int))) (wrap64 (t + 1)) (n : Int) l) (fun k => ?_) hend
      simp only [plunderref7_Greedy.j3]
      rw [if_neg (by decide)]
end Go.Proofs.Ytbahnialbffkeaa.P
