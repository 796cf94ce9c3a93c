/- Plain law, part K: Greedy, the program's and the document's, from end to end: the same. -/
import Derived.Test.YtbahnialbffkeaaDagJ
namespace Go.Proofs.Ytbahnialbffkeaa.P
open Go.RowKit Go.Proofs.YtbahnialbffkeaaW.PrintWords Go.Proofs.YtbahnialbffkeaaW.PrintLast Go.Proofs.YtbahnialbffkeaaW.PrintMore
set_option linter.unusedVariables false
set_option linter.unusedSimpArgs false
theorem rd_zeros (n : Nat) (k : Int) : rd (List.replicate n 0) k = 0 := by
  unfold rd
  rw [List.getD_eq_getElem?_getD, List.getElem?_replicate]
  split <;> rfl
theorem closed_zeros (n : Nat) (l : List S50) : closed l (List.replicate n 0) := fun e _ h => absurd (rd_zeros n e.f1) h
theorem U_zeros (n : Nat) : (U n (List.replicate n 0)).length = n := by
  have h : U n (List.replicate n 0) = nodes n := by
    unfold U
    rw [List.filter_eq_self]
    intro k _
    exact decide_eq_true (rd_zeros n k)
  rw [h]
  simp [nodes]
theorem succs_snoc (l : List S50) (e : S50) (i : Int) : succs (l ++ [e]) i = if e.f0 = i then succs l i ++ [e.f1] else succs l i := by
  unfold succs
  by_cases h : e.f0 = i <;> simp [List.filter_append, h]
theorem succRows_snoc (n : Nat) (l : List S50) (e : S50) (h0 : 0 ≤ e.f0) (h : e.f0 < (n : Int)) :
    (succRows n l).set e.f0.toNat (succs l e.f0 ++ [e.f1]) = succRows n (l ++ [e]) := by
  apply List.ext_getElem?
  intro i
  by_cases hi : i < n
  · by_cases he : e.f0.toNat = i
    · subst he
      rw [List.getElem?_set_self (by rw [succRows_length]; exact hi)]
      simp only [succRows, List.getElem?_map, List.getElem?_range hi, Option.map_some]
      rw [succs_snoc, if_pos (by omega), show ((e.f0.toNat : Nat) : Int) = e.f0 from by omega]
    · rw [List.getElem?_set_ne he]
      simp only [succRows, List.getElem?_map, List.getElem?_range hi, Option.map_some]
      rw [succs_snoc, if_neg (by omega)]
  · rw [List.getElem?_eq_none (by simp [succRows_length]; omega), List.getElem?_eq_none (by simp [succRows_length]; omega)]
theorem succRows_nil (n : Nat) : succRows n [] = List.replicate n [] := by
  apply List.ext_getElem?
  intro i
  by_cases hi : i < n
  · simp [succRows, succs, hi]
  · rw [List.getElem?_eq_none (by simp [succRows_length]; omega), List.getElem?_eq_none (by simp; omega)]
theorem cnt_snoc (l : List S50) (e : S50) (n : Nat) (k : Int) : cnt (l ++ [e]) (List.replicate n 0) k = cnt l (List.replicate n 0) k + if e.f1 = k then 1 else 0 := by
  unfold cnt
  by_cases h : e.f1 = k <;> simp [List.filter_append, h, rd_zeros]
theorem dagG_l1 (n : Nat) (l : List S50) (hok : ∀ e ∈ l, okE (n : Int) e) (hl : l.length < 1048576) (hn : n ≤ 4096) (p : Int) (hp1 : 1 ≤ p) (hp2 : p ≤ 64) (W : List Int) (hW : W.length = n) (hc : ∀ k, 0 ≤ k → k < (n : Int) → rd W k = (cnt l (List.replicate n 0) k : Int)) : ∀ (d i : Nat) (H : List Int), i + d = n → HeapIs i (List.replicate n 0) [] W H →
    Ev (fun k => dag_Greedy.l1 k p (n : Int) W (succRows n l) H (i : Int)) (gr n l p n (List.replicate n 0) 1, 0) := by
  intro d
  induction d with
  | zero =>
    intro i H hi hH
    obtain rfl : i = n := by omega
    refine Ev.step (f := fun k => dag_Greedy.l2 k p W (succRows i l) H (List.replicate i 0) 1) (fun k => ?_) (dagG_l2 i l hok hl hn p hp1 hp2 i (List.replicate i 0) 1 W H (U_len i _) (by simp) (by omega) (by omega) (closed_zeros i l) hW hc hH)
    simp only [dag_Greedy.l1]
    rw [if_neg (by omega), if_pos ⟨by omega, by omega⟩, Int.toNat_natCast]
  | succ d ih =>
    intro i H hi hH
    have hlen := hH.len
    by_cases hz : rd W (i : Int) = 0
    · refine Ev.step (f := fun k => dag_Greedy.l1 k p (n : Int) W (succRows n l) (pushL H (i : Int)) ((i + 1 : Nat) : Int)) (fun k => ?_) (ih (i + 1) _ (by omega) ?_)
      · simp only [dag_Greedy.l1]
        rw [if_pos (by omega), if_pos ⟨by omega, by omega⟩, if_pos hz, if_pos (by omega), w64s (by omega)]
      · have hpp := pushL_perm H (i : Int)
        refine ⟨pushL_heap H _ hH.heap, (List.Perm.nodup_iff hpp).mpr (List.nodup_cons.mpr ⟨fun h => by have := ((hH.mem _).mp h).2.1; omega, hH.nodup⟩), fun k => ?_⟩
        rw [hpp.mem_iff, List.mem_cons, hH.mem]
        constructor
        · rintro (rfl | ⟨a, b, c, dd, ee⟩)
          · exact ⟨by omega, by omega, rd_zeros _ _, by simp, hz⟩
          · exact ⟨a, by omega, c, dd, ee⟩
        · rintro ⟨a, b, c, dd, ee⟩
          by_cases hk : k = (i : Int)
          · exact .inl hk
          · exact .inr ⟨a, by omega, c, dd, ee⟩
    · refine Ev.step (f := fun k => dag_Greedy.l1 k p (n : Int) W (succRows n l) H ((i + 1 : Nat) : Int)) (fun k => ?_) (ih (i + 1) _ (by omega) ?_)
      · simp only [dag_Greedy.l1]
        rw [if_pos (by omega), if_pos ⟨by omega, by omega⟩, if_neg hz, w64s (by omega)]
      · refine ⟨hH.heap, hH.nodup, fun k => ?_⟩
        rw [hH.mem]
        constructor
        · rintro ⟨a, b, c, dd, ee⟩
          exact ⟨a, by omega, c, dd, ee⟩
        · rintro ⟨a, b, c, dd, ee⟩
          refine ⟨a, ?_, c, dd, ee⟩
          by_cases hk : k = (i : Int)
          · rw [hk] at ee; exact absurd ee hz
          · omega
theorem dagG_l0 (n : Nat) (l : List S50) (hok : ∀ e ∈ l, okE (n : Int) e) (hl : l.length < 1048576) (hn : n ≤ 4096) (p : Int) (hp1 : 1 ≤ p) (hp2 : p ≤ 64) : ∀ (d j : Nat) (W : List Int), j + d = l.length → W.length = n → (∀ k, 0 ≤ k → k < (n : Int) → rd W k = (cnt (l.take j) (List.replicate n 0) k : Int)) →
    Ev (fun k => dag_Greedy.l0 k p W (succRows n (l.take j)) (j : Int) (n : Int) l) (gr n l p n (List.replicate n 0) 1, 0) := by
  intro d
  induction d with
  | zero =>
    intro j W hj hW hc
    rw [List.take_of_length_le (by omega)] at hc ⊢
    refine Ev.step (f := fun k => dag_Greedy.l1 k p (n : Int) W (succRows n l) [] ((0 : Nat) : Int)) (fun k => ?_) (dagG_l1 n l hok hl hn p hp1 hp2 W hW hc n 0 [] (by omega) ⟨fun j hj h => by simp at h, List.nodup_nil, fun k => ?_⟩)
    · simp only [dag_Greedy.l0]
      rw [if_neg (by omega)]
      rfl
    · constructor
      · intro h; cases h
      · rintro ⟨a, b, -⟩; omega
  | succ d ih =>
    intro j W hj hW hc
    have hlt : j < l.length := by omega
    obtain ⟨e, hee⟩ : ∃ e, e = l[j] := ⟨_, rfl⟩
    obtain ⟨b1, b2, b3⟩ := hok e (by rw [hee]; exact List.getElem_mem hlt)
    have hsl := succs_len (l.take j) e.f0
    have htl : (l.take j).length ≤ l.length := by rw [List.length_take]; omega
    have hcl := cnt_le (l.take j) (List.replicate n 0) e.f1
    have hWx := hc e.f1 (by omega) b3
    have htake : l.take (j + 1) = l.take j ++ [e] := by rw [hee, List.take_succ_eq_append_getElem hlt]
    have hw : wrap64 (rd W e.f1 + 1) = rd W e.f1 + 1 := w64 (by omega) (by omega)
    refine Ev.step (f := fun k => dag_Greedy.l0 k p (W.set e.f1.toNat (rd W e.f1 + 1)) (succRows n (l.take (j + 1))) ((j + 1 : Nat) : Int) (n : Int) l) (fun k => ?_) (ih (j + 1) _ (by omega) (by rw [List.length_set]; exact hW) ?_)
    · simp only [dag_Greedy.l0]
      rw [if_pos (by omega), if_pos (by omega), if_pos (by omega), rd50 l j hlt, ← hee, if_pos (by omega), if_pos (by omega), if_pos b1, if_pos (by rw [succRows_length]; omega), succRows_at n _ e.f0 b1 (by omega), if_pos (by omega), hw, w64s (by omega), succRows_snoc n _ e b1 (by omega), htake]
    · intro k a b
      rw [htake, cnt_snoc, rd_set W e.f1 k _ (by omega) a]
      by_cases hk : k = e.f1
      · rw [if_pos ⟨hk, by omega⟩, if_pos hk.symm, hk]
        omega
      · rw [if_neg (fun h => hk h.1), if_neg (fun h => hk h.symm), hc k a b]
        omega
def greedyR (n : Int) (l : List S50) (p : Int) : List Int × Int := if chk n l = 0 then (if p < 1 ∨ p > 64 then ([], 3) else (gr n.toNat l p n.toNat (List.replicate n.toNat 0) 1, 0)) else ([], chk n l)
theorem dagGreedy_ev (n : Int) (l : List S50) (p : Int) (hl : l.length < 1099511627776) : Ev (fun k => dag_Greedy.f k n l p) (greedyR n l p) := by
  unfold dag_Greedy.f greedyR
  refine Ev.bind (dagCheck_ev n l hl) ?_
  by_cases hc : chk n l = 0
  · rw [if_pos hc]
    simp only [hc, if_true]
    obtain ⟨h0, h1, h2, hok⟩ := chk_zero hc
    have bad : ∀ b : Bool, b = true → Ev (fun k => dag_Greedy.j0 k p b n l) (([] : List Int), 3) := by
      rintro b rfl
      refine Ev.step (f := fun _ => some (([] : List Int), 3)) (fun k => ?_) (Ev.now _)
      simp only [dag_Greedy.j0, if_true]
    by_cases hp : p < 1 ∨ p > 64
    · rw [if_pos hp]
      by_cases hp1 : p < 1
      · simp only [if_pos hp1]
        exact bad true rfl
      · simp only [if_neg hp1]
        exact bad _ (decide_eq_true (by omega))
    · rw [if_neg hp]
      have hp1 : ¬ p < 1 := by omega
      simp only [if_neg hp1]
      rw [decide_eq_false (by omega)]
      obtain ⟨m, rfl⟩ : ∃ m : Nat, n = (m : Int) := ⟨n.toNat, by omega⟩
      rw [Int.toNat_natCast]
      refine Ev.step (f := fun k => dag_Greedy.l0 k p (List.replicate m 0) (succRows m (l.take 0)) ((0 : Nat) : Int) (m : Int) l) (fun k => ?_) (dagG_l0 m l hok (by omega) (by omega) p (by omega) (by omega) l.length 0 _ (by omega) (by simp) (fun k a b => ?_))
      · simp only [dag_Greedy.j0, Int.toNat_natCast]
        rw [if_neg (by decide), if_pos (by omega), if_pos (by omega), if_pos (by omega), List.take_zero, succRows_nil]
        rfl
      · rw [rd_zeros]
        simp [cnt]
  · rw [if_neg hc]
    simp only [if_neg hc]
    exact Ev.now _
theorem refGreedy_ev (n : Int) (l : List S50) (p : Int) (hl : l.length < 1099511627776) : Ev (fun k => plunderref7_Greedy.f k n l p) (greedyR n l p) := by
  unfold plunderref7_Greedy.f greedyR
  refine Ev.bind (refCheck_ev n l hl) ?_
  by_cases hc : chk n l = 0
  · rw [if_pos hc]
    simp only [hc, if_true]
    obtain ⟨h0, h1, h2, hok⟩ := chk_zero hc
    have bad : ∀ b : Bool, b = true → Ev (fun k => plunderref7_Greedy.j0 k p b n l) (([] : List Int), 3) := by
      rintro b rfl
      refine Ev.step (f := fun _ => some (([] : List Int), 3)) (fun k => ?_) (Ev.now _)
      simp only [plunderref7_Greedy.j0, if_true]
    by_cases hp : p < 1 ∨ p > 64
    · rw [if_pos hp]
      by_cases hp1 : p < 1
      · simp only [if_pos hp1]
        exact bad true rfl
      · simp only [if_neg hp1]
        exact bad _ (decide_eq_true (by omega))
    · rw [if_neg hp]
      have hp1 : ¬ p < 1 := by omega
      simp only [if_neg hp1]
      rw [decide_eq_false (by omega)]
      obtain ⟨m, rfl⟩ : ∃ m : Nat, n = (m : Int) := ⟨n.toNat, by omega⟩
      rw [Int.toNat_natCast]
      have hU := U_zeros m
      have h5 := refG_l0 m l hok hl (by omega) p (by omega) (by omega) m (List.replicate m 0) 1 (by omega) (by simp) (by omega) (by omega) (fun k a b => by rw [rd_zeros]; omega)
      rw [hU, Int.sub_self] at h5
      refine Ev.step (f := fun k => (plunderref7_before.f k (m : Int) l).bind fun t => plunderref7_Greedy.l0 k p t (List.replicate m 0) 0 1 (m : Int) l) (fun k => ?_) (Ev.bind (before_ev m l (by omega) hl hok) h5)
      simp only [plunderref7_Greedy.j0, Int.toNat_natCast]
      rw [if_neg (by decide)]
      refine congrArg _ (funext fun t => ?_)
      rw [if_pos (by omega), if_pos (by omega)]
  · rw [if_neg hc]
    simp only [if_neg hc]
    exact Ev.now _
theorem greedyR_length (n : Int) (l : List S50) (p : Int) : (greedyR n l p).1.length ≤ 4096 := by
  unfold greedyR
  split
  · next hc =>
    obtain ⟨h0, h1, h2, hok⟩ := chk_zero hc
    split
    · simp
    · have key : ∀ (d : Nat) (T : List Int) (t : Int), (gr n.toNat l p d T t).length = T.length := by
        intro d
        induction d with
        | zero => intro T t; rfl
        | succ d ih =>
          intro T t
          rw [gr]
          split
          · rfl
          · rw [ih, rnd_length]
      rw [key]
      simp
      omega
  · simp
end Go.Proofs.Ytbahnialbffkeaa.P
