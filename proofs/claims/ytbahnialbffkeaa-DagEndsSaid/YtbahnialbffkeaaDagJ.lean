/- Plain law, part J: the loops around it; the whole of the program's Greedy. -/
import Derived.Test.YtbahnialbffkeaaDagI
namespace Go.Proofs.Ytbahnialbffkeaa.P
open Go.RowKit Go.Proofs.YtbahnialbffkeaaW.PrintWords Go.Proofs.YtbahnialbffkeaaW.PrintLast Go.Proofs.YtbahnialbffkeaaW.PrintMore
set_option linter.unusedVariables false
set_option linter.unusedSimpArgs false
/-- what is done has all that is ahead of it done -/
def closed (l : List S50) (T : List Int) : Prop := ∀ e ∈ l, rd T e.f1 ≠ 0 → rd T e.f0 ≠ 0
theorem cnt_pred {l : List S50} {T : List Int} {e : S50} (he : e ∈ l) (h : cnt l T e.f1 = 0) : rd T e.f0 ≠ 0 := by
  unfold cnt at h
  rw [List.length_eq_zero_iff, List.filter_eq_nil_iff] at h
  have := h e he
  simpa using this
theorem drop_not_take {l : List Int} (h : l.Nodup) (m : Nat) (k : Int) : k ∈ l.drop m ↔ k ∈ l ∧ k ∉ l.take m := by
  have h2 : l.take m ++ l.drop m = l := List.take_append_drop m l
  have h3 : (l.take m ++ l.drop m).Nodup := by rw [h2]; exact h
  rw [List.nodup_append] at h3
  constructor
  · intro hk
    exact ⟨List.mem_of_mem_drop hk, fun h4 => h3.2.2 k h4 k hk rfl⟩
  · rintro ⟨a, b⟩
    rw [← h2, List.mem_append] at a
    exact a.elim (fun h => absurd h b) id
theorem dagG_l4 (n : Nat) (l : List S50) (hok : ∀ e ∈ l, okE (n : Int) e) (hl : l.length < 1048576) (hn : n ≤ 4096) (p : Int) (hp1 : 1 ≤ p) (hp2 : p ≤ 64) (T N : List Int) (t : Int) (hT : T.length = n) (ht : 1 ≤ t) (hNn : N.Nodup) (hN : ∀ x ∈ N, x ∈ S0 n l T) (hcl : closed l T) (r : List Int × Int)
    (hend : ∀ W H, W.length = n → (∀ k, 0 ≤ k → k < (n : Int) → rd W k = (cnt l (setT T t N) k : Int)) → HeapIs n (setT T t N) N W H → Ev (fun k => dag_Greedy.l2 k p W (succRows n l) H (setT T t N) (wrap64 (t + 1))) r) :
    ∀ (d j : Nat) (W H : List Int), j + d = N.length → W.length = n → (∀ k, 0 ≤ k → k < (n : Int) → rd W k = (cnt l (setT T t (N.take j)) k : Int)) → HeapIs n (setT T t (N.take j)) N W H →
      Ev (fun k => dag_Greedy.l4 k p W (succRows n l) H (setT T t (N.take j)) t N (j : Int)) r := by
  have hNlen : N.length ≤ n := by
    have h1 : N.Perm ((S0 n l T).filter (fun k => decide (k ∈ N))) := by
      refine (List.perm_ext_iff_of_nodup hNn ((nodup_of_lt (S0_lt n l T)).sublist List.filter_sublist)).mpr ?_
      intro k
      simp only [List.mem_filter, decide_eq_true_eq]
      exact ⟨fun h => ⟨hN k h, h⟩, fun h => h.2⟩
    rw [h1.length_eq]
    exact Nat.le_trans (List.length_filter_le _ _) (S0_length n l T)
  intro d
  induction d with
  | zero =>
    intro j W H hj hW hc hH
    rw [List.take_of_length_le (by omega)] at hc hH ⊢
    refine Ev.step (f := fun k => dag_Greedy.l2 k p W (succRows n l) H (setT T t N) (wrap64 (t + 1))) (fun k => ?_) (hend W H hW hc hH)
    simp only [dag_Greedy.l4]
    rw [if_neg (by omega)]
  | succ d ih =>
    intro j W H hj hW hc hH
    have hlt : j < N.length := by omega
    obtain ⟨i, hie⟩ : ∃ i, i = N[j] := ⟨_, rfl⟩
    have hiN : i ∈ N := by rw [hie]; exact List.getElem_mem hlt
    obtain ⟨h0, h1, hz, hcz⟩ := mem_S0.mp (hN i hiN)
    have hpos : ∀ m, ∀ x ∈ N.take m, 0 ≤ x := fun m x hx => (mem_S0.mp (hN x (List.mem_of_mem_take hx))).1
    have htake : N.take (j + 1) = N.take j ++ [i] := by rw [hie, List.take_succ_eq_append_getElem hlt]
    have hdrop : i ∈ N.drop j := by rw [hie, List.drop_eq_getElem_cons hlt]; exact List.mem_cons_self
    have hinot : i ∉ N.take j := ((drop_not_take hNn j i).mp hdrop).2
    have hT1 : (setT T t (N.take j)).set i.toNat t = setT T t (N.take (j + 1)) := by rw [htake, setT_snoc]
    have hlenT : (setT T t (N.take j)).length = n := by rw [setT_length, hT]
    have hTi : rd (setT T t (N.take j)) i = 0 := by rw [rd_setT t _ (hpos j) i h0, if_neg (fun h => hinot h.1)]; exact hz
    refine Ev.step (f := fun k => dag_Greedy.l5 k p W (succRows n l) H (setT T t (N.take (j + 1))) t N (j : Int) i ((0 : Nat) : Int)) (fun k => ?_) ?_
    · simp only [dag_Greedy.l4]
      rw [if_pos (by omega), rdi N j hlt, ← hie, if_pos ⟨by omega, h0, by rw [hlenT]; exact h1, by rw [succRows_length]; exact h1⟩, hT1]
      rfl
    · refine dagG_l5 n l hok hl hn p hp1 hp2 (setT T t (N.take (j + 1))) N t (j : Int) i h0 h1 ?_ r ?_ (succs l i).length 0 W H (by omega) hW ?_ ?_
      · intro x hx
        obtain ⟨e, he, e1, e2⟩ := mem_succs hx
        have hxN : x ∉ N := fun h => by
          have h3 := (mem_S0.mp (hN x h)).2.2.2
          rw [← e2] at h3
          have h4 := cnt_pred he h3
          rw [e1] at h4
          exact h4 hz
        refine ⟨?_, hxN⟩
        have b := hok e he
        have hx0 : 0 ≤ x := by have := b.1; have := b.2.1; omega
        rw [rd_setT t _ (hpos _) x hx0, if_neg (fun h => hxN (List.mem_of_mem_take h.1))]
        refine Classical.byContradiction fun h => ?_
        have h4 := hcl e he (by rw [e2]; exact h)
        rw [e1] at h4
        exact h4 hz
      · intro W2 H2 hW2 hc2 hH2
        rw [w64s (by omega)]
        exact ih (j + 1) W2 H2 (by omega) hW2 hc2 hH2
      · intro k a b
        rw [List.drop_zero, hc k a b, cnt_set l (setT T t (N.take j)) i t k (fun e he => (hok e he).1) h0 (by rw [hlenT]; exact h1) hTi (by omega), hT1]
        omega
      · refine ⟨hH.heap, hH.nodup, fun k => ?_⟩
        rw [hH.mem]
        have key : ∀ k, 0 ≤ k → k ∉ N → rd (setT T t (N.take (j + 1))) k = rd (setT T t (N.take j)) k := by
          intro k a b
          rw [rd_setT t _ (hpos _) k a, rd_setT t _ (hpos _) k a, if_neg (fun h => b (List.mem_of_mem_take h.1)), if_neg (fun h => b (List.mem_of_mem_take h.1))]
        constructor
        · rintro ⟨a, b, c, dd, ee⟩
          exact ⟨a, b, by rw [key k a dd]; exact c, dd, ee⟩
        · rintro ⟨a, b, c, dd, ee⟩
          exact ⟨a, b, by rw [← key k a dd]; exact c, dd, ee⟩
theorem dagG_l3 (n : Nat) (l : List S50) (hok : ∀ e ∈ l, okE (n : Int) e) (hl : l.length < 1048576) (hn : n ≤ 4096) (p : Int) (hp1 : 1 ≤ p) (hp2 : p ≤ 64) (T W : List Int) (t : Int) (r : List Int × Int)
    (hend : ∀ H, isHeap H → H.Perm ((S0 n l T).drop p.toNat) → Ev (fun k => dag_Greedy.l4 k p W (succRows n l) H T t ((S0 n l T).take p.toNat) 0) r) :
    ∀ (d m : Nat) (H : List Int), m + d = (S0 n l T).length → m ≤ p.toNat → isHeap H → H.Perm ((S0 n l T).drop m) → Ev (fun k => dag_Greedy.l3 k p W (succRows n l) H T t ((S0 n l T).take m)) r := by
  have hSl := S0_length n l T
  intro d
  induction d with
  | zero =>
    intro m H hm hmp hh hp
    have e1 : (S0 n l T).take m = (S0 n l T).take p.toNat := by rw [List.take_of_length_le (by omega), List.take_of_length_le (by omega)]
    have e2 : (S0 n l T).drop m = (S0 n l T).drop p.toNat := by rw [List.drop_of_length_le (by omega), List.drop_of_length_le (by omega)]
    have hlen := hp.length_eq
    rw [List.length_drop] at hlen
    refine Ev.step (f := fun k => dag_Greedy.l4 k p W (succRows n l) H T t ((S0 n l T).take p.toNat) 0) (fun k => ?_) (hend H hh (by rw [← e2]; exact hp))
    simp only [dag_Greedy.l3]
    rw [if_neg (fun h => by omega), e1]
  | succ d ih =>
    intro m H hm hmp hh hp
    have hlt : m < (S0 n l T).length := by omega
    have hlen := hp.length_eq
    rw [List.length_drop] at hlen
    by_cases hmm : m = p.toNat
    · subst hmm
      refine Ev.step (f := fun k => dag_Greedy.l4 k p W (succRows n l) H T t ((S0 n l T).take p.toNat) 0) (fun k => ?_) (hend H hh hp)
      simp only [dag_Greedy.l3]
      rw [if_neg (fun h => by have := h.1; rw [List.length_take] at this; omega)]
    · have hdrop : (S0 n l T).drop m = (S0 n l T)[m] :: (S0 n l T).drop (m + 1) := List.drop_eq_getElem_cons hlt
      have hpp := popL_perm H (by omega)
      have hmin : H.getD 0 0 = (S0 n l T)[m] := by
        have hlt2 : ((S0 n l T).drop m).Pairwise (· < ·) := (S0_lt n l T).sublist (List.drop_sublist _ _)
        have hm1 : H.getD 0 0 ∈ (S0 n l T).drop m := hp.mem_iff.mp (hpp.mem_iff.mpr List.mem_cons_self)
        have hm2 : (S0 n l T)[m] ∈ H := hp.mem_iff.mpr (by rw [hdrop]; exact List.mem_cons_self)
        have h3 := heap_least_mem H hh hm2
        rw [hdrop] at hm1 hlt2
        rcases List.mem_cons.mp hm1 with h4 | h4
        · exact h4
        · have := (List.pairwise_cons.mp hlt2).1 _ h4
          omega
      refine Ev.step (f := fun k => dag_Greedy.l3 k p W (succRows n l) (popL H) T t ((S0 n l T).take (m + 1))) (fun k => ?_) (ih (m + 1) (popL H) (by omega) (by omega) (popL_heap H hh (by omega)) ?_)
      · simp only [dag_Greedy.l3]
        have hml : ((S0 n l T).take m).length = m := by rw [List.length_take]; omega
        rw [if_pos ⟨by rw [hml]; omega, by omega⟩, if_pos ⟨by omega, by rw [hml]; omega⟩, hmin, List.take_succ_eq_append_getElem hlt]
      · have h5 := hpp.symm.trans hp
        rw [hdrop, hmin] at h5
        exact List.Perm.cons_inv h5
theorem dagG_l2 (n : Nat) (l : List S50) (hok : ∀ e ∈ l, okE (n : Int) e) (hl : l.length < 1048576) (hn : n ≤ 4096) (p : Int) (hp1 : 1 ≤ p) (hp2 : p ≤ 64) : ∀ (d : Nat) (T : List Int) (t : Int) (W H : List Int), (U n T).length ≤ d → T.length = n → 1 ≤ t → t + d ≤ 5000 → closed l T → W.length = n → (∀ k, 0 ≤ k → k < (n : Int) → rd W k = (cnt l T k : Int)) → HeapIs n T [] W H →
    Ev (fun k => dag_Greedy.l2 k p W (succRows n l) H T t) (gr n l p d T t, 0) := by
  have perm : ∀ (T W H : List Int), (∀ k, 0 ≤ k → k < (n : Int) → rd W k = (cnt l T k : Int)) → HeapIs n T [] W H → H.Perm (S0 n l T) := by
    intro T W H hc hH
    refine (List.perm_ext_iff_of_nodup hH.nodup (nodup_of_lt (S0_lt n l T))).mpr fun k => ?_
    rw [hH.mem, mem_S0]
    constructor
    · rintro ⟨a, b, c, -, ee⟩
      have := hc k a b
      exact ⟨a, b, c, by omega⟩
    · rintro ⟨a, b, c, ee⟩
      have := hc k a b
      exact ⟨a, b, c, by simp, by omega⟩
  intro d
  induction d with
  | zero =>
    intro T t W H hU hT ht htd hcl hW hc hH
    have h1 := (perm T W H hc hH).length_eq
    have h2 := (S0_nil_iff n l hok T).mpr (by omega)
    rw [h2] at h1
    refine Ev.step (f := fun _ => some (T, 0)) (fun k => ?_) (Ev.now _)
    simp only [dag_Greedy.l2]
    rw [if_neg (by simp at h1; simp [h1])]
  | succ d ih =>
    intro T t W H hU hT ht htd hcl hW hc hH
    have hperm := perm T W H hc hH
    have h1 := hperm.length_eq
    by_cases hne : S0 n l T = []
    · rw [hne] at h1
      refine Ev.step (f := fun _ => some (T, 0)) (fun k => ?_) ?_
      · simp only [dag_Greedy.l2]
        rw [if_neg (by simp at h1; simp [h1])]
      · rw [gr, if_pos hne]
        exact Ev.now _
    · have hpos := List.length_pos_iff.mpr hne
      refine Ev.step (f := fun k => dag_Greedy.l3 k p W (succRows n l) H T t ((S0 n l T).take 0)) (fun k => ?_) ?_
      · simp only [dag_Greedy.l2]
        rw [if_pos (by omega)]
        rfl
      · rw [gr, if_neg hne]
        refine dagG_l3 n l hok hl hn p hp1 hp2 T W t _ ?_ (S0 n l T).length 0 H (by omega) (by omega) hH.heap hperm
        intro H2 hh2 hp2'
        obtain ⟨N, hNe⟩ : ∃ N, N = (S0 n l T).take p.toNat := ⟨_, rfl⟩
        have hnd := nodup_of_lt (S0_lt n l T)
        have hUr := U_rnd n l p T t hT ht
        have hlp : 1 ≤ ((S0 n l T).take p.toNat).length := by rw [List.length_take]; omega
        have hNn : N.Nodup := by rw [hNe]; exact hnd.sublist (List.take_sublist _ _)
        have hNS : ∀ x ∈ N, x ∈ S0 n l T := by rw [hNe]; exact fun x hx => take_mem_S0 hx
        have h4 := dagG_l4 n l hok hl hn p hp1 hp2 T N t hT ht hNn hNS hcl (gr n l p d (rnd n l p T t) (t + 1), 0) ?_ N.length 0 W H2 (by omega) hW (by simpa [setT] using hc) ?_
        · rw [← hNe]
          simpa [setT] using h4
        · intro W3 H3 hW3 hc3 hH3
          rw [w64 (x := t + 1) (by omega) (by omega)]
          have hre : setT T t N = rnd n l p T t := by rw [hNe]; rfl
          rw [hre] at hc3 hH3 ⊢
          refine ih (rnd n l p T t) (t + 1) W3 H3 (by omega) (by rw [rnd_length]; exact hT) (by omega) (by omega) ?_ hW3 hc3 ?_
          · intro e he h5
            obtain ⟨b1, b2, b3⟩ := hok e he
            rw [rd_rnd hT e.f1 (by omega) b3] at h5
            have h6 : rd T e.f0 ≠ 0 := by
              split at h5
              · next hm => exact cnt_pred he (mem_S0.mp (take_mem_S0 hm)).2.2.2
              · exact hcl e he h5
            rw [rd_rnd hT e.f0 b1 (by omega)]
            split
            · omega
            · exact h6
          · refine ⟨hH3.heap, hH3.nodup, fun k => ?_⟩
            rw [hH3.mem]
            constructor
            · rintro ⟨a, b, c, dd, ee⟩
              exact ⟨a, b, c, by simp, ee⟩
            · rintro ⟨a, b, c, -, ee⟩
              refine ⟨a, b, c, fun h => ?_, ee⟩
              rw [rd_rnd hT k a b, if_pos (by rw [← hNe]; exact h)] at c
              omega
        · refine ⟨hh2, (List.Perm.nodup_iff hp2').mpr (hnd.sublist (List.drop_sublist _ _)), fun k => ?_⟩
          rw [hp2'.mem_iff, drop_not_take hnd, mem_S0, ← hNe]
          have e0 : setT T t (N.take 0) = T := rfl
          rw [e0]
          constructor
          · rintro ⟨⟨a, b, c, dd⟩, ee⟩
            have := hc k a b
            exact ⟨a, b, c, ee, by omega⟩
          · rintro ⟨a, b, c, dd, ee⟩
            have := hc k a b
            exact ⟨⟨a, b, c, by omega⟩, dd⟩
end Go.Proofs.Ytbahnialbffkeaa.P
