/- The heap keeps its order: a push keeps it and adds one, a pop hands out the least and keeps it (plain lists). -/
import Derived.Test.YtbahnialbffkeaaHeapL
namespace Go.Proofs.Ytbahnialbffkeaa.P
def isHeap (l : List Int) : Prop := ∀ j, 0 < j → j < l.length → l.getD ((j - 1) / 2) 0 ≤ l.getD j 0
theorem getD_set (l : List Int) (i k : Nat) (x : Int) : (l.set i x).getD k 0 = if i = k ∧ i < l.length then x else l.getD k 0 := by
  rw [List.getD_eq_getElem?_getD, List.getD_eq_getElem?_getD, List.getElem?_set]
  by_cases h1 : i = k
  · subst h1
    by_cases h2 : i < l.length
    · simp [h2]
    · rw [if_pos rfl, if_neg h2, if_neg (fun h => h2 h.2), List.getElem?_eq_none (by omega)]
  · rw [if_neg h1, if_neg (fun h => h1 h.1)]
theorem swp_get (l : List Int) (i j k : Nat) (hi : i < l.length) (hj : j < l.length) : (swp l i j).getD k 0 = if k = j then l.getD i 0 else if k = i then l.getD j 0 else l.getD k 0 := by
  unfold swp
  rw [getD_set, getD_set]
  by_cases h1 : k = j
  · rw [if_pos ⟨h1.symm, by rw [List.length_set]; exact hj⟩, if_pos h1]
  · rw [if_neg (fun h => h1 h.1.symm), if_neg h1]
    by_cases h2 : k = i
    · rw [if_pos ⟨h2.symm, hi⟩, if_pos h2]
    · rw [if_neg (fun h => h2 h.1.symm), if_neg h2]
theorem gd_at (l : List Int) (i : Nat) (h : i < l.length) : l.getD i 0 = l[i] := by rw [List.getD_eq_getElem?_getD, List.getElem?_eq_getElem h]; rfl
theorem swp_perm (l : List Int) (i j : Nat) (hi : i < l.length) (hj : j < l.length) : (swp l i j).Perm l := by
  unfold swp
  rw [gd_at l i hi, gd_at l j hj]
  exact List.set_set_perm hi hj
theorem siftUp_perm (l : List Int) (i : Nat) (hi : i < l.length) : (siftUp l i).Perm l := by
  induction i using Nat.strongRecOn generalizing l with
  | _ i ih =>
    by_cases h : 0 < i
    · by_cases h2 : l.getD i 0 < l.getD ((i - 1) / 2) 0
      · rw [siftUp_go l i h h2]
        exact (ih _ (by omega) _ (by rw [swp_length]; omega)).trans (swp_perm l i _ hi (by omega))
      · rw [siftUp_stop l i h h2]
    · obtain rfl : i = 0 := by omega
      rw [siftUp_zero]
theorem siftUp_heap (l : List Int) (i : Nat) (hi : i < l.length) (h1 : ∀ j, 0 < j → j < l.length → j ≠ i → l.getD ((j - 1) / 2) 0 ≤ l.getD j 0)
    (h2 : ∀ j, 0 < j → j < l.length → (j - 1) / 2 = i → 0 < i → l.getD ((i - 1) / 2) 0 ≤ l.getD j 0) : isHeap (siftUp l i) := by
  induction i using Nat.strongRecOn generalizing l with
  | _ i ih =>
    by_cases h : 0 < i
    · by_cases hlt : l.getD i 0 < l.getD ((i - 1) / 2) 0
      · rw [siftUp_go l i h hlt]
        obtain ⟨u, hu⟩ : ∃ u, u = (i - 1) / 2 := ⟨_, rfl⟩
        rw [← hu] at hlt h2 ⊢
        have hul : u < l.length := by omega
        have g : ∀ k, (swp l i u).getD k 0 = if k = u then l.getD i 0 else if k = i then l.getD u 0 else l.getD k 0 := fun k => swp_get l i u k hi hul
        refine ih u (by omega) (swp l i u) (by rw [swp_length]; exact hul) ?_ ?_
        · intro j hj0 hj hne
          rw [swp_length] at hj
          rw [g, g j, if_neg hne]
          by_cases hji : j = i
          · rw [if_pos hji, if_pos (by rw [hji]; exact hu.symm)]
            omega
          · rw [if_neg hji]
            have h3 := h1 j hj0 hj hji
            by_cases hq : (j - 1) / 2 = u
            · rw [if_pos hq]
              rw [hq] at h3
              omega
            · rw [if_neg hq]
              by_cases hq2 : (j - 1) / 2 = i
              · rw [if_pos hq2]
                exact h2 j hj0 hj hq2 h
              · rw [if_neg hq2]
                exact h3
        · intro j hj0 hj hq hu0
          rw [swp_length] at hj
          have h4 := h1 u hu0 hul (by omega)
          rw [g, g j, if_neg (by omega), if_neg (by omega), if_neg (by omega)]
          by_cases hji : j = i
          · rw [if_pos hji]
            exact h4
          · rw [if_neg hji]
            have h3 := h1 j hj0 hj hji
            rw [hq] at h3
            omega
      · rw [siftUp_stop l i h hlt]
        intro j hj0 hj
        by_cases hji : j = i
        · rw [hji]
          omega
        · exact h1 j hj0 hj hji
    · obtain rfl : i = 0 := by omega
      rw [siftUp_zero]
      exact fun j hj0 hj => h1 j hj0 hj (by omega)
theorem gd_app_l (l m : List Int) (i : Nat) (h : i < l.length) : (l ++ m).getD i 0 = l.getD i 0 := by
  rw [List.getD_eq_getElem?_getD, List.getD_eq_getElem?_getD, List.getElem?_append_left h]
theorem pushL_heap (l : List Int) (x : Int) (h : isHeap l) : isHeap (pushL l x) := by
  unfold pushL
  refine siftUp_heap _ _ (by simp) ?_ ?_
  · intro j hj0 hj hne
    have hj2 : j < l.length := by simp at hj; omega
    rw [gd_app_l _ _ _ (by omega), gd_app_l _ _ _ hj2]
    exact h j hj0 hj2
  · intro j hj0 hj hq
    simp at hj
    omega
theorem pushL_perm (l : List Int) (x : Int) : (pushL l x).Perm (x :: l) := by
  unfold pushL
  exact (siftUp_perm _ _ (by simp)).trans (List.perm_append_comm (l₁ := l) (l₂ := [x]))
theorem leastOf_stop (n : Nat) (l : List Int) (i : Nat) (h : leastOf n l i = i) : (2 * i + 1 < n → l.getD i 0 ≤ l.getD (2 * i + 1) 0) ∧ (2 * i + 2 < n → l.getD i 0 ≤ l.getD (2 * i + 2) 0) := by
  unfold leastOf at h
  simp only at h
  by_cases h1 : 2 * i + 1 < n ∧ l.getD (2 * i + 1) 0 < l.getD i 0
  · rw [if_pos h1] at h
    by_cases h2 : 2 * i + 2 < n ∧ l.getD (2 * i + 2) 0 < l.getD (2 * i + 1) 0
    · rw [if_pos h2] at h; omega
    · rw [if_neg h2] at h; omega
  · rw [if_neg h1] at h
    by_cases h2 : 2 * i + 2 < n ∧ l.getD (2 * i + 2) 0 < l.getD i 0
    · rw [if_pos h2] at h; omega
    · exact ⟨fun h3 => Int.not_lt.mp fun h4 => h1 ⟨h3, h4⟩, fun h3 => Int.not_lt.mp fun h4 => h2 ⟨h3, h4⟩⟩
theorem leastOf_go (n : Nat) (l : List Int) (i : Nat) (h : leastOf n l i ≠ i) : leastOf n l i < n ∧ (leastOf n l i = 2 * i + 1 ∨ leastOf n l i = 2 * i + 2) ∧ l.getD (leastOf n l i) 0 < l.getD i 0 ∧ (2 * i + 1 < n → l.getD (leastOf n l i) 0 ≤ l.getD (2 * i + 1) 0) ∧ (2 * i + 2 < n → l.getD (leastOf n l i) 0 ≤ l.getD (2 * i + 2) 0) := by
  unfold leastOf at h ⊢
  simp only at h ⊢
  by_cases h1 : 2 * i + 1 < n ∧ l.getD (2 * i + 1) 0 < l.getD i 0
  · rw [if_pos h1] at h ⊢
    by_cases h2 : 2 * i + 2 < n ∧ l.getD (2 * i + 2) 0 < l.getD (2 * i + 1) 0
    · rw [if_pos h2]
      have := h1.2
      have := h2.2
      exact ⟨h2.1, .inr rfl, by omega, fun _ => by omega, fun _ => by omega⟩
    · rw [if_neg h2]
      have := h1.2
      exact ⟨h1.1, .inl rfl, by omega, fun _ => by omega, fun h3 => Int.not_lt.mp fun h4 => h2 ⟨h3, h4⟩⟩
  · rw [if_neg h1] at h ⊢
    by_cases h2 : 2 * i + 2 < n ∧ l.getD (2 * i + 2) 0 < l.getD i 0
    · rw [if_pos h2]
      have := h2.2
      exact ⟨h2.1, .inr rfl, by omega, fun h3 => by have : ¬ l.getD (2 * i + 1) 0 < l.getD i 0 := fun h4 => h1 ⟨h3, h4⟩; omega, fun _ => by omega⟩
    · rw [if_neg h2] at h; omega
theorem siftDn_perm (n : Nat) (l : List Int) (i : Nat) (hn : l.length = n) (hi : i < n ∨ n = 0) : (siftDn n l i).Perm l := by
  generalize hd : n - i = d
  induction d using Nat.strongRecOn generalizing l i with
  | _ d ih =>
    by_cases h : leastOf n l i = i
    · rw [siftDn_stop _ _ _ h]
    · rw [siftDn_go _ _ _ h]
      obtain ⟨h1, h2, -⟩ := leastOf_go n l i h
      exact (ih (n - leastOf n l i) (by omega) _ _ (by rw [swp_length]; exact hn) (.inl h1) rfl).trans (swp_perm l i _ (by omega) (by omega))
theorem siftDn_heap (n : Nat) (y : List Int) (i : Nat) (hn : y.length = n) (hi : i < n ∨ n = 0) (h1 : ∀ j, 0 < j → j < n → (j - 1) / 2 ≠ i → y.getD ((j - 1) / 2) 0 ≤ y.getD j 0)
    (h2 : ∀ j, 0 < j → j < n → (j - 1) / 2 = i → 0 < i → y.getD ((i - 1) / 2) 0 ≤ y.getD j 0) : isHeap (siftDn n y i) := by
  generalize hd : n - i = d
  induction d using Nat.strongRecOn generalizing y i with
  | _ d ih =>
    by_cases h : leastOf n y i = i
    · rw [siftDn_stop _ _ _ h]
      obtain ⟨s1, s2⟩ := leastOf_stop n y i h
      intro j hj0 hj
      by_cases hq : (j - 1) / 2 = i
      · rw [hq]
        obtain rfl | rfl : j = 2 * i + 1 ∨ j = 2 * i + 2 := by omega
        · exact s1 (by omega)
        · exact s2 (by omega)
      · exact h1 j hj0 (by omega) hq
    · rw [siftDn_go _ _ _ h]
      obtain ⟨m, hm⟩ : ∃ m, m = leastOf n y i := ⟨_, rfl⟩
      have hs := leastOf_go n y i h
      rw [← hm] at h hs ⊢
      obtain ⟨s1, s2, s3, s4, s5⟩ := hs
      have g : ∀ k, (swp y i m).getD k 0 = if k = m then y.getD i 0 else if k = i then y.getD m 0 else y.getD k 0 := fun k => swp_get y i m k (by omega) (by omega)
      have hch : ∀ j, 0 < j → j < n → (j - 1) / 2 = i → y.getD m 0 ≤ y.getD j 0 := by
        intro j hj0 hj hq
        obtain rfl | rfl : j = 2 * i + 1 ∨ j = 2 * i + 2 := by omega
        · exact s4 hj
        · exact s5 hj
      refine ih (n - m) (by omega) (swp y i m) m (by rw [swp_length]; exact hn) (.inl s1) ?_ ?_ rfl
      · intro j hj0 hj hq
        rw [g, g j, if_neg hq]
        by_cases hjm : j = m
        · rw [if_pos hjm, if_pos (by omega)]
          omega
        · rw [if_neg hjm]
          by_cases hji : j = i
          · rw [if_pos hji, if_neg (by omega)]
            have h3 := h2 m (by omega) s1 (by omega) (by omega)
            rw [hji]
            exact h3
          · rw [if_neg hji]
            by_cases hq2 : (j - 1) / 2 = i
            · rw [if_pos hq2]
              exact hch j hj0 hj hq2
            · rw [if_neg hq2]
              exact h1 j hj0 hj hq2
      · intro j hj0 hj hq hm0
        rw [g, g j, if_neg (by omega), if_pos (by omega), if_neg (by omega), if_neg (by omega)]
        have h3 := h1 j hj0 hj (by omega)
        rw [hq] at h3
        exact h3
theorem popL_heap (l : List Int) (h : isHeap l) (hl : 0 < l.length) : isHeap (popL l) := by
  unfold popL
  have hlen : ((l.set 0 (l.getD (l.length - 1) 0)).take (l.length - 1)).length = l.length - 1 := by simp
  refine siftDn_heap _ _ _ hlen (by omega) ?_ (fun j _ _ _ h0 => absurd h0 (by omega))
  intro j hj0 hj hq
  have g : ∀ k, 0 < k → k < l.length - 1 → ((l.set 0 (l.getD (l.length - 1) 0)).take (l.length - 1)).getD k 0 = l.getD k 0 := by
    intro k hk0 hk
    rw [List.getD_eq_getElem?_getD, List.getElem?_take_of_lt hk, ← List.getD_eq_getElem?_getD, getD_set, if_neg (by omega)]
  rw [g _ (by omega) (by omega), g j hj0 hj]
  exact h j hj0 (by omega)
theorem popL_perm (l : List Int) (hl : 0 < l.length) : l.Perm (l.getD 0 0 :: popL l) := by
  obtain ⟨x, r, rfl⟩ : ∃ x r, l = x :: r := by
    cases l with
    | nil => simp at hl
    | cons x r => exact ⟨x, r, rfl⟩
  have hp : (popL (x :: r)).Perm (((x :: r).set 0 ((x :: r).getD r.length 0)).take r.length) := by
    unfold popL
    exact siftDn_perm _ _ _ (by simp) ((Nat.eq_zero_or_pos r.length).elim (fun e => .inr (by simpa using e)) (fun e => .inl (by simpa using e)))
  have e0 : (x :: r).getD 0 0 = x := rfl
  rw [e0]
  refine List.Perm.cons x (List.Perm.trans ?_ hp.symm)
  rcases List.eq_nil_or_concat r with rfl | ⟨s, z, rfl⟩
  · exact List.Perm.refl _
  · rw [List.concat_eq_append] at *
    have e1 : (x :: (s ++ [z])).getD (s ++ [z]).length 0 = z := by
      rw [gd_at _ _ (by simp)]
      simp
    rw [e1]
    have e2 : ((x :: (s ++ [z])).set 0 z).take (s ++ [z]).length = z :: s := by simp
    rw [e2]
    exact List.perm_append_comm (l₁ := s) (l₂ := [z])
theorem heap_least (l : List Int) (h : isHeap l) (j : Nat) (hj : j < l.length) : l.getD 0 0 ≤ l.getD j 0 := by
  induction j using Nat.strongRecOn with
  | _ j ih =>
    by_cases h0 : j = 0
    · rw [h0]; exact Int.le_refl _
    · have h1 := h j (by omega) hj
      have h2 := ih ((j - 1) / 2) (by omega) (by omega)
      omega
theorem heap_least_mem (l : List Int) (h : isHeap l) {x : Int} (hx : x ∈ l) : l.getD 0 0 ≤ x := by
  obtain ⟨j, hj, rfl⟩ := List.mem_iff_getElem.mp hx
  have := heap_least l h j hj
  rw [gd_at l j hj] at this
  exact this
end Go.Proofs.Ytbahnialbffkeaa.P
