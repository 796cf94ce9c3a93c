/- A heap of whole numbers as a list: sifting up and down, as the program's push and pop do it (plain functions). -/
namespace Go.Proofs.Ytbahnialbffkeaa.P
def swp (l : List Int) (i j : Nat) : List Int := (l.set i (l.getD j 0)).set j (l.getD i 0)
theorem swp_length (l : List Int) (i j : Nat) : (swp l i j).length = l.length := by simp [swp]
def siftUp (l : List Int) (i : Nat) : List Int :=
  if h : 0 < i then
    if l.getD i 0 < l.getD ((i - 1) / 2) 0 then siftUp (swp l i ((i - 1) / 2)) ((i - 1) / 2) else l
  else l
termination_by i
decreasing_by omega
def pushL (l : List Int) (x : Int) : List Int := siftUp (l ++ [x]) l.length
theorem siftUp_length (l : List Int) (i : Nat) : (siftUp l i).length = l.length := by
  induction i using Nat.strongRecOn generalizing l with
  | _ i ih =>
    rw [siftUp]
    by_cases h : 0 < i
    · rw [dif_pos h]
      split
      · rw [ih _ (by omega), swp_length]
      · rfl
    · rw [dif_neg h]
theorem siftUp_zero (l : List Int) : siftUp l 0 = l := by rw [siftUp]; simp
theorem siftUp_stop (l : List Int) (i : Nat) (h : 0 < i) (hn : ¬ l.getD i 0 < l.getD ((i - 1) / 2) 0) : siftUp l i = l := by rw [siftUp, dif_pos h, if_neg hn]
theorem siftUp_go (l : List Int) (i : Nat) (h : 0 < i) (hy : l.getD i 0 < l.getD ((i - 1) / 2) 0) : siftUp l i = siftUp (swp l i ((i - 1) / 2)) ((i - 1) / 2) := by rw [siftUp, dif_pos h, if_pos hy]
theorem pushL_length (l : List Int) (x : Int) : (pushL l x).length = l.length + 1 := by simp [pushL, siftUp_length]

/-- the least of i and its two children that are below n -/
def leastOf (n : Nat) (l : List Int) (i : Nat) : Nat :=
  let a := if 2 * i + 1 < n ∧ l.getD (2 * i + 1) 0 < l.getD i 0 then 2 * i + 1 else i
  if 2 * i + 2 < n ∧ l.getD (2 * i + 2) 0 < l.getD a 0 then 2 * i + 2 else a
theorem leastOf_cases (n : Nat) (l : List Int) (i : Nat) : leastOf n l i = i ∨ (leastOf n l i = 2 * i + 1 ∧ 2 * i + 1 < n) ∨ (leastOf n l i = 2 * i + 2 ∧ 2 * i + 2 < n) := by
  unfold leastOf
  simp only
  by_cases h1 : 2 * i + 1 < n ∧ l.getD (2 * i + 1) 0 < l.getD i 0
  · rw [if_pos h1]
    by_cases h2 : 2 * i + 2 < n ∧ l.getD (2 * i + 2) 0 < l.getD (2 * i + 1) 0
    · rw [if_pos h2]; exact .inr (.inr ⟨rfl, h2.1⟩)
    · rw [if_neg h2]; exact .inr (.inl ⟨rfl, h1.1⟩)
  · rw [if_neg h1]
    by_cases h2 : 2 * i + 2 < n ∧ l.getD (2 * i + 2) 0 < l.getD i 0
    · rw [if_pos h2]; exact .inr (.inr ⟨rfl, h2.1⟩)
    · rw [if_neg h2]; exact .inl rfl
theorem leastOf_ge (n : Nat) (l : List Int) (i : Nat) : i ≤ leastOf n l i := by
  rcases leastOf_cases n l i with h1 | ⟨h1, h2⟩ | ⟨h1, h2⟩ <;> omega
def siftDn (n : Nat) (l : List Int) (i : Nat) : List Int :=
  if _h : i < leastOf n l i then siftDn n (swp l i (leastOf n l i)) (leastOf n l i) else l
termination_by n - i
decreasing_by
  rcases leastOf_cases n l i with h1 | ⟨h1, h2⟩ | ⟨h1, h2⟩ <;> omega
theorem siftDn_stop (n : Nat) (l : List Int) (i : Nat) (h : leastOf n l i = i) : siftDn n l i = l := by rw [siftDn, dif_neg (by omega)]
theorem siftDn_go (n : Nat) (l : List Int) (i : Nat) (h : leastOf n l i ≠ i) : siftDn n l i = siftDn n (swp l i (leastOf n l i)) (leastOf n l i) := by
  have := leastOf_ge n l i
  rw [siftDn, dif_pos (by omega)]
theorem siftDn_length (n : Nat) (l : List Int) (i : Nat) : (siftDn n l i).length = l.length := by
  generalize hd : n - i = d
  induction d using Nat.strongRecOn generalizing l i with
  | _ d ih =>
    by_cases h : leastOf n l i = i
    · rw [siftDn_stop _ _ _ h]
    · rw [siftDn_go _ _ _ h]
      rcases leastOf_cases n l i with h1 | ⟨h1, h2⟩ | ⟨h1, h2⟩
      · exact absurd h1 h
      all_goals
        rw [ih (n - leastOf n l i) (by omega) _ _ rfl, swp_length]
/-- what is left behind a pop -/
def popL (l : List Int) : List Int := siftDn (l.length - 1) ((l.set 0 (l.getD (l.length - 1) 0)).take (l.length - 1)) 0
theorem popL_length (l : List Int) : (popL l).length = l.length - 1 := by simp [popL, siftDn_length]
end Go.Proofs.Ytbahnialbffkeaa.P
