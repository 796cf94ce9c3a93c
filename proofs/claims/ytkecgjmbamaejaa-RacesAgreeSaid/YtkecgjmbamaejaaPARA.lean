/- races.late, plain: the recursion does not hang on its fuel; how long its list is. -/

set_option linter.unusedVariables false
set_option linter.unusedSimpArgs false
namespace Go.Proofs.Ytkecgjmbamaejaa.P
set_option linter.unusedVariables false

/-- a task on its way: the deeds ahead of what it does next that stand behind those of the tasks below it; the returned children that it has not waited for, the last one first -/
structure Fr where
  s : List Nat
  p : List (List Nat)

/-- the last task of the list's head; k: the deed's kind; n: its number -/
def stepF (k : Int) (n : Nat) : List Fr → List Fr
  | [] => []
  | f :: r =>
    if k = 0 then ⟨[], []⟩ :: ⟨f.s ++ [n], f.p⟩ :: r
    else if k = 1 then match r with
      | [] => [⟨f.s ++ f.p.flatten ++ [n], []⟩]
      | g :: r2 => ⟨g.s, (f.s ++ f.p.flatten ++ [n]) :: g.p⟩ :: r2
    else if k = 2 then ⟨f.s ++ f.p.flatten ++ [n], []⟩ :: r
    else ⟨f.s ++ [n], f.p⟩ :: r

def preF : List Fr → List Nat
  | [] => []
  | f :: r => preF r ++ f.s
def postF : List Fr → List Nat
  | [] => []
  | f :: r => f.p.flatten ++ postF r
def ordF (fs : List Fr) : List Nat := preF fs ++ postF fs

/-- what is ahead of a deed of kind k that is done next -/
def aheadF (fs : List Fr) (k : Int) : List Nat := match fs with
  | [] => []
  | f :: r => preF (f :: r) ++ (if k = 1 ∨ k = 2 then f.p.flatten else [])
def behindF (fs : List Fr) (k : Int) : List Nat := match fs with
  | [] => []
  | f :: r => (if k = 1 ∨ k = 2 then [] else f.p.flatten) ++ postF r

theorem ord_split (fs : List Fr) (k : Int) : ordF fs = aheadF fs k ++ behindF fs k := by
  cases fs with
  | nil => rfl
  | cons f r =>
    simp only [ordF, aheadF, behindF, postF]
    split <;> simp

theorem step_ne {k : Int} {n : Nat} {fs : List Fr} (h : fs ≠ []) : stepF k n fs ≠ [] := by
  cases fs with
  | nil => exact absurd rfl h
  | cons f r =>
    simp only [stepF]
    split
    · exact List.cons_ne_nil _ _
    · split
      · cases r <;> exact List.cons_ne_nil _ _
      · split <;> exact List.cons_ne_nil _ _

theorem ord_step (fs : List Fr) (h : fs ≠ []) (k : Int) (n : Nat) (hr : k = 1 → 2 ≤ fs.length) : ordF (stepF k n fs) = aheadF fs k ++ [n] ++ behindF fs k := by
  cases fs with
  | nil => exact absurd rfl h
  | cons f r =>
    simp only [stepF]
    by_cases h0 : k = 0
    · rw [if_pos h0]
      simp only [ordF, aheadF, behindF, preF, postF]
      rw [if_neg (by omega), if_neg (by omega)]
      simp
    · rw [if_neg h0]
      by_cases h1 : k = 1
      · rw [if_pos h1]
        cases r with
        | nil => have := hr h1; simp at this
        | cons g r2 =>
          simp only [ordF, aheadF, behindF, preF, postF]
          rw [if_pos (Or.inl h1), if_pos (Or.inl h1)]
          simp
      · rw [if_neg h1]
        by_cases h2 : k = 2
        · rw [if_pos h2]
          simp only [ordF, aheadF, behindF, preF, postF]
          rw [if_pos (Or.inr h2), if_pos (Or.inr h2)]
          simp
        · rw [if_neg h2]
          simp only [ordF, aheadF, behindF, preF, postF]
          rw [if_neg (by omega), if_neg (by omega)]
          simp

/-- the tasks on their way after the first n deeds -/
def frs (ks : List Int) : Nat → List Fr
  | 0 => [⟨[], []⟩]
  | n + 1 => stepF (ks.getD n 0) n (frs ks n)

/-- no child returns that has not begun -/
def fair (ks : List Int) : Prop := ∀ n, n < ks.length → ks.getD n 0 = 1 → 2 ≤ (frs ks n).length

theorem frs_ne (ks : List Int) : ∀ n, frs ks n ≠ []
  | 0 => List.cons_ne_nil _ _
  | n + 1 => step_ne (frs_ne ks n)

theorem frs_ord (ks : List Int) (hf : fair ks) (n : Nat) (h : n < ks.length) : ordF (frs ks (n + 1)) = aheadF (frs ks n) (ks.getD n 0) ++ [n] ++ behindF (frs ks n) (ks.getD n 0) :=
  ord_step _ (frs_ne ks n) _ n (hf n h)

theorem frs_perm (ks : List Int) (hf : fair ks) : ∀ n, n ≤ ks.length → (ordF (frs ks n)).Perm (List.range n)
  | 0, _ => by
    show ([] : List Nat).Perm []
    exact List.Perm.nil
  | n + 1, h => by
    have ih := frs_perm ks hf n (by omega)
    rw [frs_ord ks hf n (by omega), List.range_succ]
    rw [ord_split _ (ks.getD n 0)] at ih
    have h1 : (aheadF (frs ks n) (ks.getD n 0) ++ [n] ++ behindF (frs ks n) (ks.getD n 0)).Perm (aheadF (frs ks n) (ks.getD n 0) ++ behindF (frs ks n) (ks.getD n 0) ++ [n]) := by
      rw [List.append_assoc, List.append_assoc]
      exact List.Perm.append_left _ List.perm_append_comm
    exact h1.trans (List.Perm.append_right _ ih)

theorem frs_nodup (ks : List Int) (hf : fair ks) (n : Nat) (h : n ≤ ks.length) : (ordF (frs ks n)).Nodup := (frs_perm ks hf n h).nodup_iff.2 List.nodup_range
theorem frs_mem (ks : List Int) (hf : fair ks) (n : Nat) (h : n ≤ ks.length) (i : Nat) : i ∈ ordF (frs ks n) ↔ i < n := (frs_perm ks hf n h).mem_iff.trans List.mem_range

/-- which of two stands first in a list -/
theorem idx_split (A B : List Nat) (n i : Nat) (hn : (A ++ [n] ++ B).Nodup) (hi : i ∈ A ++ B) : (A ++ [n] ++ B).idxOf i < (A ++ [n] ++ B).idxOf n ↔ i ∈ A := by
  have hnA : n ∉ A := by
    intro h
    rw [List.append_assoc, List.nodup_append] at hn
    exact hn.2.2 n h n (by simp) rfl
  have e : (A ++ [n] ++ B).idxOf n = A.length := by
    rw [List.append_assoc, List.idxOf_append, if_neg hnA]
    simp
  rw [e]
  by_cases h : i ∈ A
  · rw [List.append_assoc, List.idxOf_append, if_pos h]
    simp [h, List.idxOf_lt_length_iff]
  · rw [List.append_assoc, List.idxOf_append, if_neg h]
    simp [h]

theorem idx_insert (A B : List Nat) (n i j : Nat) (hn : (A ++ [n] ++ B).Nodup) (hi : i ∈ A ++ B) (hj : j ∈ A ++ B) : (A ++ [n] ++ B).idxOf i < (A ++ [n] ++ B).idxOf j ↔ (A ++ B).idxOf i < (A ++ B).idxOf j := by
  have hne : ∀ x, x ∈ A ++ B → x ≠ n := by
    intro x hx e
    subst e
    rw [List.append_assoc, List.nodup_append] at hn
    obtain ⟨_, h2, h3⟩ := hn
    rcases List.mem_append.1 hx with h | h
    · exact h3 x h x (by simp) rfl
    · have := (List.nodup_append.1 h2).2.2 x (by simp) x h
      exact this rfl
  have key : ∀ x, x ∈ A ++ B → (x ∈ A → (A ++ [n] ++ B).idxOf x = A.idxOf x ∧ (A ++ B).idxOf x = A.idxOf x ∧ A.idxOf x < A.length) ∧ (x ∉ A → (A ++ [n] ++ B).idxOf x = A.length + 1 + B.idxOf x ∧ (A ++ B).idxOf x = A.length + B.idxOf x) := by
    intro x hx
    refine ⟨fun h => ?_, fun h => ?_⟩
    · rw [List.append_assoc, List.idxOf_append, if_pos h, List.idxOf_append, if_pos h]
      exact ⟨rfl, rfl, List.idxOf_lt_length_iff.2 h⟩
    · have h2 : x ∉ [n] := by simp [hne x hx]
      have e1 : (A ++ B).idxOf x = B.idxOf x + A.length := by rw [List.idxOf_append, if_neg h]
      have e2 : (A ++ ([n] ++ B)).idxOf x = B.idxOf x + [n].length + A.length := by rw [List.idxOf_append, if_neg h, List.idxOf_append, if_neg h2]
      have e3 : [n].length = 1 := rfl
      rw [List.append_assoc]
      omega
  obtain ⟨i1, i2⟩ := key i hi
  obtain ⟨j1, j2⟩ := key j hj
  by_cases hiA : i ∈ A
  · by_cases hjA : j ∈ A
    · obtain ⟨a, b, c⟩ := i1 hiA
      obtain ⟨d, e, f⟩ := j1 hjA
      omega
    · obtain ⟨a, b, c⟩ := i1 hiA
      obtain ⟨d, e⟩ := j2 hjA
      omega
  · by_cases hjA : j ∈ A
    · obtain ⟨a, b⟩ := i2 hiA
      obtain ⟨d, e, f⟩ := j1 hjA
      omega
    · obtain ⟨a, b⟩ := i2 hiA
      obtain ⟨d, e⟩ := j2 hjA
      omega

/-- deed i is ahead of deed j -/
def Ahead (ks : List Int) (i j : Nat) : Prop := i ∈ aheadF (frs ks j) (ks.getD j 0)

/-- the second order tells what is ahead of what -/
theorem second_iff (ks : List Int) (hf : fair ks) : ∀ n, n ≤ ks.length → ∀ i j, i < j → j < n → ((ordF (frs ks n)).idxOf i < (ordF (frs ks n)).idxOf j ↔ Ahead ks i j)
  | 0, _, i, j, _, hj => by omega
  | n + 1, h, i, j, hij, hj => by
    have hnd := frs_nodup ks hf (n + 1) h
    have hmem : ∀ x, x < n → x ∈ aheadF (frs ks n) (ks.getD n 0) ++ behindF (frs ks n) (ks.getD n 0) := fun x hx => by
      rw [← ord_split]
      exact (frs_mem ks hf n (by omega) x).2 hx
    rw [frs_ord ks hf n (by omega)] at hnd ⊢
    by_cases he : j = n
    · subst he
      exact idx_split _ _ _ _ hnd (hmem i hij)
    · rw [idx_insert _ _ _ _ _ hnd (hmem i (by omega)) (hmem j (by omega)), ← ord_split]
      exact second_iff ks hf n (by omega) i j hij (by omega)

theorem Ahead.lt {ks : List Int} (hf : fair ks) {i j : Nat} (hj : j < ks.length) (h : Ahead ks i j) : i < j := by
  have : i ∈ ordF (frs ks j) := by
    rw [ord_split _ (ks.getD j 0)]
    exact List.mem_append.2 (Or.inl h)
  exact (frs_mem ks hf j (by omega) i).1 this

/-- what is ahead of what is ahead -/
theorem Ahead.trans {ks : List Int} (hf : fair ks) {i j k : Nat} (hk : k < ks.length) (h1 : Ahead ks i j) (h2 : Ahead ks j k) : Ahead ks i k := by
  have hjk := h2.lt hf hk
  have hij := h1.lt hf (by omega)
  rw [← second_iff ks hf (k + 1) (by omega) _ _ (by omega) (by omega)]
  rw [← second_iff ks hf (k + 1) (by omega) _ _ (by omega) (by omega)] at h1 h2
  omega

/-- beside the one, and that beside the next: beside -/
theorem beside_trans {ks : List Int} (hf : fair ks) {i j k : Nat} (hij : i < j) (hjk : j < k) (hk : k < ks.length) (h1 : ¬ Ahead ks i j) (h2 : ¬ Ahead ks j k) : ¬ Ahead ks i k := by
  rw [← second_iff ks hf (k + 1) (by omega) _ _ (by omega) (by omega)] at h1 h2 ⊢
  omega

end Go.Proofs.Ytkecgjmbamaejaa.P
namespace Go.Proofs.Ytkecgjmbamaejaa.P
set_option linter.unusedVariables false

inductive HB (from_ : Nat → List Int) : Nat → Nat → Prop
  | one {i j : Nat} : (i : Int) ∈ from_ j → HB from_ i j
  | more {i j : Nat} (m : Nat) : (m : Int) ∈ from_ j → HB from_ i m → HB from_ i j
end Go.Proofs.Ytkecgjmbamaejaa.P
namespace Go.Proofs.Ytkecgjmbamaejaa.P
set_option linter.unusedVariables false

/-- from the place 'at_' on: l: the list so far; p: the returned children, the last one first. The list, and the place behind -/
def lateF (ks : List Int) : Nat → Nat → List Nat → List (List Nat) → List Nat × Nat
  | 0, at_, l, p => (l ++ p.flatten, at_)
  | n + 1, at_, l, p =>
    if at_ < ks.length then
      if ks.getD at_ 0 = 0 then
        lateF ks n (lateF ks n (at_ + 1) [] []).2 (l ++ [at_]) ((lateF ks n (at_ + 1) [] []).1 :: p)
      else if ks.getD at_ 0 = 1 then (l ++ p.flatten ++ [at_], at_ + 1)
      else if ks.getD at_ 0 = 2 then lateF ks n (at_ + 1) (l ++ p.flatten ++ [at_]) []
      else lateF ks n (at_ + 1) (l ++ [at_]) p
    else (l ++ p.flatten, at_)

theorem lateF_end (ks : List Int) (n at_ : Nat) (l : List Nat) (p : List (List Nat)) (h : ks.length ≤ at_) : lateF ks n at_ l p = (l ++ p.flatten, at_) := by
  cases n with
  | zero => rfl
  | succ n =>
    simp only [lateF]
    rw [if_neg (by omega)]

theorem late_spec (ks : List Int) (hf : fair ks) : ∀ (n at_ : Nat) (l : List Nat) (p : List (List Nat)) (r : List Fr), frs ks at_ = ⟨l, p⟩ :: r → at_ ≤ ks.length → ks.length - at_ < n →
    (∃ g r2, r = g :: r2 ∧ at_ < (lateF ks n at_ l p).2 ∧ (lateF ks n at_ l p).2 ≤ ks.length ∧ frs ks (lateF ks n at_ l p).2 = ⟨g.s, (lateF ks n at_ l p).1 :: g.p⟩ :: r2) ∨
    ((lateF ks n at_ l p).2 = ks.length ∧ ordF (frs ks ks.length) = preF r ++ (lateF ks n at_ l p).1 ++ postF r)
  | 0, at_, l, p, r, _, _, h => by omega
  | n + 1, at_, l, p, r, hfr, hle, hn => by
    by_cases hlt : at_ < ks.length
    · have hnext : frs ks (at_ + 1) = stepF (ks.getD at_ 0) at_ (⟨l, p⟩ :: r) := by rw [← hfr]; rfl
      simp only [stepF] at hnext
      by_cases k0 : ks.getD at_ 0 = 0
      · rw [if_pos k0] at hnext
        have e : lateF ks (n + 1) at_ l p = lateF ks n (lateF ks n (at_ + 1) [] []).2 (l ++ [at_]) ((lateF ks n (at_ + 1) [] []).1 :: p) := by
          rw [lateF.eq_def]
          simp only
          rw [if_pos hlt, if_pos k0]
        rw [e]
        rcases late_spec ks hf n (at_ + 1) [] [] _ hnext (by omega) (by omega) with ⟨g, r2, h1, h2, h3, h4⟩ | ⟨h1, h2⟩
        · injection h1 with h1 h5
          subst h1
          subst h5
          have h4' : frs ks (lateF ks n (at_ + 1) [] []).2 = ⟨l ++ [at_], (lateF ks n (at_ + 1) [] []).1 :: p⟩ :: r := h4
          rcases late_spec ks hf n _ _ _ _ h4' h3 (by omega) with ⟨g, r2, a1, a2, a3, a4⟩ | ⟨a1, a2⟩
          · exact Or.inl ⟨g, r2, a1, by omega, a3, a4⟩
          · exact Or.inr ⟨a1, a2⟩
        · rw [lateF_end ks n _ _ _ (by omega)]
          refine Or.inr ⟨h1, ?_⟩
          rw [h2]
          simp [preF, postF]
      · rw [if_neg k0] at hnext
        by_cases k1 : ks.getD at_ 0 = 1
        · rw [if_pos k1] at hnext
          have e : lateF ks (n + 1) at_ l p = (l ++ p.flatten ++ [at_], at_ + 1) := by
            rw [lateF.eq_def]
            simp only
            rw [if_pos hlt, if_neg k0, if_pos k1]
          rw [e]
          have h2 := hf at_ hlt k1
          rw [hfr] at h2
          cases r with
          | nil => simp at h2
          | cons g r2 => exact Or.inl ⟨g, r2, rfl, Nat.lt_succ_self _, hlt, hnext⟩
        · rw [if_neg k1] at hnext
          by_cases k2 : ks.getD at_ 0 = 2
          · rw [if_pos k2] at hnext
            have e : lateF ks (n + 1) at_ l p = lateF ks n (at_ + 1) (l ++ p.flatten ++ [at_]) [] := by
              rw [lateF.eq_def]
              simp only
              rw [if_pos hlt, if_neg k0, if_neg k1, if_pos k2]
            rw [e]
            rcases late_spec ks hf n _ _ _ _ hnext (by omega) (by omega) with ⟨g, r2, a1, a2, a3, a4⟩ | ⟨a1, a2⟩
            · exact Or.inl ⟨g, r2, a1, by omega, a3, a4⟩
            · exact Or.inr ⟨a1, a2⟩
          · rw [if_neg k2] at hnext
            have e : lateF ks (n + 1) at_ l p = lateF ks n (at_ + 1) (l ++ [at_]) p := by
              rw [lateF.eq_def]
              simp only
              rw [if_pos hlt, if_neg k0, if_neg k1, if_neg k2]
            rw [e]
            rcases late_spec ks hf n _ _ _ _ hnext (by omega) (by omega) with ⟨g, r2, a1, a2, a3, a4⟩ | ⟨a1, a2⟩
            · exact Or.inl ⟨g, r2, a1, by omega, a3, a4⟩
            · exact Or.inr ⟨a1, a2⟩
    · obtain rfl : at_ = ks.length := by omega
      rw [lateF_end ks _ _ _ _ (Nat.le_refl _)]
      refine Or.inr ⟨rfl, ?_⟩
      rw [hfr]
      simp [ordF, preF, postF]

/-- the program's second order -/
theorem late_second (ks : List Int) (hf : fair ks) : lateF ks (ks.length + 1) 0 [] [] = (ordF (frs ks ks.length), ks.length) := by
  rcases late_spec ks hf (ks.length + 1) 0 [] [] [] rfl (Nat.zero_le _) (by omega) with ⟨g, r2, h1, _⟩ | ⟨h1, h2⟩
  · cases h1
  · have e : (lateF ks (ks.length + 1) 0 [] []).1 = ordF (frs ks ks.length) := by rw [h2]; simp [preF, postF]
    exact Prod.ext e h1

/-- in what one place stands, the other not, by the kinds' count: as many tasks are on their way as have begun and not returned -/
def openF (ks : List Int) : Nat → Int
  | 0 => 0
  | n + 1 => openF ks n + (if ks.getD n 0 = 0 then 1 else if ks.getD n 0 = 1 then -1 else 0)

theorem frs_len (ks : List Int) : ∀ n, n ≤ ks.length → (∀ m, m < n → ks.getD m 0 = 1 → 1 ≤ openF ks m) → ((frs ks n).length : Int) = openF ks n + 1
  | 0, _, _ => rfl
  | n + 1, h, hp => by
    have ih := frs_len ks n (by omega) (fun m hm => hp m (by omega))
    have hne := frs_ne ks n
    show ((stepF (ks.getD n 0) n (frs ks n)).length : Int) = openF ks n + (if ks.getD n 0 = 0 then 1 else if ks.getD n 0 = 1 then -1 else 0) + 1
    cases hfs : frs ks n with
    | nil => exact absurd hfs hne
    | cons f r =>
      rw [hfs] at ih
      simp only [stepF]
      by_cases k0 : ks.getD n 0 = 0
      · rw [if_pos k0, if_pos k0]
        simp at ih ⊢
        omega
      · rw [if_neg k0, if_neg k0]
        by_cases k1 : ks.getD n 0 = 1
        · rw [if_pos k1, if_pos k1]
          have := hp n (Nat.lt_succ_self _) k1
          cases r with
          | nil => simp at ih; omega
          | cons g r2 =>
            simp at ih ⊢
            omega
        · rw [if_neg k1, if_neg k1]
          split <;> (simp at ih ⊢; omega)

theorem fair_of (ks : List Int) (h : ∀ m, m < ks.length → ks.getD m 0 = 1 → 1 ≤ openF ks m) : fair ks := fun n hn hk => by
  have := frs_len ks n (by omega) (fun m hm => h m (by omega))
  have := h n hn hk
  omega
end Go.Proofs.Ytkecgjmbamaejaa.P
namespace Go.Proofs.Ytkecgjmbamaejaa.P
set_option linter.unusedVariables false

theorem lateF_ge (ks : List Int) : ∀ (n at_ : Nat) (l : List Nat) (p : List (List Nat)), at_ ≤ (lateF ks n at_ l p).2 ∧ (at_ ≤ ks.length → (lateF ks n at_ l p).2 ≤ ks.length) ∧
    (lateF ks n at_ l p).1.length + at_ ≤ l.length + p.flatten.length + (lateF ks n at_ l p).2
  | 0, at_, l, p => ⟨Nat.le_refl _, fun h => h, by show (l ++ p.flatten).length + at_ ≤ _ + at_; rw [List.length_append]; omega⟩
  | n + 1, at_, l, p => by
    simp only [lateF]
    by_cases hlt : at_ < ks.length
    · rw [if_pos hlt]
      by_cases k0 : ks.getD at_ 0 = 0
      · rw [if_pos k0]
        obtain ⟨a1, a2, a3⟩ := lateF_ge ks n (at_ + 1) [] []
        obtain ⟨b1, b2, b3⟩ := lateF_ge ks n (lateF ks n (at_ + 1) [] []).2 (l ++ [at_]) ((lateF ks n (at_ + 1) [] []).1 :: p)
        refine ⟨by omega, fun h => b2 (a2 (by omega)), ?_⟩
        rw [List.flatten_cons, List.length_append, List.length_append] at b3
        simp only [List.length_cons, List.length_nil, List.flatten_nil] at a3 b3
        omega
      · rw [if_neg k0]
        by_cases k1 : ks.getD at_ 0 = 1
        · rw [if_pos k1]
          refine ⟨Nat.le_succ _, fun h => hlt, ?_⟩
          simp only [List.length_append, List.length_cons, List.length_nil]
          omega
        · rw [if_neg k1]
          by_cases k2 : ks.getD at_ 0 = 2
          · rw [if_pos k2]
            obtain ⟨b1, b2, b3⟩ := lateF_ge ks n (at_ + 1) (l ++ p.flatten ++ [at_]) []
            refine ⟨by omega, fun h => b2 (by omega), ?_⟩
            simp only [List.length_append, List.length_cons, List.length_nil, List.flatten_nil] at b3
            omega
          · rw [if_neg k2]
            obtain ⟨b1, b2, b3⟩ := lateF_ge ks n (at_ + 1) (l ++ [at_]) p
            refine ⟨by omega, fun h => b2 (by omega), ?_⟩
            simp only [List.length_append, List.length_cons, List.length_nil] at b3
            omega
    · rw [if_neg hlt]
      exact ⟨Nat.le_refl _, fun h => h, by rw [List.length_append]; omega⟩
theorem lateF_fuel (ks : List Int) : ∀ (n m at_ : Nat) (l : List Nat) (p : List (List Nat)), ks.length - at_ < n → ks.length - at_ < m → lateF ks n at_ l p = lateF ks m at_ l p
  | 0, m, at_, l, p, h, _ => absurd h (Nat.not_lt_zero _)
  | n + 1, 0, at_, l, p, _, h => absurd h (Nat.not_lt_zero _)
  | n + 1, m + 1, at_, l, p, h1, h2 => by
    simp only [lateF]
    by_cases hlt : at_ < ks.length
    · rw [if_pos hlt, if_pos hlt, lateF_fuel ks n m (at_ + 1) [] [] (by omega) (by omega)]
      have a1 := (lateF_ge ks m (at_ + 1) [] []).1
      rw [lateF_fuel ks n m (lateF ks m (at_ + 1) [] []).2 _ _ (by omega) (by omega), lateF_fuel ks n m (at_ + 1) (l ++ p.flatten ++ [at_]) [] (by omega) (by omega), lateF_fuel ks n m (at_ + 1) (l ++ [at_]) p (by omega) (by omega)]
    · rw [if_neg hlt, if_neg hlt]
/-- with fuel enough, step by step -/
def lateN (ks : List Int) (at_ : Nat) (l : List Nat) (p : List (List Nat)) : List Nat × Nat := lateF ks (ks.length + 1) at_ l p
theorem lateN_step (ks : List Int) (at_ : Nat) (l : List Nat) (p : List (List Nat)) : lateN ks at_ l p =
    if at_ < ks.length then
      if ks.getD at_ 0 = 0 then lateN ks (lateN ks (at_ + 1) [] []).2 (l ++ [at_]) ((lateN ks (at_ + 1) [] []).1 :: p)
      else if ks.getD at_ 0 = 1 then (l ++ p.flatten ++ [at_], at_ + 1)
      else if ks.getD at_ 0 = 2 then lateN ks (at_ + 1) (l ++ p.flatten ++ [at_]) []
      else lateN ks (at_ + 1) (l ++ [at_]) p
    else (l ++ p.flatten, at_) := by
  unfold lateN
  rw [lateF.eq_def]
  simp only
  by_cases hlt : at_ < ks.length
  · rw [if_pos hlt, if_pos hlt]
    have e : ∀ (b : Nat) (l : List Nat) (p : List (List Nat)), at_ + 1 ≤ b → lateF ks ks.length b l p = lateF ks (ks.length + 1) b l p := fun b l p hb => lateF_fuel ks _ _ b l p (by omega) (by omega)
    rw [e (at_ + 1) [] [] (Nat.le_refl _), e _ _ _ (lateF_ge ks _ (at_ + 1) [] []).1, e (at_ + 1) _ [] (Nat.le_refl _), e (at_ + 1) _ p (Nat.le_refl _)]
  · rw [if_neg hlt, if_neg hlt]
end Go.Proofs.Ytkecgjmbamaejaa.P
