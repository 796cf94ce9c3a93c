/- races.late, plain: the recursion does not hang on its fuel; how long its list is. -/

set_option linter.unusedVariables false
set_option linter.unusedSimpArgs false
namespace Go.Proofs.Ytkecgjmbamaejaa.P
set_option linter.unusedVariables false

/-- a task on its way: the deeds ahead of what it does next that stand behind those of the tasks below it; the returned children that it has not waited for, the last one first -/
structure Fr where
  s : List Nat
  p : List (List Nat)

/-- the last task of the list's head; k: the deed's kind; n: its number -/
def stepF (k : Int) (n : Nat) : List Fr → List Fr
  | [] => []
  | f :: r =>
    if k = 0 then ⟨[], []⟩ :: ⟨f.s ++ [n], f.p⟩ :: r
    else if k = 1 then match r with
      | [] => [⟨f.s ++ f.p.flatten ++ [n], []⟩]
      | g :: r2 => ⟨g.s, (f.s ++ f.p.flatten ++ [n]) :: g.p⟩ :: r2
    else if k = 2 then ⟨f.s ++ f.p.flatten ++ [n], []⟩ :: r
    else ⟨f.s ++ [n], f.p⟩ :: r

def preF : List Fr → List Nat
  | [] => []
  | f :: r => preF r ++ f.s
def postF : List Fr → List Nat
  | [] => []
  | f :: r => f.p.flatten ++ postF r
def ordF (fs : List Fr) : List Nat := preF fs ++ postF fs

/-- what is ahead of a deed of kind k that is done next -/
def aheadF (fs : List Fr) (k : Int) : List Nat := match fs with
  | [] => []
  | f :: r => preF (f :: r) ++ (if k = 1 ∨ k = 2 then f.p.flatten else [])
def behindF (fs : List Fr) (k : Int) : List Nat := match fs with
  | [] => []
  | f :: r => (if k = 1 ∨ k = 2 then [] else f.p.flatten) ++ postF r

theorem ord_split (fs : List Fr) (k : Int) : ordF fs = aheadF fs k ++ behindF fs k := by
  cases fs with
  | nil => rfl
  | cons f r =>
    simp only [ordF, aheadF, behindF, postF]
    split <;> simp

theorem step_ne {k : Int} {n : Nat} {fs : List Fr} (h : fs ≠ []) : stepF k n fs ≠ [] := by
  cases fs with
  | nil => exact absurd rfl h
  | cons f r =>
    simp only [stepF]
    split
    · exact List.cons_ne_nil _ _
    · split
      · cases r <;> exact List.cons_ne_nil _ _
      · split <;> exact List.cons_ne_nil _ _

theorem ord_step (fs : List Fr) (h : fs ≠ []) (k : Int) (n : Nat) (hr : k = 1 → 2 ≤ fs.length) : ordF (stepF k n fs) = aheadF fs k ++ [n] ++ behindF fs k := by
  cases fs with
  | nil => exact absurd rfl h
  | cons f r =>
    simp only [stepF]
    by_cases h0 : k = 0
    · rw [if_pos h0]
      simp only [ordF, aheadF, behindF, preF, postF]
      rw [if_neg (by omega), if_neg (by omega)]
      simp
    · rw [if_neg h0]
      by_cases h1 : k = 1
      · rw [if_pos h1]
        cases r with
        | nil => have := hr h1; simp at this
        | cons g r2 =>
          simp only [ordF, aheadF, behindF, preF, postF]
          rw [if_pos (Or.inl h1), if_pos (Or.inl h1)]
          simp
      · rw [if_neg h1]
        by_cases h2 : k = 2
        · rw [if_pos h2]
          simp only [ordF, aheadF, behindF, preF, postF]
          rw [if_pos (Or.inr h2), if_pos (Or.inr h2)]
          simp
        · rw [if_neg h2]
          simp only [ordF, aheadF, behindF, preF, postF]
          rw [if_neg (by omega), if_neg (by omega)]
          simp

/-- the tasks on their way after the first n deeds -/
def frs (ks : List Int) : Nat → List Fr
  | 0 => [⟨[], []⟩]
  | n + 1 => stepF (ks.getD n 0) n (frs ks n)

/-- no child returns that has not begun -/
def fair (ks : List Int) : Prop := ∀ n, n < ks.length → ks.getD n 0 = 1 → 2 ≤ (frs ks n).length

theorem frs_ne (ks : List Int) : ∀ n, frs ks n ≠ []
  | 0 => List.cons_ne_nil _ _
  | n + 1 => step_ne (frs_ne ks n)

theorem frs_ord (ks : List Int) (hf : fair ks) (n : Nat) (h : n < ks.length) : ordF (frs ks (n + 1)) = aheadF (frs ks n) (ks.getD n 0) ++ [n] ++ behindF (frs ks n) (ks.getD n 0) :=
  ord_step _ (frs_ne ks n) _ n (hf n h)

theorem frs_perm (ks : List Int) (hf : fair ks) : ∀ n, n ≤ ks.length → (ordF (frs ks n)).Perm (List.range n)
  | 0, _ => by
    show ([] : List Nat).Perm []
    exact List.Perm.nil
  | n + 1, h => by
    have ih := frs_perm ks hf n (by omega)
    rw [frs_ord ks hf n (by omega), List.range_succ]
    rw [ord_split _ (ks.getD n 0)] at ih
    have h1 : (aheadF (frs ks n) (ks.getD n 0) ++ [n] ++ behindF (frs ks n) (ks.getD n 0)).Perm (aheadF (frs ks n) (ks.getD n 0) ++ behindF (frs ks n) (ks.getD n 0) ++ [n]) := by
      rw [List.append_assoc, List.append_assoc]
      exact List.Perm.append_left _ List.perm_append_comm
    exact h1.trans (List.Perm.append_right _ ih)

theorem frs_nodup (ks : List Int) (hf : fair ks) (n : Nat) (h : n ≤ ks.length) : (ordF (frs ks n)).Nodup := (frs_perm ks hf n h).nodup_iff.2 List.nodup_range
theorem frs_mem (ks : List Int) (hf : fair ks) (n : Nat) (h : n ≤ ks.length) (i : Nat) : i ∈ ordF (frs ks n) ↔ i < n := (frs_perm ks hf n h).mem_iff.trans List.mem_range

/-- which of two stands first in a list -/
theorem idx_split (A B : List Nat) (n i : Nat) (hn : (A ++ [n] ++ B).Nodup) (hi : i ∈ A ++ B) : (A ++ [n] ++ B).idxOf i < (A ++ [n] ++ B).idxOf n ↔ i ∈ A := by
  have hnA : n ∉ A := by
    intro h
    rw [List.append_assoc, List.nodup_append] at hn
    exact hn.2.2 n h n (by simp) rfl
  have e : (A ++ [n] ++ B).idxOf n = A.length := by
    rw [List.append_assoc, List.idxOf_append, if_neg hnA]
    simp
  rw [e]
  by_cases h : i ∈ A
  · rw [List.append_assoc, List.idxOf_append, if_pos h]
    simp [h, List.idxOf_lt_length_iff]
  · rw [List.append_assoc, List.idxOf_append, if_neg h]
    simp [h]

theorem idx_insert (A B : List Nat) (n i j : Nat) (hn : (A ++ [n] ++ B).Nodup) (hi : i ∈ A ++ B) (hj : j ∈ A ++ B) : (A ++ [n] ++ B).idxOf i < (A ++ [n] ++ B).idxOf j ↔ (A ++ B).idxOf i < (A ++ B).idxOf j := by
  have hne : ∀ x, x ∈ A ++ B → x ≠ n := by
    intro x hx e
    subst e
    rw [List.append_assoc, List.nodup_append] at hn
    obtain ⟨_, h2, h3⟩ := hn
    rcases List.mem_append.1 hx with h | h
    · exact h3 x h x (by simp) rfl
    · have := (List.nodup_append.1 h2).2.2 x (by simp) x h
      exact this rfl
  have key : ∀ x, x ∈ A ++ B → (x ∈ A → (A ++ [n] ++ B).idxOf x = A.idxOf x ∧ (A ++ B).idxOf x = A.idxOf x ∧ A.idxOf x < A.length) ∧ (x ∉ A → (A ++ [n] ++ B).idxOf x = A.length + 1 + B.idxOf x ∧ (A ++ B).idxOf x = A.length + B.idxOf x) := by
    intro x hx
    refine ⟨fun h => ?_, fun h => ?_⟩
    · rw [List.append_assoc, List.idxOf_append, if_pos h, List.idxOf_append, if_pos h]
      exact ⟨rfl, rfl, List.idxOf_lt_length_iff.2 h⟩
    · have h2 : x ∉ [n] := by simp [hne x hx]
      have e1 : (A ++ B).idxOf x = B.idxOf x + A.length := by rw [List.idxOf_append, if_neg h]
      have e2 : (A ++ ([n] ++ B)).idxOf x = B.idxOf x + [n].length + A.length := by rw [List.idxOf_append, if_neg h, List.idxOf_append, if_neg h2]
      have e3 : [n].length = 1 := rfl
      rw [List.append_assoc]
      omega
  obtain ⟨i1, i2⟩ := key i hi
  obtain ⟨j1, j2⟩ := key j hj
  by_cases hiA : i ∈ A
  · by_cases hjA : j ∈ A
    · obtain ⟨a, b, c⟩ := i1 hiA
      obtain ⟨d, e, f⟩ := j1 hjA
      omega
    · obtain ⟨a, b, c⟩ := i1 hiA
      obtain ⟨d, e⟩ := j2 hjA
      omega
  · by_cases hjA : j ∈ A
    · obtain ⟨a, b⟩ := i2 hiA
      obtain ⟨d, e, f⟩ := j1 hjA
      omega
    · obtain ⟨a, b⟩ := i2 hiA
      obtain ⟨d, e⟩ := j2 hjA
      omega

/-- deed i is ahead of deed j -/
def Ahead (ks : List Int) (i j : Nat) : Prop := i ∈ aheadF (frs ks j) (ks.getD j 0)

/-- the second order tells what is ahead of what -/
theorem second_iff (ks : List Int) (hf : fair ks) : ∀ n, n ≤ ks.length → ∀ i j, i < j → j < n → ((ordF (frs ks n)).idxOf i < (ordF (frs ks n)).idxOf j ↔ Ahead ks i j)
  | 0, _, i, j, _, hj => by omega
  | n + 1, h, i, j, hij, hj => by
    have hnd := frs_nodup ks hf (n + 1) h
    have hmem : ∀ x, x < n → x ∈ aheadF (frs ks n) (ks.getD n 0) ++ behindF (frs ks n) (ks.getD n 0) := fun x hx => by
      rw [← ord_split]
      exact (frs_mem ks hf n (by omega) x).2 hx
    rw [frs_ord ks hf n (by omega)] at hnd ⊢
    by_cases he : j = n
    · subst he
      exact idx_split _ _ _ _ hnd (hmem i hij)
    · rw [idx_insert _ _ _ _ _ hnd (hmem i (by omega)) (hmem j (by omega)), ← ord_split]
      exact second_iff ks hf n (by omega) i j hij (by omega)

theorem Ahead.lt {ks : List Int} (hf : fair ks) {i j : Nat} (hj : j < ks.length) (h : Ahead ks i j) : i < j := by
  have : i ∈ ordF (frs ks j) := by
    rw [ord_split _ (ks.getD j 0)]
    exact List.mem_append.2 (Or.inl h)
  exact (frs_mem ks hf j (by omega) i).1 this

/-- what is ahead of what is ahead -/
theorem Ahead.trans {ks : List Int} (hf : fair ks) {i j k : Nat} (hk : k < ks.length) (h1 : Ahead ks i j) (h2 : Ahead ks j k) : Ahead ks i k := by
  have hjk := h2.lt hf hk
  have hij := h1.lt hf (by omega)
  rw [← second_iff ks hf (k + 1) (by omega) _ _ (by omega) (by omega)]
  rw [← second_iff ks hf (k + 1) (by omega) _ _ (by omega) (by omega)] at h1 h2
  omega

/-- beside the one, and that beside the next: beside -/
theorem beside_trans {ks : List Int} (hf : fair ks) {i j k : Nat} (hij : i < j) (hjk : j < k) (hk : k < ks.length) (h1 : ¬ Ahead ks i j) (h2 : ¬ Ahead ks j k) : ¬ Ahead ks i k := by
  rw [← second_iff ks hf (k + 1) (by omega) _ _ (by omega) (by omega)] at h1 h2 ⊢
  omega

end Go.Proofs.Ytkecgjmbamaejaa.P
namespace Go.Proofs.Ytkecgjmbamaejaa.P
set_option linter.unusedVariables false

/-- the document's task: its last deed, the spawn that began it, the returns for which it has not waited (-1: none) -/
structure DT where
  last : Int
  by_ : Int
  out : List Int

def dfrom (k : Int) (t : DT) : List Int := (if t.last ≥ 0 then [t.last] else if t.by_ ≥ 0 then [t.by_] else []) ++ (if k = 2 ∨ k = 1 then t.out else [])
def dself (k : Int) (n : Nat) (t : DT) : DT := ⟨n, t.by_, if k = 2 ∨ k = 1 then [] else t.out⟩
def dstep (k : Int) (n : Nat) : List DT → List DT
  | [] => []
  | t :: u =>
    if k = 0 then ⟨-1, n, []⟩ :: dself k n t :: u
    else if k = 1 then match u with
      | [] => [dself k n t]
      | g :: u2 => ⟨g.last, g.by_, g.out ++ [(n : Int)]⟩ :: u2
    else dself k n t :: u
def dts (ks : List Int) : Nat → List DT
  | 0 => [⟨-1, -1, []⟩]
  | n + 1 => dstep (ks.getD n 0) n (dts ks n)
def dtop (ts : List DT) : DT := ts.headD ⟨-1, -1, []⟩
def frm (ks : List Int) (n : Nat) : List Int := dfrom (ks.getD n 0) (dtop (dts ks n))

inductive HB (from_ : Nat → List Int) : Nat → Nat → Prop
  | one {i j : Nat} : (i : Int) ∈ from_ j → HB from_ i j
  | more {i j : Nat} (m : Nat) : (m : Int) ∈ from_ j → HB from_ i m → HB from_ i j
theorem hb_iff {F : Nat → List Int} {i j : Nat} : HB F i j ↔ ∃ m : Nat, (m : Int) ∈ F j ∧ (i = m ∨ HB F i m) := by
  constructor
  · intro h
    cases h with
    | one h => exact ⟨i, h, Or.inl rfl⟩
    | more m h1 h2 => exact ⟨m, h1, Or.inr h2⟩
  · rintro ⟨m, h1, rfl | h2⟩
    · exact .one h1
    · exact .more m h1 h2

/-- what one comes to behind x -/
def Cl (F : Nat → List Int) (x : Int) (i : Nat) : Prop := ∃ m : Nat, x = (m : Int) ∧ (i = m ∨ HB F i m)
def ClT (F : Nat → List Int) (t : DT) (i : Nat) : Prop := (0 ≤ t.last ∧ Cl F t.last i) ∨ (t.last < 0 ∧ 0 ≤ t.by_ ∧ Cl F t.by_ i)

def JF (F : Nat → List Int) : List Fr → List DT → Prop
  | [], [] => True
  | f :: r, t :: u => (∀ i, ClT F t i ↔ i ∈ preF (f :: r)) ∧ (∀ c ∈ f.p, ∃ x ∈ t.out, ∀ i ∈ c, Cl F x i) ∧ (∀ x ∈ t.out, (∃ m : Nat, x = (m : Int)) ∧ ∃ c ∈ f.p, ∀ i, Cl F x i → i ∈ c ∨ i ∈ preF (f :: r)) ∧ JF F r u
  | _, _ => False

theorem dfrom_iff (F : Nat → List Int) (k : Int) {f : Fr} {r : List Fr} {t : DT} {u : List DT} (h : JF F (f :: r) (t :: u)) (i : Nat) : (∃ m : Nat, (m : Int) ∈ dfrom k t ∧ (i = m ∨ HB F i m)) ↔ i ∈ aheadF (f :: r) k := by
  obtain ⟨h1, h2, h3, _⟩ := h
  have hfst : (∃ m : Nat, (m : Int) ∈ (if t.last ≥ 0 then [t.last] else if t.by_ ≥ 0 then [t.by_] else []) ∧ (i = m ∨ HB F i m)) ↔ i ∈ preF (f :: r) := by
    rw [← h1 i]
    by_cases hl : t.last ≥ 0
    · rw [if_pos hl]
      constructor
      · rintro ⟨m, hm, hi⟩
        exact Or.inl ⟨hl, m, (List.mem_singleton.1 hm).symm, hi⟩
      · intro hc
        rcases hc with hc | hc
        · obtain ⟨_, m, hm, hi⟩ := hc
          exact ⟨m, List.mem_singleton.2 hm.symm, hi⟩
        · exact absurd hc.1 (by omega)
    · rw [if_neg hl]
      by_cases hb : t.by_ ≥ 0
      · rw [if_pos hb]
        constructor
        · rintro ⟨m, hm, hi⟩
          exact Or.inr ⟨by omega, hb, m, (List.mem_singleton.1 hm).symm, hi⟩
        · intro hc
          rcases hc with hc | hc
          · exact absurd hc.1 hl
          · obtain ⟨_, _, m, hm, hi⟩ := hc
            exact ⟨m, List.mem_singleton.2 hm.symm, hi⟩
      · rw [if_neg hb]
        constructor
        · rintro ⟨m, hm, _⟩
          cases hm
        · intro hc
          rcases hc with hc | hc
          · exact absurd hc.1 hl
          · exact absurd hc.2.1 hb
  unfold dfrom
  generalize (if t.last ≥ 0 then [t.last] else if t.by_ ≥ 0 then [t.by_] else []) = A at hfst ⊢
  simp only [aheadF]
  by_cases hk : k = 2 ∨ k = 1
  · rw [if_pos hk, if_pos (show k = 1 ∨ k = 2 by omega)]
    constructor
    · rintro ⟨m, hm, hi⟩
      rcases List.mem_append.1 hm with hm | hm
      · exact List.mem_append.2 (Or.inl (hfst.1 ⟨m, hm, hi⟩))
      · obtain ⟨_, c, hc, hci⟩ := h3 _ hm
        rcases hci i ⟨m, rfl, hi⟩ with h | h
        · exact List.mem_append.2 (Or.inr (List.mem_flatten.2 ⟨c, hc, h⟩))
        · exact List.mem_append.2 (Or.inl h)
    · intro hi
      rcases List.mem_append.1 hi with hi | hi
      · obtain ⟨m, hm, hh⟩ := hfst.2 hi
        exact ⟨m, List.mem_append.2 (Or.inl hm), hh⟩
      · obtain ⟨c, hc, hic⟩ := List.mem_flatten.1 hi
        obtain ⟨x, hx, hxi⟩ := h2 c hc
        obtain ⟨m, rfl, hh⟩ := hxi i hic
        exact ⟨m, List.mem_append.2 (Or.inr hx), hh⟩
  · rw [if_neg hk, if_neg (show ¬ (k = 1 ∨ k = 2) by omega), List.append_nil, List.append_nil]
    exact hfst

theorem jf_step (F : Nat → List Int) (k : Int) (n : Nat) {fs : List Fr} {ts : List DT} (h : JF F fs ts) (hne : fs ≠ []) (hr : k = 1 → 2 ≤ fs.length) (hF : F n = dfrom k (dtop ts)) : JF F (stepF k n fs) (dstep k n ts) ∧ ∀ i, HB F i n ↔ i ∈ aheadF fs k := by
  cases fs with
  | nil => exact absurd rfl hne
  | cons f r =>
    cases ts with
    | nil => exact absurd h (by simp [JF])
    | cons t u =>
      have hhb : ∀ i, HB F i n ↔ i ∈ aheadF (f :: r) k := fun i => by
        rw [hb_iff, hF]
        exact dfrom_iff F k h i
      refine ⟨?_, hhb⟩
      have hcl : ∀ i, Cl F (n : Int) i ↔ i = n ∨ i ∈ aheadF (f :: r) k := fun i => by
        unfold Cl
        constructor
        · rintro ⟨m, hm, hi⟩
          obtain rfl : m = n := by omega
          rcases hi with h | h
          · exact Or.inl h
          · exact Or.inr ((hhb i).1 h)
        · rintro (h | h)
          · exact ⟨n, rfl, Or.inl h⟩
          · exact ⟨n, rfl, Or.inr ((hhb i).2 h)⟩
      obtain ⟨h1, h2, h3, h4⟩ := h
      have hself : ∀ i, ClT F (dself k n t) i ↔ i = n ∨ i ∈ aheadF (f :: r) k := fun i => by
        rw [← hcl i]
        unfold ClT
        have e : (dself k n t).last = (n : Int) := rfl
        rw [e]
        constructor
        · rintro (⟨_, h⟩ | ⟨h, _⟩)
          · exact h
          · omega
        · intro h
          exact Or.inl ⟨by omega, h⟩
      have hpre : preF (f :: r) = preF r ++ f.s := rfl
      simp only [stepF, dstep]
      by_cases k0 : k = 0
      · rw [if_pos k0, if_pos k0]
        have ha : aheadF (f :: r) k = preF (f :: r) := by simp only [aheadF]; rw [if_neg (by omega), List.append_nil]
        have hp2 : preF (⟨f.s ++ [n], f.p⟩ :: r) = preF (f :: r) ++ [n] := by simp [preF]
        have ho : (dself k n t).out = t.out := by simp only [dself]; rw [if_neg (by omega)]
        refine ⟨fun i => ?_, fun c hc => ?_, fun x hx => ?_, ?_, ?_, ?_, h4⟩
        · show ClT F ⟨-1, n, []⟩ i ↔ i ∈ preF (⟨f.s ++ [n], f.p⟩ :: r) ++ []
          rw [List.append_nil, hp2, List.mem_append, List.mem_singleton, ← ha, Or.comm, ← hcl i]
          unfold ClT
          constructor
          · rintro (⟨h, _⟩ | ⟨_, _, h⟩)
            · simp at h
            · exact h
          · intro h
            exact Or.inr ⟨by simp, by simp, h⟩
        · cases hc
        · cases hx
        · intro i
          rw [hself i, hp2, List.mem_append, List.mem_singleton, ha, Or.comm]
        · rw [ho]; exact h2
        · rw [ho]
          intro x hx
          obtain ⟨a, c, hc, hci⟩ := h3 x hx
          refine ⟨a, c, hc, fun i hi => ?_⟩
          rw [hp2, List.mem_append]
          rcases hci i hi with h | h
          · exact Or.inl h
          · exact Or.inr (Or.inl h)
      · rw [if_neg k0, if_neg k0]
        by_cases k1 : k = 1
        · rw [if_pos k1, if_pos k1]
          cases r with
          | nil => have := hr k1; simp at this
          | cons g r2 =>
            cases u with
            | nil => exact absurd h4 (by simp [JF])
            | cons gt u2 =>
              have ha : aheadF (f :: g :: r2) k = preF (g :: r2) ++ f.s ++ f.p.flatten := by simp only [aheadF]; rw [if_pos (Or.inl k1)]; rfl
              obtain ⟨g1, g2, g3, g4⟩ := h4
              refine ⟨fun i => ?_, fun c hc => ?_, fun x hx => ?_, g4⟩
              · exact g1 i
              · rcases List.mem_cons.1 hc with rfl | hc
                · refine ⟨(n : Int), List.mem_append.2 (Or.inr (List.mem_singleton.2 rfl)), fun i hi => ?_⟩
                  rw [hcl i, ha]
                  rcases List.mem_append.1 hi with hi | hi
                  · rcases List.mem_append.1 hi with hi | hi
                    · exact Or.inr (by simp [hi])
                    · exact Or.inr (List.mem_append.2 (Or.inr hi))
                  · exact Or.inl (List.mem_singleton.1 hi)
                · obtain ⟨x, hx, hxi⟩ := g2 c hc
                  exact ⟨x, List.mem_append.2 (Or.inl hx), hxi⟩
              · rcases List.mem_append.1 hx with hx | hx
                · obtain ⟨a, c, hc, hci⟩ := g3 x hx
                  exact ⟨a, c, List.mem_cons_of_mem _ hc, hci⟩
                · obtain rfl := List.mem_singleton.1 hx
                  refine ⟨⟨n, rfl⟩, _, List.mem_cons_self, fun i hi => ?_⟩
                  rw [hcl i, ha] at hi
                  rcases hi with hi | hi
                  · exact Or.inl (by simp [hi])
                  · rcases List.mem_append.1 hi with hi | hi
                    · rcases List.mem_append.1 hi with hi | hi
                      · exact Or.inr hi
                      · exact Or.inl (by simp [hi])
                    · exact Or.inl (List.mem_append.2 (Or.inl (List.mem_append.2 (Or.inr hi))))
        · rw [if_neg k1, if_neg k1]
          by_cases k2 : k = 2
          · rw [if_pos k2]
            have ha : aheadF (f :: r) k = preF r ++ f.s ++ f.p.flatten := by simp only [aheadF]; rw [if_pos (Or.inr k2)]; rfl
            have ho : (dself k n t).out = [] := by simp only [dself]; rw [if_pos (Or.inl k2)]
            refine ⟨fun i => ?_, (fun c hc => by cases hc), fun x hx => ?_, h4⟩
            · rw [hself i, ha]
              show _ ↔ i ∈ preF r ++ (f.s ++ f.p.flatten ++ [n])
              simp only [List.mem_append, List.mem_singleton]
              constructor
              · rintro (h | (h | h) | h)
                · exact Or.inr (Or.inr h)
                · exact Or.inl h
                · exact Or.inr (Or.inl (Or.inl h))
                · exact Or.inr (Or.inl (Or.inr h))
              · rintro (h | (h | h) | h)
                · exact Or.inr (Or.inl (Or.inl h))
                · exact Or.inr (Or.inl (Or.inr h))
                · exact Or.inr (Or.inr h)
                · exact Or.inl h
            · rw [ho] at hx
              cases hx
          · rw [if_neg k2]
            have ha : aheadF (f :: r) k = preF (f :: r) := by simp only [aheadF]; rw [if_neg (by omega), List.append_nil]
            have hp2 : preF (⟨f.s ++ [n], f.p⟩ :: r) = preF (f :: r) ++ [n] := by simp [preF]
            have ho : (dself k n t).out = t.out := by simp only [dself]; rw [if_neg (by omega)]
            refine ⟨fun i => ?_, ?_, ?_, h4⟩
            · rw [hself i, hp2, List.mem_append, List.mem_singleton, ha, Or.comm]
            · rw [ho]; exact h2
            · rw [ho]
              intro x hx
              obtain ⟨a, c, hc, hci⟩ := h3 x hx
              refine ⟨a, c, hc, fun i hi => ?_⟩
              rw [hp2, List.mem_append]
              rcases hci i hi with h | h
              · exact Or.inl h
              · exact Or.inr (Or.inl h)

theorem jf_all (ks : List Int) (hf : fair ks) : ∀ n, n ≤ ks.length → JF (frm ks) (frs ks n) (dts ks n)
  | 0, _ => by
    refine ⟨fun i => ?_, (fun c hc => by cases hc), (fun x hx => by cases hx), trivial⟩
    unfold ClT
    constructor
    · rintro (⟨h, _⟩ | ⟨_, h, _⟩) <;> simp at h
    · intro h
      cases h
  | n + 1, h => (jf_step (frm ks) (ks.getD n 0) n (jf_all ks hf n (by omega)) (frs_ne ks n) (hf n h) rfl).1

/-- the document's steps -/
theorem hb_ahead (ks : List Int) (hf : fair ks) (n : Nat) (h : n < ks.length) (i : Nat) : HB (frm ks) i n ↔ Ahead ks i n :=
  (jf_step (frm ks) (ks.getD n 0) n (jf_all ks hf n (by omega)) (frs_ne ks n) (hf n h) rfl).2 i

end Go.Proofs.Ytkecgjmbamaejaa.P
namespace Go.Proofs.Ytkecgjmbamaejaa.P
set_option linter.unusedVariables false

/-- in what one place stands, the other not, by the kinds' count: as many tasks are on their way as have begun and not returned -/
def openF (ks : List Int) : Nat → Int
  | 0 => 0
  | n + 1 => openF ks n + (if ks.getD n 0 = 0 then 1 else if ks.getD n 0 = 1 then -1 else 0)

theorem frs_len (ks : List Int) : ∀ n, n ≤ ks.length → (∀ m, m < n → ks.getD m 0 = 1 → 1 ≤ openF ks m) → ((frs ks n).length : Int) = openF ks n + 1
  | 0, _, _ => rfl
  | n + 1, h, hp => by
    have ih := frs_len ks n (by omega) (fun m hm => hp m (by omega))
    have hne := frs_ne ks n
    show ((stepF (ks.getD n 0) n (frs ks n)).length : Int) = openF ks n + (if ks.getD n 0 = 0 then 1 else if ks.getD n 0 = 1 then -1 else 0) + 1
    cases hfs : frs ks n with
    | nil => exact absurd hfs hne
    | cons f r =>
      rw [hfs] at ih
      simp only [stepF]
      by_cases k0 : ks.getD n 0 = 0
      · rw [if_pos k0, if_pos k0]
        simp at ih ⊢
        omega
      · rw [if_neg k0, if_neg k0]
        by_cases k1 : ks.getD n 0 = 1
        · rw [if_pos k1, if_pos k1]
          have := hp n (Nat.lt_succ_self _) k1
          cases r with
          | nil => simp at ih; omega
          | cons g r2 =>
            simp at ih ⊢
            omega
        · rw [if_neg k1, if_neg k1]
          split <;> (simp at ih ⊢; omega)

theorem fair_of (ks : List Int) (h : ∀ m, m < ks.length → ks.getD m 0 = 1 → 1 ≤ openF ks m) : fair ks := fun n hn hk => by
  have := frs_len ks n (by omega) (fun m hm => h m (by omega))
  have := h n hn hk
  omega
end Go.Proofs.Ytkecgjmbamaejaa.P
namespace Go.Proofs.Ytkecgjmbamaejaa.P
set_option linter.unusedVariables false

end Go.Proofs.Ytkecgjmbamaejaa.P
