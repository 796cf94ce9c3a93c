/- Layer 19, plain: the first race and the racy places, as functions; the document's First and Detect come to them. -/
import Derived.Test.YtkecgjmbamaejaaPAPx0
import Derived.Test.YtkecgjmbamaejaaPAPx3
import Derived.Test.YtkecgjmbamaejaaPALate
import Derived.Test.YtkecgjmbamaejaaPARB
import Derived.Test.YtkecgjmbamaejaaPALat
import Derived.Deep.DeepCutAuto
import Derived.Test.YtkecgjmbamaejaaPARA
import Derived.Test.YtkecgjmbamaejaaPARC
set_option linter.unusedVariables false
set_option linter.unusedSimpArgs false
namespace Go.Proofs.Ytkecgjmbamaejaa.P
set_option linter.unusedVariables false

/-- two deeds on one place, one of them a write -/
def Touch (ks ls : List Int) (i j : Nat) : Prop := 3 ≤ ks.getD i 0 ∧ 3 ≤ ks.getD j 0 ∧ ls.getD i 0 = ls.getD j 0 ∧ (ks.getD i 0 = 4 ∨ ks.getD j 0 = 4)
def Racy (ks ls : List Int) (j : Nat) : Prop := ∃ i, i < j ∧ Touch ks ls i j ∧ ¬ Ahead ks i j

/-- what is known of a place without a race among the first n deeds: the last write, and one read -/
structure Seen (ks ls : List Int) (n : Nat) (loc : Int) (w r : Option Nat) : Prop where
  calm : ∀ j, j < n → ls.getD j 0 = loc → ¬ Racy ks ls j
  wsome : ∀ x, w = some x → x < n ∧ ks.getD x 0 = 4 ∧ ls.getD x 0 = loc
  wlast : ∀ x, x < n → ks.getD x 0 = 4 → ls.getD x 0 = loc → ∃ y, w = some y ∧ x ≤ y
  rsome : ∀ x, r = some x → x < n ∧ ks.getD x 0 = 3 ∧ ls.getD x 0 = loc
  rall : ∀ x, x < n → ks.getD x 0 = 3 → ls.getD x 0 = loc → ∃ y, r = some y ∧ (x = y ∨ (x < y ∧ Ahead ks x y) ∨ (y < x ∧ ¬ Ahead ks y x))

def Beside (ks : List Int) (x : Option Nat) (j : Nat) : Prop := ∃ i, x = some i ∧ ¬ Ahead ks i j

section
variable {ks ls : List Int} {n : Nat} {loc : Int} {w r : Option Nat}

theorem Seen.zero (ks ls : List Int) (loc : Int) : Seen ks ls 0 loc none none :=
  ⟨fun j h => absurd h (Nat.not_lt_zero _), fun x h => (Option.some_ne_none x h.symm).elim, fun x h => absurd h (Nat.not_lt_zero _), fun x h => (Option.some_ne_none x h.symm).elim, fun x h => absurd h (Nat.not_lt_zero _)⟩

/-- a deed on another place, or on none -/
theorem Seen.skip (h : Seen ks ls n loc w r) (hk : ks.getD n 0 < 3 ∨ ls.getD n 0 ≠ loc) : Seen ks ls (n + 1) loc w r := by
  refine ⟨fun j hj hl => ?_, fun x hx => ?_, fun x hx h4 hl => ?_, fun x hx => ?_, fun x hx h3 hl => ?_⟩
  · by_cases e : j = n
    · subst e
      rintro ⟨i, hi, ht, _⟩
      rcases hk with hk | hk
      · have := ht.2.1
        omega
      · exact hk hl
    · exact h.calm j (by omega) hl
  · have := h.wsome x hx
    exact ⟨by omega, this.2⟩
  · by_cases e : x = n
    · subst e
      rcases hk with hk | hk
      · omega
      · exact absurd hl hk
    · exact h.wlast x (by omega) h4 hl
  · have := h.rsome x hx
    exact ⟨by omega, this.2⟩
  · by_cases e : x = n
    · subst e
      rcases hk with hk | hk
      · omega
      · exact absurd hl hk
    · exact h.rall x (by omega) h3 hl

/-- whether a deed there is racy -/
theorem Seen.racy_iff (hf : fair ks) (h : Seen ks ls n loc w r) (hn : n < ks.length) (hk : 3 ≤ ks.getD n 0) (hl : ls.getD n 0 = loc) (h5 : ks.getD n 0 ≤ 4) (hall : ∀ j, j < n → ks.getD j 0 ≤ 4) :
    Racy ks ls n ↔ (Beside ks w n ∨ (ks.getD n 0 = 4 ∧ Beside ks r n)) := by
  constructor
  · rintro ⟨i, hi, ⟨t1, t2, t3, t4⟩, hna⟩
    have hli : ls.getD i 0 = loc := by rw [t3]; exact hl
    have hi4 := hall i hi
    by_cases hw : ks.getD i 0 = 4
    · obtain ⟨y, hy, hle⟩ := h.wlast i hi hw hli
      obtain ⟨y1, y2, y3⟩ := h.wsome y hy
      refine Or.inl ⟨y, hy, fun ha => ?_⟩
      by_cases e : i = y
      · subst e
        exact hna ha
      · have hlt : i < y := by omega
        have hay : Ahead ks i y := by
          by_cases hq : Ahead ks i y
          · exact hq
          · exact absurd ⟨i, hlt, ⟨t1, by omega, by rw [hli, y3], Or.inl hw⟩, hq⟩ (h.calm y y1 y3)
        exact hna (hay.trans hf hn ha)
    · have hr3 : ks.getD i 0 = 3 := by omega
      have hn4 : ks.getD n 0 = 4 := by rcases t4 with t4 | t4 <;> omega
      obtain ⟨y, hy, hc⟩ := h.rall i hi hr3 hli
      obtain ⟨y1, y2, y3⟩ := h.rsome y hy
      refine Or.inr ⟨hn4, y, hy, fun ha => ?_⟩
      rcases hc with e | ⟨hlt, hay⟩ | ⟨hlt, hay⟩
      · subst e
        exact hna ha
      · exact hna (hay.trans hf hn ha)
      · exact beside_trans hf hlt hi hn hay hna ha
  · rintro (⟨i, hi, hna⟩ | ⟨h4, i, hi, hna⟩)
    · obtain ⟨a, b, c⟩ := h.wsome i hi
      exact ⟨i, a, ⟨by omega, hk, by rw [c, hl], Or.inl b⟩, hna⟩
    · obtain ⟨a, b, c⟩ := h.rsome i hi
      exact ⟨i, a, ⟨by omega, hk, by rw [c, hl], Or.inr h4⟩, hna⟩

theorem Seen.write (h : Seen ks ls n loc w r) (hk : ks.getD n 0 = 4) (hl : ls.getD n 0 = loc) (hq : ¬ Racy ks ls n) : Seen ks ls (n + 1) loc (some n) r := by
  refine ⟨fun j hj hjl => ?_, fun x hx => ?_, fun x hx h4 hxl => ⟨n, rfl, by omega⟩, fun x hx => ?_, fun x hx h3 hxl => ?_⟩
  · by_cases e : j = n
    · subst e
      exact hq
    · exact h.calm j (by omega) hjl
  · injection hx with hx
    subst hx
    exact ⟨by omega, hk, hl⟩
  · have := h.rsome x hx
    exact ⟨by omega, this.2⟩
  · by_cases e : x = n
    · subst e
      omega
    · exact h.rall x (by omega) h3 hxl

theorem Seen.read (hf : fair ks) (hn : n < ks.length) (h : Seen ks ls n loc w r) (hk : ks.getD n 0 = 3) (hl : ls.getD n 0 = loc) (hq : ¬ Racy ks ls n) (hb : ¬ Beside ks r n) : Seen ks ls (n + 1) loc w (some n) := by
  refine ⟨fun j hj hjl => ?_, fun x hx => ?_, fun x hx h4 hxl => ?_, fun x hx => ?_, fun x hx h3 hxl => ⟨n, rfl, ?_⟩⟩
  · by_cases e : j = n
    · subst e
      exact hq
    · exact h.calm j (by omega) hjl
  · have := h.wsome x hx
    exact ⟨by omega, this.2⟩
  · by_cases e : x = n
    · subst e
      omega
    · exact h.wlast x (by omega) h4 hxl
  · injection hx with hx
    subst hx
    exact ⟨by omega, hk, hl⟩
  · by_cases e : x = n
    · exact Or.inl e
    · refine Or.inr (Or.inl ⟨by omega, ?_⟩)
      obtain ⟨y, hy, hc⟩ := h.rall x (by omega) h3 hxl
      have hyn : Ahead ks y n := by
        by_cases hq2 : Ahead ks y n
        · exact hq2
        · exact absurd ⟨y, hy, hq2⟩ hb
      obtain ⟨y1, _⟩ := h.rsome y hy
      rcases hc with e2 | ⟨_, ha⟩ | ⟨hlt, ha⟩
      · subst e2
        exact hyn
      · exact ha.trans hf hn hyn
      · by_cases hq2 : Ahead ks x n
        · exact hq2
        · exact absurd hyn (beside_trans hf hlt (by omega) hn ha hq2)

theorem Seen.readBeside (h : Seen ks ls n loc w r) (hk : ks.getD n 0 = 3) (hl : ls.getD n 0 = loc) (hq : ¬ Racy ks ls n) (hb : Beside ks r n) : Seen ks ls (n + 1) loc w r := by
  obtain ⟨y, hy, hya⟩ := hb
  obtain ⟨y1, _⟩ := h.rsome y hy
  refine ⟨fun j hj hjl => ?_, fun x hx => ?_, fun x hx h4 hxl => ?_, fun x hx => ?_, fun x hx h3 hxl => ?_⟩
  · by_cases e : j = n
    · subst e
      exact hq
    · exact h.calm j (by omega) hjl
  · have := h.wsome x hx
    exact ⟨by omega, this.2⟩
  · by_cases e : x = n
    · subst e
      omega
    · exact h.wlast x (by omega) h4 hxl
  · have := h.rsome x hx
    exact ⟨by omega, this.2⟩
  · by_cases e : x = n
    · subst e
      exact ⟨y, hy, Or.inr (Or.inr ⟨y1, hya⟩)⟩
    · exact h.rall x (by omega) h3 hxl
end

end Go.Proofs.Ytkecgjmbamaejaa.P
namespace Go.Proofs.Ytkecgjmbamaejaa.P
set_option linter.unusedVariables false

/-- a task on its way: its number; the tasks in its own set; those beside it -/
structure Fi where
  own : Nat
  S : List Nat
  B : List Nat

def stepI (k : Int) (c : Nat) : List Fi → List Fi
  | [] => []
  | f :: r =>
    if k = 0 then ⟨c, [c], []⟩ :: f :: r
    else if k = 1 then match r with
      | [] => [⟨f.own, f.S ++ f.B, []⟩]
      | g :: r2 => ⟨g.own, g.S, g.B ++ (f.S ++ f.B)⟩ :: r2
    else if k = 2 then ⟨f.own, f.S ++ f.B, []⟩ :: r
    else f :: r

/-- how many tasks have begun -/
def cnt (ks : List Int) : Nat → Nat
  | 0 => 1
  | n + 1 => if ks.getD n 0 = 0 then cnt ks n + 1 else cnt ks n
def fis (ks : List Int) : Nat → List Fi
  | 0 => [⟨0, [0], []⟩]
  | n + 1 => stepI (ks.getD n 0) (cnt ks n) (fis ks n)
/-- whose deed it is -/
def tk (ks : List Int) (n : Nat) : Nat := ((fis ks n).headD ⟨0, [], []⟩).own

def allI : List Fi → List Nat
  | [] => []
  | f :: r => f.S ++ f.B ++ allI r
def allB : List Fi → List Nat
  | [] => []
  | f :: r => f.B ++ allB r
def allS : List Fi → List Nat
  | [] => []
  | f :: r => f.S ++ allS r

theorem fis_ne (ks : List Int) : ∀ n, fis ks n ≠ []
  | 0 => List.cons_ne_nil _ _
  | n + 1 => by
    show stepI _ _ (fis ks n) ≠ []
    cases h : fis ks n with
    | nil => exact absurd h (fis_ne ks n)
    | cons f r =>
      simp only [stepI]
      split
      · exact List.cons_ne_nil _ _
      · split
        · cases r <;> exact List.cons_ne_nil _ _
        · split <;> exact List.cons_ne_nil _ _

theorem fis_len (ks : List Int) : ∀ n, (fis ks n).length = (frs ks n).length
  | 0 => rfl
  | n + 1 => by
    have ih := fis_len ks n
    show (stepI _ _ (fis ks n)).length = (stepF _ _ (frs ks n)).length
    cases h : fis ks n with
    | nil => exact absurd h (fis_ne ks n)
    | cons f r =>
      cases h2 : frs ks n with
      | nil => exact absurd h2 (frs_ne ks n)
      | cons f2 r2 =>
        rw [h, h2] at ih
        simp only [stepI, stepF]
        by_cases k0 : ks.getD n 0 = 0
        · rw [if_pos k0, if_pos k0]
          simpa using ih
        · rw [if_neg k0, if_neg k0]
          by_cases k1 : ks.getD n 0 = 1
          · rw [if_pos k1, if_pos k1]
            cases r with
            | nil => cases r2 with
              | nil => rfl
              | cons _ _ => simp at ih
            | cons _ _ => cases r2 with
              | nil => simp at ih
              | cons _ _ => simpa using ih
          · rw [if_neg k1, if_neg k1]
            split <;> simpa using ih

/-- the tasks that have begun are each in one set -/
theorem allI_step (k : Int) (c : Nat) (fs : List Fi) (h : fs ≠ []) : (allI (stepI k c fs)).Perm (if k = 0 then c :: allI fs else allI fs) := by
  cases fs with
  | nil => exact absurd rfl h
  | cons f r =>
    simp only [stepI]
    by_cases k0 : k = 0
    · rw [if_pos k0, if_pos k0]
      simp [allI]
    · rw [if_neg k0, if_neg k0]
      by_cases k1 : k = 1
      · rw [if_pos k1]
        cases r with
        | nil => simp [allI]
        | cons g r2 =>
          simp only [allI]
          have h1 : (g.S ++ (g.B ++ (f.S ++ f.B)) ++ allI r2).Perm (f.S ++ f.B ++ (g.S ++ g.B ++ allI r2)) := by
            have : (g.S ++ (g.B ++ (f.S ++ f.B)) ++ allI r2) = ((g.S ++ g.B) ++ (f.S ++ f.B)) ++ allI r2 := by simp
            rw [this]
            have h2 : ((g.S ++ g.B) ++ (f.S ++ f.B)).Perm ((f.S ++ f.B) ++ (g.S ++ g.B)) := List.perm_append_comm
            have h3 := List.Perm.append_right (allI r2) h2
            simpa using h3
          exact h1
      · rw [if_neg k1]
        by_cases k2 : k = 2
        · rw [if_pos k2]
          simp [allI]
        · rw [if_neg k2]

theorem fis_perm (ks : List Int) : ∀ n, (allI (fis ks n)).Perm (List.range (cnt ks n))
  | 0 => by
    show ([0] ++ [] ++ [] : List Nat).Perm [0]
    simp
  | n + 1 => by
    have ih := fis_perm ks n
    refine (allI_step (ks.getD n 0) (cnt ks n) (fis ks n) (fis_ne ks n)).trans ?_
    show (if ks.getD n 0 = 0 then cnt ks n :: allI (fis ks n) else allI (fis ks n)).Perm (List.range (if ks.getD n 0 = 0 then cnt ks n + 1 else cnt ks n))
    split
    · rw [List.range_succ]
      exact (List.Perm.cons _ ih).trans (List.perm_append_comm (l₁ := [cnt ks n]) (l₂ := List.range (cnt ks n)))
    · exact ih
theorem fis_nodup (ks : List Int) (n : Nat) : (allI (fis ks n)).Nodup := (fis_perm ks n).nodup_iff.2 List.nodup_range
theorem fis_mem (ks : List Int) (n x : Nat) : x ∈ allI (fis ks n) ↔ x < cnt ks n := (fis_perm ks n).mem_iff.trans List.mem_range

/-- each task on its way is in its own set -/
def ownIn (fs : List Fi) : Prop := ∀ f ∈ fs, f.own ∈ f.S
theorem own_step (k : Int) (c : Nat) (fs : List Fi) (h : ownIn fs) : ownIn (stepI k c fs) := by
  cases fs with
  | nil => exact h
  | cons f r =>
    have hf := h f List.mem_cons_self
    have hr : ∀ g ∈ r, g.own ∈ g.S := fun g hg => h g (List.mem_cons_of_mem _ hg)
    simp only [stepI]
    by_cases k0 : k = 0
    · rw [if_pos k0]
      intro g hg
      rcases List.mem_cons.1 hg with rfl | hg
      · exact List.mem_singleton.2 rfl
      · exact h g hg
    · rw [if_neg k0]
      by_cases k1 : k = 1
      · rw [if_pos k1]
        cases r with
        | nil =>
          intro g hg
          rcases List.mem_cons.1 hg with rfl | hg
          · exact List.mem_append.2 (Or.inl hf)
          · cases hg
        | cons g0 r2 =>
          intro g hg
          rcases List.mem_cons.1 hg with rfl | hg
          · exact hr g0 List.mem_cons_self
          · exact hr g (List.mem_cons_of_mem _ hg)
      · rw [if_neg k1]
        by_cases k2 : k = 2
        · rw [if_pos k2]
          intro g hg
          rcases List.mem_cons.1 hg with rfl | hg
          · exact List.mem_append.2 (Or.inl hf)
          · exact hr g hg
        · rw [if_neg k2]
          exact h
theorem own_all (ks : List Int) : ∀ n, ownIn (fis ks n)
  | 0 => fun g hg => by
    rcases List.mem_cons.1 hg with rfl | hg
    · exact List.mem_singleton.2 rfl
    · cases hg
  | n + 1 => own_step _ _ _ (own_all ks n)

theorem tk_lt (ks : List Int) (n : Nat) : tk ks n < cnt ks n := by
  rw [← fis_mem ks n]
  unfold tk
  have h := own_all ks n
  cases hf : fis ks n with
  | nil => exact absurd hf (fis_ne ks n)
  | cons f r =>
    rw [hf] at h
    exact List.mem_append.2 (Or.inl (List.mem_append.2 (Or.inl (h f List.mem_cons_self))))
theorem cnt_mono (ks : List Int) : ∀ n m, n ≤ m → cnt ks n ≤ cnt ks m := by
  intro n m h
  induction h with
  | refl => exact Nat.le_refl _
  | @step m hm ih =>
    refine Nat.le_trans ih ?_
    show cnt ks m ≤ if ks.getD m 0 = 0 then cnt ks m + 1 else cnt ks m
    split <;> omega

/-- the deeds' sets are the tasks' sets -/
def JI (T : Nat → Nat) (n : Nat) : List Fr → List Fi → Prop
  | [], [] => True
  | f :: r, g :: u => (∀ i, i ∈ f.s ↔ i < n ∧ T i ∈ g.S) ∧ (∀ i, i ∈ f.p.flatten ↔ i < n ∧ T i ∈ g.B) ∧ JI T n r u
  | _, _ => False

theorem ji_later {T : Nat → Nat} {n : Nat} : ∀ {fs : List Fr} {gs : List Fi}, JI T n fs gs → T n ∉ allI gs → JI T (n + 1) fs gs
  | [], [], _, _ => trivial
  | f :: r, g :: u, ⟨h1, h2, h3⟩, hn => by
    simp only [allI, List.mem_append, not_or] at hn
    refine ⟨fun i => ?_, fun i => ?_, ji_later h3 hn.2⟩
    · rw [h1 i]
      constructor
      · rintro ⟨a, b⟩
        exact ⟨by omega, b⟩
      · rintro ⟨a, b⟩
        by_cases e : i = n
        · subst e
          exact absurd b hn.1.1
        · exact ⟨by omega, b⟩
    · rw [h2 i]
      constructor
      · rintro ⟨a, b⟩
        exact ⟨by omega, b⟩
      · rintro ⟨a, b⟩
        by_cases e : i = n
        · subst e
          exact absurd b hn.1.2
        · exact ⟨by omega, b⟩
  | [], _ :: _, h, _ => h.elim
  | _ :: _, [], h, _ => h.elim

theorem ji_step {T : Nat → Nat} (k : Int) (n c : Nat) {fs : List Fr} {gs : List Fi} (h : JI T n fs gs) (hne : fs ≠ []) (hT : T n = (gs.headD ⟨0, [], []⟩).own) (hown : ownIn gs) (hnd : (allI gs).Nodup) (hc : ∀ i, i ≤ n → T i < c) (hr : k = 1 → 2 ≤ fs.length) :
    JI T (n + 1) (stepF k n fs) (stepI k c gs) := by
  cases fs with
  | nil => exact absurd rfl hne
  | cons f r =>
    cases gs with
    | nil => exact h.elim
    | cons g u =>
      obtain ⟨h1, h2, h3⟩ := h
      have hTg : T n = g.own := hT
      have hgS : T n ∈ g.S := by rw [hTg]; exact hown g List.mem_cons_self
      simp only [allI] at hnd
      rw [List.nodup_append] at hnd
      obtain ⟨hn1, hn2, hn3⟩ := hnd
      rw [List.nodup_append] at hn1
      have hnB : T n ∉ g.B := fun hb => hn1.2.2 _ hgS _ hb rfl
      have hnU : T n ∉ allI u := fun hb => hn3 _ (List.mem_append.2 (Or.inl hgS)) _ hb rfl
      have hlater := ji_later h3 hnU
      have hs : ∀ i, i ∈ f.s ++ [n] ↔ i < n + 1 ∧ T i ∈ g.S := fun i => by
        rw [List.mem_append, List.mem_singleton, h1 i]
        constructor
        · rintro (⟨a, b⟩ | rfl)
          · exact ⟨by omega, b⟩
          · exact ⟨by omega, hgS⟩
        · rintro ⟨a, b⟩
          by_cases e : i = n
          · exact Or.inr e
          · exact Or.inl ⟨by omega, b⟩
      have hp : ∀ i, i ∈ f.p.flatten ↔ i < n + 1 ∧ T i ∈ g.B := fun i => by
        rw [h2 i]
        constructor
        · rintro ⟨a, b⟩
          exact ⟨by omega, b⟩
        · rintro ⟨a, b⟩
          by_cases e : i = n
          · subst e
            exact absurd b hnB
          · exact ⟨by omega, b⟩
      have hall : ∀ i, i ∈ f.s ++ f.p.flatten ++ [n] ↔ i < n + 1 ∧ T i ∈ g.S ++ g.B := fun i => by
        have e1 := hs i
        have e2 := hp i
        simp only [List.mem_append, List.mem_singleton] at e1 e2 ⊢
        constructor
        · rintro ((a | a) | a)
          · have := e1.1 (Or.inl a)
            exact ⟨this.1, Or.inl this.2⟩
          · have := e2.1 a
            exact ⟨this.1, Or.inr this.2⟩
          · have := e1.1 (Or.inr a)
            exact ⟨this.1, Or.inl this.2⟩
        · rintro ⟨a, b | b⟩
          · rcases e1.2 ⟨a, b⟩ with h | h
            · exact Or.inl (Or.inl h)
            · exact Or.inr h
          · exact Or.inl (Or.inr (e2.2 ⟨a, b⟩))
      simp only [stepF, stepI]
      by_cases k0 : k = 0
      · rw [if_pos k0, if_pos k0]
        refine ⟨fun i => ?_, fun i => ?_, hs, hp, hlater⟩
        · constructor
          · intro hh
            cases hh
          · rintro ⟨a, b⟩
            have := hc i (by omega)
            simp at b
            omega
        · constructor
          · intro hh
            cases hh
          · rintro ⟨a, b⟩
            cases b
      · rw [if_neg k0, if_neg k0]
        by_cases k1 : k = 1
        · rw [if_pos k1, if_pos k1]
          cases r with
          | nil => have := hr k1; simp at this
          | cons f2 r2 =>
            cases u with
            | nil => exact h3.elim
            | cons g2 u2 =>
              obtain ⟨a1, a2, a3⟩ := hlater
              refine ⟨a1, fun i => ?_, a3⟩
              have e1 := hall i
              have e2 := a2 i
              have e3 : T i ∈ (⟨g2.own, g2.S, g2.B ++ (g.S ++ g.B)⟩ : Fi).B ↔ T i ∈ g2.B ∨ T i ∈ g.S ++ g.B := List.mem_append
              rw [List.flatten_cons, List.mem_append, e1, e2, e3]
              constructor
              · rintro (⟨a, b⟩ | ⟨a, b⟩)
                · exact ⟨a, Or.inr b⟩
                · exact ⟨a, Or.inl b⟩
              · rintro ⟨a, b | b⟩
                · exact Or.inr ⟨a, b⟩
                · exact Or.inl ⟨a, b⟩
        · rw [if_neg k1, if_neg k1]
          by_cases k2 : k = 2
          · rw [if_pos k2, if_pos k2]
            refine ⟨hall, fun i => ?_, hlater⟩
            constructor
            · intro hh
              cases hh
            · rintro ⟨a, b⟩
              cases b
          · rw [if_neg k2, if_neg k2]
            exact ⟨hs, hp, hlater⟩

theorem ji_all (ks : List Int) (hf : fair ks) : ∀ n, n ≤ ks.length → JI (tk ks) n (frs ks n) (fis ks n)
  | 0, _ => by
    refine ⟨fun i => ?_, fun i => ?_, trivial⟩
    · constructor
      · intro h
        cases h
      · rintro ⟨h, _⟩
        exact absurd h (Nat.not_lt_zero _)
    · constructor
      · intro h
        cases h
      · rintro ⟨h, _⟩
        exact absurd h (Nat.not_lt_zero _)
  | n + 1, h => ji_step (ks.getD n 0) n (cnt ks n) (ji_all ks hf n (by omega)) (frs_ne ks n) rfl (own_all ks n) (fis_nodup ks n) (fun i hi => Nat.lt_of_lt_of_le (tk_lt ks i) (cnt_mono ks i n hi)) (hf n h)

theorem pre_iff {T : Nat → Nat} {n : Nat} : ∀ {fs : List Fr} {gs : List Fi}, JI T n fs gs → ∀ i, i ∈ preF fs ↔ i < n ∧ T i ∈ allS gs
  | [], [], _, i => by
    constructor
    · intro h
      cases h
    · rintro ⟨_, h⟩
      cases h
  | f :: r, g :: u, ⟨h1, h2, h3⟩, i => by
    have ih := pre_iff h3 i
    simp only [preF, allS, List.mem_append]
    rw [ih, h1 i]
    constructor
    · rintro (⟨a, b⟩ | ⟨a, b⟩)
      · exact ⟨a, Or.inr b⟩
      · exact ⟨a, Or.inl b⟩
    · rintro ⟨a, b | b⟩
      · exact Or.inr ⟨a, b⟩
      · exact Or.inl ⟨a, b⟩
  | [], _ :: _, h, _ => h.elim
  | _ :: _, [], h, _ => h.elim

theorem all_split : ∀ (gs : List Fi) (x : Nat), x ∈ allI gs ↔ x ∈ allS gs ∨ x ∈ allB gs
  | [], x => by simp [allI, allS, allB]
  | g :: u, x => by
    have ih := all_split u x
    simp only [allI, allS, allB, List.mem_append]
    rw [ih]
    constructor
    · rintro ((a | a) | (a | a))
      · exact Or.inl (Or.inl a)
      · exact Or.inr (Or.inl a)
      · exact Or.inl (Or.inr a)
      · exact Or.inr (Or.inr a)
    · rintro ((a | a) | (a | a))
      · exact Or.inl (Or.inl a)
      · exact Or.inr (Or.inl a)
      · exact Or.inl (Or.inr a)
      · exact Or.inr (Or.inr a)
theorem apart_SB : ∀ (gs : List Fi), (allI gs).Nodup → ∀ x, x ∈ allS gs → x ∉ allB gs
  | [], _, x, h => by cases h
  | g :: u, hn, x, hs => by
    have ih := apart_SB u
    simp only [allI] at hn
    rw [List.nodup_append] at hn
    obtain ⟨n1, n2, n3⟩ := hn
    rw [List.nodup_append] at n1
    simp only [allS, allB, List.mem_append] at hs ⊢
    rintro (hb | hb)
    · rcases hs with hs | hs
      · exact n1.2.2 x hs x hb rfl
      · exact n3 x (List.mem_append.2 (Or.inr hb)) x ((all_split u x).2 (Or.inl hs)) rfl
    · rcases hs with hs | hs
      · exact n3 x (List.mem_append.2 (Or.inl hs)) x ((all_split u x).2 (Or.inr hb)) rfl
      · exact ih n2 x hs hb

/-- of a read or a write: what is beside it is what a task beside has done -/
theorem beside_iff (ks : List Int) (hf : fair ks) (n : Nat) (h : n < ks.length) (hk : ks.getD n 0 ≠ 1 ∧ ks.getD n 0 ≠ 2) (i : Nat) (hi : i < n) : ¬ Ahead ks i n ↔ tk ks i ∈ allB (fis ks n) := by
  have hp := pre_iff (ji_all ks hf n (by omega)) i
  have ha : aheadF (frs ks n) (ks.getD n 0) = preF (frs ks n) := by
    cases hfs : frs ks n with
    | nil => exact absurd hfs (frs_ne ks n)
    | cons f r =>
      simp only [aheadF]
      rw [if_neg (by omega), List.append_nil]
  unfold Ahead
  rw [ha, hp]
  have hlt : tk ks i < cnt ks n := Nat.lt_of_lt_of_le (tk_lt ks i) (cnt_mono ks i n (by omega))
  have hin := (all_split (fis ks n) (tk ks i)).1 ((fis_mem ks n _).2 hlt)
  constructor
  · intro hn
    rcases hin with h1 | h1
    · exact absurd ⟨hi, h1⟩ hn
    · exact h1
  · rintro hb ⟨_, hs⟩
    exact apart_SB _ (fis_nodup ks n) _ hs hb

end Go.Proofs.Ytkecgjmbamaejaa.P
namespace Go.Proofs.Ytkecgjmbamaejaa.P
set_option linter.unusedVariables false

/-- up leads to the roots; rt tells them -/
structure UF (up : List Int) (rt : Nat → Nat) : Prop where
  step : ∀ x, x < up.length → ∃ u : Nat, up[x]? = some (u : Int) ∧ u < up.length ∧ rt u = rt x ∧ (u = x ↔ rt x = x)
  lt : ∀ x, x < up.length → rt x < up.length
  idem : ∀ x, x < up.length → rt (rt x) = rt x
  deep : ∃ dp : Nat → Nat, ∀ x (u : Nat), up[x]? = some (u : Int) → u ≠ x → dp u < dp x

theorem UF.halve {up : List Int} {rt : Nat → Nat} (h : UF up rt) {x u v : Nat} (hx : up[x]? = some (u : Int)) (hu : up[u]? = some (v : Int)) (hne : u ≠ x) : UF (up.set x (v : Int)) rt := by
  have hxl := (List.getElem?_eq_some_iff.1 hx).1
  have hul := (List.getElem?_eq_some_iff.1 hu).1
  obtain ⟨u', e1, e2, e3, e4⟩ := h.step x hxl
  obtain rfl : u' = u := by rw [hx] at e1; injection e1 with e1; omega
  obtain ⟨v', f1, f2, f3, f4⟩ := h.step u' hul
  obtain rfl : v' = v := by rw [hu] at f1; injection f1 with f1; omega
  obtain ⟨dp, hdp⟩ := h.deep
  have hvx : v' ≠ x := by
    intro e
    subst e
    by_cases e5 : v' = u'
    · exact hne e5.symm
    · have := hdp _ _ hx (fun e => hne e)
      have := hdp _ _ hu e5
      omega
  refine ⟨fun y hy => ?_, fun y hy => by rw [List.length_set] at hy ⊢; exact h.lt y hy, fun y hy => by rw [List.length_set] at hy; exact h.idem y hy, dp, fun y w hw hne2 => ?_⟩
  · rw [List.length_set] at hy ⊢
    by_cases e : x = y
    · subst e
      refine ⟨v', by rw [List.getElem?_set_self hxl], f2, f3.trans e3, ?_⟩
      constructor
      · intro e; exact absurd e hvx
      · intro e
        exact absurd (e4.2 e) hne
    · rw [List.getElem?_set_ne e]
      exact h.step y hy
  · by_cases e : x = y
    · subst e
      rw [List.getElem?_set_self hxl] at hw
      injection hw with hw
      obtain rfl : v' = w := by omega
      have := hdp _ _ hx hne
      by_cases e5 : v' = u'
      · subst e5
        exact this
      · have := hdp _ _ hu e5
        omega
    · rw [List.getElem?_set_ne e] at hw
      exact hdp y w hw hne2

theorem UF.join {up : List Int} {rt : Nat → Nat} (h : UF up rt) {x y : Nat} (hx : x < up.length) (hy : y < up.length) (hrx : rt x = x) (hry : rt y = y) (hne : x ≠ y) : UF (up.set y (x : Int)) (fun z => if rt z = y then x else rt z) := by
  obtain ⟨dp, hdp⟩ := h.deep
  refine ⟨fun z hz => ?_, fun z hz => ?_, fun z hz => ?_, fun z => if z < up.length ∧ rt z = y then dp z + 1 + dp x else dp z, fun z w hw hne2 => ?_⟩
  · rw [List.length_set] at hz ⊢
    by_cases e : y = z
    · subst e
      refine ⟨x, by rw [List.getElem?_set_self hy], hx, ?_, ?_⟩
      · rw [if_neg (by rw [hrx]; exact hne), if_pos hry, hrx]
      · rw [if_pos hry]
    · obtain ⟨u, e1, e2, e3, e4⟩ := h.step z hz
      refine ⟨u, by rw [List.getElem?_set_ne e]; exact e1, e2, by rw [e3], ?_⟩
      rw [e4]
      by_cases e5 : rt z = y
      · rw [if_pos e5]
        constructor
        · intro e6
          exact absurd (e5.symm.trans e6) e
        · intro e6
          subst e6
          exact absurd (hrx.symm.trans e5) hne
      · rw [if_neg e5]
  · rw [List.length_set] at hz ⊢
    split
    · exact hx
    · exact h.lt z hz
  · rw [List.length_set] at hz
    by_cases e5 : rt z = y
    · rw [if_pos e5, if_neg (by rw [hrx]; exact hne), hrx]
    · rw [if_neg e5, h.idem z hz, if_neg e5]
  · have hzl : z < up.length := by
      have := (List.getElem?_eq_some_iff.1 hw).1
      rw [List.length_set] at this
      exact this
    by_cases e : y = z
    · subst e
      rw [List.getElem?_set_self hy] at hw
      injection hw with hw
      obtain rfl : x = w := by omega
      show (if x < up.length ∧ rt x = y then dp x + 1 + dp x else dp x) < (if y < up.length ∧ rt y = y then dp y + 1 + dp x else dp y)
      rw [if_neg (by rw [hrx]; intro h; exact hne h.2), if_pos ⟨hy, hry⟩]
      omega
    · rw [List.getElem?_set_ne e] at hw
      have hd := hdp z w hw hne2
      obtain ⟨u, e1, e2, e3, e4⟩ := h.step z hzl
      rw [hw] at e1
      injection e1 with e1
      obtain rfl : w = u := by omega
      show (if w < up.length ∧ rt w = y then dp w + 1 + dp x else dp w) < (if z < up.length ∧ rt z = y then dp z + 1 + dp x else dp z)
      rw [e3]
      by_cases e5 : rt z = y
      · rw [if_pos ⟨e2, e5⟩, if_pos ⟨hzl, e5⟩]
        omega
      · rw [if_neg (fun h => e5 h.2), if_neg (fun h => e5 h.2)]
        exact hd

theorem UF.add {up : List Int} {rt : Nat → Nat} (h : UF up rt) : UF (up ++ [(up.length : Int)]) (fun z => if z < up.length then rt z else z) := by
  obtain ⟨dp, hdp⟩ := h.deep
  refine ⟨fun z hz => ?_, fun z hz => ?_, fun z hz => ?_, dp, fun z w hw hne => ?_⟩
  · rw [List.length_append, List.length_singleton] at hz ⊢
    by_cases e : z < up.length
    · obtain ⟨u, e1, e2, e3, e4⟩ := h.step z e
      refine ⟨u, by rw [List.getElem?_append_left e]; exact e1, by omega, ?_, ?_⟩
      · rw [if_pos e2, if_pos e]; exact e3
      · rw [if_pos e]; exact e4
    · have e2 : z = up.length := by omega
      subst e2
      refine ⟨up.length, by rw [List.getElem?_append_right (Nat.le_refl _), Nat.sub_self]; rfl, by omega, rfl, ?_⟩
      rw [if_neg (by omega)]
  · rw [List.length_append, List.length_singleton] at hz ⊢
    by_cases e : z < up.length
    · rw [if_pos e]
      have := h.lt z e
      omega
    · rw [if_neg e]
      exact hz
  · rw [List.length_append, List.length_singleton] at hz
    by_cases e : z < up.length
    · rw [if_pos e, if_pos (h.lt z e)]
      exact h.idem z e
    · rw [if_neg e, if_neg e]
  · by_cases e : z < up.length
    · rw [List.getElem?_append_left e] at hw
      exact hdp z w hw hne
    · have hzl := (List.getElem?_eq_some_iff.1 hw).1
      rw [List.length_append, List.length_singleton] at hzl
      have e2 : z = up.length := by omega
      subst e2
      rw [List.getElem?_append_right (Nat.le_refl _), Nat.sub_self] at hw
      simp at hw
      omega

/-- the sets of the tasks on their way -/
structure BG (up : List Int) (side : List Bool) (gs : List Fi) (c : Nat) (rt : Nat → Nat) : Prop where
  uf : UF up rt
  len : up.length = c
  slen : side.length = c
  own : ∀ g ∈ gs, ∀ x, x < c → (rt x = rt g.own ↔ x ∈ g.S)
  bes : ∀ g ∈ gs, ∀ y ∈ g.B, ∀ x, x < c → (rt x = rt y ↔ x ∈ g.B)
  sS : ∀ g ∈ gs, ∀ x ∈ g.S, side[rt x]? = some false
  sB : ∀ g ∈ gs, ∀ x ∈ g.B, side[rt x]? = some true


theorem BG.zero : BG [0] [false] [⟨0, [0], []⟩] 1 (fun z => z) := by
  refine ⟨⟨fun x hx => ?_, fun x hx => hx, fun x hx => rfl, fun z => z, fun x u hu hne => ?_⟩, rfl, rfl, fun g hg x hx => ?_, fun g hg y hy => ?_, fun g hg x hx => ?_, fun g hg x hx => ?_⟩
  · simp at hx
    subst hx
    exact ⟨0, rfl, by simp, rfl, Iff.rfl⟩
  · have := (List.getElem?_eq_some_iff.1 hu).1
    simp at this
    subst this
    simp at hu
    omega
  · obtain rfl := List.mem_singleton.1 hg
    simp
  · obtain rfl := List.mem_singleton.1 hg
    cases hy
  · obtain rfl := List.mem_singleton.1 hg
    obtain rfl := List.mem_singleton.1 hx
    rfl
  · obtain rfl := List.mem_singleton.1 hg
    cases hx

/-- a task begins -/
theorem BG.spawn {up : List Int} {side : List Bool} {f : Fi} {r : List Fi} {c : Nat} {rt : Nat → Nat} (h : BG up side (f :: r) c rt) (hin : ∀ g ∈ f :: r, (∀ x ∈ g.S, x < c) ∧ ∀ x ∈ g.B, x < c) (hown : ∀ g ∈ f :: r, g.own ∈ g.S) :
    BG (up ++ [(c : Int)]) (side ++ [false]) (⟨c, [c], []⟩ :: f :: r) (c + 1) (fun z => if z < c then rt z else z) := by
  have hu := h.uf.add
  rw [h.len] at hu
  have hrt : ∀ x, x < c → rt x < c := fun x hx => by have := h.uf.lt x (by rw [h.len]; exact hx); rw [h.len] at this; exact this
  refine ⟨hu, by simp [h.len], by simp [h.slen], fun g hg x hx => ?_, fun g hg y hy x hx => ?_, fun g hg x hx => ?_, fun g hg x hx => ?_⟩
  · rcases List.mem_cons.1 hg with rfl | hg
    · show (if x < c then rt x else x) = (if c < c then rt c else c) ↔ x ∈ [c]
      rw [if_neg (Nat.lt_irrefl c), List.mem_singleton]
      by_cases e : x < c
      · rw [if_pos e]
        have := hrt x e
        omega
      · rw [if_neg e]
    · have ho : g.own < c := (hin g hg).1 _ (hown g hg)
      show (if x < c then rt x else x) = (if g.own < c then rt g.own else g.own) ↔ x ∈ g.S
      rw [if_pos ho]
      by_cases e : x < c
      · rw [if_pos e]
        exact h.own g hg x e
      · rw [if_neg e]
        have := hrt _ ho
        constructor
        · intro h2; omega
        · intro h2
          exact absurd ((hin g hg).1 x h2) e
  · rcases List.mem_cons.1 hg with rfl | hg
    · cases hy
    · have ho : y < c := (hin g hg).2 _ hy
      show (if x < c then rt x else x) = (if y < c then rt y else y) ↔ x ∈ g.B
      rw [if_pos ho]
      by_cases e : x < c
      · rw [if_pos e]
        exact h.bes g hg y hy x e
      · rw [if_neg e]
        have := hrt _ ho
        constructor
        · intro h2; omega
        · intro h2
          exact absurd ((hin g hg).2 x h2) e
  · rcases List.mem_cons.1 hg with rfl | hg
    · obtain rfl := List.mem_singleton.1 hx
      show (side ++ [false])[if x < x then rt x else x]? = some false
      rw [if_neg (Nat.lt_irrefl x), List.getElem?_append_right (by rw [h.slen]; exact Nat.le_refl _), h.slen, Nat.sub_self]
      rfl
    · have ho : x < c := (hin g hg).1 _ hx
      show (side ++ [false])[if x < c then rt x else x]? = some false
      rw [if_pos ho, List.getElem?_append_left (by rw [h.slen]; exact hrt x ho)]
      exact h.sS g hg x hx
  · rcases List.mem_cons.1 hg with rfl | hg
    · cases hx
    · have ho : x < c := (hin g hg).2 _ hx
      show (side ++ [false])[if x < c then rt x else x]? = some true
      rw [if_pos ho, List.getElem?_append_left (by rw [h.slen]; exact hrt x ho)]
      exact h.sB g hg x hx

/-- the set of y is laid to that of x: what the sets are then -/
theorem BG.joined {up : List Int} {side : List Bool} {gs : List Fi} {c : Nat} {rt : Nat → Nat} (h : BG up side gs c rt) {x y : Nat} (hx : x < c) (hy : y < c) (hne : rt x ≠ rt y) :
    UF (up.set (rt y) (rt x : Int)) (fun z => if rt z = rt y then rt x else rt z) :=
  h.uf.join (by rw [h.len] at *; exact (h.len ▸ h.uf.lt x (by rw [h.len]; exact hx))) (h.uf.lt y (by rw [h.len]; exact hy)) (h.uf.idem x (by rw [h.len]; exact hx)) (h.uf.idem y (by rw [h.len]; exact hy)) hne

theorem mem_allI {u : Nat} : ∀ {r : List Fi} {g : Fi}, g ∈ r → u ∈ g.S ∨ u ∈ g.B → u ∈ allI r
  | [], g, hg, _ => by cases hg
  | a :: r, g, hg, hu => by
    simp only [allI, List.mem_append]
    rcases List.mem_cons.1 hg with rfl | hg
    · exact Or.inl hu
    · exact Or.inr (mem_allI hg hu)

/-- the last task waits for those beside it -/
theorem BG.wait {up : List Int} {side : List Bool} {f : Fi} {r : List Fi} {c : Nat} {rt : Nat → Nat} (h : BG up side (f :: r) c rt) (hin : ∀ g ∈ f :: r, (∀ x ∈ g.S, x < c) ∧ ∀ x ∈ g.B, x < c) (hown : ∀ g ∈ f :: r, g.own ∈ g.S) (hnd : (allI (f :: r)).Nodup)
    {y : Nat} (hy : y ∈ f.B) : rt f.own ≠ rt y ∧ BG (up.set (rt y) (rt f.own : Int)) side (⟨f.own, f.S ++ f.B, []⟩ :: r) c (fun z => if rt z = rt y then rt f.own else rt z) := by
  have ho : f.own < c := (hin f List.mem_cons_self).1 _ (hown f List.mem_cons_self)
  have hyc : y < c := (hin f List.mem_cons_self).2 _ hy
  simp only [allI] at hnd
  rw [List.nodup_append] at hnd
  obtain ⟨n1, n2, n3⟩ := hnd
  rw [List.nodup_append] at n1
  have hne : rt f.own ≠ rt y := fun e => by
    have := (h.bes f List.mem_cons_self y hy f.own ho).1 e
    exact n1.2.2 _ (hown f List.mem_cons_self) _ this rfl
  have hyU : ∀ g ∈ r, y ∉ g.S ∧ y ∉ g.B := fun g hg =>
    ⟨fun hb => n3 y (List.mem_append.2 (Or.inr hy)) y (mem_allI hg (Or.inl hb)) rfl, fun hb => n3 y (List.mem_append.2 (Or.inr hy)) y (mem_allI hg (Or.inr hb)) rfl⟩
  have hoU : ∀ g ∈ r, f.own ∉ g.S ∧ f.own ∉ g.B := fun g hg =>
    ⟨fun hb => n3 f.own (List.mem_append.2 (Or.inl (hown f List.mem_cons_self))) f.own (mem_allI hg (Or.inl hb)) rfl, fun hb => n3 f.own (List.mem_append.2 (Or.inl (hown f List.mem_cons_self))) f.own (mem_allI hg (Or.inr hb)) rfl⟩
  refine ⟨hne, h.joined ho hyc hne, by rw [List.length_set]; exact h.len, h.slen, fun g hg x hx => ?_, fun g hg z hz x hx => ?_, fun g hg x hx => ?_, fun g hg x hx => ?_⟩
  · rcases List.mem_cons.1 hg with rfl | hg
    · show (if rt x = rt y then rt f.own else rt x) = (if rt f.own = rt y then rt f.own else rt f.own) ↔ x ∈ f.S ++ f.B
      rw [if_neg hne, List.mem_append]
      by_cases e : rt x = rt y
      · rw [if_pos e]
        constructor
        · intro _
          exact Or.inr ((h.bes f List.mem_cons_self y hy x hx).1 e)
        · intro _; rfl
      · rw [if_neg e, h.own f List.mem_cons_self x hx]
        constructor
        · exact Or.inl
        · rintro (a | a)
          · exact a
          · exact absurd ((h.bes f List.mem_cons_self y hy x hx).2 a) e
    · have hg2 := List.mem_cons_of_mem f hg
      have hgo : g.own < c := (hin g hg2).1 _ (hown g hg2)
      have h1 : rt g.own ≠ rt y := fun e => (hyU g hg).1 ((h.own g hg2 y hyc).1 e.symm)
      show (if rt x = rt y then rt f.own else rt x) = (if rt g.own = rt y then rt f.own else rt g.own) ↔ x ∈ g.S
      rw [if_neg h1]
      by_cases e : rt x = rt y
      · rw [if_pos e]
        constructor
        · intro e2
          exact absurd ((h.own g hg2 f.own ho).1 e2) (hoU g hg).1
        · intro a
          exact absurd (((h.own g hg2 x hx).2 a).symm.trans e) h1
      · rw [if_neg e]
        exact h.own g hg2 x hx
  · rcases List.mem_cons.1 hg with rfl | hg
    · cases hz
    · have hg2 := List.mem_cons_of_mem f hg
      have hzc : z < c := (hin g hg2).2 _ hz
      have h1 : rt z ≠ rt y := fun e => (hyU g hg).2 ((h.bes g hg2 z hz y hyc).1 e.symm)
      show (if rt x = rt y then rt f.own else rt x) = (if rt z = rt y then rt f.own else rt z) ↔ x ∈ g.B
      rw [if_neg h1]
      by_cases e : rt x = rt y
      · rw [if_pos e]
        constructor
        · intro e2
          exact absurd ((h.bes g hg2 z hz f.own ho).1 e2) (hoU g hg).2
        · intro a
          exact absurd (((h.bes g hg2 z hz x hx).2 a).symm.trans e) h1
      · rw [if_neg e]
        exact h.bes g hg2 z hz x hx
  · rcases List.mem_cons.1 hg with rfl | hg
    · show side[if rt x = rt y then rt f.own else rt x]? = some false
      by_cases e : rt x = rt y
      · rw [if_pos e]
        exact h.sS f List.mem_cons_self _ (hown f List.mem_cons_self)
      · rw [if_neg e]
        rcases List.mem_append.1 hx with a | a
        · exact h.sS f List.mem_cons_self x a
        · exact absurd ((h.bes f List.mem_cons_self y hy x ((hin f List.mem_cons_self).2 x a)).2 a) e
    · have hg2 := List.mem_cons_of_mem f hg
      show side[if rt x = rt y then rt f.own else rt x]? = some false
      by_cases e : rt x = rt y
      · rw [if_pos e]
        exact h.sS f List.mem_cons_self _ (hown f List.mem_cons_self)
      · rw [if_neg e]
        exact h.sS g hg2 x hx
  · rcases List.mem_cons.1 hg with rfl | hg
    · cases hx
    · have hg2 := List.mem_cons_of_mem f hg
      have hxc : x < c := (hin g hg2).2 _ hx
      have h1 : rt x ≠ rt y := fun e => (hyU g hg).2 ((h.bes g hg2 x hx y hyc).1 e.symm)
      show side[if rt x = rt y then rt f.own else rt x]? = some true
      rw [if_neg h1]
      exact h.sB g hg2 x hx

/-- the last task, which waits for nobody, returns: the first one beside its parent -/
theorem BG.back1 {up : List Int} {side : List Bool} {f g : Fi} {r : List Fi} {c : Nat} {rt : Nat → Nat} (h : BG up side (f :: g :: r) c rt) (hin : ∀ g2 ∈ f :: g :: r, (∀ x ∈ g2.S, x < c) ∧ ∀ x ∈ g2.B, x < c) (hown : ∀ g2 ∈ f :: g :: r, g2.own ∈ g2.S)
    (hnd : (allI (f :: g :: r)).Nodup) (hfB : f.B = []) (hgB : g.B = []) : BG up (side.set (rt f.own) true) (⟨g.own, g.S, f.S⟩ :: r) c rt := by
  have ho : f.own < c := (hin f List.mem_cons_self).1 _ (hown f List.mem_cons_self)
  have hofS := hown f List.mem_cons_self
  have hrl : rt f.own < side.length := by rw [h.slen, ← h.len]; exact h.uf.lt _ (by rw [h.len]; exact ho)
  have hgin : g ∈ f :: g :: r := List.mem_cons_of_mem _ List.mem_cons_self
  simp only [allI] at hnd
  rw [hfB, List.append_nil, List.nodup_append] at hnd
  obtain ⟨n1, n2, n3⟩ := hnd
  have hfar : ∀ g2 ∈ g :: r, ∀ x, x ∈ g2.S ∨ x ∈ g2.B → rt x ≠ rt f.own := fun g2 hg2 x hx e => by
    have hxc : x < c := by
      rcases hx with hx | hx
      · exact (hin g2 (List.mem_cons_of_mem _ hg2)).1 x hx
      · exact (hin g2 (List.mem_cons_of_mem _ hg2)).2 x hx
    have h1 := (h.own f List.mem_cons_self x hxc).1 e
    have h2 : x ∈ allI (g :: r) := mem_allI hg2 hx
    exact n3 x h1 x h2 rfl
  refine ⟨h.uf, h.len, by rw [List.length_set]; exact h.slen, fun g2 hg2 x hx => ?_, fun g2 hg2 z hz x hx => ?_, fun g2 hg2 x hx => ?_, fun g2 hg2 x hx => ?_⟩
  · rcases List.mem_cons.1 hg2 with rfl | hg2
    · exact h.own g hgin x hx
    · exact h.own g2 (List.mem_cons_of_mem _ (List.mem_cons_of_mem _ hg2)) x hx
  · rcases List.mem_cons.1 hg2 with rfl | hg2
    · have hz2 : z ∈ f.S := hz
      have hzc := (hin f List.mem_cons_self).1 z hz2
      have e1 := (h.own f List.mem_cons_self z hzc).2 hz2
      show rt x = rt z ↔ x ∈ f.S
      rw [e1]
      exact h.own f List.mem_cons_self x hx
    · exact h.bes g2 (List.mem_cons_of_mem _ (List.mem_cons_of_mem _ hg2)) z hz x hx
  · rcases List.mem_cons.1 hg2 with rfl | hg2
    · rw [List.getElem?_set_ne (fun e => hfar g List.mem_cons_self x (Or.inl hx) e.symm)]
      exact h.sS g hgin x hx
    · rw [List.getElem?_set_ne (fun e => hfar g2 (List.mem_cons_of_mem _ hg2) x (Or.inl hx) e.symm)]
      exact h.sS g2 (List.mem_cons_of_mem _ (List.mem_cons_of_mem _ hg2)) x hx
  · rcases List.mem_cons.1 hg2 with rfl | hg2
    · have hx2 : x ∈ f.S := hx
      have e1 := (h.own f List.mem_cons_self x ((hin f List.mem_cons_self).1 x hx2)).2 hx2
      rw [e1, List.getElem?_set_self hrl]
    · rw [List.getElem?_set_ne (fun e => hfar g2 (List.mem_cons_of_mem _ hg2) x (Or.inr hx) e.symm)]
      exact h.sB g2 (List.mem_cons_of_mem _ (List.mem_cons_of_mem _ hg2)) x hx

/-- and another one -/
theorem BG.back2 {up : List Int} {side : List Bool} {f g : Fi} {r : List Fi} {c : Nat} {rt : Nat → Nat} (h : BG up side (f :: g :: r) c rt) (hin : ∀ g2 ∈ f :: g :: r, (∀ x ∈ g2.S, x < c) ∧ ∀ x ∈ g2.B, x < c) (hown : ∀ g2 ∈ f :: g :: r, g2.own ∈ g2.S)
    (hnd : (allI (f :: g :: r)).Nodup) (hfB : f.B = []) {y : Nat} (hy : y ∈ g.B) : rt y ≠ rt f.own ∧ BG (up.set (rt f.own) (rt y : Int)) side (⟨g.own, g.S, g.B ++ f.S⟩ :: r) c (fun z => if rt z = rt f.own then rt y else rt z) := by
  have ho : f.own < c := (hin f List.mem_cons_self).1 _ (hown f List.mem_cons_self)
  have hgin : g ∈ f :: g :: r := List.mem_cons_of_mem _ List.mem_cons_self
  have hyc : y < c := (hin g hgin).2 _ hy
  have hnd0 := hnd
  simp only [allI] at hnd
  rw [hfB, List.append_nil, List.nodup_append] at hnd
  obtain ⟨n1, n2, n3⟩ := hnd
  have hfar : ∀ g2 ∈ g :: r, ∀ x, x ∈ g2.S ∨ x ∈ g2.B → rt x ≠ rt f.own := fun g2 hg2 x hx e => by
    have hxc : x < c := by
      rcases hx with hx | hx
      · exact (hin g2 (List.mem_cons_of_mem _ hg2)).1 x hx
      · exact (hin g2 (List.mem_cons_of_mem _ hg2)).2 x hx
    have h1 := (h.own f List.mem_cons_self x hxc).1 e
    have h2 : x ∈ allI (g :: r) := mem_allI hg2 hx
    exact n3 x h1 x h2 rfl
  have hne : rt y ≠ rt f.own := hfar g List.mem_cons_self y (Or.inr hy)
  have n2' : (allI (g :: r)).Nodup := n2
  simp only [allI] at n2'
  rw [List.nodup_append] at n2'
  obtain ⟨m1, m2, m3⟩ := n2'
  rw [List.nodup_append] at m1
  have hyS : y ∉ g.S := fun hb => m1.2.2 y hb y hy rfl
  have hyU : ∀ g2 ∈ r, y ∉ g2.S ∧ y ∉ g2.B := fun g2 hg2 =>
    ⟨fun hb => m3 y (List.mem_append.2 (Or.inr hy)) y (mem_allI hg2 (Or.inl hb)) rfl, fun hb => m3 y (List.mem_append.2 (Or.inr hy)) y (mem_allI hg2 (Or.inr hb)) rfl⟩
  refine ⟨hne, h.joined hyc ho hne, by rw [List.length_set]; exact h.len, h.slen, fun g2 hg2 x hx => ?_, fun g2 hg2 z hz x hx => ?_, fun g2 hg2 x hx => ?_, fun g2 hg2 x hx => ?_⟩
  · have key : ∀ g3 ∈ g :: r, y ∉ g3.S → ((if rt x = rt f.own then rt y else rt x) = (if rt g3.own = rt f.own then rt y else rt g3.own) ↔ x ∈ g3.S) := fun g3 hg3 hy3 => by
      have hg4 := List.mem_cons_of_mem f hg3
      have h1 : rt g3.own ≠ rt f.own := hfar g3 hg3 _ (Or.inl (hown g3 hg4))
      rw [if_neg h1]
      by_cases e : rt x = rt f.own
      · rw [if_pos e]
        constructor
        · intro e2
          exact absurd ((h.own g3 hg4 y hyc).1 e2) hy3
        · intro a
          exact absurd e (hfar g3 hg3 x (Or.inl a))
      · rw [if_neg e]
        exact h.own g3 hg4 x hx
    rcases List.mem_cons.1 hg2 with rfl | hg2
    · exact key g List.mem_cons_self hyS
    · exact key g2 (List.mem_cons_of_mem _ hg2) (hyU g2 hg2).1
  · rcases List.mem_cons.1 hg2 with rfl | hg2
    · have hz2 : z ∈ g.B ++ f.S := hz
      have ez : (if rt z = rt f.own then rt y else rt z) = rt y := by
        rcases List.mem_append.1 hz2 with a | a
        · rw [if_neg (hfar g List.mem_cons_self z (Or.inr a))]
          exact (h.bes g hgin y hy z ((hin g hgin).2 z a)).2 a
        · rw [if_pos ((h.own f List.mem_cons_self z ((hin f List.mem_cons_self).1 z a)).2 a)]
      show (if rt x = rt f.own then rt y else rt x) = (if rt z = rt f.own then rt y else rt z) ↔ x ∈ g.B ++ f.S
      rw [ez, List.mem_append]
      by_cases e : rt x = rt f.own
      · rw [if_pos e]
        constructor
        · intro _
          exact Or.inr ((h.own f List.mem_cons_self x hx).1 e)
        · intro _; rfl
      · rw [if_neg e, h.bes g hgin y hy x hx]
        constructor
        · exact Or.inl
        · rintro (a | a)
          · exact a
          · exact absurd ((h.own f List.mem_cons_self x hx).2 a) e
    · have hg4 : g2 ∈ f :: g :: r := List.mem_cons_of_mem _ (List.mem_cons_of_mem _ hg2)
      have h1 : rt z ≠ rt f.own := hfar g2 (List.mem_cons_of_mem _ hg2) z (Or.inr hz)
      show (if rt x = rt f.own then rt y else rt x) = (if rt z = rt f.own then rt y else rt z) ↔ x ∈ g2.B
      rw [if_neg h1]
      by_cases e : rt x = rt f.own
      · rw [if_pos e]
        constructor
        · intro e2
          exact absurd ((h.bes g2 hg4 z hz y hyc).1 e2) (hyU g2 hg2).2
        · intro a
          exact absurd e (hfar g2 (List.mem_cons_of_mem _ hg2) x (Or.inr a))
      · rw [if_neg e]
        exact h.bes g2 hg4 z hz x hx
  · have key : ∀ g3 ∈ g :: r, x ∈ g3.S → side[if rt x = rt f.own then rt y else rt x]? = some false := fun g3 hg3 hx3 => by
      rw [if_neg (hfar g3 hg3 x (Or.inl hx3))]
      exact h.sS g3 (List.mem_cons_of_mem _ hg3) x hx3
    rcases List.mem_cons.1 hg2 with rfl | hg2
    · exact key g List.mem_cons_self hx
    · exact key g2 (List.mem_cons_of_mem _ hg2) hx
  · show side[if rt x = rt f.own then rt y else rt x]? = some true
    by_cases e : rt x = rt f.own
    · rw [if_pos e]
      exact h.sB g hgin y hy
    · rw [if_neg e]
      rcases List.mem_cons.1 hg2 with rfl | hg2
      · rcases List.mem_append.1 (show x ∈ g.B ++ f.S from hx) with a | a
        · exact h.sB g hgin x a
        · exact absurd ((h.own f List.mem_cons_self x ((hin f List.mem_cons_self).1 x a)).2 a) e
      · exact h.sB g2 (List.mem_cons_of_mem _ (List.mem_cons_of_mem _ hg2)) x hx

end Go.Proofs.Ytkecgjmbamaejaa.P
namespace Go.Proofs.Ytkecgjmbamaejaa.P
open Go.RowKit Go.Proofs.YtkecgjmbamaejaaW.PrintWords Go.Proofs.YtkecgjmbamaejaaW.PrintLast Go.Proofs.YtkecgjmbamaejaaW.PrintMore
set_option linter.unusedVariables false
def lcsOf (l : List S52) : List Int := l.map (·.f1)
theorem lcs_at (l : List S52) (j : Nat) (h : j < l.length) : (lcsOf l).getD j 0 = (rd_T52 l (j : Int)).f1 := by
  unfold lcsOf rd_T52
  rw [List.getD_eq_getElem?_getD, List.getElem?_map, List.getElem?_eq_getElem h, Int.toNat_natCast, List.getD_eq_getElem?_getD, List.getElem?_eq_getElem h]
  rfl
def aheadB (ks : List Int) (i j : Nat) : Bool := decide (i ∈ aheadF (frs ks j) (ks.getD j 0))
theorem aheadB_iff (ks : List Int) (i j : Nat) : aheadB ks i j = true ↔ Ahead ks i j := decide_eq_true_iff
def touchB (ks ls : List Int) (i j : Nat) : Bool := decide (3 ≤ ks.getD i 0 ∧ 3 ≤ ks.getD j 0 ∧ ls.getD i 0 = ls.getD j 0 ∧ (ks.getD i 0 = 4 ∨ ks.getD j 0 = 4))
theorem touchB_iff (ks ls : List Int) (i j : Nat) : touchB ks ls i j = true ↔ Touch ks ls i j := decide_eq_true_iff
def raceB (ks ls : List Int) (i j : Nat) : Bool := touchB ks ls i j && !aheadB ks i j
theorem raceB_iff (ks ls : List Int) (i j : Nat) : raceB ks ls i j = true ↔ Touch ks ls i j ∧ ¬ Ahead ks i j := by
  unfold raceB
  rw [Bool.and_eq_true, touchB_iff, Bool.not_eq_true', ← Bool.not_eq_true, aheadB_iff]
def racyB (ks ls : List Int) (j : Nat) : Bool := (List.range j).any fun i => raceB ks ls i j
theorem racyB_iff (ks ls : List Int) (j : Nat) : racyB ks ls j = true ↔ Racy ks ls j := by
  unfold racyB Racy
  rw [List.any_eq_true]
  exact ⟨fun ⟨i, h1, h2⟩ => ⟨i, List.mem_range.1 h1, (raceB_iff ks ls i j).1 h2⟩, fun ⟨i, h1, h2⟩ => ⟨i, List.mem_range.2 h1, (raceB_iff ks ls i j).2 h2⟩⟩
/-- the first n of the numbers from a on that is so -/
def findN (p : Nat → Bool) : Nat → Nat → Option Nat
  | 0, _ => none
  | d + 1, a => if p a = true then some a else findN p d (a + 1)
theorem findN_none {p : Nat → Bool} : ∀ {d a : Nat}, (∀ j, a ≤ j → j < a + d → p j = false) → findN p d a = none
  | 0, _, _ => rfl
  | d + 1, a, h => by
    rw [findN, h a (Nat.le_refl _) (by omega)]
    exact findN_none (fun j h1 h2 => h j (by omega) (by omega))
theorem findN_some {p : Nat → Bool} : ∀ {d a j : Nat}, a ≤ j → j < a + d → p j = true → (∀ i, a ≤ i → i < j → p i = false) → findN p d a = some j
  | 0, a, j, h1, h2, _, _ => absurd h2 (by omega)
  | d + 1, a, j, h1, h2, h3, h4 => by
    by_cases e : a = j
    · subst e
      rw [findN, if_pos h3]
    · rw [findN, h4 a (Nat.le_refl _) (by omega)]
      exact findN_some (by omega) (by omega) h3 (fun i h5 h6 => h4 i (by omega) h6)
theorem findN_spec {p : Nat → Bool} : ∀ {d a j : Nat}, findN p d a = some j → a ≤ j ∧ j < a + d ∧ p j = true ∧ ∀ i, a ≤ i → i < j → p i = false
  | 0, a, j, h => by cases h
  | d + 1, a, j, h => by
    rw [findN] at h
    by_cases e : p a = true
    · rw [if_pos e] at h
      injection h with h
      subst h
      exact ⟨Nat.le_refl _, by omega, e, fun i h1 h2 => by omega⟩
    · rw [if_neg e] at h
      obtain ⟨h1, h2, h3, h4⟩ := findN_spec h
      refine ⟨by omega, by omega, h3, fun i h5 h6 => ?_⟩
      by_cases e2 : i = a
      · subst e2; exact eq_false_of_ne_true e
      · exact h4 i (by omega) h6
theorem findN_no {p : Nat → Bool} : ∀ {d a : Nat}, findN p d a = none → ∀ i, a ≤ i → i < a + d → p i = false
  | 0, a, h, i, h1, h2 => by omega
  | d + 1, a, h, i, h1, h2 => by
    rw [findN] at h
    by_cases e : p a = true
    · rw [if_pos e] at h; cases h
    · rw [if_neg e] at h
      by_cases e2 : i = a
      · subst e2; exact eq_false_of_ne_true e
      · exact findN_no h i (by omega) (by omega)
def firstJ (ks ls : List Int) (n : Nat) : Option Nat := findN (racyB ks ls) n 0
def firstI (ks ls : List Int) (j : Nat) : Option Nat := findN (fun i => raceB ks ls i j) j 0
/-- the first race -/
def firstV (l : List S52) : Int × Int × Int × Bool × Int :=
  if (chk l).1 = 0 then
    match firstJ (kdsOf l) (lcsOf l) l.length with
    | none => (0, 0, 0, false, 0)
    | some j => ((j : Int), (((firstI (kdsOf l) (lcsOf l) j).getD 0 : Nat) : Int), (lcsOf l).getD j 0, true, 0)
  else (0, 0, 0, false, (chk l).1)
theorem firstV_bad {l : List S52} (h : (chk l).1 ≠ 0) : firstV l = (0, 0, 0, false, (chk l).1) := by unfold firstV; rw [if_neg h]
theorem firstV_none {l : List S52} (h : (chk l).1 = 0) (hn : ∀ j, j < l.length → ¬ Racy (kdsOf l) (lcsOf l) j) : firstV l = (0, 0, 0, false, 0) := by
  have e : firstJ (kdsOf l) (lcsOf l) l.length = none := findN_none (fun j _ h2 => eq_false_of_ne_true fun hq => hn j (by omega) ((racyB_iff _ _ _).1 hq))
  unfold firstV
  rw [if_pos h, e]
theorem firstV_some {l : List S52} (h : (chk l).1 = 0) {i j : Nat} (hj : j < l.length) (hm : ∀ k, k < j → ¬ Racy (kdsOf l) (lcsOf l) k) (hi : i < j) (hr : Touch (kdsOf l) (lcsOf l) i j ∧ ¬ Ahead (kdsOf l) i j) (hn : ∀ k, k < i → ¬ (Touch (kdsOf l) (lcsOf l) k j ∧ ¬ Ahead (kdsOf l) k j)) :
    firstV l = ((j : Int), (i : Int), (lcsOf l).getD j 0, true, 0) := by
  have e : firstJ (kdsOf l) (lcsOf l) l.length = some j := findN_some (Nat.zero_le _) (by omega) ((racyB_iff _ _ _).2 ⟨i, hi, hr⟩) (fun k _ h2 => eq_false_of_ne_true fun hq => hm k h2 ((racyB_iff _ _ _).1 hq))
  have e2 : firstI (kdsOf l) (lcsOf l) j = some i := findN_some (Nat.zero_le _) (by omega) ((raceB_iff _ _ _ _).2 hr) (fun k _ h2 => eq_false_of_ne_true fun hq => hn k h2 ((raceB_iff _ _ _ _).1 hq))
  unfold firstV
  rw [if_pos h, e]
  simp only [e2, Option.getD_some]
theorem TB.rd {ks : List Int} {n i j : Nat} {T : List (List Bool)} (hT : TB ks n n T) (hi : i < n) (hj : j < n) : rdOf false (rd_L6 T (j : Int)) (i : Int) = aheadB ks i j := by
  rw [rdL6, rdB]
  have h := (hT.2 j hj).2 i hi
  rw [Bool.eq_iff_iff, h, aheadB_iff]
/-- a rising list with one more -/
def joinL : List Int → Int → List Int
  | [], v => [v]
  | x :: r, v => if v < x then v :: x :: r else if v = x then x :: r else x :: joinL r v
theorem joinL_mem : ∀ (l : List Int) (v x : Int), x ∈ joinL l v ↔ x = v ∨ x ∈ l
  | [], v, x => by simp [joinL]
  | y :: r, v, x => by
    unfold joinL
    split
    · simp
    · split
      · rename_i h; subst h; simp
      · rw [List.mem_cons, joinL_mem r v x, List.mem_cons]
        exact ⟨fun h => h.elim (fun h => .inr (.inl h)) (fun h => h.elim .inl (fun h => .inr (.inr h))), fun h => h.elim (fun h => .inr (.inl h)) (fun h => h.elim .inl (fun h => .inr (.inr h)))⟩
theorem joinL_rise : ∀ (l : List Int) (v : Int), l.Pairwise (· < ·) → (joinL l v).Pairwise (· < ·)
  | [], v, _ => List.pairwise_singleton _ _
  | y :: r, v, h => by
    have h1 := List.pairwise_cons.1 h
    unfold joinL
    split
    · rename_i hv
      exact List.pairwise_cons.2 ⟨fun x hx => by
        rcases List.mem_cons.1 hx with rfl | hx
        · exact hv
        · have := h1.1 x hx; omega, h⟩
    · split
      · exact h
      · rename_i hv hv2
        refine List.pairwise_cons.2 ⟨fun x hx => ?_, joinL_rise r v h1.2⟩
        rcases (joinL_mem r v x).1 hx with rfl | hx
        · omega
        · exact h1.1 x hx
theorem rise_eq : ∀ {l m : List Int}, l.Pairwise (· < ·) → m.Pairwise (· < ·) → (∀ x, x ∈ l ↔ x ∈ m) → l = m
  | [], [], _, _, _ => rfl
  | [], y :: m, _, _, h => absurd ((h y).2 List.mem_cons_self) (by simp)
  | x :: l, [], _, _, h => absurd ((h x).1 List.mem_cons_self) (by simp)
  | x :: l, y :: m, h1, h2, h => by
    have a := List.pairwise_cons.1 h1
    have b := List.pairwise_cons.1 h2
    have e : x = y := by
      have hx := (h x).1 List.mem_cons_self
      have hy := (h y).2 List.mem_cons_self
      rcases List.mem_cons.1 hx with hx | hx
      · exact hx
      · rcases List.mem_cons.1 hy with hy | hy
        · exact hy.symm
        · have h3 := a.1 y hy
          have h4 := b.1 x hx
          omega
    subst e
    congr 1
    refine rise_eq a.2 b.2 (fun z => ⟨fun hz => ?_, fun hz => ?_⟩)
    · rcases List.mem_cons.1 ((h z).1 (List.mem_cons_of_mem _ hz)) with rfl | h3
      · exact absurd (a.1 z hz) (by omega)
      · exact h3
    · rcases List.mem_cons.1 ((h z).2 (List.mem_cons_of_mem _ hz)) with rfl | h3
      · exact absurd (b.1 z hz) (by omega)
      · exact h3
/-- the racy places of the first n deeds -/
def detL (ks ls : List Int) : Nat → List Int
  | 0 => []
  | n + 1 => if racyB ks ls n = true then joinL (detL ks ls n) (ls.getD n 0) else detL ks ls n
theorem detL_rise (ks ls : List Int) : ∀ n, (detL ks ls n).Pairwise (· < ·)
  | 0 => List.Pairwise.nil
  | n + 1 => by
    unfold detL
    split
    · exact joinL_rise _ _ (detL_rise ks ls n)
    · exact detL_rise ks ls n
theorem detL_mem (ks ls : List Int) (x : Int) : ∀ n, x ∈ detL ks ls n ↔ ∃ j, j < n ∧ ls.getD j 0 = x ∧ Racy ks ls j
  | 0 => ⟨fun h => by simp [detL] at h, fun ⟨j, h, _⟩ => absurd h (Nat.not_lt_zero _)⟩
  | n + 1 => by
    unfold detL
    have ih := detL_mem ks ls x n
    constructor
    · intro h
      split at h
      · rename_i hr
        rcases (joinL_mem _ _ _).1 h with h | h
        · exact ⟨n, by omega, h.symm, (racyB_iff _ _ _).1 hr⟩
        · obtain ⟨j, h1, h2⟩ := ih.1 h
          exact ⟨j, by omega, h2⟩
      · obtain ⟨j, h1, h2⟩ := ih.1 h
        exact ⟨j, by omega, h2⟩
    · rintro ⟨j, h1, h2, h3⟩
      by_cases e : j = n
      · subst e
        rw [if_pos ((racyB_iff _ _ _).2 h3)]
        exact (joinL_mem _ _ _).2 (.inl h2.symm)
      · have hm := ih.2 ⟨j, by omega, h2, h3⟩
        split
        · exact (joinL_mem _ _ _).2 (.inr hm)
        · exact hm
theorem detL_len (ks ls : List Int) : ∀ n, (detL ks ls n).length ≤ n := by
  have hj : ∀ (l : List Int) (v : Int), (joinL l v).length ≤ l.length + 1 := by
    intro l v
    induction l with
    | nil => simp [joinL]
    | cons y r ih =>
      unfold joinL
      split
      · simp
      · split
        · simp
        · simp only [List.length_cons]; omega
  intro n
  induction n with
  | zero => simp [detL]
  | succ n ih =>
    unfold detL
    split
    · have := hj (detL ks ls n) (ls.getD n 0); omega
    · omega
def detV (l : List S52) : List Int × Int := if (chk l).1 = 0 then (detL (kdsOf l) (lcsOf l) l.length, 0) else ([], (chk l).1)
/-- sorted keys: the racy places -/
theorem keys_det {l : List S52} {zs : List Int} (hn : zs.Nodup) (hm : ∀ x, x ∈ zs ↔ ∃ j, j < l.length ∧ (lcsOf l).getD j 0 = x ∧ Racy (kdsOf l) (lcsOf l) j) : (zs.mergeSort fun x y => decide (x ≤ y)) = detL (kdsOf l) (lcsOf l) l.length := by
  have hp := List.mergeSort_perm zs (fun x y => decide (x ≤ y))
  have hs : (zs.mergeSort fun x y => decide (x ≤ y)).Pairwise (fun x y => decide (x ≤ y) = true) := List.pairwise_mergeSort (fun a b c h1 h2 => by simp at h1 h2 ⊢; omega) (fun a b => by simp; omega) zs
  have hd : (zs.mergeSort fun x y => decide (x ≤ y)).Nodup := hp.nodup_iff.2 hn
  refine rise_eq ?_ (detL_rise _ _ _) (fun x => ?_)
  · refine (hs.and hd).imp ?_
    intro a b h
    have h1 := of_decide_eq_true h.1
    have h2 := h.2
    omega
  · rw [hp.mem_iff, hm, detL_mem]
end Go.Proofs.Ytkecgjmbamaejaa.P
