/- Plain law of layer 19: which deeds are parallel. -/
import Derived.Test.YtkecgjmbamaejaaPALat
import Derived.Test.YtkecgjmbamaejaaPAPx0
import Derived.Test.YtkecgjmbamaejaaPAPx3
import Derived.Test.YtkecgjmbamaejaaPALate
import Derived.Test.YtkecgjmbamaejaaPARB
import Derived.Deep.DeepCutAuto
import Derived.Test.YtkecgjmbamaejaaPAPx2
import Derived.Test.YtkecgjmbamaejaaPAPx8
set_option linter.unusedVariables false
set_option linter.unusedSimpArgs false
namespace Go.Proofs.Ytkecgjmbamaejaa.P
open Go.RowKit Go.Proofs.YtkecgjmbamaejaaW.PrintWords Go.Proofs.YtkecgjmbamaejaaW.PrintLast Go.Proofs.YtkecgjmbamaejaaW.PrintMore
set_option linter.unusedVariables false

theorem w64 {x : Int} (h0 : -9223372036854775808 ≤ x) (h1 : x ≤ 9223372036854775807) : wrap64 x = x := by
  unfold wrap64; omega
theorem w64s {j : Nat} (h1 : j < 4611686018427387904) : wrap64 ((j : Int) + 1) = ((j + 1 : Nat) : Int) := by
  unfold wrap64; omega
theorem rd52 (l : List S52) (j : Nat) (h : j < l.length) : rd_T52 l (j : Int) = l[j] := by
  unfold rd_T52
  simp [List.getD_eq_getElem?_getD, List.getElem?_eq_getElem h]

/-- the fault and its place, from deed i on, o children open -/
def ck (o : Int) (i : Nat) : List S52 → Int × Int
  | [] => (0, 0)
  | e :: r => if e.f0 < 0 ∨ e.f0 > 4 ∨ (e.f0 = 1 ∧ o = 0) then (190, (i : Int)) else ck (o + (if e.f0 = 0 then 1 else if e.f0 = 1 then -1 else 0)) (i + 1) r
def chk (l : List S52) : Int × Int := if (l.length : Int) > 4096 then (2, 0) else ck 0 0 l

theorem ck_no {o : Int} {i : Nat} {e : S52} {r : List S52} (h : e.f0 < 0 ∨ e.f0 > 4 ∨ (e.f0 = 1 ∧ o = 0)) : ck o i (e :: r) = (190, (i : Int)) := by
  rw [ck, if_pos h]
theorem ck_yes {o : Int} {i : Nat} {e : S52} {r : List S52} (h : ¬ (e.f0 < 0 ∨ e.f0 > 4 ∨ (e.f0 = 1 ∧ o = 0))) (o' : Int) (ho : o' = o + (if e.f0 = 0 then 1 else if e.f0 = 1 then -1 else 0)) : ck o i (e :: r) = ck o' (i + 1) r := by
  rw [ck, if_neg h, ho]

theorem racesCheck_l0 (l : List S52) (hl : l.length < 1099511627776) : ∀ (d j : Nat) (o : Int), j + d = l.length → 0 ≤ o → o ≤ (j : Int) → Ev (fun k => races_Check.l0 k o l (l.length : Int) (j : Int)) (ck o j (l.drop j)) := by
  intro d
  induction d with
  | zero =>
    intro j o hj h0 h1
    refine Ev.step (f := fun _ => some (0, 0)) (fun k => ?_) (by rw [List.drop_of_length_le (by omega)]; exact Ev.now _)
    simp only [races_Check.l0]
    rw [if_neg (by omega)]
  | succ d ih =>
    intro j o hj h0 h1
    have hlt : j < l.length := by omega
    rw [List.drop_eq_getElem_cons hlt]
    by_cases k0 : l[j].f0 = 0
    · rw [ck_yes (by omega) (o + 1) (by rw [if_pos k0])]
      refine Ev.step (f := fun k => races_Check.l0 k (o + 1) l (l.length : Int) ((j + 1 : Nat) : Int)) (fun k => ?_) (ih (j + 1) (o + 1) (by omega) (by omega) (by omega))
      simp only [races_Check.l0]
      rw [if_pos (by omega), if_pos (by omega), if_pos (by omega), rd52 l j hlt, if_pos k0, w64 (by omega) (by omega), if_neg (by omega), w64s (by omega)]
    by_cases k1 : l[j].f0 = 1
    · by_cases ho : o = 0
      · rw [ck_no (by omega)]
        refine Ev.step (f := fun _ => some (190, (j : Int))) (fun k => ?_) (Ev.now _)
        simp only [races_Check.l0]
        rw [if_pos (by omega), if_pos (by omega), if_pos (by omega), rd52 l j hlt, if_neg k0, if_pos k1, w64 (by omega) (by omega), if_pos (by omega)]
      · rw [ck_yes (by omega) (o - 1) (by rw [if_neg k0, if_pos k1]; omega)]
        refine Ev.step (f := fun k => races_Check.l0 k (o - 1) l (l.length : Int) ((j + 1 : Nat) : Int)) (fun k => ?_) (ih (j + 1) (o - 1) (by omega) (by omega) (by omega))
        simp only [races_Check.l0]
        rw [if_pos (by omega), if_pos (by omega), if_pos (by omega), rd52 l j hlt, if_neg k0, if_pos k1, w64 (by omega) (by omega), if_neg (by omega), w64s (by omega)]
    -- the others
    have hj1 : ∀ b : Bool, Ev (fun k => races_Check.j1 k o (j : Int) l (l.length : Int) (j : Int) b) (if b = true then ck o (j + 1) (l.drop (j + 1)) else (190, (j : Int))) := by
      intro b
      cases b with
      | true =>
        refine Ev.step (f := fun k => races_Check.l0 k o l (l.length : Int) ((j + 1 : Nat) : Int)) (fun k => ?_) (by rw [if_pos rfl]; exact ih (j + 1) o (by omega) h0 (by omega))
        simp only [races_Check.j1]
        rw [if_pos trivial, if_neg (by omega), w64s (by omega)]
      | false =>
        refine Ev.step (f := fun _ => some (190, (j : Int))) (fun k => ?_) (by rw [if_neg (by decide)]; exact Ev.now _)
        simp only [races_Check.j1]
        rw [if_neg (by decide)]
    by_cases k2 : l[j].f0 = 2
    · have h2 := hj1 (l[j].f0 == 2)
      rw [if_pos (by simpa using k2)] at h2
      rw [ck_yes (by omega) o (by rw [if_neg k0, if_neg k1]; omega)]
      refine Ev.step (f := fun k => races_Check.j1 k o (j : Int) l (l.length : Int) (j : Int) (l[j].f0 == 2)) (fun k => ?_) h2
      simp only [races_Check.l0]
      rw [if_pos (by omega), if_pos (by omega), if_pos (by omega), rd52 l j hlt, if_neg k0, if_neg k1, if_pos k2]
    by_cases k3 : l[j].f0 = 3
    · have h2 := hj1 (l[j].f0 == 3)
      rw [if_pos (by simpa using k3)] at h2
      rw [ck_yes (by omega) o (by rw [if_neg k0, if_neg k1]; omega)]
      refine Ev.step (f := fun k => races_Check.j1 k o (j : Int) l (l.length : Int) (j : Int) (l[j].f0 == 3)) (fun k => ?_) h2
      simp only [races_Check.l0]
      rw [if_pos (by omega), if_pos (by omega), if_pos (by omega), rd52 l j hlt, if_neg k0, if_neg k1, if_neg k2, if_pos k3]
    have h2 := hj1 (l[j].f0 == 4)
    have h3 : ck o j (l[j] :: l.drop (j + 1)) = if (l[j].f0 == 4) = true then ck o (j + 1) (l.drop (j + 1)) else (190, (j : Int)) := by
      by_cases k4 : l[j].f0 = 4
      · rw [if_pos (by simpa using k4), ck_yes (by omega) o (by rw [if_neg k0, if_neg k1]; omega)]
      · rw [if_neg (by simpa using k4), ck_no (by omega)]
    rw [h3]
    refine Ev.step (f := fun k => races_Check.j1 k o (j : Int) l (l.length : Int) (j : Int) (l[j].f0 == 4)) (fun k => ?_) h2
    simp only [races_Check.l0]
    rw [if_pos (by omega), if_pos (by omega), if_pos (by omega), rd52 l j hlt, if_neg k0, if_neg k1, if_neg k2, if_neg k3]
theorem racesCheck_ev (l : List S52) (hl : l.length < 1099511627776) : Ev (fun k => races_Check.f k l) (chk l) := by
  unfold races_Check.f chk
  by_cases h : (l.length : Int) > 4096
  · simp only [if_pos h]; exact Ev.now _
  · simp only [if_neg h]
    exact racesCheck_l0 l hl l.length 0 0 (by omega) (by omega) (by omega)

end Go.Proofs.Ytkecgjmbamaejaa.P
namespace Go.Proofs.Ytkecgjmbamaejaa.P
open Go.RowKit Go.Proofs.YtkecgjmbamaejaaW.PrintWords Go.Proofs.YtkecgjmbamaejaaW.PrintLast Go.Proofs.YtkecgjmbamaejaaW.PrintMore
set_option linter.unusedVariables false

structure Good (l : List S52) : Prop where
  len : l.length ≤ 4096
  knd : ∀ j, j < l.length → 0 ≤ (kdsOf l).getD j 0 ∧ (kdsOf l).getD j 0 ≤ 4
  fair : fair (kdsOf l)
theorem kds_get (l : List S52) (j : Nat) (h : j < l.length) : (kdsOf l).getD j 0 = l[j].f0 := by
  unfold kdsOf
  rw [List.getD_eq_getElem?_getD, List.getElem?_map, List.getElem?_eq_getElem h]
  rfl
theorem ck_good (l : List S52) : ∀ (d i : Nat) (o : Int), i + d = l.length → o = openF (kdsOf l) i → ck o i (l.drop i) = (0, 0) → ∀ j, i ≤ j → j < l.length → (0 ≤ (kdsOf l).getD j 0 ∧ (kdsOf l).getD j 0 ≤ 4) ∧ ((kdsOf l).getD j 0 = 1 → openF (kdsOf l) j ≠ 0) := by
  intro d
  induction d with
  | zero => intro i o hi _ _ j h1 h2; omega
  | succ d ih =>
    intro i o hi ho hc j h1 h2
    have hlt : i < l.length := by omega
    rw [List.drop_eq_getElem_cons hlt] at hc
    by_cases hb : l[i].f0 < 0 ∨ l[i].f0 > 4 ∨ (l[i].f0 = 1 ∧ o = 0)
    · rw [ck_no hb] at hc
      injection hc with hc _
      cases hc
    · rw [ck_yes hb _ rfl] at hc
      by_cases e : j = i
      · subst e
        rw [kds_get l j hlt]
        exact ⟨⟨by omega, by omega⟩, fun h3 h4 => hb (Or.inr (Or.inr ⟨h3, by rw [ho]; exact h4⟩))⟩
      · refine ih (i + 1) _ (by omega) ?_ hc j (by omega) h2
        show _ = openF (kdsOf l) i + _
        rw [← ho, kds_get l i hlt]
theorem open_ge {ks : List Int} (h : ∀ j, j < ks.length → ks.getD j 0 = 1 → openF ks j ≠ 0) : ∀ i, i ≤ ks.length → 0 ≤ openF ks i
  | 0, _ => Int.le_refl _
  | i + 1, hi => by
    have ih := open_ge h i (by omega)
    show 0 ≤ openF ks i + (if ks.getD i 0 = 0 then 1 else if ks.getD i 0 = 1 then -1 else 0)
    by_cases k0 : ks.getD i 0 = 0
    · rw [if_pos k0]; omega
    · rw [if_neg k0]
      by_cases k1 : ks.getD i 0 = 1
      · rw [if_pos k1]
        have := h i (by omega) k1
        omega
      · rw [if_neg k1]; omega
theorem chk_good {l : List S52} (h : (chk l).1 = 0) : Good l := by
  unfold chk at h
  by_cases hl : (l.length : Int) > 4096
  · rw [if_pos hl] at h
    cases h
  · rw [if_neg hl] at h
    have hc : ck 0 0 (l.drop 0) = (0, 0) := by
      have e : ∀ (m : List S52) (o : Int) (i : Nat), (ck o i m).1 = 0 → ck o i m = (0, 0) := by
        intro m
        induction m with
        | nil => intro o i _; rfl
        | cons x r ih =>
          intro o i h
          by_cases hb : x.f0 < 0 ∨ x.f0 > 4 ∨ (x.f0 = 1 ∧ o = 0)
          · rw [ck_no hb] at h; cases h
          · rw [ck_yes hb _ rfl] at h ⊢
            exact ih _ _ h
      exact e l 0 0 h
    have hg := ck_good l l.length 0 0 (by omega) rfl hc
    have hk : (kdsOf l).length = l.length := kds_len l
    refine ⟨by omega, fun j hj => (hg j (Nat.zero_le _) hj).1, fair_of _ (fun m hm hm1 => ?_)⟩
    have h1 := open_ge (ks := kdsOf l) (fun j hj h1 => (hg j (Nat.zero_le _) (by omega)).2 h1) m (by omega)
    have h2 := (hg m (Nat.zero_le _) (by omega)).2 hm1
    omega

def Rw (n : Nat) (R : List Bool) (P : Nat → Prop) : Prop := R.length = n ∧ ∀ j, j < n → (R.getD j false = true ↔ P j)
theorem Rw.congr {n : Nat} {R : List Bool} {P Q : Nat → Prop} (h : Rw n R P) (e : ∀ j, j < n → (P j ↔ Q j)) : Rw n R Q := ⟨h.1, fun j hj => (h.2 j hj).trans (e j hj)⟩
theorem Rw.set {n k : Nat} {R : List Bool} {P : Nat → Prop} (h : Rw n R P) (hk : k < n) : Rw n (R.set k true) (fun j => P j ∨ j = k) := by
  refine ⟨by rw [List.length_set]; exact h.1, fun j hj => ?_⟩
  rw [List.getD_eq_getElem?_getD, List.getElem?_set]
  by_cases e : k = j
  · subst e
    rw [if_pos rfl, if_pos (by rw [h.1]; exact hk)]
    simp
  · rw [if_neg e, ← List.getD_eq_getElem?_getD, h.2 j hj]
    constructor
    · exact Or.inl
    · rintro (h | h)
      · exact h
      · exact absurd h.symm e
theorem Rw.none (n : Nat) : Rw n (List.replicate n false) (fun _ => False) := by
  refine ⟨List.length_replicate, fun j hj => ?_⟩
  rw [List.getD_eq_getElem?_getD, List.getElem?_replicate, if_pos hj]
  simp
def TB (ks : List Int) (n i : Nat) (T : List (List Bool)) : Prop := T.length = n ∧ ∀ m, m < i → Rw n (T.getD m []) (fun j => Ahead ks j m)
theorem TB.set {ks : List Int} {n i : Nat} {T : List (List Bool)} (h : TB ks n i T) (R : List Bool) : TB ks n i (T.set i R) := by
  refine ⟨by rw [List.length_set]; exact h.1, fun m hm => ?_⟩
  rw [List.getD_eq_getElem?_getD, List.getElem?_set_ne (by omega), ← List.getD_eq_getElem?_getD]
  exact h.2 m hm
theorem TB.at {ks : List Int} {n i : Nat} {T : List (List Bool)} (h : TB ks n i T) (hi : i < n) (R : List Bool) : (T.set i R).getD i [] = R := by
  rw [List.getD_eq_getElem?_getD, List.getElem?_set_self (by rw [h.1]; exact hi)]; rfl
theorem rdL6 (T : List (List Bool)) (i : Nat) : rd_L6 T (i : Int) = T.getD i [] := by unfold rd_L6; rw [Int.toNat_natCast]
theorem rdB (R : List Bool) (j : Nat) : rdOf false R (j : Int) = R.getD j false := by unfold rdOf; rw [Int.toNat_natCast]
end Go.Proofs.Ytkecgjmbamaejaa.P
namespace Go.Proofs.Ytkecgjmbamaejaa.P
open Go.RowKit Go.Proofs.YtkecgjmbamaejaaW.PrintWords Go.Proofs.YtkecgjmbamaejaaW.PrintLast Go.Proofs.YtkecgjmbamaejaaW.PrintMore
set_option linter.unusedVariables false

def ord (l : List S52) : List Nat := ordF (frs (kdsOf l) (kdsOf l).length)
theorem ord_perm {l : List S52} (h : Good l) : (ord l).Perm (List.range l.length) := by
  have := frs_perm (kdsOf l) h.fair (kdsOf l).length (Nat.le_refl _)
  have e : List.range (kdsOf l).length = List.range l.length := by rw [kds_len]
  rw [e] at this
  exact this
theorem ord_len {l : List S52} (h : Good l) : (ord l).length = l.length := by rw [(ord_perm h).length_eq, List.length_range]
theorem ord_nodup {l : List S52} (h : Good l) : (ord l).Nodup := frs_nodup (kdsOf l) h.fair _ (Nat.le_refl _)
theorem ord_mem {l : List S52} (h : Good l) (i : Nat) : i ∈ ord l ↔ i < l.length := by rw [(ord_perm h).mem_iff, List.mem_range]
theorem late_ev {l : List S52} (h : Good l) (k : Nat) : races_late.f k l 0 [] = some (ints (ord l), (l.length : Int)) := by
  unfold races_late.f
  rw [if_pos ⟨rfl, Int.le_refl 0, by omega, h.len⟩]
  have e : lateN (kdsOf l) (0 : Int).toNat [] [] = (ord l, (kdsOf l).length) := late_second (kdsOf l) h.fair
  rw [e, kds_len]
theorem rd_ints (l : List Nat) (j : Nat) (h : j < l.length) : rd (ints l) (j : Int) = (l[j] : Int) := by
  unfold rd ints
  rw [Int.toNat_natCast, List.getD_eq_getElem?_getD, List.getElem?_map, List.getElem?_eq_getElem h]
  rfl
theorem idx_at {l : List Nat} (hn : l.Nodup) {j : Nat} (h : j < l.length) : l.idxOf l[j] = j := hn.idxOf_getElem j h
theorem places_l0 (O : List Nat) (hn : O.Nodup) (n : Nat) (hO : O.length = n) (hlt : ∀ x ∈ O, x < n) (hb : n ≤ 4096) : ∀ (d j : Nat) (A : List Int), j + d = n → A.length = n → (∀ q (hq : q < O.length), q < j → rd A (O[q] : Int) = (q : Int)) →
    ∃ A', Ev (fun k => races_places.l0 k A (ints O) (n : Int) (j : Int)) A' ∧ A'.length = n ∧ ∀ q (hq : q < O.length), rd A' (O[q] : Int) = (q : Int) := by
  intro d
  induction d with
  | zero =>
    intro j A hj hA h
    refine ⟨A, Ev.step (f := fun _ => some A) (fun k => ?_) (Ev.now _), hA, fun q hq => h q hq (by omega)⟩
    simp only [races_places.l0]
    rw [if_neg (by omega)]
  | succ d ih =>
    intro j A hj hA h
    have hjO : j < O.length := by omega
    have hx : O[j] < n := hlt _ (List.getElem_mem hjO)
    have hr := rd_ints O j hjO
    obtain ⟨A', h1, h2, h3⟩ := ih (j + 1) (A.set O[j] (j : Int)) (by omega) (by rw [List.length_set]; exact hA) (fun q hq hqj => by
      unfold rd
      rw [Int.toNat_natCast, List.getD_eq_getElem?_getD, List.getElem?_set]
      by_cases e : O[j] = O[q]
      · rw [if_pos e, if_pos (by rw [hA]; exact hx)]
        have : j = q := by have h5 := idx_at hn hjO; simp only [e] at h5; rw [idx_at hn hq] at h5; exact h5.symm
        subst this
        rfl
      · rw [if_neg e]
        have hq2 : q < j := by
          by_cases e2 : q = j
          · subst e2; exact absurd rfl e
          · omega
        have := h q hq hq2
        unfold rd at this
        rwa [Int.toNat_natCast, List.getD_eq_getElem?_getD] at this)
    refine ⟨A', Ev.step (fun k => ?_) h1, h2, h3⟩
    simp only [races_places.l0]
    rw [if_pos (by omega), if_pos (by omega), if_pos (by rw [ints_len]; omega), hr, if_pos (by omega), if_pos (by omega), w64s (by omega), Int.toNat_natCast]
theorem places_ev {l : List S52} (h : Good l) : ∃ A, Ev (fun k => races_places.f k l) A ∧ A.length = l.length ∧ ∀ i, i < l.length → rd A (i : Int) = ((ord l).idxOf i : Int) := by
  have hO := ord_len h
  obtain ⟨A, h1, h2, h3⟩ := places_l0 (ord l) (ord_nodup h) l.length hO (fun x hx => (ord_mem h x).1 hx) h.len l.length 0 (List.replicate l.length 0) (by omega) List.length_replicate (fun q _ hq => absurd hq (Nat.not_lt_zero _))
  refine ⟨A, Ev.congr (fun k => ?_) h1, h2, fun i hi => ?_⟩
  · unfold races_places.f
    rw [late_ev h, Option.bind_some, if_pos (by omega), if_pos (by have := h.len; omega), Int.toNat_natCast, ints_len, hO]
    rfl
  · have hm : i ∈ ord l := (ord_mem h i).2 hi
    have hq : (ord l).idxOf i < (ord l).length := List.idxOf_lt_length_of_mem hm
    have := h3 _ hq
    rwa [List.getElem_idxOf hq] at this
theorem second_ahead {l : List S52} (h : Good l) {i j : Nat} (hij : i < j) (hj : j < l.length) : (ord l).idxOf i < (ord l).idxOf j ↔ Ahead (kdsOf l) i j :=
  second_iff (kdsOf l) h.fair _ (Nat.le_refl _) i j hij (by rw [kds_len]; exact hj)
theorem idx_ne {l : List S52} (h : Good l) {i j : Nat} (hi : i < l.length) (hj : j < l.length) (hij : i ≠ j) : (ord l).idxOf i ≠ (ord l).idxOf j := fun he => by
  have hi1 : (ord l).idxOf i < (ord l).length := List.idxOf_lt_length_of_mem ((ord_mem h i).2 hi)
  have hj1 : (ord l).idxOf j < (ord l).length := List.idxOf_lt_length_of_mem ((ord_mem h j).2 hj)
  have e1 := List.getElem_idxOf hi1
  have e2 := List.getElem_idxOf hj1
  apply hij
  rw [← e1, ← e2]
  congr 1

/-- neither waits for the other -/
def Par (ks : List Int) (i j : Nat) : Prop := i ≠ j ∧ ¬ Ahead ks j i ∧ ¬ Ahead ks i j
def inR2 (n : Nat) (a1 a2 : Int) : Prop := 0 ≤ a1 ∧ a1 < (n : Int) ∧ 0 ≤ a2 ∧ a2 < (n : Int)
structure ParSpec (l : List S52) (a1 a2 : Int) (r : Bool × Int) : Prop where
  bad : (chk l).1 ≠ 0 → r = (false, (chk l).1)
  out : (chk l).1 = 0 → ¬ inR2 l.length a1 a2 → r = (false, 3)
  inn : (chk l).1 = 0 → inR2 l.length a1 a2 → r.2 = 0 ∧ (r.1 = true ↔ Par (kdsOf l) a1.toNat a2.toNat)
theorem ParSpec.same {l : List S52} {a1 a2 : Int} {r q : Bool × Int} (h : ParSpec l a1 a2 r) (g : ParSpec l a1 a2 q) : r = q := by
  by_cases h0 : (chk l).1 = 0
  · by_cases hi : inR2 l.length a1 a2
    · obtain ⟨h1, h2⟩ := h.inn h0 hi
      obtain ⟨g1, g2⟩ := g.inn h0 hi
      refine Prod.ext ?_ (h1.trans g1.symm)
      rw [Bool.eq_iff_iff, h2, g2]
    · rw [h.out h0 hi, g.out h0 hi]
  · rw [h.bad h0, g.bad h0]
theorem par_ev (l : List S52) (hl : l.length < 1099511627776) (a1 a2 : Int) : ∃ r, Ev (fun k => races_Parallel.f k l a1 a2) r ∧ ParSpec l a1 a2 r := by
  unfold races_Parallel.f
  by_cases h0 : (chk l).1 = 0
  · have hg := chk_good h0
    by_cases hi : inR2 l.length a1 a2
    · obtain ⟨A, hA1, hA2, hA3⟩ := places_ev hg
      obtain ⟨i, rfl⟩ : ∃ i : Nat, a1 = (i : Int) := ⟨a1.toNat, by have := hi.1; omega⟩
      obtain ⟨j, rfl⟩ : ∃ j : Nat, a2 = (j : Int) := ⟨a2.toNat, by have := hi.2.2.1; omega⟩
      obtain ⟨hi0, hi1, hj0, hj1⟩ := hi
      have ei := hA3 i (by omega)
      have ej := hA3 j (by omega)
      refine ⟨(if ((decide ((i : Int) < (j : Int))) != (decide ((rd A (i : Int)) < (rd A (j : Int))))) = true then ((i : Int) != (j : Int), 0) else (false, 0)), ?_, fun h => absurd h0 h, fun _ h => absurd ⟨hi0, hi1, hj0, hj1⟩ h, fun _ _ => ?_⟩
      · refine Ev.bind (racesCheck_ev l hl) ?_
        simp only [if_pos h0]
        have b1 : ¬ (i : Int) < 0 := by omega
        have b2 : ¬ (i : Int) ≥ (l.length : Int) := by omega
        have b3 : ¬ (j : Int) < 0 := by omega
        have b4 : ¬ (j : Int) ≥ (l.length : Int) := by omega
        simp only [if_neg b1, if_neg b2, if_neg b3, if_neg b4]
        refine Ev.bind hA1 ?_
        have c1 : (i : Int) < (A.length : Int) := by omega
        have c2 : (j : Int) < (A.length : Int) := by omega
        simp only [if_pos hi0, if_pos hj0, if_pos c1, if_pos c2]
        split
        · exact Ev.now _
        · exact Ev.now _
      · rw [ei, ej, Int.toNat_natCast, Int.toNat_natCast]
        have hil : i < l.length := by omega
        have hjl : j < l.length := by omega
        by_cases hij : i = j
        · subst hij
          rw [if_neg (by simp)]
          exact ⟨rfl, by unfold Par; simp⟩
        · have hne := idx_ne hg hil hjl hij
          have hl1 : ∀ a b : Nat, Ahead (kdsOf l) a b → b < l.length → a < b := fun a b ha hb => Ahead.lt hg.fair (by rw [kds_len]; exact hb) ha
          have hbn : ((i : Int) != (j : Int)) = true := by simp; omega
          rcases Nat.lt_or_gt_of_ne hij with hlt | hlt
          · have hs := second_ahead hg hlt hjl
            have h1 : decide ((i : Int) < (j : Int)) = true := decide_eq_true (by omega)
            rw [h1]
            by_cases ha : Ahead (kdsOf l) i j
            · have h2 : decide (((ord l).idxOf i : Int) < ((ord l).idxOf j : Int)) = true := decide_eq_true (by have := hs.2 ha; omega)
              rw [h2, if_neg (by simp)]
              exact ⟨rfl, fun h => (Bool.false_ne_true h).elim, fun h => absurd ha h.2.2⟩
            · have h2 : decide (((ord l).idxOf i : Int) < ((ord l).idxOf j : Int)) = false := decide_eq_false (fun h => ha (hs.1 (by omega)))
              rw [h2, if_pos (by simp)]
              exact ⟨rfl, fun _ => ⟨hij, fun h => by have := hl1 _ _ h hil; omega, ha⟩, fun _ => hbn⟩
          · have hs := second_ahead hg hlt hil
            have h1 : decide ((i : Int) < (j : Int)) = false := decide_eq_false (by omega)
            rw [h1]
            by_cases ha : Ahead (kdsOf l) j i
            · have h2 : decide (((ord l).idxOf i : Int) < ((ord l).idxOf j : Int)) = false := decide_eq_false (by have := hs.2 ha; omega)
              rw [h2, if_neg (by simp)]
              exact ⟨rfl, fun h => (Bool.false_ne_true h).elim, fun h => absurd ha h.2.1⟩
            · have h2 : decide (((ord l).idxOf i : Int) < ((ord l).idxOf j : Int)) = true := decide_eq_true (by
                have h3 : ¬ (ord l).idxOf j < (ord l).idxOf i := fun h => ha (hs.1 h)
                omega)
              rw [h2, if_pos (by simp)]
              exact ⟨rfl, fun _ => ⟨hij, ha, fun h => by have := hl1 _ _ h hjl; omega⟩, fun _ => hbn⟩
    · refine ⟨(false, 3), ?_, fun h => absurd h0 h, fun _ _ => rfl, fun _ h => absurd h hi⟩
      refine Ev.bind (racesCheck_ev l hl) ?_
      simp only [if_pos h0]
      refine Ev.congr (f := fun _ => some (false, 3)) (fun k => ?_) (Ev.now _)
      by_cases b1 : a1 < 0
      · rw [if_pos b1]
      rw [if_neg b1]
      by_cases b2 : a1 ≥ (l.length : Int)
      · rw [if_pos b2]
      rw [if_neg b2]
      by_cases b3 : a2 < 0
      · rw [if_pos b3]
      rw [if_neg b3]
      by_cases b4 : a2 ≥ (l.length : Int)
      · rw [if_pos b4]
      exact absurd ⟨by omega, by omega, by omega, by omega⟩ hi
  · refine ⟨(false, (chk l).1), ?_, fun _ => rfl, fun h => absurd h h0, fun h => absurd h h0⟩
    refine Ev.bind (racesCheck_ev l hl) ?_
    simp only [if_neg h0]
    exact Ev.now _
end Go.Proofs.Ytkecgjmbamaejaa.P
