/- Plain law, part T: the schedule that is made by a list of ranks ('listed') is greedy. -/
import Derived.Test.YtbahnialbffkeaaLPx2
import Derived.Test.YtbahnialbffkeaaLPx0
import Derived.Test.YtbahnialbffkeaaLPx1
import Derived.Laws.Slices
import Derived.Lib.Hide
import Derived.Test.YtbahnialbffkeaaLJA
import Derived.Test.YtbahnialbffkeaaLJudge
import Derived.Test.YtbahnialbffkeaaLPx18
import Derived.Test.YtbahnialbffkeaaLPx23
namespace Go.Proofs.Ytbahnialbffkeaa.P
open Go.RowKit Go.Proofs.YtbahnialbffkeaaW.PrintWords Go.Proofs.YtbahnialbffkeaaW.PrintLast Go.Proofs.YtbahnialbffkeaaW.PrintMore
set_option linter.unusedVariables false

theorem w64 {x : Int} (h0 : -9223372036854775808 ≤ x) (h1 : x ≤ 9223372036854775807) : wrap64 x = x := by
  unfold wrap64; omega
theorem w64s {j : Nat} (h1 : j < 4611686018427387904) : wrap64 ((j : Int) + 1) = ((j + 1 : Nat) : Int) := by
  unfold wrap64; omega
theorem rd50 (l : List S50) (j : Nat) (h : j < l.length) : rd_T50 l (j : Int) = l[j] := by
  unfold rd_T50
  simp [List.getD_eq_getElem?_getD, List.getElem?_eq_getElem h]
theorem rdi (l : List Int) (j : Nat) (h : j < l.length) : rd l (j : Int) = l[j] := by
  unfold rd
  simp [List.getD_eq_getElem?_getD, List.getElem?_eq_getElem h]

/-- an edge by the rule -/
def okE (n : Int) (e : S50) : Prop := 0 ≤ e.f0 ∧ e.f0 < e.f1 ∧ e.f1 < n
instance (n : Int) (e : S50) : Decidable (okE n e) := by unfold okE; infer_instance
/-- the error of edges, from some place on -/
def chkE (n : Int) (l : List S50) : Int := if ∀ e ∈ l, okE n e then 0 else 71
/-- Check's error -/
def chk (n : Int) (l : List S50) : Int := if n < 0 ∨ n > 4096 then 70 else if (l.length : Int) > 16384 then 2 else chkE n l

theorem chkE_nil (n : Int) : chkE n [] = 0 := by simp [chkE]
theorem chkE_ok {n : Int} {e : S50} {l : List S50} (h : okE n e) : chkE n (e :: l) = chkE n l := by simp [chkE, h]
theorem chkE_no {n : Int} {e : S50} {l : List S50} (h : ¬ okE n e) : chkE n (e :: l) = 71 := by simp [chkE, h]
theorem chk_zero {n : Int} {l : List S50} (h : chk n l = 0) : 0 ≤ n ∧ n ≤ 4096 ∧ l.length ≤ 16384 ∧ ∀ e ∈ l, okE n e := by
  unfold chk at h
  split at h
  · cases h
  · split at h
    · cases h
    · unfold chkE at h
      split at h
      · refine ⟨by omega, by omega, by omega, ‹_›⟩
      · cases h

theorem dagCheck_l0 (n : Int) (l : List S50) (hl : l.length < 1099511627776) : ∀ (d j : Nat), j + d = l.length → Ev (fun k => dag_Check.l0 k l (l.length : Int) (j : Int) n l) (chkE n (l.drop j)) := by
  intro d
  induction d with
  | zero =>
    intro j hj
    refine Ev.step (f := fun _ => some (chkE n (l.drop j))) (fun k => ?_) (Ev.now _)
    simp only [dag_Check.l0]
    rw [if_neg (by omega), List.drop_of_length_le (by omega), chkE_nil]
  | succ d ih =>
    intro j hj
    have hlt : j < l.length := by omega
    have hdr : l.drop j = l[j] :: l.drop (j + 1) := List.drop_eq_getElem_cons hlt
    by_cases hk : okE n l[j]
    · refine Ev.step (f := fun k => dag_Check.l0 k l (l.length : Int) ((j + 1 : Nat) : Int) n l) (fun k => ?_) ?_
      · simp only [dag_Check.l0]
        rw [if_pos (by omega), if_pos (by omega), if_pos (by omega), rd50 l j hlt, w64s (by omega)]
        obtain ⟨h0, h1, h2⟩ := hk
        rw [if_neg (by omega), if_neg (by omega), if_neg (by omega)]
      · rw [hdr, chkE_ok hk]
        exact ih (j + 1) (by omega)
    · refine Ev.step (f := fun _ => some (chkE n (l.drop j))) (fun k => ?_) (Ev.now _)
      simp only [dag_Check.l0]
      rw [if_pos (by omega), if_pos (by omega), if_pos (by omega), rd50 l j hlt, hdr, chkE_no hk]
      by_cases h0 : l[j].f0 < 0
      · rw [if_pos h0]
      rw [if_neg h0]
      by_cases h1 : l[j].f0 ≥ l[j].f1
      · rw [if_pos h1]
      rw [if_neg h1]
      by_cases h2 : l[j].f1 ≥ n
      · rw [if_pos h2]
      exact absurd (show okE n l[j] from ⟨by omega, by omega, by omega⟩) hk

theorem dagCheck_j0 (n : Int) (l : List S50) (hl : l.length < 1099511627776) (b : Bool) :
    Ev (fun k => dag_Check.j0 k b n l) (if b = true then 70 else if (l.length : Int) > 16384 then 2 else chkE n l) := by
  cases b with
  | true => exact Ev.step (f := fun _ => some 70) (fun k => by simp [dag_Check.j0]) (Ev.now _)
  | false =>
    by_cases h : (l.length : Int) > 16384
    · exact Ev.step (f := fun _ => some 2) (fun k => by simp only [dag_Check.j0]; rw [if_neg (by decide), if_pos h]) (by rw [if_neg (by decide), if_pos h]; exact Ev.now _)
    · refine Ev.step (f := fun k => dag_Check.l0 k l (l.length : Int) ((0 : Nat) : Int) n l) (fun k => by simp only [dag_Check.j0]; rw [if_neg (by decide), if_neg h]; rfl) ?_
      rw [if_neg (by decide), if_neg h]
      exact dagCheck_l0 n l hl l.length 0 (by omega)
theorem dagCheck_ev (n : Int) (l : List S50) (hl : l.length < 1099511627776) : Ev (fun k => dag_Check.f k n l) (chk n l) := by
  by_cases h : n < 0
  · refine Ev.congr (f := fun k => dag_Check.j0 k true n l) (fun k => by unfold dag_Check.f; rw [if_pos h]) ?_
    have := dagCheck_j0 n l hl true
    rw [if_pos rfl] at this
    rw [chk, if_pos (Or.inl h)]; exact this
  · refine Ev.congr (f := fun k => dag_Check.j0 k (decide (n > 4096)) n l) (fun k => by unfold dag_Check.f; rw [if_neg h]) ?_
    have h2 := dagCheck_j0 n l hl (decide (n > 4096))
    have e : chk n l = if decide (n > 4096) = true then 70 else if (l.length : Int) > 16384 then 2 else chkE n l := by
      unfold chk
      by_cases h3 : n > 4096
      · rw [if_pos (Or.inr h3), if_pos (by simpa using h3)]
      · have hd : decide (n > 4096) = false := by simpa using h3
        rw [hd, if_neg (show ¬ (n < 0 ∨ n > 4096) by omega)]
        simp
    rw [e]; exact h2
end Go.Proofs.Ytbahnialbffkeaa.P
namespace Go.Proofs.Ytbahnialbffkeaa.P
open Go.RowKit Go.Proofs.YtbahnialbffkeaaW.PrintWords Go.Proofs.YtbahnialbffkeaaW.PrintLast Go.Proofs.YtbahnialbffkeaaW.PrintMore
set_option linter.unusedVariables false
set_option linter.unusedSimpArgs false
/-- what is handed out, one after the other -/
def popsL : Nat → List Int → List Int
  | 0, _ => []
  | d + 1, H => H.getD 0 0 :: popsL d (popL H)
theorem grpR_pops : ∀ (d : Nat) (H : List Int) (L : List S70), grpR d H L = (popsL d H).foldl addR L := by
  intro d
  induction d with
  | zero => intro H L; rfl
  | succ d ih => intro H L; rw [grpR, ih, popsL, List.foldl_cons]
theorem pops_perm : ∀ (d : Nat) (H : List Int), H.length = d → (popsL d H).Perm H := by
  intro d
  induction d with
  | zero =>
    intro H h
    rw [List.length_eq_zero_iff.mp h, popsL]
  | succ d ih =>
    intro H h
    rw [popsL]
    exact ((ih (popL H) (by rw [popL_length]; omega)).cons _).trans (popL_perm H (by omega)).symm
theorem pops_sorted : ∀ (d : Nat) (H : List Int), H.length = d → isHeap H → (popsL d H).Pairwise (· ≤ ·) := by
  intro d
  induction d with
  | zero => intro H _ _; rw [popsL]; exact List.Pairwise.nil
  | succ d ih =>
    intro H h hh
    rw [popsL, List.pairwise_cons]
    refine ⟨fun x hx => ?_, ih (popL H) (by rw [popL_length]; omega) (popL_heap H hh (by omega))⟩
    have h1 := (pops_perm d (popL H) (by rw [popL_length]; omega)).mem_iff.mp hx
    exact heap_least_mem H hh ((popL_perm H (by omega)).mem_iff.mpr (List.mem_cons_of_mem _ h1))
theorem pushes_heap : ∀ (T H : List Int), isHeap H → isHeap (T.foldl pushL H) ∧ (T.foldl pushL H).Perm (T ++ H) := by
  intro T
  induction T with
  | nil => intro H h; exact ⟨h, List.Perm.refl _⟩
  | cons x T ih =>
    intro H h
    obtain ⟨a, b⟩ := ih (pushL H x) (pushL_heap H x h)
    refine ⟨a, b.trans ?_⟩
    refine ((List.Perm.append_left T (pushL_perm H x)).trans ?_)
    exact (List.perm_middle (a := x) (l₁ := T) (l₂ := H))
/-- the rows of a sorted list -/
structure RowsOK (S : List Int) (L : List S70) : Prop where
  up : L.Pairwise (fun a b => a.f0 < b.f0)
  cnt : ∀ r ∈ L, r.f1 = (S.count r.f0 : Int) ∧ r.f0 ∈ S
  all : ∀ x ∈ S, ∃ r ∈ L, r.f0 = x
theorem rd70_last (L : List S70) (r : S70) : rd_T70 (L ++ [r]) (((L ++ [r]).length : Int) - 1) = r := by
  unfold rd_T70
  rw [show (((L ++ [r]).length : Int) - 1).toNat = L.length from by simp, List.getD_eq_getElem?_getD]
  simp
theorem addR_nil (t : Int) : addR [] t = [⟨t, 1, 0⟩] := by
  unfold addR
  rw [if_neg (by simp)]
  rfl
theorem addR_same (L : List S70) (r : S70) : addR (L ++ [r]) r.f0 = L ++ [⟨r.f0, wrap64 (r.f1 + 1), r.f2⟩] := by
  unfold addR
  rw [rd70_last, if_pos ⟨by simp, rfl⟩, show (((L ++ [r]).length : Int) - 1).toNat = L.length from by simp]
  simp
theorem addR_new (L : List S70) (r : S70) (t : Int) (h : r.f0 ≠ t) : addR (L ++ [r]) t = L ++ [r] ++ [⟨t, 1, 0⟩] := by
  unfold addR
  rw [rd70_last, if_neg (fun h2 => h h2.2)]
theorem rows_step {S : List Int} {L : List S70} (h : RowsOK S L) (hS : S.length ≤ 1000000) (t : Int) (ht : ∀ x ∈ S, x ≤ t) : RowsOK (S ++ [t]) (addR L t) := by
  rcases List.eq_nil_or_concat L with rfl | ⟨L', r, hL⟩
  · have hs : S = [] := by
      rw [List.eq_nil_iff_forall_not_mem]
      intro x hx
      obtain ⟨r, hr, -⟩ := h.all x hx
      cases hr
    subst hs
    rw [addR_nil]
    refine ⟨List.pairwise_singleton _ _, fun r hr => ?_, fun x hx => ?_⟩
    · rw [List.mem_singleton.mp hr]; simp
    · exact ⟨_, List.mem_singleton.mpr rfl, (List.mem_singleton.mp (by simpa using hx)).symm⟩
  · have hL : L = L' ++ [r] := by simpa using hL
    subst hL
    have hup := List.pairwise_append.mp h.up
    have hlow : ∀ q ∈ L', q.f0 < r.f0 := fun q hq => hup.2.2 q hq r (List.mem_singleton.mpr rfl)
    have hr := h.cnt r (List.mem_append_right _ (List.mem_singleton.mpr rfl))
    have hrt := ht _ hr.2
    by_cases he : r.f0 = t
    · subst he
      rw [addR_same]
      refine ⟨?_, fun q hq => ?_, fun x hx => ?_⟩
      · rw [List.pairwise_append]
        refine ⟨hup.1, List.pairwise_singleton _ _, fun a ha b hb => ?_⟩
        rw [List.mem_singleton.mp hb]
        exact hlow a ha
      · rcases List.mem_append.mp hq with hq | hq
        · obtain ⟨h1, h2⟩ := h.cnt q (List.mem_append_left _ hq)
          refine ⟨?_, List.mem_append_left _ h2⟩
          have h3 := hlow q hq
          rw [List.count_append, h1, List.count_singleton]
          rw [if_neg (by simp; omega)]
          simp
        · rw [List.mem_singleton.mp hq]
          refine ⟨?_, List.mem_append_left _ hr.2⟩
          show wrap64 (r.f1 + 1) = _
          have h3 : S.count r.f0 ≤ S.length := List.count_le_length
          rw [List.count_append, List.count_singleton, hr.1]
          simp only [beq_self_eq_true, if_true]
          unfold wrap64
          omega
      · rcases List.mem_append.mp hx with hx | hx
        · obtain ⟨q, hq, rfl⟩ := h.all x hx
          rcases List.mem_append.mp hq with hq | hq
          · exact ⟨q, List.mem_append_left _ hq, rfl⟩
          · rw [List.mem_singleton.mp hq]
            exact ⟨_, List.mem_append_right _ (List.mem_singleton.mpr rfl), rfl⟩
        · rw [List.mem_singleton.mp hx]
          exact ⟨_, List.mem_append_right _ (List.mem_singleton.mpr rfl), rfl⟩
    · rw [addR_new L' r t he]
      have hall : ∀ q ∈ L' ++ [r], q.f0 < t := fun q hq => by
        rcases List.mem_append.mp hq with hq | hq
        · have := hlow q hq
          omega
        · rw [List.mem_singleton.mp hq]; omega
      have hno : t ∉ S := fun hm => by
        obtain ⟨q, hq, h2⟩ := h.all t hm
        have := hall q hq
        omega
      refine ⟨?_, fun q hq => ?_, fun x hx => ?_⟩
      · rw [List.pairwise_append]
        refine ⟨h.up, List.pairwise_singleton _ _, fun a ha b hb => ?_⟩
        rw [List.mem_singleton.mp hb]
        exact hall a ha
      · rcases List.mem_append.mp hq with hq | hq
        · obtain ⟨h1, h2⟩ := h.cnt q hq
          refine ⟨?_, List.mem_append_left _ h2⟩
          have h3 := hall q hq
          rw [List.count_append, h1, List.count_singleton, if_neg (by simp; omega)]
          simp
        · rw [List.mem_singleton.mp hq]
          refine ⟨?_, by simp⟩
          show (1 : Int) = _
          rw [List.count_append, List.count_eq_zero.mpr hno, List.count_singleton]
          simp
      · rcases List.mem_append.mp hx with hx | hx
        · obtain ⟨q, hq, h2⟩ := h.all x hx
          exact ⟨q, List.mem_append_left _ hq, h2⟩
        · rw [List.mem_singleton.mp hx]
          exact ⟨_, List.mem_append_right _ (List.mem_singleton.mpr rfl), rfl⟩
theorem rows_all : ∀ (S2 S1 : List Int) (L : List S70), RowsOK S1 L → (S1 ++ S2).Pairwise (· ≤ ·) → (S1 ++ S2).length ≤ 1000000 → RowsOK (S1 ++ S2) (S2.foldl addR L) := by
  intro S2
  induction S2 with
  | nil => intro S1 L h _ _; rw [List.append_nil]; exact h
  | cons t S2 ih =>
    intro S1 L h hp hl
    have e : S1 ++ t :: S2 = (S1 ++ [t]) ++ S2 := by simp
    rw [List.foldl_cons, e]
    rw [e] at hp hl
    refine ih (S1 ++ [t]) (addR L t) (rows_step h (by simp at hl; omega) t (fun x hx => ?_)) hp hl
    exact (List.pairwise_append.mp (List.pairwise_append.mp hp).1).2.2 x hx t (List.mem_singleton.mpr rfl)
theorem RowsOK.perm {S T : List Int} {L : List S70} (h : RowsOK S L) (hp : S.Perm T) : RowsOK T L :=
  ⟨h.up, fun r hr => ⟨by rw [← hp.count_eq]; exact (h.cnt r hr).1, hp.mem_iff.mp (h.cnt r hr).2⟩, fun x hx => h.all x (hp.mem_iff.mpr hx)⟩
theorem grp_ok (T : List Int) (hT : T.length ≤ 1000000) : RowsOK T (grpR T.length (T.foldl pushL []) []) := by
  have h0 : isHeap [] := fun j _ h => by simp at h
  obtain ⟨hh, hp⟩ := pushes_heap T [] h0
  rw [List.append_nil] at hp
  have hl := hp.length_eq
  rw [grpR_pops]
  have hq := pops_perm T.length _ hl
  have h1 := rows_all (popsL T.length (T.foldl pushL [])) [] [] ⟨List.Pairwise.nil, fun r hr => (by cases hr), fun x hx => (by cases hx)⟩ (by rw [List.nil_append]; exact pops_sorted _ _ hl hh) (by rw [List.nil_append, hq.length_eq, hl]; exact hT)
  rw [List.nil_append] at h1
  exact (h1.perm hq).perm hp
/-- from which time on all up to the time of row k is full, if that row is -/
def sv (L : List S70) (p : Int) : Nat → Int
  | 0 => (rd_T70 L ((0 : Nat) : Int)).f0
  | j + 1 => if (rd_T70 L ((j + 1 : Nat) : Int)).f1 = p ∧ (rd_T70 L (j : Int)).f1 = p ∧ (rd_T70 L (j : Int)).f0 = (rd_T70 L ((j + 1 : Nat) : Int)).f0 - 1 then sv L p j else (rd_T70 L ((j + 1 : Nat) : Int)).f0
theorem rd70_get (L : List S70) (j : Nat) (h : j < L.length) : rd_T70 L (j : Int) = L[j] := by
  unfold rd_T70
  simp [List.getD_eq_getElem?_getD, List.getElem?_eq_getElem h]
theorem rd70_mem (L : List S70) (j : Nat) (h : j < L.length) : rd_T70 L (j : Int) ∈ L := by rw [rd70_get L j h]; exact List.getElem_mem h
theorem RowsOK.lt {S : List Int} {L : List S70} (h : RowsOK S L) {i j : Nat} (hij : i < j) (hj : j < L.length) : (rd_T70 L (i : Int)).f0 < (rd_T70 L (j : Int)).f0 := by
  rw [rd70_get L i (by omega), rd70_get L j hj]
  exact List.pairwise_iff_getElem.mp h.up i j (by omega) hj hij
theorem rd70_set (L : List S70) (i : Int) (h0 : 0 ≤ i) (h : i < (L.length : Int)) (x : S70) (k : Int) (hk : 0 ≤ k) : rd_T70 (L.set i.toNat x) k = if k = i then x else rd_T70 L k := by
  unfold rd_T70
  rw [List.getD_eq_getElem?_getD, List.getD_eq_getElem?_getD, List.getElem?_set]
  by_cases h1 : k = i
  · subst h1
    rw [if_pos rfl, if_pos (by omega), if_pos rfl]
    rfl
  · rw [if_neg (by omega), if_neg h1]
/-- the loop behind the grouping -/
theorem rows_l1 (L : List S70) (p : Int) (hb : ∀ j : Nat, j < L.length → 1 ≤ (rd_T70 L (j : Int)).f0 ∧ (rd_T70 L (j : Int)).f0 ≤ 9223372036854775807) (hn : L.length ≤ 1000000) : ∀ (d i : Nat) (C : List S70), i + d = L.length → C.length = L.length →
    (∀ j : Nat, j < L.length → (rd_T70 C (j : Int)).f0 = (rd_T70 L (j : Int)).f0 ∧ (rd_T70 C (j : Int)).f1 = (rd_T70 L (j : Int)).f1 ∧ (j < i → (rd_T70 C (j : Int)).f2 = sv L p j)) →
    ∃ R : List S70, Ev (fun k => dag_rows.l1 k p C (L.length : Int) (i : Int)) R ∧ R.length = L.length ∧ ∀ j : Nat, j < L.length → (rd_T70 R (j : Int)).f0 = (rd_T70 L (j : Int)).f0 ∧ (rd_T70 R (j : Int)).f1 = (rd_T70 L (j : Int)).f1 ∧ (rd_T70 R (j : Int)).f2 = sv L p j := by
  intro d
  induction d with
  | zero =>
    intro i C hi hC hc
    refine ⟨C, Ev.step (f := fun _ => some C) (fun k => ?_) (Ev.now _), hC, fun j hj => ⟨(hc j hj).1, (hc j hj).2.1, (hc j hj).2.2 (by omega)⟩⟩
    simp only [dag_rows.l1]
    rw [if_neg (by omega)]
  | succ d ih =>
    intro i C hi hC hc
    have hlt : i < L.length := by omega
    obtain ⟨q, hq⟩ : ∃ q, q = C.set (i : Int).toNat (⟨(rd_T70 C (i : Int)).f0, (rd_T70 C (i : Int)).f1, (rd_T70 C (i : Int)).f0⟩ : S70) := ⟨_, rfl⟩
    have hql : q.length = L.length := by rw [hq, List.length_set, hC]
    have hrd : ∀ k : Int, 0 ≤ k → rd_T70 q k = if k = (i : Int) then ⟨(rd_T70 C (i : Int)).f0, (rd_T70 C (i : Int)).f1, (rd_T70 C (i : Int)).f0⟩ else rd_T70 C k := fun k hk => by
      rw [hq]
      exact rd70_set C (i : Int) (by omega) (by omega) _ k hk
    have hci := hc i hlt
    have hqi : rd_T70 q (i : Int) = ⟨(rd_T70 L (i : Int)).f0, (rd_T70 L (i : Int)).f1, (rd_T70 L (i : Int)).f0⟩ := by
      rw [hrd _ (by omega), if_pos rfl, hci.1, hci.2.1]
    have hw : wrap64 ((i : Int) + 1) = ((i + 1 : Nat) : Int) := w64s (by omega)
    -- the row as it stands, when the one ahead does not join
    have plain : sv L p i = (rd_T70 L (i : Int)).f0 → ∀ j : Nat, j < L.length → (rd_T70 q (j : Int)).f0 = (rd_T70 L (j : Int)).f0 ∧ (rd_T70 q (j : Int)).f1 = (rd_T70 L (j : Int)).f1 ∧ (j < i + 1 → (rd_T70 q (j : Int)).f2 = sv L p j) := by
      intro hs j hj
      by_cases e : j = i
      · subst e
        rw [hqi]
        exact ⟨rfl, rfl, fun _ => hs.symm⟩
      · rw [hrd _ (by omega), if_neg (by omega)]
        exact ⟨(hc j hj).1, (hc j hj).2.1, fun h => (hc j hj).2.2 (by omega)⟩
    have head : ∀ r, Ev (fun k => if (i : Int) > 0 then (if ((rd_T70 q (i : Int)).f1) = p then (if 0 ≤ (wrap64 ((i : Int) - 1)) then (if (wrap64 ((i : Int) - 1)) < (C.length : Int) then (if ((rd_T70 q (wrap64 ((i : Int) - 1))).f1) = p then (if ((rd_T70 q (wrap64 ((i : Int) - 1))).f0) = (wrap64 (((rd_T70 q (i : Int)).f0) - 1)) then (dag_rows.l1 k p (q.set (i : Int).toNat (⟨(rd_T70 q (i : Int)).f0, (rd_T70 q (i : Int)).f1, (rd_T70 q (wrap64 ((i : Int) - 1))).f2⟩ : S70)) (L.length : Int) (wrap64 ((i : Int) + 1))) else (dag_rows.l1 k p q (L.length : Int) (wrap64 ((i : Int) + 1)))) else (dag_rows.l1 k p q (L.length : Int) (wrap64 ((i : Int) + 1)))) else (none)) else (none)) else (dag_rows.l1 k p q (L.length : Int) (wrap64 ((i : Int) + 1)))) else (dag_rows.l1 k p q (L.length : Int) (wrap64 ((i : Int) + 1)))) r → Ev (fun k => dag_rows.l1 k p C (L.length : Int) (i : Int)) r := by
      intro r hr
      refine Ev.step (fun k => ?_) hr
      simp only [dag_rows.l1]
      rw [if_pos (by omega), if_pos (by omega), if_pos (by omega), ← hq, Option.bind_some]
    by_cases h0 : i = 0
    · subst h0
      obtain ⟨R, hR, h⟩ := ih 1 q (by omega) hql (plain rfl)
      refine ⟨R, head R ?_, h⟩
      refine Ev.congr (f := fun k => dag_rows.l1 k p q (L.length : Int) ((1 : Nat) : Int)) (fun k => ?_) hR
      rw [if_neg (by omega), hw]
    · obtain ⟨m, rfl⟩ : ∃ m, i = m + 1 := ⟨i - 1, by omega⟩
      have hwm : wrap64 (((m + 1 : Nat) : Int) - 1) = (m : Int) := by rw [w64 (by omega) (by omega)]; omega
      have hqm : rd_T70 q (m : Int) = rd_T70 C (m : Int) := by rw [hrd _ (by omega), if_neg (by omega)]
      have hcm := hc m (by omega)
      have hw2 : wrap64 ((rd_T70 L ((m + 1 : Nat) : Int)).f0 - 1) = (rd_T70 L ((m + 1 : Nat) : Int)).f0 - 1 := by
        have := hb (m + 1) hlt
        exact w64 (by omega) (by omega)
      have joined : ∀ h : (rd_T70 L ((m + 1 : Nat) : Int)).f1 = p ∧ (rd_T70 L (m : Int)).f1 = p ∧ (rd_T70 L (m : Int)).f0 = (rd_T70 L ((m + 1 : Nat) : Int)).f0 - 1, sv L p (m + 1) = sv L p m := fun h => by rw [sv, if_pos h]
      have apart : ∀ h : ¬ ((rd_T70 L ((m + 1 : Nat) : Int)).f1 = p ∧ (rd_T70 L (m : Int)).f1 = p ∧ (rd_T70 L (m : Int)).f0 = (rd_T70 L ((m + 1 : Nat) : Int)).f0 - 1), sv L p (m + 1) = (rd_T70 L ((m + 1 : Nat) : Int)).f0 := fun h => by rw [sv, if_neg h]
      by_cases c1 : (rd_T70 L ((m + 1 : Nat) : Int)).f1 = p
      · by_cases c2 : (rd_T70 L (m : Int)).f1 = p
        · by_cases c3 : (rd_T70 L (m : Int)).f0 = (rd_T70 L ((m + 1 : Nat) : Int)).f0 - 1
          · obtain ⟨q2, hq2⟩ : ∃ q2, q2 = q.set ((m + 1 : Nat) : Int).toNat (⟨(rd_T70 q ((m + 1 : Nat) : Int)).f0, (rd_T70 q ((m + 1 : Nat) : Int)).f1, (rd_T70 q (m : Int)).f2⟩ : S70) := ⟨_, rfl⟩
            have hrd2 : ∀ k : Int, 0 ≤ k → rd_T70 q2 k = if k = ((m + 1 : Nat) : Int) then ⟨(rd_T70 q ((m + 1 : Nat) : Int)).f0, (rd_T70 q ((m + 1 : Nat) : Int)).f1, (rd_T70 q (m : Int)).f2⟩ else rd_T70 q k := fun k hk => by
              rw [hq2]
              exact rd70_set q ((m + 1 : Nat) : Int) (by omega) (by omega) _ k hk
            obtain ⟨R, hR, h⟩ := ih (m + 1 + 1) q2 (by omega) (by rw [hq2, List.length_set, hql]) (fun j hj => by
              by_cases e : j = m + 1
              · subst e
                rw [hrd2 _ (by omega), if_pos rfl, hqi, hqm]
                exact ⟨rfl, rfl, fun _ => by rw [joined ⟨c1, c2, c3⟩]; exact hcm.2.2 (by omega)⟩
              · rw [hrd2 _ (by omega), if_neg (by omega), hrd _ (by omega), if_neg (by omega)]
                exact ⟨(hc j hj).1, (hc j hj).2.1, fun h => (hc j hj).2.2 (by omega)⟩)
            refine ⟨R, head R ?_, h⟩
            refine Ev.congr (f := fun k => dag_rows.l1 k p q2 (L.length : Int) ((m + 1 + 1 : Nat) : Int)) (fun k => ?_) hR
            rw [if_pos (by omega), hqi, if_pos c1, hwm, if_pos (by omega), if_pos (by omega), if_pos (by rw [hqm, hcm.2.1]; exact c2), if_pos (by rw [hqm, hcm.1]; show _ = wrap64 ((rd_T70 L ((m + 1 : Nat) : Int)).f0 - 1); rw [hw2]; exact c3), hw, hq2, hqi]
          · obtain ⟨R, hR, h⟩ := ih (m + 1 + 1) q (by omega) hql (plain (apart (fun h => c3 h.2.2)))
            refine ⟨R, head R ?_, h⟩
            refine Ev.congr (f := fun k => dag_rows.l1 k p q (L.length : Int) ((m + 1 + 1 : Nat) : Int)) (fun k => ?_) hR
            rw [if_pos (by omega), hqi, if_pos c1, hwm, if_pos (by omega), if_pos (by omega), if_pos (by rw [hqm, hcm.2.1]; exact c2), if_neg (by rw [hqm, hcm.1]; show ¬ _ = wrap64 ((rd_T70 L ((m + 1 : Nat) : Int)).f0 - 1); rw [hw2]; exact c3), hw]
        · obtain ⟨R, hR, h⟩ := ih (m + 1 + 1) q (by omega) hql (plain (apart (fun h => c2 h.2.1)))
          refine ⟨R, head R ?_, h⟩
          refine Ev.congr (f := fun k => dag_rows.l1 k p q (L.length : Int) ((m + 1 + 1 : Nat) : Int)) (fun k => ?_) hR
          rw [if_pos (by omega), hqi, if_pos c1, hwm, if_pos (by omega), if_pos (by omega), if_neg (by rw [hqm, hcm.2.1]; exact c2), hw]
      · obtain ⟨R, hR, h⟩ := ih (m + 1 + 1) q (by omega) hql (plain (apart (fun h => c1 h.1)))
        refine ⟨R, head R ?_, h⟩
        refine Ev.congr (f := fun k => dag_rows.l1 k p q (L.length : Int) ((m + 1 + 1 : Nat) : Int)) (fun k => ?_) hR
        rw [if_pos (by omega), hqi, if_neg c1, hw]
end Go.Proofs.Ytbahnialbffkeaa.P
namespace Go.Proofs.Ytbahnialbffkeaa.P
open Go.RowKit Go.Proofs.YtbahnialbffkeaaW.PrintWords Go.Proofs.YtbahnialbffkeaaW.PrintLast Go.Proofs.YtbahnialbffkeaaW.PrintMore
set_option linter.unusedVariables false

/-- the nodes that are ahead of node i by one edge, in the edges' order -/
def preds (l : List S50) (i : Nat) : List Int := (l.filter (fun e => e.f1 = (i : Int))).map (·.f0)
theorem preds_snoc (l : List S50) (e : S50) (i : Nat) : preds (l ++ [e]) i = if e.f1 = (i : Int) then preds l i ++ [e.f0] else preds l i := by
  unfold preds
  by_cases h : e.f1 = (i : Int) <;> simp [List.filter_append, h]
theorem preds_mem {l : List S50} {i : Nat} {k : Int} (h : k ∈ preds l i) : ∃ e ∈ l, e.f1 = (i : Int) ∧ e.f0 = k := by
  unfold preds at h
  simp only [List.mem_map, List.mem_filter, decide_eq_true_eq] at h
  obtain ⟨e, ⟨he, h1⟩, h2⟩ := h
  exact ⟨e, he, h1, h2⟩
theorem mem_preds {l : List S50} {e : S50} (he : e ∈ l) (h0 : 0 ≤ e.f1) : e.f0 ∈ preds l e.f1.toNat := by
  unfold preds
  simp only [List.mem_map, List.mem_filter, decide_eq_true_eq]
  exact ⟨e, ⟨he, by omega⟩, rfl⟩
end Go.Proofs.Ytbahnialbffkeaa.P
namespace Go.Proofs.Ytbahnialbffkeaa.P
open Go.RowKit Go.Proofs.YtbahnialbffkeaaW.PrintWords Go.Proofs.YtbahnialbffkeaaW.PrintLast Go.Proofs.YtbahnialbffkeaaW.PrintMore
set_option linter.unusedVariables false
set_option linter.unusedSimpArgs false
theorem sv_le {S : List Int} {L : List S70} (h : RowsOK S L) (p : Int) : ∀ k : Nat, k < L.length → sv L p k ≤ (rd_T70 L (k : Int)).f0 := by
  intro k
  induction k with
  | zero => intro _; rw [sv]; exact Int.le_refl _
  | succ k ih =>
    intro hk
    have := ih (by omega)
    have := h.lt (i := k) (j := k + 1) (by omega) hk
    rw [sv]
    split <;> omega
theorem RowsOK.at {S : List Int} {L : List S70} (h : RowsOK S L) {t : Int} (ht : t ∈ S) : ∃ j : Nat, j < L.length ∧ (rd_T70 L (j : Int)).f0 = t := by
  obtain ⟨r, hr, rfl⟩ := h.all t ht
  obtain ⟨j, hj, rfl⟩ := List.mem_iff_getElem.mp hr
  exact ⟨j, hj, by rw [rd70_get L j hj]⟩
theorem RowsOK.f1 {S : List Int} {L : List S70} (h : RowsOK S L) {j : Nat} (hj : j < L.length) : (rd_T70 L (j : Int)).f1 = (S.count (rd_T70 L (j : Int)).f0 : Int) := (h.cnt _ (rd70_mem L j hj)).1
theorem sv_full {S : List Int} {L : List S70} (h : RowsOK S L) (p : Int) (hp : 1 ≤ p) (lo : Int) : ∀ k : Nat, k < L.length → (rd_T70 L (k : Int)).f1 = p → lo ≤ (rd_T70 L (k : Int)).f0 →
    (sv L p k ≤ lo ↔ ∀ t, lo ≤ t → t ≤ (rd_T70 L (k : Int)).f0 → (S.count t : Int) = p) := by
  -- a full time just ahead of row k belongs to the row ahead
  have ahead : ∀ k : Nat, k < L.length → (S.count ((rd_T70 L (k : Int)).f0 - 1) : Int) = p → ∃ m : Nat, k = m + 1 ∧ (rd_T70 L (m : Int)).f1 = p ∧ (rd_T70 L (m : Int)).f0 = (rd_T70 L (k : Int)).f0 - 1 := by
    intro k hk hc
    have hm : (rd_T70 L (k : Int)).f0 - 1 ∈ S := by
      rw [← List.count_pos_iff]
      omega
    obtain ⟨j, hj, he⟩ := h.at hm
    have hjk : j < k := by
      rcases Nat.lt_trichotomy j k with h1 | h1 | h1
      · exact h1
      · subst h1; omega
      · have := h.lt h1 hj; omega
    refine ⟨k - 1, by omega, ?_, ?_⟩
    · by_cases e : j = k - 1
      · rw [← e, h.f1 hj, he]; exact hc
      · have h2 := h.lt (i := j) (j := k - 1) (by omega) (by omega)
        have h3 := h.lt (i := k - 1) (j := k) (by omega) hk
        omega
    · by_cases e : j = k - 1
      · rw [← e]; exact he
      · have h2 := h.lt (i := j) (j := k - 1) (by omega) (by omega)
        have h3 := h.lt (i := k - 1) (j := k) (by omega) hk
        omega
  intro k
  induction k with
  | zero =>
    intro hk h1 hlo
    rw [sv]
    constructor
    · intro h2 t ht1 ht2
      rw [show t = (rd_T70 L ((0 : Nat) : Int)).f0 from by omega, ← h.f1 hk]
      exact h1
    · intro h2
      by_cases e : (rd_T70 L ((0 : Nat) : Int)).f0 = lo
      · omega
      · obtain ⟨m, hm, -⟩ := ahead 0 hk (h2 _ (by omega) (by omega))
        omega
  | succ k ih =>
    intro hk h1 hlo
    have hsv := sv_le h p k (by omega)
    by_cases c : (rd_T70 L ((k + 1 : Nat) : Int)).f1 = p ∧ (rd_T70 L (k : Int)).f1 = p ∧ (rd_T70 L (k : Int)).f0 = (rd_T70 L ((k + 1 : Nat) : Int)).f0 - 1
    · rw [sv, if_pos c]
      by_cases e : lo = (rd_T70 L ((k + 1 : Nat) : Int)).f0
      · constructor
        · intro _ t ht1 ht2
          rw [show t = (rd_T70 L ((k + 1 : Nat) : Int)).f0 from by omega, ← h.f1 hk]
          exact h1
        · intro _; omega
      · rw [ih (by omega) c.2.1 (by omega)]
        constructor
        · intro h2 t ht1 ht2
          by_cases e2 : t = (rd_T70 L ((k + 1 : Nat) : Int)).f0
          · rw [e2, ← h.f1 hk]; exact h1
          · exact h2 t ht1 (by omega)
        · intro h2 t ht1 ht2
          exact h2 t ht1 (by omega)
    · rw [sv, if_neg c]
      constructor
      · intro h2 t ht1 ht2
        rw [show t = (rd_T70 L ((k + 1 : Nat) : Int)).f0 from by omega, ← h.f1 hk]
        exact h1
      · intro h2
        by_cases e : (rd_T70 L ((k + 1 : Nat) : Int)).f0 = lo
        · omega
        · obtain ⟨m, hm, h3, h4⟩ := ahead (k + 1) hk (h2 _ (by omega) (by omega))
          obtain rfl : m = k := by omega
          exact absurd ⟨h1, h3, h4⟩ c
/-- where the bisection ends -/
theorem bisect_is (R : List S70) (t : Int) (hup : ∀ i j : Nat, i < j → j < R.length → (rd_T70 R (i : Int)).f0 < (rd_T70 R (j : Int)).f0) : ∀ (d lo hi : Nat), lo ≤ hi → hi ≤ R.length → hi - lo ≤ d →
    (∀ j : Nat, j < lo → (rd_T70 R (j : Int)).f0 < t) → (hi < R.length → (rd_T70 R (hi : Int)).f0 ≥ t) →
    (∀ j : Nat, j < bisect R t d lo hi → (rd_T70 R (j : Int)).f0 < t) ∧ (bisect R t d lo hi < R.length → (rd_T70 R (bisect R t d lo hi : Nat)).f0 ≥ t) := by
  intro d
  induction d with
  | zero =>
    intro lo hi h1 h2 h3 ha hb
    obtain rfl : lo = hi := by omega
    exact ⟨ha, hb⟩
  | succ d ih =>
    intro lo hi h1 h2 h3 ha hb
    rw [bisect]
    by_cases c : lo < hi
    · rw [if_pos c]
      by_cases c2 : (rd_T70 R ((lo + hi) / 2 : Nat)).f0 ≥ t
      · rw [if_pos c2]
        exact ih lo ((lo + hi) / 2) (by omega) (by omega) (by omega) ha (fun _ => c2)
      · rw [if_neg c2]
        refine ih ((lo + hi) / 2 + 1) hi (by omega) h2 (by omega) (fun j hj => ?_) hb
        by_cases e : j = (lo + hi) / 2
        · rw [e]; omega
        · have := hup j ((lo + hi) / 2) (by omega) (by omega)
          omega
    · rw [if_neg c]
      obtain rfl : lo = hi := by omega
      exact ⟨ha, hb⟩
theorem fullB_is {S : List Int} {L R : List S70} (h : RowsOK S L) (p : Int) (hp : 1 ≤ p) (hR : R.length = L.length) (hr : ∀ j : Nat, j < L.length → (rd_T70 R (j : Int)).f0 = (rd_T70 L (j : Int)).f0 ∧ (rd_T70 R (j : Int)).f1 = (rd_T70 L (j : Int)).f1 ∧ (rd_T70 R (j : Int)).f2 = sv L p j)
    (lo hi : Int) (hlh : lo ≤ hi) : fullB R p lo hi = true ↔ ∀ t, lo ≤ t → t ≤ hi → (S.count t : Int) = p := by
  have hb := bisect_is R hi (fun i j hij hj => by rw [(hr i (by omega)).1, (hr j (by omega)).1]; exact h.lt hij (by omega)) R.length 0 R.length (by omega) (by omega) (by omega) (fun j hj => by omega) (fun hj => by omega)
  unfold fullB
  generalize bisect R hi R.length 0 R.length = K at hb ⊢
  simp only [Bool.and_eq_true, decide_eq_true_eq, beq_iff_eq]
  constructor
  · rintro ⟨⟨⟨h1, h2⟩, h3⟩, h4⟩
    have hk := hr K (by omega)
    have := (sv_full h p hp lo K (by omega) (by rw [← hk.2.1]; exact h3) (by rw [← hk.1, h2]; exact hlh)).mp (by rw [← hk.2.2]; exact h4)
    intro t ht1 ht2
    exact this t ht1 (by rw [← hk.1, h2]; exact ht2)
  · intro h1
    have hm : hi ∈ S := by
      rw [← List.count_pos_iff]
      have := h1 hi hlh (by omega)
      omega
    obtain ⟨j, hj, he⟩ := h.at hm
    have hKj : K = j := by
      rcases Nat.lt_trichotomy K j with h2 | h2 | h2
      · have h3 := hb.2 (by omega)
        have h4 := h.lt h2 hj
        rw [← (hr K (by omega)).1] at h4
        omega
      · exact h2
      · have h3 := hb.1 j h2
        rw [(hr j hj).1] at h3
        omega
    subst hKj
    have hk := hr K hj
    have h2 : (rd_T70 R (K : Int)).f1 = p := by rw [hk.2.1, h.f1 hj, he]; exact h1 hi hlh (by omega)
    refine ⟨⟨⟨by omega, by rw [hk.1]; exact he⟩, h2⟩, ?_⟩
    rw [hk.2.2]
    exact (sv_full h p hp lo K hj (by rw [← hk.2.1]; exact h2) (by rw [he]; exact hlh)).mpr (fun t ht1 ht2 => h1 t ht1 (by rw [he] at ht2; exact ht2))
def posT (T : List Int) : Prop := ∀ x ∈ T, 1 ≤ x
def capT (T : List Int) (p : Int) : Prop := ∀ x ∈ T, (T.count x : Int) ≤ p
def ordT (l : List S50) (T : List Int) : Prop := ∀ e ∈ l, rd T e.f0 < rd T e.f1
/-- no time at which a node waits for nothing but a processor, and one stands idle -/
def busy (n : Nat) (l : List S50) (p : Int) (T : List Int) : Prop := ∀ i : Nat, i < n → ∀ t, 1 ≤ t → t < rd T (i : Int) → (∀ k ∈ preds l i, rd T k < t) → (T.count t : Int) = p
open Classical in
noncomputable def vdt (n : Nat) (l : List S50) (p : Int) (T : List Int) : Int := if posT T ∧ capT T p ∧ ordT l T then (if busy n l p T then 2 else 1) else 0
open Classical in
noncomputable def jdg (n : Int) (l : List S50) (p : Int) (T : List Int) : Int × Int :=
  if chk n l = 0 then (if p < 1 ∨ p > 64 then (0, 3) else if (T.length : Int) = n then (vdt n.toNat l p T, 0) else (0, 72)) else (0, chk n l)
theorem vdt_no {n : Nat} {l : List S50} {p : Int} {T : List Int} (h : ¬ (posT T ∧ capT T p ∧ ordT l T)) : vdt n l p T = 0 := by unfold vdt; rw [if_neg h]
theorem vdt_lazy {n : Nat} {l : List S50} {p : Int} {T : List Int} (h : posT T ∧ capT T p ∧ ordT l T) (h2 : ¬ busy n l p T) : vdt n l p T = 1 := by unfold vdt; rw [if_pos h, if_neg h2]
theorem vdt_busy {n : Nat} {l : List S50} {p : Int} {T : List Int} (h : posT T ∧ capT T p ∧ ordT l T) (h2 : busy n l p T) : vdt n l p T = 2 := by unfold vdt; rw [if_pos h, if_pos h2]
/-- since when a node can be done -/
def snc (l : List S50) (T : List Int) (i : Nat) : Int := (preds l i).foldl (fun a k => mx a (rd T k + 1)) 1
theorem snc_le (l : List S50) (T : List Int) (i : Nat) (t : Int) : snc l T i ≤ t ↔ 1 ≤ t ∧ ∀ k ∈ preds l i, rd T k < t := by
  have key : ∀ (row : List Int) (a : Int), row.foldl (fun a k => mx a (rd T k + 1)) a ≤ t ↔ a ≤ t ∧ ∀ k ∈ row, rd T k < t := by
    intro row
    induction row with
    | nil => intro a; simp
    | cons x row ih =>
      intro a
      rw [List.foldl_cons, ih]
      constructor
      · rintro ⟨h1, h2⟩
        unfold mx at h1
        refine ⟨by omega, fun k hk => ?_⟩
        rcases List.mem_cons.mp hk with rfl | hk
        · omega
        · exact h2 k hk
      · rintro ⟨h1, h2⟩
        have := h2 x List.mem_cons_self
        refine ⟨by unfold mx; omega, fun k hk => h2 k (List.mem_cons_of_mem _ hk)⟩
  exact key _ _
theorem snc_snoc (l : List S50) (T : List Int) (e : S50) (i : Nat) : snc (l ++ [e]) T i = if e.f1 = (i : Int) then mx (snc l T i) (rd T e.f0 + 1) else snc l T i := by
  unfold snc
  rw [preds_snoc]
  split
  · rw [List.foldl_append]; rfl
  · rfl
end Go.Proofs.Ytbahnialbffkeaa.P
namespace Go.Proofs.Ytbahnialbffkeaa.P
open Go.RowKit Go.Proofs.YtbahnialbffkeaaW.PrintWords Go.Proofs.YtbahnialbffkeaaW.PrintLast Go.Proofs.YtbahnialbffkeaaW.PrintMore
set_option linter.unusedVariables false
set_option linter.unusedSimpArgs false
theorem grpR_length : ∀ (d : Nat) (H : List Int) (L : List S70), (grpR d H L).length ≤ L.length + d := by
  intro d
  induction d with
  | zero => intro H L; rw [grpR]; omega
  | succ d ih =>
    intro H L
    rw [grpR]
    have := ih (popL H) (addR L (H.getD 0 0))
    have := addR_length L (H.getD 0 0)
    omega
theorem rd_lt_mem {T : List Int} {i : Nat} (h : i < T.length) : rd T (i : Int) ∈ T := by rw [rdi T i h]; exact List.getElem_mem h
theorem rd_setJ (T : List Int) (i k t : Int) (h0 : 0 ≤ i) (hk : 0 ≤ k) : rd (T.set i.toNat t) k = if k = i ∧ i < (T.length : Int) then t else rd T k := by
  unfold rd
  rw [List.getD_eq_getElem?_getD, List.getD_eq_getElem?_getD, List.getElem?_set]
  by_cases h1 : k = i
  · subst h1
    by_cases h2 : k < (T.length : Int)
    · rw [if_pos rfl, if_pos (by omega), if_pos ⟨rfl, h2⟩]; rfl
    · rw [if_pos rfl, if_neg (by omega), if_neg (fun h => h2 h.2), List.getElem?_eq_none (by omega)]
  · rw [if_neg (by omega), if_neg (fun h => h1 h.1)]
theorem full_f (R : List S70) (hR : R.length ≤ 1000000) (p lo hi : Int) (k : Nat) : dag_full.f k R p lo hi = some (fullB R p lo hi) := by
  unfold dag_full.f
  rw [if_pos hR]
/-- the last loop -/
theorem judge_l4 {L R : List S70} {T : List Int} (h : RowsOK T L) (p : Int) (hp : 1 ≤ p) (hR : R.length = L.length) (hRn : R.length ≤ 1000000) (hr : ∀ j : Nat, j < L.length → (rd_T70 R (j : Int)).f0 = (rd_T70 L (j : Int)).f0 ∧ (rd_T70 R (j : Int)).f1 = (rd_T70 L (j : Int)).f1 ∧ (rd_T70 R (j : Int)).f2 = sv L p j)
    (l : List S50) (X : List Int) (hX : X.length = T.length) (hx : ∀ i : Nat, i < T.length → rd X (i : Int) = snc l T i) (hT : T.length ≤ 4096) (hb : ∀ x ∈ T, 1 ≤ x ∧ x ≤ 9223372036854775807) : ∀ (d i : Nat), i + d = T.length →
    ((∀ j : Nat, i ≤ j → j < T.length → ∀ t, snc l T j ≤ t → t < rd T (j : Int) → (T.count t : Int) = p) → Ev (fun k => dag_Judge.l4 k p R X T (T.length : Int) (i : Int)) (2, 0)) ∧
    (¬ (∀ j : Nat, i ≤ j → j < T.length → ∀ t, snc l T j ≤ t → t < rd T (j : Int) → (T.count t : Int) = p) → Ev (fun k => dag_Judge.l4 k p R X T (T.length : Int) (i : Int)) (1, 0)) := by
  intro d
  induction d with
  | zero =>
    intro i hi
    refine ⟨fun _ => Ev.step (f := fun _ => some (2, 0)) (fun k => ?_) (Ev.now _), fun h2 => absurd (fun j h3 h4 => by omega) h2⟩
    simp only [dag_Judge.l4]
    rw [if_neg (by omega)]
  | succ d ih =>
    intro i hi
    have hlt : i < T.length := by omega
    have hbi := hb _ (rd_lt_mem hlt)
    have hxi := hx i hlt
    have next : ∀ r, Ev (fun k => dag_Judge.l4 k p R X T (T.length : Int) ((i + 1 : Nat) : Int)) r → (snc l T i < rd T (i : Int) → fullB R p (snc l T i) (rd T (i : Int) - 1) = true) → Ev (fun k => dag_Judge.l4 k p R X T (T.length : Int) (i : Int)) r := by
      intro r hr2 hf
      refine Ev.step (fun k => ?_) hr2
      simp only [dag_Judge.l4]
      rw [if_pos (by omega), if_pos (by omega), if_pos (by omega), if_pos (by omega), hxi]
      by_cases c : snc l T i < rd T (i : Int)
      · rw [if_pos c, w64 (x := rd T (i : Int) - 1) (by omega) (by omega), full_f R hRn, Option.bind_some, if_pos (hf c), w64s (by omega)]
      · rw [if_neg c, w64s (by omega)]
    have hfi : snc l T i < rd T (i : Int) → (fullB R p (snc l T i) (rd T (i : Int) - 1) = true ↔ ∀ t, snc l T i ≤ t → t < rd T (i : Int) → (T.count t : Int) = p) := fun c => by
      rw [fullB_is h p hp hR hr _ _ (by omega)]
      constructor
      · intro h2 t h3 h4; exact h2 t h3 (by omega)
      · intro h2 t h3 h4; exact h2 t h3 (by omega)
    constructor
    · intro hall
      exact next _ ((ih (i + 1) (by omega)).1 (fun j h1 h2 => hall j (by omega) h2)) (fun c => (hfi c).mpr (hall i (Nat.le_refl _) hlt))
    · intro hno
      by_cases hi2 : ∀ t, snc l T i ≤ t → t < rd T (i : Int) → (T.count t : Int) = p
      · refine next _ ((ih (i + 1) (by omega)).2 (fun h2 => hno (fun j h3 h4 => ?_))) (fun c => (hfi c).mpr hi2)
        by_cases e : j = i
        · subst e; exact hi2
        · exact h2 j (by omega) h4
      · have c : snc l T i < rd T (i : Int) := by
          refine Classical.byContradiction (fun c => hi2 (fun t h1 h2 => ?_))
          omega
        refine Ev.step (f := fun _ => some (1, 0)) (fun k => ?_) (Ev.now _)
        simp only [dag_Judge.l4]
        rw [if_pos (by omega), if_pos (by omega), if_pos (by omega), if_pos (by omega), hxi, if_pos c, w64 (x := rd T (i : Int) - 1) (by omega) (by omega), full_f R hRn, Option.bind_some, if_neg (fun h2 => hi2 ((hfi c).mp h2))]
/-- the loop over the edges -/
theorem judge_l3 (n : Nat) (l : List S50) (hok : ∀ e ∈ l, okE (n : Int) e) (hl : l.length ≤ 16384) (p : Int) (R : List S70) (T : List Int) (hT : T.length = n) (hn : n ≤ 4096) (hb : ∀ x ∈ T, 1 ≤ x ∧ x ≤ 9223372036854775807) (r : Int × Int)
    (next : ∀ X : List Int, X.length = n → (∀ i : Nat, i < n → rd X (i : Int) = snc l T i) → ordT l T → Ev (fun k => dag_Judge.l4 k p R X T (T.length : Int) 0) r) (hno : ¬ ordT l T → r = (0, 0)) :
    ∀ (d j : Nat) (X : List Int), j + d = l.length → X.length = n → (∀ i : Nat, i < n → rd X (i : Int) = snc (l.take j) T i) → (∀ e ∈ l.take j, rd T e.f0 < rd T e.f1) →
    Ev (fun k => dag_Judge.l3 k p T R X l (l.length : Int) (j : Int)) r := by
  intro d
  induction d with
  | zero =>
    intro j X hj hX hx ho
    rw [List.take_of_length_le (by omega)] at hx ho
    refine Ev.step (fun k => ?_) (next X hX hx ho)
    simp only [dag_Judge.l3]
    rw [if_neg (by omega)]
  | succ d ih =>
    intro j X hj hX hx ho
    have hlt : j < l.length := by omega
    obtain ⟨e, hee⟩ : ∃ e, e = l[j] := ⟨_, rfl⟩
    have hmem : e ∈ l := by rw [hee]; exact List.getElem_mem hlt
    obtain ⟨b1, b2, b3⟩ := hok e hmem
    have htake : l.take (j + 1) = l.take j ++ [e] := by rw [hee, List.take_succ_eq_append_getElem hlt]
    by_cases c : rd T e.f0 ≥ rd T e.f1
    · rw [hno (fun h => by have := h e hmem; omega)]
      refine Ev.step (f := fun _ => some (0, 0)) (fun k => ?_) (Ev.now _)
      simp only [dag_Judge.l3]
      rw [if_pos (by omega), if_pos (by omega), if_pos (by omega), rd50 l j hlt, ← hee, if_pos b1, if_pos (by omega), if_pos (by omega), if_pos (by omega), if_pos c]
    · have e0 : ((e.f0.toNat : Nat) : Int) = e.f0 := by omega
      have e1 : ((e.f1.toNat : Nat) : Int) = e.f1 := by omega
      have hb0 := hb _ (rd_lt_mem (T := T) (i := e.f0.toNat) (by omega))
      have hb1 := hb _ (rd_lt_mem (T := T) (i := e.f1.toNat) (by omega))
      rw [e0] at hb0
      rw [e1] at hb1
      refine Ev.step (f := fun k => dag_Judge.l3 k p T R (X.set e.f1.toNat (mx (rd X e.f1) (rd T e.f0 + 1))) l (l.length : Int) ((j + 1 : Nat) : Int)) (fun k => ?_) (ih (j + 1) _ (by omega) (by rw [List.length_set]; exact hX) (fun i hi => ?_) (fun e' he' => ?_))
      · simp only [dag_Judge.l3]
        rw [if_pos (by omega), if_pos (by omega), if_pos (by omega), rd50 l j hlt, ← hee, if_pos b1, if_pos (by omega), if_pos (by omega), if_pos (by omega), if_neg c, if_pos (by omega), w64 (x := rd T e.f0 + 1) (by omega) (by omega), w64s (by omega)]
      · rw [htake, snc_snoc, rd_setJ X e.f1 (i : Int) _ (by omega) (by omega)]
        by_cases hk : e.f1 = (i : Int)
        · rw [if_pos ⟨hk.symm, by omega⟩, if_pos hk, hk, hx i hi]
        · rw [if_neg (fun h => hk h.1.symm), if_neg hk, hx i hi]
      · rw [htake] at he'
        rcases List.mem_append.mp he' with h | h
        · exact ho e' h
        · rw [List.mem_singleton.mp h]; omega
/-- all from 1 on -/
theorem judge_l2 (n : Nat) (l : List S50) (p : Int) (R : List S70) (T : List Int) (hn : n ≤ 4096) (r : Int × Int)
    (next : ∀ X : List Int, X.length = n → (∀ i : Nat, i < n → rd X (i : Int) = 1) → Ev (fun k => dag_Judge.l3 k p T R X l (l.length : Int) 0) r) :
    ∀ (d i : Nat) (X : List Int), i + d = n → X.length = n → (∀ j : Nat, j < i → rd X (j : Int) = 1) → Ev (fun k => dag_Judge.l2 k p T R X (n : Int) (i : Int) (n : Int) l) r := by
  intro d
  induction d with
  | zero =>
    intro i X hi hX hx
    refine Ev.step (fun k => ?_) (next X hX (fun j hj => hx j (by omega)))
    simp only [dag_Judge.l2]
    rw [if_neg (by omega)]
  | succ d ih =>
    intro i X hi hX hx
    refine Ev.step (f := fun k => dag_Judge.l2 k p T R (X.set (i : Int).toNat 1) (n : Int) ((i + 1 : Nat) : Int) (n : Int) l) (fun k => ?_) (ih (i + 1) _ (by omega) (by rw [List.length_set]; exact hX) (fun j hj => ?_))
    · simp only [dag_Judge.l2]
      rw [if_pos (by omega), if_pos (by omega), if_pos (by omega), w64s (by omega)]
    · rw [rd_setJ X (i : Int) (j : Int) 1 (by omega) (by omega)]
      by_cases e : (j : Int) = (i : Int)
      · rw [if_pos ⟨e, by omega⟩]
      · rw [if_neg (fun h => e h.1), hx j (by omega)]
/-- the loop over the rows -/
theorem judge_l1 (n : Nat) (l : List S50) (p : Int) (R : List S70) (T : List Int) (hn : n ≤ 4096) (hR : R.length ≤ 1000000) (r : Int × Int)
    (next : (∀ j : Nat, j < R.length → (rd_T70 R (j : Int)).f1 ≤ p) → Ev (fun k => dag_Judge.l2 k p T R (List.replicate n 0) (n : Int) 0 (n : Int) l) r) (hno : (∃ j : Nat, j < R.length ∧ (rd_T70 R (j : Int)).f1 > p) → r = (0, 0)) :
    ∀ (d i : Nat), i + d = R.length → (∀ j : Nat, j < i → (rd_T70 R (j : Int)).f1 ≤ p) → Ev (fun k => dag_Judge.l1 k p T R R (R.length : Int) (i : Int) (n : Int) l) r := by
  intro d
  induction d with
  | zero =>
    intro i hi hx
    refine Ev.step (fun k => ?_) (next (fun j hj => hx j (by omega)))
    simp only [dag_Judge.l1]
    rw [if_neg (by omega), if_pos (by omega), if_pos (by omega), Option.bind_some, Int.toNat_natCast, List.length_replicate]
  | succ d ih =>
    intro i hi hx
    by_cases c : (rd_T70 R (i : Int)).f1 > p
    · rw [hno ⟨i, by omega, c⟩]
      refine Ev.step (f := fun _ => some (0, 0)) (fun k => ?_) (Ev.now _)
      simp only [dag_Judge.l1]
      rw [if_pos (by omega), if_pos (by omega), if_pos (by omega), if_pos c]
    · refine Ev.step (f := fun k => dag_Judge.l1 k p T R R (R.length : Int) ((i + 1 : Nat) : Int) (n : Int) l) (fun k => ?_) (ih (i + 1) (by omega) (fun j hj => ?_))
      · simp only [dag_Judge.l1]
        rw [if_pos (by omega), if_pos (by omega), if_pos (by omega), if_neg c, w64s (by omega)]
      · by_cases e : j = i
        · subst e; omega
        · exact hx j (by omega)
/-- the loop over the times -/
theorem judge_l0 (n : Nat) (l : List S50) (p : Int) (T : List Int) (hT : T.length ≤ 4096) (r : Int × Int)
    (next : posT T → Ev (fun k => (dag_rows.f k T p).bind fun t => dag_Judge.l1 k p T t t (t.length : Int) 0 (n : Int) l) r) (hno : ¬ posT T → r = (0, 0)) :
    ∀ (d i : Nat), i + d = T.length → (∀ x ∈ T.take i, 1 ≤ x) → Ev (fun k => dag_Judge.l0 k p T T (T.length : Int) (i : Int) (n : Int) l) r := by
  intro d
  induction d with
  | zero =>
    intro i hi hx
    rw [List.take_of_length_le (by omega)] at hx
    refine Ev.step (fun k => ?_) (next hx)
    simp only [dag_Judge.l0]
    rw [if_neg (by omega)]
  | succ d ih =>
    intro i hi hx
    have hlt : i < T.length := by omega
    by_cases c : rd T (i : Int) < 1
    · rw [hno (fun h => by have := h _ (rd_lt_mem hlt); omega)]
      refine Ev.step (f := fun _ => some (0, 0)) (fun k => ?_) (Ev.now _)
      simp only [dag_Judge.l0]
      rw [if_pos (by omega), if_pos (by omega), if_pos (by omega), if_pos c]
    · refine Ev.step (f := fun k => dag_Judge.l0 k p T T (T.length : Int) ((i + 1 : Nat) : Int) (n : Int) l) (fun k => ?_) (ih (i + 1) (by omega) (fun x h => ?_))
      · simp only [dag_Judge.l0]
        rw [if_pos (by omega), if_pos (by omega), if_pos (by omega), if_neg c, w64s (by omega)]
      · rw [List.take_succ_eq_append_getElem hlt] at h
        rcases List.mem_append.mp h with h | h
        · exact hx x h
        · rw [List.mem_singleton.mp h, ← rdi T i hlt]; omega
theorem judge_go (n : Nat) (l : List S50) (hok : ∀ e ∈ l, okE (n : Int) e) (hl : l.length ≤ 16384) (hn : n ≤ 4096) (p : Int) (hp : 1 ≤ p) (T : List Int) (hT : T.length = n) (hb : ∀ x ∈ T, x ≤ 9223372036854775807) :
    Ev (fun k => dag_Judge.l0 k p T T (T.length : Int) 0 (n : Int) l) (vdt n l p T, 0) := by
  refine judge_l0 n l p T (by omega) _ (fun hpos => ?_) (fun h => by rw [vdt_no (fun h2 => h h2.1)]) T.length 0 (by omega) (by simp)
  have hb2 : ∀ x ∈ T, 1 ≤ x ∧ x ≤ 9223372036854775807 := fun x hx => ⟨hpos x hx, hb x hx⟩
  have hrows := grp_ok T (by omega)
  have hlen := grpR_length T.length (T.foldl pushL []) []
  obtain ⟨L, hL⟩ : ∃ L, L = grpR T.length (T.foldl pushL []) [] := ⟨_, rfl⟩
  rw [← hL] at hrows hlen
  have hLn : L.length ≤ 4096 := by simp at hlen; omega
  obtain ⟨R, hR, hRl, hRr⟩ := rows_l1 L p (fun j hj => by
    have h1 := (hrows.cnt _ (rd70_mem L j hj)).2
    exact hb2 _ h1) (by omega) L.length 0 L (by omega) rfl (fun j hj => ⟨rfl, rfl, fun h => by omega⟩)
  have hrf : Ev (fun k => dag_rows.f k T p) R := by
    refine Ev.congr (f := fun k => dag_rows.l1 k p L (L.length : Int) ((0 : Nat) : Int)) (fun k => ?_) hR
    unfold dag_rows.f
    rw [if_pos (by omega), ← hL]
    rfl
  refine Ev.bind hrf ?_
  have hcap : (∀ j : Nat, j < R.length → (rd_T70 R (j : Int)).f1 ≤ p) ↔ capT T p := by
    constructor
    · intro h x hx
      obtain ⟨j, hj, he⟩ := hrows.at hx
      have h2 := h j (by omega)
      rw [(hRr j hj).2.1, hrows.f1 hj, he] at h2
      exact h2
    · intro h j hj
      have hj2 : j < L.length := by omega
      rw [(hRr j hj2).2.1, hrows.f1 hj2]
      exact h _ (hrows.cnt _ (rd70_mem L j hj2)).2
  refine judge_l1 n l p R T hn (by omega) _ (fun hc => ?_) (fun hc => ?_) R.length 0 (by omega) (fun j hj => by omega)
  · refine judge_l2 n l p R T hn _ (fun X hX hx => ?_) n 0 _ (by omega) (by simp) (fun j hj => by omega)
    refine judge_l3 n l hok hl p R T hT hn hb2 _ (fun X2 hX2 hx2 ho => ?_) (fun h => by rw [vdt_no (fun h2 => h h2.2.2)]) l.length 0 X (by omega) hX (fun i hi => by rw [hx i hi]; simp [snc, preds]) (by simp)
    have hsched : posT T ∧ capT T p ∧ ordT l T := ⟨hpos, hcap.mp hc, ho⟩
    have h4 := judge_l4 hrows p hp hRl (by omega) hRr l X2 (by omega) (by rw [hT]; exact hx2) (by omega) hb2 T.length 0 (by omega)
    have hbusy : (∀ j : Nat, 0 ≤ j → j < T.length → ∀ t, snc l T j ≤ t → t < rd T (j : Int) → (T.count t : Int) = p) ↔ busy n l p T := by
      constructor
      · intro h i hi t h1 h2 h3
        exact h i (Nat.zero_le _) (by omega) t ((snc_le l T i t).mpr ⟨h1, h3⟩) h2
      · intro h j _ hj t h1 h2
        have h3 := (snc_le l T j t).mp h1
        exact h j (by omega) t h3.1 h2 h3.2
    by_cases c : busy n l p T
    · rw [vdt_busy hsched c]
      exact h4.1 (hbusy.mpr c)
    · rw [vdt_lazy hsched c]
      exact h4.2 (fun h => c (hbusy.mp h))
  · obtain ⟨j, hj, h2⟩ := hc
    rw [vdt_no (fun h3 => by have := hcap.mpr h3.2.1 j hj; omega)]
theorem dagJudge_ev (n : Int) (l : List S50) (p : Int) (T : List Int) (hl : l.length < 1099511627776) (hb : ∀ x ∈ T, x ≤ 9223372036854775807) : Ev (fun k => dag_Judge.f k n l p T) (jdg n l p T) := by
  unfold dag_Judge.f jdg
  refine Ev.bind (dagCheck_ev n l hl) ?_
  by_cases hc : chk n l = 0
  · rw [if_pos hc]
    simp only [hc, if_true]
    obtain ⟨h0, h1, h2, hok⟩ := chk_zero hc
    have bad : ∀ b : Bool, b = true → Ev (fun k => dag_Judge.j0 k p T b n l) (0, 3) := by
      rintro b rfl
      refine Ev.step (f := fun _ => some (0, 3)) (fun k => ?_) (Ev.now _)
      simp only [dag_Judge.j0, if_true]
    by_cases hp : p < 1 ∨ p > 64
    · rw [if_pos hp]
      by_cases hp1 : p < 1
      · simp only [if_pos hp1]
        exact bad true rfl
      · simp only [if_neg hp1]
        exact bad _ (decide_eq_true (by omega))
    · rw [if_neg hp]
      have hp1 : ¬ p < 1 := by omega
      simp only [if_neg hp1]
      rw [decide_eq_false (by omega)]
      by_cases hT : (T.length : Int) = n
      · rw [if_pos hT]
        refine Ev.step (f := fun k => dag_Judge.l0 k p T T (T.length : Int) 0 (n.toNat : Int) l) (fun k => ?_) (judge_go n.toNat l (by rw [show ((n.toNat : Nat) : Int) = n from by omega]; exact hok) (by omega) (by omega) p (by omega) T (by omega) hb)
        simp only [dag_Judge.j0]
        rw [if_neg (by decide), if_pos hT, show ((n.toNat : Nat) : Int) = n from by omega]
      · rw [if_neg hT]
        refine Ev.step (f := fun _ => some (0, 72)) (fun k => ?_) (Ev.now _)
        simp only [dag_Judge.j0]
        rw [if_neg (by decide), if_neg hT]
  · rw [if_neg hc]
    simp only [if_neg hc]
    exact Ev.now _
end Go.Proofs.Ytbahnialbffkeaa.P
namespace Go.Proofs.Ytbahnialbffkeaa.P
open Go.RowKit Go.Proofs.YtbahnialbffkeaaW.PrintWords Go.Proofs.YtbahnialbffkeaaW.PrintLast Go.Proofs.YtbahnialbffkeaaW.PrintMore
set_option linter.unusedVariables false

/-- by how many edges a node waits for nodes that are not done -/
def cnt (l : List S50) (T : List Int) (k : Int) : Nat := (l.filter (fun e => decide (e.f1 = k ∧ rd T e.f0 = 0))).length
def isRdy (l : List S50) (T : List Int) (i : Int) : Bool := decide (rd T i = 0 ∧ cnt l T i = 0)
def nodes (n : Nat) : List Int := (List.range n).map (fun i : Nat => (i : Int))
/-- the ready nodes, the lowest first -/
def S0 (n : Nat) (l : List S50) (T : List Int) : List Int := (nodes n).filter (isRdy l T)
def setT (T : List Int) (t : Int) (N : List Int) : List Int := N.foldl (fun T i => T.set i.toNat t) T

theorem mem_nodes {n : Nat} {i : Int} : i ∈ nodes n ↔ 0 ≤ i ∧ i < (n : Int) := by
  unfold nodes
  simp only [List.mem_map, List.mem_range]
  constructor
  · rintro ⟨j, hj, rfl⟩
    omega
  · rintro ⟨h0, h1⟩
    exact ⟨i.toNat, by omega, by omega⟩
theorem mem_S0 {n : Nat} {l : List S50} {T : List Int} {i : Int} : i ∈ S0 n l T ↔ 0 ≤ i ∧ i < (n : Int) ∧ rd T i = 0 ∧ cnt l T i = 0 := by
  unfold S0 isRdy
  simp only [List.mem_filter, mem_nodes, decide_eq_true_eq, and_assoc]
theorem setT_length (T : List Int) (t : Int) (N : List Int) : (setT T t N).length = T.length := by
  unfold setT
  induction N generalizing T with
  | nil => rfl
  | cons x N ih => rw [List.foldl_cons, ih, List.length_set]
theorem setT_snoc (T : List Int) (t : Int) (N : List Int) (i : Int) : setT T t (N ++ [i]) = (setT T t N).set i.toNat t := by simp [setT, List.foldl_append]
theorem rd_set (T : List Int) (i k t : Int) (h0 : 0 ≤ i) (hk : 0 ≤ k) : rd (T.set i.toNat t) k = if k = i ∧ i < (T.length : Int) then t else rd T k := by
  unfold rd
  rw [List.getD_eq_getElem?_getD, List.getD_eq_getElem?_getD, List.getElem?_set]
  by_cases h1 : k = i
  · subst h1
    by_cases h2 : k < (T.length : Int)
    · rw [if_pos rfl, if_pos (by omega), if_pos ⟨rfl, h2⟩]; rfl
    · rw [if_pos rfl, if_neg (by omega), if_neg (fun h => h2 h.2), List.getElem?_eq_none (by omega)]
  · rw [if_neg (by omega), if_neg (fun h => h1 h.1)]
theorem rd_setT (t : Int) (N : List Int) (hN : ∀ x ∈ N, 0 ≤ x) (k : Int) (hk : 0 ≤ k) (T : List Int) : rd (setT T t N) k = if k ∈ N ∧ k < (T.length : Int) then t else rd T k := by
  induction N generalizing T with
  | nil => simp [setT]
  | cons x N ih =>
    have e : setT T t (x :: N) = setT (T.set x.toNat t) t N := rfl
    rw [e, ih (fun y hy => hN y (List.mem_cons_of_mem _ hy)), rd_set _ _ _ _ (hN x List.mem_cons_self) hk, List.length_set]
    by_cases h1 : k ∈ N ∧ k < (T.length : Int)
    · rw [if_pos h1, if_pos ⟨List.mem_cons_of_mem _ h1.1, h1.2⟩]
    · rw [if_neg h1]
      by_cases h2 : k = x ∧ x < (T.length : Int)
      · rw [if_pos h2, if_pos ⟨by rw [h2.1]; exact List.mem_cons_self, by omega⟩]
      · rw [if_neg h2, if_neg (fun h => by
          rcases List.mem_cons.mp h.1 with h3 | h3
          · exact h2 ⟨h3, by omega⟩
          · exact h1 ⟨h3, h.2⟩)]
theorem cnt_zero (l : List S50) (T : List Int) (i : Nat) : cnt l T (i : Int) = 0 ↔ ∀ k ∈ preds l i, rd T k ≠ 0 := by
  unfold cnt preds
  rw [List.length_eq_zero_iff, List.filter_eq_nil_iff]
  simp only [List.mem_map, List.mem_filter, decide_eq_true_eq]
  constructor
  · rintro h k ⟨e, ⟨he, h1⟩, rfl⟩ h2
    exact h e he ⟨h1, h2⟩
  · rintro h e he ⟨h1, h2⟩
    exact h e.f0 ⟨e, ⟨he, h1⟩, rfl⟩ h2
end Go.Proofs.Ytbahnialbffkeaa.P
namespace Go.Proofs.Ytbahnialbffkeaa.P
open Go.RowKit Go.Proofs.YtbahnialbffkeaaW.PrintWords Go.Proofs.YtbahnialbffkeaaW.PrintLast Go.Proofs.YtbahnialbffkeaaW.PrintMore
set_option linter.unusedVariables false

/-- the greatest of a list, 0 if none is above 0 -/
def great (x : List Int) : Int := x.foldl mx 0
end Go.Proofs.Ytbahnialbffkeaa.P
namespace Go.Proofs.Ytbahnialbffkeaa.P
open Go.RowKit Go.Proofs.YtbahnialbffkeaaW.PrintWords Go.Proofs.YtbahnialbffkeaaW.PrintLast Go.Proofs.YtbahnialbffkeaaW.PrintMore
set_option linter.unusedVariables false

theorem great_ge {x : List Int} {v : Int} (h : v ∈ x) : v ≤ great x := by
  have mono : ∀ (x : List Int) (a : Int), a ≤ x.foldl mx a := by
    intro x
    induction x with
    | nil => intro a; exact Int.le_refl a
    | cons w r ih =>
      intro a
      refine Int.le_trans (show a ≤ mx a w from ?_) (ih _)
      unfold mx; split <;> omega
  have key : ∀ (x : List Int) (a : Int), v ∈ x → v ≤ x.foldl mx a := by
    intro x
    induction x with
    | nil => intro a h; cases h
    | cons w r ih =>
      intro a h
      rcases List.mem_cons.1 h with rfl | h
      · refine Int.le_trans (show v ≤ mx a v from ?_) (mono r _)
        unfold mx; split <;> omega
      · exact ih _ h
  exact key x 0 h
theorem great_is (x : List Int) : great x = 0 ∨ great x ∈ x := by
  have key : ∀ (x : List Int) (a : Int), x.foldl mx a = a ∨ x.foldl mx a ∈ x := by
    intro x
    induction x with
    | nil => intro a; exact .inl rfl
    | cons w r ih =>
      intro a
      rcases ih (mx a w) with h | h
      · rw [List.foldl_cons, h]
        unfold mx
        by_cases hlt : a < w
        · rw [if_pos hlt]; exact .inr List.mem_cons_self
        · rw [if_neg hlt]; exact .inl rfl
      · exact .inr (List.mem_cons_of_mem _ h)
  exact key x 0
theorem rd_mem {x : List Int} {i : Int} (h0 : 0 ≤ i) (h : i < (x.length : Int)) : rd x i ∈ x := by
  unfold rd
  rw [List.getD_eq_getElem?_getD, List.getElem?_eq_getElem (by omega)]
  exact List.getElem_mem _
end Go.Proofs.Ytbahnialbffkeaa.P
namespace Go.Proofs.Ytbahnialbffkeaa.P
open Go.RowKit Go.Proofs.YtbahnialbffkeaaW.PrintWords Go.Proofs.YtbahnialbffkeaaW.PrintLast Go.Proofs.YtbahnialbffkeaaW.PrintMore
set_option linter.unusedVariables false
set_option linter.unusedSimpArgs false
theorem mem_rd {T : List Int} {x : Int} (h : x ∈ T) : ∃ i : Nat, i < T.length ∧ rd T (i : Int) = x := by
  obtain ⟨j, hj, rfl⟩ := List.mem_iff_getElem.mp h
  exact ⟨j, hj, rdi T j hj⟩
end Go.Proofs.Ytbahnialbffkeaa.P
namespace Go.Proofs.Ytbahnialbffkeaa.P
open Go.RowKit Go.Proofs.YtbahnialbffkeaaW.PrintWords Go.Proofs.YtbahnialbffkeaaW.PrintLast Go.Proofs.YtbahnialbffkeaaW.PrintMore
set_option linter.unusedVariables false
/-- the nodes that are not done -/
def U (n : Nat) (T : List Int) : List Int := (nodes n).filter (fun i => decide (rd T i = 0))
theorem nodes_lt (n : Nat) : (nodes n).Pairwise (· < ·) := by
  unfold nodes
  rw [List.pairwise_map]
  exact List.Pairwise.imp (fun h => by omega) List.pairwise_lt_range
theorem nodup_of_lt {l : List Int} (h : l.Pairwise (· < ·)) : l.Nodup := List.Pairwise.imp (fun h e => by omega) h
theorem mem_U {n : Nat} {T : List Int} {i : Int} : i ∈ U n T ↔ 0 ≤ i ∧ i < (n : Int) ∧ rd T i = 0 := by
  unfold U
  simp only [List.mem_filter, mem_nodes, decide_eq_true_eq, and_assoc]
theorem U_nodup (n : Nat) (T : List Int) : (U n T).Nodup := nodup_of_lt ((nodes_lt n).filter _)
theorem U_len (n : Nat) (T : List Int) : (U n T).length ≤ n := by
  have := List.length_filter_le (fun i => decide (rd T i = 0)) (nodes n)
  simpa [U, nodes] using this
/-- where one is not done, one is ready -/
theorem some_ready (n : Nat) (l : List S50) (hok : ∀ e ∈ l, okE (n : Int) e) (T : List Int) : ∀ i : Nat, i < n → rd T (i : Int) = 0 → S0 n l T ≠ [] := by
  intro i
  induction i using Nat.strongRecOn with
  | _ i ih =>
    intro hi hz
    by_cases hc : cnt l T (i : Int) = 0
    · exact List.ne_nil_of_mem (mem_S0.mpr ⟨by omega, by omega, hz, hc⟩)
    · have h1 : ¬ ∀ k ∈ preds l i, rd T k ≠ 0 := fun h => hc ((cnt_zero l T i).mpr h)
      simp only [Classical.not_forall] at h1
      obtain ⟨k, hk, h2⟩ := h1
      have h3 : rd T k = 0 := Classical.not_not.mp h2
      obtain ⟨e, he, a1, a2⟩ := preds_mem hk
      obtain ⟨b1, b2, b3⟩ := hok e he
      have hk0 : ((k.toNat : Nat) : Int) = k := by omega
      exact ih k.toNat (by omega) (by omega) (by rw [hk0]; exact h3)
theorem S0_nil_iff (n : Nat) (l : List S50) (hok : ∀ e ∈ l, okE (n : Int) e) (T : List Int) : S0 n l T = [] ↔ (U n T).length = 0 := by
  rw [List.length_eq_zero_iff]
  constructor
  · intro h
    rw [List.eq_nil_iff_forall_not_mem]
    intro i hi
    have h1 := mem_U.mp hi
    have hi0 : ((i.toNat : Nat) : Int) = i := by omega
    exact some_ready n l hok T i.toNat (by omega) (by rw [hi0]; exact h1.2.2) h
  · intro h
    rw [List.eq_nil_iff_forall_not_mem]
    intro i hi
    have h1 := mem_S0.mp hi
    have h2 : i ∈ U n T := mem_U.mpr ⟨h1.1, h1.2.1, h1.2.2.1⟩
    rw [h] at h2
    cases h2
end Go.Proofs.Ytbahnialbffkeaa.P
namespace Go.Proofs.Ytbahnialbffkeaa.P
open Go.RowKit Go.Proofs.YtbahnialbffkeaaW.PrintWords Go.Proofs.YtbahnialbffkeaaW.PrintLast Go.Proofs.YtbahnialbffkeaaW.PrintMore
set_option linter.unusedVariables false
set_option linter.unusedSimpArgs false
end Go.Proofs.Ytbahnialbffkeaa.P
namespace Go.Proofs.Ytbahnialbffkeaa.P
open Go.RowKit Go.Proofs.YtbahnialbffkeaaW.PrintWords Go.Proofs.YtbahnialbffkeaaW.PrintLast Go.Proofs.YtbahnialbffkeaaW.PrintMore
set_option linter.unusedVariables false
set_option linter.unusedSimpArgs false
theorem rd_naught (n : Nat) (k : Int) : rd (List.replicate n 0) k = 0 := by
  unfold rd
  rw [List.getD_eq_getElem?_getD, List.getElem?_replicate]
  split <;> rfl
/-- a schedule of the times below t -/
structure PS (n : Nat) (l : List S50) (p : Int) (t : Int) (T : List Int) : Prop where
  len : T.length = n
  rng : ∀ k, 0 ≤ k → k < (n : Int) → 0 ≤ rd T k ∧ rd T k < t
  ord : ∀ e ∈ l, rd T e.f1 ≠ 0 → rd T e.f0 ≠ 0 ∧ rd T e.f0 < rd T e.f1
  cap : ∀ s : Int, 1 ≤ s → (T.count s : Int) ≤ p
  bsy : ∀ s : Int, 1 ≤ s → s < t → (T.count s : Int) = p ∨ ∀ i : Nat, i < n → (rd T (i : Int) = 0 ∨ s < rd T (i : Int)) → ∃ k ∈ preds l i, rd T k = 0 ∨ s ≤ rd T k
theorem PS.start (n : Nat) (l : List S50) (p : Int) (hp : 0 ≤ p) : PS n l p 1 (List.replicate n 0) where
  len := List.length_replicate
  rng := fun k _ _ => by rw [rd_naught]; omega
  ord := fun e _ h => absurd (rd_naught n e.f1) h
  cap := fun s hs => by
    rw [List.count_replicate, if_neg (by simp; omega)]
    exact hp
  bsy := fun s h1 h2 => by omega
theorem count_set_zero (T : List Int) (i : Nat) (hi : i < T.length) (hz : T[i] = 0) (t s : Int) (hs : s ≠ 0) : (T.set i t).count s = T.count s + if t = s then 1 else 0 := by
  rw [List.count_set hi]
  have h1 : (T[i] == s) = false := by rw [hz]; simpa using fun e => hs e.symm
  rw [h1]
  by_cases e : t = s
  · rw [if_pos e]; simp [e]
  · rw [if_neg e]; simp [e]
theorem count_setT (t : Int) : ∀ (N : List Int) (T : List Int), N.Nodup → (∀ k ∈ N, 0 ≤ k ∧ k < (T.length : Int) ∧ rd T k = 0) → ∀ s : Int, s ≠ 0 → (setT T t N).count s = T.count s + if t = s then N.length else 0 := by
  intro N
  induction N with
  | nil => intro T _ _ s _; simp [setT]
  | cons x N ih =>
    intro T hnd hN s hs
    obtain ⟨hx0, hx1, hxz⟩ := hN x List.mem_cons_self
    have hx : x.toNat < T.length := by omega
    have e : setT T t (x :: N) = setT (T.set x.toNat t) t N := rfl
    have hz : T[x.toNat] = 0 := by
      rw [← rdi T x.toNat hx, show ((x.toNat : Nat) : Int) = x from by omega]
      exact hxz
    obtain ⟨h1, h2⟩ := List.nodup_cons.mp hnd
    rw [e, ih (T.set x.toNat t) h2 (fun k hk => ?_) s hs, count_set_zero T x.toNat hx hz t s hs]
    · by_cases c : t = s
      · rw [if_pos c, if_pos c, if_pos c, List.length_cons]; omega
      · rw [if_neg c, if_neg c, if_neg c]
    · obtain ⟨a, b, c⟩ := hN k (List.mem_cons_of_mem _ hk)
      refine ⟨a, by rw [List.length_set]; exact b, ?_⟩
      rw [rd_setJ T x k t hx0 a, if_neg (fun h => h1 (by rw [← h.1]; exact hk))]
      exact c
/-- one more time: some of those that can, as many as fit or all of them -/
theorem PS.step {n : Nat} {l : List S50} (hok : ∀ e ∈ l, okE (n : Int) e) {p t : Int} (ht : 1 ≤ t) {T : List Int} (h : PS n l p t T) {N : List Int} (hnd : N.Nodup) (hsub : ∀ k ∈ N, k ∈ S0 n l T) (hlen : (N.length : Int) ≤ p)
    (hall : (N.length : Int) = p ∨ ∀ k ∈ S0 n l T, k ∈ N) : PS n l p (t + 1) (setT T t N) := by
  have hT := h.len
  have hN : ∀ k ∈ N, 0 ≤ k ∧ k < (T.length : Int) ∧ rd T k = 0 := fun k hk => by
    obtain ⟨a, b, c, -⟩ := mem_S0.mp (hsub k hk)
    exact ⟨a, by omega, c⟩
  have hrd : ∀ k, 0 ≤ k → k < (n : Int) → rd (setT T t N) k = if k ∈ N then t else rd T k := fun k h0 h1 => by
    rw [rd_setT t N (fun x hx => (hN x hx).1) k h0 T]
    by_cases c : k ∈ N
    · rw [if_pos ⟨c, by omega⟩, if_pos c]
    · rw [if_neg (fun h2 => c h2.1), if_neg c]
  have hpre : ∀ k ∈ N, ∀ q ∈ preds l k.toNat, rd T q ≠ 0 := fun k hk => by
    obtain ⟨a, b, c, d⟩ := mem_S0.mp (hsub k hk)
    have := (cnt_zero l T k.toNat).mp (by rw [show ((k.toNat : Nat) : Int) = k from by omega]; exact d)
    exact this
  have hcount : ∀ s : Int, s ≠ 0 → (setT T t N).count s = T.count s + if t = s then N.length else 0 := count_setT t N T hnd hN
  have hno : T.count t = 0 := by
    rw [List.count_eq_zero]
    intro hm
    obtain ⟨i, hi, he⟩ := mem_rd hm
    have := (h.rng (i : Int) (by omega) (by omega)).2
    omega
  refine ⟨by rw [setT_length]; exact hT, fun k h0 h1 => ?_, fun e he hz => ?_, fun s hs => ?_, fun s h1 h2 => ?_⟩
  · have := h.rng k h0 h1
    rw [hrd k h0 h1]
    split <;> omega
  · obtain ⟨b1, b2, b3⟩ := hok e he
    rw [hrd e.f1 (by omega) b3] at hz ⊢
    rw [hrd e.f0 b1 (by omega)]
    have hr0 := h.rng e.f0 b1 (by omega)
    by_cases c1 : e.f1 ∈ N
    · rw [if_pos c1]
      have h3 := hpre e.f1 c1 e.f0 (mem_preds he (by omega))
      have c0 : e.f0 ∉ N := fun h4 => h3 (hN e.f0 h4).2.2
      rw [if_neg c0]
      exact ⟨h3, hr0.2⟩
    · rw [if_neg c1] at hz ⊢
      have h3 := h.ord e he hz
      have c0 : e.f0 ∉ N := fun h4 => h3.1 (hN e.f0 h4).2.2
      rw [if_neg c0]
      exact h3
  · rw [hcount s (by omega)]
    by_cases c : t = s
    · subst c
      rw [if_pos rfl, hno]
      omega
    · rw [if_neg c]
      exact h.cap s hs
  · rw [hcount s (by omega)]
    by_cases c : t = s
    · subst c
      rw [if_pos rfl, hno]
      rcases hall with hall | hall
      · exact .inl (by omega)
      · refine .inr (fun i hi hz => ?_)
        rw [hrd (i : Int) (by omega) (by omega)] at hz
        have hri := h.rng (i : Int) (by omega) (by omega)
        have ci : (i : Int) ∉ N := fun h4 => by
          rw [if_pos h4] at hz
          omega
        rw [if_neg ci] at hz
        have hz0 : rd T (i : Int) = 0 := by omega
        have hcnt : cnt l T (i : Int) ≠ 0 := fun h4 => ci (hall (i : Int) (mem_S0.mpr ⟨by omega, by omega, hz0, h4⟩))
        have h5 : ¬ ∀ k ∈ preds l i, rd T k ≠ 0 := fun h6 => hcnt ((cnt_zero l T i).mpr h6)
        simp only [Classical.not_forall] at h5
        obtain ⟨k, hk, h6⟩ := h5
        have h7 : rd T k = 0 := Classical.not_not.mp h6
        obtain ⟨e, he, a1, a2⟩ := preds_mem hk
        obtain ⟨b1, b2, b3⟩ := hok e he
        refine ⟨k, hk, ?_⟩
        rw [hrd k (by omega) (by omega)]
        by_cases ck : k ∈ N
        · rw [if_pos ck]; exact .inr (Int.le_refl _)
        · rw [if_neg ck]; exact .inl h7
    · rw [if_neg c, Nat.add_zero]
      rcases h.bsy s h1 (by omega) with h3 | h3
      · exact .inl h3
      · refine .inr (fun i hi hz => ?_)
        rw [hrd (i : Int) (by omega) (by omega)] at hz
        have hz2 : rd T (i : Int) = 0 ∨ s < rd T (i : Int) := by
          by_cases ci : (i : Int) ∈ N
          · exact .inl (hN _ ci).2.2
          · rw [if_neg ci] at hz; exact hz
        obtain ⟨k, hk, h4⟩ := h3 i hi hz2
        obtain ⟨e, he, a1, a2⟩ := preds_mem hk
        obtain ⟨b1, b2, b3⟩ := hok e he
        refine ⟨k, hk, ?_⟩
        rw [hrd k (by omega) (by omega)]
        by_cases ck : k ∈ N
        · rw [if_pos ck]; exact .inr (by omega)
        · rw [if_neg ck]; exact h4
/-- where all is done: a greedy schedule -/
theorem PS.done {n : Nat} {l : List S50} (hok : ∀ e ∈ l, okE (n : Int) e) {p t : Int} {T : List Int} (h : PS n l p t T) (hall : ∀ i : Nat, i < n → rd T (i : Int) ≠ 0) : (posT T ∧ capT T p ∧ ordT l T) ∧ busy n l p T := by
  have hpos : ∀ k, 0 ≤ k → k < (n : Int) → 1 ≤ rd T k := fun k h0 h1 => by
    have h2 := h.rng k h0 h1
    have h3 := hall k.toNat (by omega)
    rw [show ((k.toNat : Nat) : Int) = k from by omega] at h3
    omega
  have hpT : posT T := fun x hx => by
    obtain ⟨i, hi, rfl⟩ := mem_rd hx
    exact hpos _ (by omega) (by have := h.len; omega)
  refine ⟨⟨hpT, fun x hx => h.cap x (hpT x hx), fun e he => ?_⟩, fun i hi s h1 h2 h3 => ?_⟩
  · obtain ⟨b1, b2, b3⟩ := hok e he
    exact (h.ord e he (by have := hpos e.f1 (by omega) b3; omega)).2
  · have hr := h.rng (i : Int) (by omega) (by omega)
    rcases h.bsy s h1 (by omega) with h4 | h4
    · exact h4
    · obtain ⟨k, hk, h5⟩ := h4 i hi (.inr h2)
      obtain ⟨e, he, a1, a2⟩ := preds_mem hk
      obtain ⟨b1, b2, b3⟩ := hok e he
      have h6 := hpos k (by omega) (by omega)
      have h7 := h3 k hk
      omega
theorem PS.great_le {n : Nat} {l : List S50} {p t : Int} {T : List Int} (h : PS n l p t T) (ht : 1 ≤ t) : great T ≤ t - 1 := by
  rcases great_is T with h1 | h1
  · omega
  · obtain ⟨i, hi, he⟩ := mem_rd h1
    have := h.rng (i : Int) (by omega) (by have := h.len; omega)
    omega
end Go.Proofs.Ytbahnialbffkeaa.P
namespace Go.Proofs.Ytbahnialbffkeaa.P
open Go.RowKit Go.Proofs.YtbahnialbffkeaaW.PrintWords Go.Proofs.YtbahnialbffkeaaW.PrintLast Go.Proofs.YtbahnialbffkeaaW.PrintMore
set_option linter.unusedVariables false
set_option linter.unusedSimpArgs false
end Go.Proofs.Ytbahnialbffkeaa.P
namespace Go.Proofs.Ytbahnialbffkeaa.P
open Go.RowKit Go.Proofs.YtbahnialbffkeaaW.PrintWords Go.Proofs.YtbahnialbffkeaaW.PrintLast Go.Proofs.YtbahnialbffkeaaW.PrintMore
set_option linter.unusedVariables false
set_option linter.unusedSimpArgs false
end Go.Proofs.Ytbahnialbffkeaa.P
namespace Go.Proofs.Ytbahnialbffkeaa.P
open Go.RowKit Go.Proofs.YtbahnialbffkeaaW.PrintWords Go.Proofs.YtbahnialbffkeaaW.PrintLast Go.Proofs.YtbahnialbffkeaaW.PrintMore
set_option linter.unusedVariables false
set_option linter.unusedSimpArgs false
end Go.Proofs.Ytbahnialbffkeaa.P
namespace Go.Proofs.Ytbahnialbffkeaa.P
open Go.RowKit Go.Proofs.YtbahnialbffkeaaW.PrintWords Go.Proofs.YtbahnialbffkeaaW.PrintLast Go.Proofs.YtbahnialbffkeaaW.PrintMore
set_option linter.unusedVariables false
set_option linter.unusedSimpArgs false
def modI (x n : Int) : Int := if Int.tmod x n < 0 then Int.tmod x n + n else Int.tmod x n
theorem tmod_bd (x n : Int) (hn : 0 < n) : -n < Int.tmod x n ∧ Int.tmod x n < n := by
  rcases Int.le_total 0 x with h | h
  · rw [Int.tmod_eq_emod_of_nonneg h]
    have := Int.emod_nonneg x (show n ≠ 0 by omega)
    have := Int.emod_lt_of_pos x hn
    omega
  · have e : Int.tmod x n = - Int.tmod (-x) n := by rw [Int.neg_tmod]; omega
    rw [e, Int.tmod_eq_emod_of_nonneg (by omega : 0 ≤ -x)]
    have := Int.emod_nonneg (-x) (show n ≠ 0 by omega)
    have := Int.emod_lt_of_pos (-x) hn
    omega
theorem modI_bd (x n : Int) (hn : 0 < n) : 0 ≤ modI x n ∧ modI x n < n := by
  have := tmod_bd x n hn
  unfold modI
  split <;> omega
theorem mod_f (x n : Int) (hn : 0 < n) (hb : n ≤ 4611686018427387904) : plunderlaw7_mod.f x n = some (modI x n) := by
  have := tmod_bd x n hn
  unfold plunderlaw7_mod.f modI
  rw [if_neg (by omega)]
  by_cases h : Int.tmod x n < 0
  · rw [if_pos h, if_pos h, w64 (by omega) (by omega)]
  · rw [if_neg h, if_neg h]
theorem fit_l0 (l : List S50) (N : Int) (h0 : 0 ≤ N) (hN : N ≤ 200) : ∀ (d i : Nat) (E : List S50), i + d = l.length → E.length ≤ i → i ≤ 2000 → (∀ e ∈ E, okE N e) →
    ∃ E' : List S50, E'.length ≤ 2000 ∧ (∀ e ∈ E', okE N e) ∧ Ev (fun k => plunderlaw7_fit.l0 k l (i : Int) N E) (N, E') := by
  intro d
  induction d with
  | zero =>
    intro i E hi hE h2 hok
    refine ⟨E, by omega, hok, ?_⟩
    refine Ev.step (f := fun k => plunderlaw7_fit.j1 k l (i : Int) false N E) (fun k => ?_) ?_
    · simp only [plunderlaw7_fit.l0]
      rw [if_neg (by omega)]
    · refine Ev.step (f := fun _ => some (N, E)) (fun k => ?_) (Ev.now _)
      simp only [plunderlaw7_fit.j1]
      rw [if_neg (by decide)]
  | succ d ih =>
    intro i E hi hE h2 hok
    have hlt : i < l.length := by omega
    by_cases hc : i < 2000 ∧ 0 < N
    · have hm0 := mod_f (l[i].f0) N hc.2 (by omega)
      have hm1 := mod_f (l[i].f1) N hc.2 (by omega)
      have hb0 := modI_bd (l[i].f0) N hc.2
      have hb1 := modI_bd (l[i].f1) N hc.2
      have first : ∀ r, Ev (fun k => plunderlaw7_fit.j1 k l (i : Int) true N E) r → Ev (fun k => plunderlaw7_fit.l0 k l (i : Int) N E) r := by
        intro r hr
        refine Ev.step (f := fun k => plunderlaw7_fit.j1 k l (i : Int) true N E) (fun k => ?_) hr
        simp only [plunderlaw7_fit.l0]
        rw [if_pos (by omega), if_pos (by omega), decide_eq_true (by omega)]
      by_cases c1 : modI (l[i].f0) N < modI (l[i].f1) N
      · obtain ⟨E', a, b, c⟩ := ih (i + 1) (E ++ [⟨modI (l[i].f0) N, modI (l[i].f1) N⟩]) (by omega) (by simp; omega) (by omega) (by
          intro e he
          rcases List.mem_append.mp he with h | h
          · exact hok e h
          · rw [List.mem_singleton.mp h]; exact ⟨hb0.1, c1, hb1.2⟩)
        refine ⟨E', a, b, first _ (Ev.step (f := fun k => plunderlaw7_fit.l0 k l ((i + 1 : Nat) : Int) N (E ++ [⟨modI (l[i].f0) N, modI (l[i].f1) N⟩])) (fun k => ?_) c)⟩
        simp only [plunderlaw7_fit.j1]
        rw [if_pos trivial, if_pos (by omega), if_pos (by omega), rd50 l i hlt, hm0, Option.bind_some, hm1, Option.bind_some, if_pos c1, if_pos (by omega), w64s (by omega)]
      · by_cases c2 : modI (l[i].f1) N < modI (l[i].f0) N
        · obtain ⟨E', a, b, c⟩ := ih (i + 1) (E ++ [⟨modI (l[i].f1) N, modI (l[i].f0) N⟩]) (by omega) (by simp; omega) (by omega) (by
            intro e he
            rcases List.mem_append.mp he with h | h
            · exact hok e h
            · rw [List.mem_singleton.mp h]; exact ⟨hb1.1, c2, hb0.2⟩)
          refine ⟨E', a, b, first _ (Ev.step (f := fun k => plunderlaw7_fit.l0 k l ((i + 1 : Nat) : Int) N (E ++ [⟨modI (l[i].f1) N, modI (l[i].f0) N⟩])) (fun k => ?_) c)⟩
          simp only [plunderlaw7_fit.j1]
          rw [if_pos trivial, if_pos (by omega), if_pos (by omega), rd50 l i hlt, hm0, Option.bind_some, hm1, Option.bind_some, if_neg c1, if_pos c2, if_pos (by omega), w64s (by omega)]
        · obtain ⟨E', a, b, c⟩ := ih (i + 1) E (by omega) (by omega) (by omega) hok
          refine ⟨E', a, b, first _ (Ev.step (f := fun k => plunderlaw7_fit.l0 k l ((i + 1 : Nat) : Int) N E) (fun k => ?_) c)⟩
          simp only [plunderlaw7_fit.j1]
          rw [if_pos trivial, if_pos (by omega), if_pos (by omega), rd50 l i hlt, hm0, Option.bind_some, hm1, Option.bind_some, if_neg c1, if_neg c2, w64s (by omega)]
    · refine ⟨E, by omega, hok, ?_⟩
      refine Ev.step (f := fun k => plunderlaw7_fit.j1 k l (i : Int) false N E) (fun k => ?_) ?_
      · simp only [plunderlaw7_fit.l0]
        rw [if_pos (by omega)]
        by_cases h3 : i < 2000
        · rw [if_pos (by omega), decide_eq_false (by omega)]
        · rw [if_neg (by omega)]
      · refine Ev.step (f := fun _ => some (N, E)) (fun k => ?_) (Ev.now _)
        simp only [plunderlaw7_fit.j1]
        rw [if_neg (by decide)]
theorem fit_ev (n : Int) (l : List S50) : ∃ (N : Nat) (E : List S50), (N : Int) = modI n 201 ∧ N ≤ 200 ∧ E.length ≤ 2000 ∧ (∀ e ∈ E, okE (N : Int) e) ∧ chk (N : Int) E = 0 ∧ Ev (fun k => plunderlaw7_fit.f k n l) ((N : Int), E) := by
  have hb := modI_bd n 201 (by omega)
  obtain ⟨E, a, b, c⟩ := fit_l0 l (modI n 201) hb.1 (by omega) l.length 0 [] (by omega) (by simp) (by omega) (by intro e he; cases he)
  have e : ((modI n 201).toNat : Int) = modI n 201 := by omega
  refine ⟨(modI n 201).toNat, E, e, by omega, a, by rw [e]; exact b, ?_, ?_⟩
  · rw [e]
    unfold chk
    rw [if_neg (by omega), if_neg (by omega)]
    unfold chkE
    rw [if_pos b]
  · rw [e]
    refine Ev.congr (f := fun k => plunderlaw7_fit.l0 k l ((0 : Nat) : Int) (modI n 201) []) (fun k => ?_) c
    unfold plunderlaw7_fit.f
    rw [mod_f n 201 (by omega) (by omega), Option.bind_some]
    rfl
end Go.Proofs.Ytbahnialbffkeaa.P
namespace Go.Proofs.Ytbahnialbffkeaa.P
open Go.RowKit Go.Proofs.YtbahnialbffkeaaW.PrintWords Go.Proofs.YtbahnialbffkeaaW.PrintLast Go.Proofs.YtbahnialbffkeaaW.PrintMore
set_option linter.unusedVariables false
set_option linter.unusedSimpArgs false
/-- the number of processors of the laws -/
theorem procs (x : Int) : plunderlaw7_mod.f x 64 = some (modI x 64) ∧ 1 ≤ wrap64 (1 + modI x 64) ∧ wrap64 (1 + modI x 64) ≤ 64 := by
  have hb := modI_bd x 64 (by omega)
  rw [w64 (x := 1 + modI x 64) (by omega) (by omega)]
  exact ⟨mod_f x 64 (by omega) (by omega), by omega, by omega⟩
theorem judge_of (N : Nat) (E : List S50) (hc : chk (N : Int) E = 0) (p : Int) (hp1 : 1 ≤ p) (hp : p ≤ 64) (T : List Int) (hT : T.length = N) : jdg (N : Int) E p T = (vdt N E p T, 0) := by
  unfold jdg
  rw [if_pos hc, if_neg (by omega), if_pos (by omega), Int.toNat_natCast]
end Go.Proofs.Ytbahnialbffkeaa.P
namespace Go.Proofs.Ytbahnialbffkeaa.P
open Go.RowKit Go.Proofs.YtbahnialbffkeaaW.PrintWords Go.Proofs.YtbahnialbffkeaaW.PrintLast Go.Proofs.YtbahnialbffkeaaW.PrintMore
set_option linter.unusedVariables false
set_option linter.unusedSimpArgs false
def rnk (x : List Int) (i : Int) : Int := if i < (x.length : Int) then rd x i else 0
theorem rank_f (x : List Int) (i : Int) (h : 0 ≤ i) : plunderlaw7_rank.f x i = some (rnk x i) := by
  unfold plunderlaw7_rank.f rnk
  by_cases c : i < (x.length : Int)
  · rw [if_pos c, if_pos h, if_pos c]
  · rw [if_neg c, if_neg c]
/-- can node i be done at t? -/
def canP (l : List S50) (T : List Int) (i : Nat) (t : Int) : Prop := rd T (i : Int) = 0 ∧ ∀ k ∈ preds l i, rd T k ≠ 0 ∧ rd T k < t
theorem can_l0 (n : Nat) (l : List S50) (hok : ∀ e ∈ l, okE (n : Int) e) (hl : l.length ≤ 16384) (T : List Int) (hT : T.length = n) (i : Nat) (t : Int) (b : Bool) (h1 : (∀ k ∈ preds l i, rd T k ≠ 0 ∧ rd T k < t) → b = true) (h2 : (∃ k ∈ preds l i, ¬ (rd T k ≠ 0 ∧ rd T k < t)) → b = false) :
    ∀ (d j : Nat), j + d = l.length → (∀ k ∈ preds (l.take j) i, rd T k ≠ 0 ∧ rd T k < t) → Ev (fun k => plunderlaw7_can.l0 k T (i : Int) t (j : Int) (n : Int) l) b := by
  intro d
  induction d with
  | zero =>
    intro j hj hx
    rw [List.take_of_length_le (by omega)] at hx
    rw [h1 hx]
    refine Ev.step (f := fun _ => some true) (fun k => ?_) (Ev.now _)
    simp only [plunderlaw7_can.l0]
    rw [if_neg (by omega)]
  | succ d ih =>
    intro j hj hx
    have hlt : j < l.length := by omega
    obtain ⟨e, hee⟩ : ∃ e, e = l[j] := ⟨_, rfl⟩
    have hmem : e ∈ l := by rw [hee]; exact List.getElem_mem hlt
    obtain ⟨b1, b2, b3⟩ := hok e hmem
    have htake : l.take (j + 1) = l.take j ++ [e] := by rw [hee, List.take_succ_eq_append_getElem hlt]
    have hnext : (e.f1 = (i : Int) → rd T e.f0 ≠ 0 ∧ rd T e.f0 < t) → Ev (fun k => plunderlaw7_can.l0 k T (i : Int) t ((j + 1 : Nat) : Int) (n : Int) l) b := fun h => ih (j + 1) (by omega) (fun k hk => by
      rw [htake, preds_snoc] at hk
      by_cases c : e.f1 = (i : Int)
      · rw [if_pos c] at hk
        rcases List.mem_append.mp hk with h3 | h3
        · exact hx k h3
        · rw [List.mem_singleton.mp h3]; exact h c
      · rw [if_neg c] at hk
        exact hx k hk)
    by_cases c : e.f1 = (i : Int)
    · have hin : e.f0 ∈ preds l i := by
        have := mem_preds hmem (by omega)
        rw [c, Int.toNat_natCast] at this
        exact this
      by_cases c1 : rd T e.f0 = 0
      · rw [h2 ⟨e.f0, hin, fun h => h.1 c1⟩]
        refine Ev.step (f := fun _ => some false) (fun k => ?_) (Ev.now _)
        simp only [plunderlaw7_can.l0]
        rw [if_pos (by omega), if_pos (by omega), rd50 l j hlt, ← hee, if_pos c, if_pos b1, if_pos (by omega), if_pos c1]
      · by_cases c2 : rd T e.f0 ≥ t
        · rw [h2 ⟨e.f0, hin, fun h => by have := h.2; omega⟩]
          refine Ev.step (f := fun _ => some false) (fun k => ?_) (Ev.now _)
          simp only [plunderlaw7_can.l0]
          rw [if_pos (by omega), if_pos (by omega), rd50 l j hlt, ← hee, if_pos c, if_pos b1, if_pos (by omega), if_neg c1, if_pos c2]
        · refine Ev.step (fun k => ?_) (hnext (fun _ => ⟨c1, by omega⟩))
          simp only [plunderlaw7_can.l0]
          rw [if_pos (by omega), if_pos (by omega), rd50 l j hlt, ← hee, if_pos c, if_pos b1, if_pos (by omega), if_neg c1, if_neg c2, w64s (by omega)]
    · refine Ev.step (fun k => ?_) (hnext (fun h => absurd h c))
      simp only [plunderlaw7_can.l0]
      rw [if_pos (by omega), if_pos (by omega), rd50 l j hlt, ← hee, if_neg c, w64s (by omega)]
theorem can_ev (n : Nat) (l : List S50) (hok : ∀ e ∈ l, okE (n : Int) e) (hl : l.length ≤ 16384) (T : List Int) (hT : T.length = n) (i : Nat) (hi : i < n) (t : Int) (b : Bool) (hb : b = true ↔ canP l T i t) : Ev (fun k => plunderlaw7_can.f k (n : Int) l T (i : Int) t) b := by
  have no : ¬ canP l T i t → b = false := fun h => by
    cases b with
    | false => rfl
    | true => exact absurd (hb.mp rfl) h
  by_cases hz : rd T (i : Int) = 0
  · refine Ev.congr (f := fun k => plunderlaw7_can.l0 k T (i : Int) t ((0 : Nat) : Int) (n : Int) l) (fun k => ?_) (can_l0 n l hok hl T hT i t b (fun h => hb.mpr ⟨hz, h⟩) (fun h => no (fun h2 => ?_)) l.length 0 (by omega) (by simp [preds]))
    · unfold plunderlaw7_can.f
      rw [if_pos (by omega), if_pos (by omega), if_pos hz]
      rfl
    · obtain ⟨k, hk, h3⟩ := h
      exact h3 (h2.2 k hk)
  · rw [no (fun h => hz h.1)]
    refine Ev.congr (f := fun _ => some false) (fun k => ?_) (Ev.now _)
    unfold plunderlaw7_can.f
    rw [if_pos (by omega), if_pos (by omega), if_neg hz]
/-- the search for the best -/
theorem listed_l2 (n : Nat) (l : List S50) (hok : ∀ e ∈ l, okE (n : Int) e) (hl : l.length ≤ 16384) (hn : n ≤ 4096) (p : Int) (x2 T : List Int) (hT : T.length = n) (D t j : Int) : ∀ (d i : Nat) (b : Int), i + d = n → ((b = -1 ∧ ∀ q : Nat, q < i → ¬ canP l T q t) ∨ (0 ≤ b ∧ b < (n : Int) ∧ canP l T b.toNat t)) →
    ∃ b' : Int, ((b' = -1 ∧ ∀ q : Nat, q < n → ¬ canP l T q t) ∨ (0 ≤ b' ∧ b' < (n : Int) ∧ canP l T b'.toNat t)) ∧ ∀ r, Ev (fun k => plunderlaw7_listed.l2 k p x2 T D t j b' (n : Int) (n : Int) l) r → Ev (fun k => plunderlaw7_listed.l2 k p x2 T D t j b (i : Int) (n : Int) l) r := by
  intro d
  induction d with
  | zero =>
    intro i b hi hb
    obtain rfl : i = n := by omega
    exact ⟨b, hb, fun r h => h⟩
  | succ d ih =>
    intro i b hi hb
    have hlt : i < n := by omega
    have hw : wrap64 ((i : Int) + 1) = ((i + 1 : Nat) : Int) := w64s (by omega)
    -- taken: i is the best; left: b stays
    have take : canP l T i t → ∃ b' : Int, ((b' = -1 ∧ ∀ q : Nat, q < n → ¬ canP l T q t) ∨ (0 ≤ b' ∧ b' < (n : Int) ∧ canP l T b'.toNat t)) ∧ ∀ r, Ev (fun k => plunderlaw7_listed.l2 k p x2 T D t j b' (n : Int) (n : Int) l) r → Ev (fun k => plunderlaw7_listed.l2 k p x2 T D t j (i : Int) ((i + 1 : Nat) : Int) (n : Int) l) r :=
      fun h => ih (i + 1) (i : Int) (by omega) (.inr ⟨by omega, by omega, by rw [Int.toNat_natCast]; exact h⟩)
    by_cases hb0 : b < 0
    · have hbm : b = -1 := by
        rcases hb with h | h
        · exact h.1
        · omega
      have hall : ∀ q : Nat, q < i → ¬ canP l T q t := by
        rcases hb with h | h
        · exact h.2
        · omega
      by_cases hc : canP l T i t
      · obtain ⟨b', h1, h2⟩ := take hc
        refine ⟨b', h1, fun r hr => Ev.step (f := fun k => (plunderlaw7_can.f k (n : Int) l T (i : Int) t).bind fun q => if q = true then plunderlaw7_listed.l2 k p x2 T D t j (i : Int) ((i + 1 : Nat) : Int) (n : Int) l else plunderlaw7_listed.l2 k p x2 T D t j b ((i + 1 : Nat) : Int) (n : Int) l) (fun k => ?_) (Ev.bind (can_ev n l hok hl T hT i hlt t true (by simp [hc])) ?_)⟩
        · simp only [plunderlaw7_listed.l2]
          rw [if_pos (by omega), if_pos hb0, hw]
        · simp only [if_true]
          exact h2 r hr
      · obtain ⟨b', h1, h2⟩ := ih (i + 1) b (by omega) (.inl ⟨hbm, fun q hq => by
          by_cases e : q = i
          · rw [e]; exact hc
          · exact hall q (by omega)⟩)
        refine ⟨b', h1, fun r hr => Ev.step (f := fun k => (plunderlaw7_can.f k (n : Int) l T (i : Int) t).bind fun q => if q = true then plunderlaw7_listed.l2 k p x2 T D t j (i : Int) ((i + 1 : Nat) : Int) (n : Int) l else plunderlaw7_listed.l2 k p x2 T D t j b ((i + 1 : Nat) : Int) (n : Int) l) (fun k => ?_) (Ev.bind (can_ev n l hok hl T hT i hlt t false (by simp [hc])) ?_)⟩
        · simp only [plunderlaw7_listed.l2]
          rw [if_pos (by omega), if_pos hb0, hw]
        · exact h2 r hr
    · have hgood : 0 ≤ b ∧ b < (n : Int) ∧ canP l T b.toNat t := by
        rcases hb with h | h
        · omega
        · exact h
      obtain ⟨b', h1, h2⟩ := ih (i + 1) b (by omega) (.inr hgood)
      by_cases hr1 : rnk x2 (i : Int) < rnk x2 b
      · by_cases hc : canP l T i t
        · obtain ⟨b'', h3, h4⟩ := take hc
          refine ⟨b'', h3, fun r hr => Ev.step (f := fun k => (plunderlaw7_can.f k (n : Int) l T (i : Int) t).bind fun q => if q = true then plunderlaw7_listed.l2 k p x2 T D t j (i : Int) ((i + 1 : Nat) : Int) (n : Int) l else plunderlaw7_listed.l2 k p x2 T D t j b ((i + 1 : Nat) : Int) (n : Int) l) (fun k => ?_) (Ev.bind (can_ev n l hok hl T hT i hlt t true (by simp [hc])) ?_)⟩
          · simp only [plunderlaw7_listed.l2]
            rw [if_pos (by omega), if_neg hb0, rank_f x2 (i : Int) (by omega), Option.bind_some, rank_f x2 b hgood.1, Option.bind_some, if_pos hr1, hw]
          · simp only [if_true]
            exact h4 r hr
        · refine ⟨b', h1, fun r hr => Ev.step (f := fun k => (plunderlaw7_can.f k (n : Int) l T (i : Int) t).bind fun q => if q = true then plunderlaw7_listed.l2 k p x2 T D t j (i : Int) ((i + 1 : Nat) : Int) (n : Int) l else plunderlaw7_listed.l2 k p x2 T D t j b ((i + 1 : Nat) : Int) (n : Int) l) (fun k => ?_) (Ev.bind (can_ev n l hok hl T hT i hlt t false (by simp [hc])) ?_)⟩
          · simp only [plunderlaw7_listed.l2]
            rw [if_pos (by omega), if_neg hb0, rank_f x2 (i : Int) (by omega), Option.bind_some, rank_f x2 b hgood.1, Option.bind_some, if_pos hr1, hw]
          · exact h2 r hr
      · refine ⟨b', h1, fun r hr => Ev.step (fun k => ?_) (h2 r hr)⟩
        simp only [plunderlaw7_listed.l2]
        rw [if_pos (by omega), if_neg hb0, rank_f x2 (i : Int) (by omega), Option.bind_some, rank_f x2 b hgood.1, Option.bind_some, if_neg hr1, hw]
/-- can, while some of this time are done already -/
theorem canP_setT {n : Nat} {l : List S50} (hok : ∀ e ∈ l, okE (n : Int) e) {p t : Int} (ht : 1 ≤ t) {T : List Int} (h : PS n l p t T) {N : List Int} (hsub : ∀ k ∈ N, k ∈ S0 n l T) (i : Nat) (hi : i < n) : canP l (setT T t N) i t ↔ (i : Int) ∈ S0 n l T ∧ (i : Int) ∉ N := by
  have hT := h.len
  have hrd : ∀ k, 0 ≤ k → k < (n : Int) → rd (setT T t N) k = if k ∈ N then t else rd T k := fun k h0 h1 => by
    rw [rd_setT t N (fun x hx => (mem_S0.mp (hsub x hx)).1) k h0 T]
    by_cases c : k ∈ N
    · rw [if_pos ⟨c, by omega⟩, if_pos c]
    · rw [if_neg (fun h2 => c h2.1), if_neg c]
  have hpre : ∀ k ∈ preds l i, 0 ≤ k ∧ k < (n : Int) := fun k hk => by
    obtain ⟨e, he, a1, a2⟩ := preds_mem hk
    obtain ⟨b1, b2, b3⟩ := hok e he
    omega
  rw [mem_S0, cnt_zero]
  constructor
  · rintro ⟨h1, h2⟩
    rw [hrd (i : Int) (by omega) (by omega)] at h1
    have hi2 : (i : Int) ∉ N := fun c => by rw [if_pos c] at h1; omega
    rw [if_neg hi2] at h1
    refine ⟨⟨by omega, by omega, h1, fun k hk hz => ?_⟩, hi2⟩
    have h3 := h2 k hk
    rw [hrd k (hpre k hk).1 (hpre k hk).2] at h3
    split at h3
    · omega
    · exact h3.1 hz
  · rintro ⟨⟨-, -, h1, h2⟩, hi2⟩
    refine ⟨by rw [hrd (i : Int) (by omega) (by omega), if_neg hi2]; exact h1, fun k hk => ?_⟩
    have hk2 : k ∉ N := fun c => h2 k hk (mem_S0.mp (hsub k c)).2.2.1
    rw [hrd k (hpre k hk).1 (hpre k hk).2, if_neg hk2]
    exact ⟨h2 k hk, (h.rng k (hpre k hk).1 (hpre k hk).2).2⟩
/-- one time -/
theorem listed_l1 (n : Nat) (l : List S50) (hok : ∀ e ∈ l, okE (n : Int) e) (hl : l.length ≤ 16384) (hn : n ≤ 4096) (p : Int) (hp : p ≤ 64) (x2 T : List Int) (t : Int) (ht : 1 ≤ t) (ht2 : t ≤ 10000) (hPS : PS n l p t T) (D : Int) (hD : 0 ≤ D ∧ D ≤ 10000) : ∀ (d : Nat) (N : List Int), (N.length : Int) + d = p → N.Nodup → (∀ k ∈ N, k ∈ S0 n l T) →
    ∃ N2 : List Int, N2.Nodup ∧ (∀ k ∈ N2, k ∈ S0 n l T) ∧ (N2.length : Int) ≤ p ∧ ((N2.length : Int) = p ∨ ∀ k ∈ S0 n l T, k ∈ N2) ∧
      ∀ r, Ev (fun k => plunderlaw7_listed.l0 k p x2 (setT T t N2) (D + N2.length) (t + 1) (n : Int) l) r → Ev (fun k => plunderlaw7_listed.l1 k p x2 (setT T t N) (D + N.length) t (N.length : Int) (n : Int) l) r := by
  have hwt : wrap64 (t + 1) = t + 1 := w64 (by omega) (by omega)
  intro d
  induction d with
  | zero =>
    intro N hN hnd hsub
    refine ⟨N, hnd, hsub, by omega, .inl (by omega), fun r hr => Ev.step (fun k => ?_) hr⟩
    simp only [plunderlaw7_listed.l1]
    rw [if_neg (by omega), hwt]
  | succ d ih =>
    intro N hN hnd hsub
    have hTl : (setT T t N).length = n := by rw [setT_length]; exact hPS.len
    obtain ⟨b, hb, hgo⟩ := listed_l2 n l hok hl hn p x2 (setT T t N) hTl (D + N.length) t (N.length : Int) n 0 (-1) (by omega) (.inl ⟨rfl, fun q hq => by omega⟩)
    have first : ∀ r, Ev (fun k => plunderlaw7_listed.l2 k p x2 (setT T t N) (D + N.length) t (N.length : Int) b (n : Int) (n : Int) l) r → Ev (fun k => plunderlaw7_listed.l1 k p x2 (setT T t N) (D + N.length) t (N.length : Int) (n : Int) l) r := fun r hr =>
      Ev.step (f := fun k => plunderlaw7_listed.l2 k p x2 (setT T t N) (D + N.length) t (N.length : Int) (-1) ((0 : Nat) : Int) (n : Int) l) (fun k => by
        simp only [plunderlaw7_listed.l1]
        rw [if_pos (by omega)]
        rfl) (hgo r hr)
    rcases hb with ⟨rfl, hno⟩ | ⟨h0, h1, hc⟩
    · refine ⟨N, hnd, hsub, by omega, .inr (fun k hk => Classical.byContradiction (fun hkN => ?_)), fun r hr => first r (Ev.step (fun k => ?_) hr)⟩
      · have h2 := mem_S0.mp hk
        refine hno k.toNat (by omega) ((canP_setT hok ht hPS hsub k.toNat (by omega)).mpr ?_)
        rw [show ((k.toNat : Nat) : Int) = k from by omega]
        exact ⟨hk, hkN⟩
      · simp only [plunderlaw7_listed.l2]
        rw [if_neg (by omega), if_pos (by omega), hwt]
    · have h2 := (canP_setT hok ht hPS hsub b.toNat (by omega)).mp hc
      rw [show ((b.toNat : Nat) : Int) = b from by omega] at h2
      obtain ⟨N2, a1, a2, a3, a4, a5⟩ := ih (N ++ [b]) (by simp; omega) (by
        rw [List.nodup_append]
        refine ⟨hnd, by simp, fun x hx y hy e => h2.2 ?_⟩
        rw [← List.mem_singleton.mp hy, ← e]
        exact hx) (fun k hk => by
        rcases List.mem_append.mp hk with h3 | h3
        · exact hsub k h3
        · rw [List.mem_singleton.mp h3]; exact h2.1)
      refine ⟨N2, a1, a2, a3, a4, fun r hr => first r (Ev.step (fun k => ?_) (a5 r hr))⟩
      simp only [plunderlaw7_listed.l2]
      rw [if_neg (by omega), if_neg (by omega), if_pos h0, if_pos (by omega), setT_snoc, List.length_append, w64 (x := D + N.length + 1) (by omega) (by omega), w64 (x := (N.length : Int) + 1) (by omega) (by omega)]
      simp only [List.length_cons, List.length_nil, Int.natCast_add]
      rw [← Int.add_assoc]
      rfl
theorem U_setT (n : Nat) (l : List S50) (T : List Int) (t : Int) (hT : T.length = n) (ht : 1 ≤ t) (N : List Int) (hnd : N.Nodup) (hsub : ∀ k ∈ N, k ∈ S0 n l T) : (U n T).length = N.length + (U n (setT T t N)).length := by
  have hrd : ∀ k, 0 ≤ k → k < (n : Int) → rd (setT T t N) k = if k ∈ N then t else rd T k := fun k h0 h1 => by
    rw [rd_setT t N (fun x hx => (mem_S0.mp (hsub x hx)).1) k h0 T]
    by_cases c : k ∈ N
    · rw [if_pos ⟨c, by omega⟩, if_pos c]
    · rw [if_neg (fun h2 => c h2.1), if_neg c]
  rw [← List.length_append]
  refine List.Perm.length_eq ((List.perm_ext_iff_of_nodup (U_nodup n T) ?_).mpr ?_)
  · rw [List.nodup_append]
    refine ⟨hnd, U_nodup _ _, ?_⟩
    rintro x hx y hy rfl
    have h1 := mem_U.mp hy
    rw [hrd x h1.1 h1.2.1, if_pos hx] at h1
    omega
  · intro i
    rw [List.mem_append]
    constructor
    · intro h
      have h1 := mem_U.mp h
      by_cases h2 : i ∈ N
      · exact .inl h2
      · exact .inr (mem_U.mpr ⟨h1.1, h1.2.1, by rw [hrd i h1.1 h1.2.1, if_neg h2]; exact h1.2.2⟩)
    · rintro (h | h)
      · have h1 := mem_S0.mp (hsub i h)
        exact mem_U.mpr ⟨h1.1, h1.2.1, h1.2.2.1⟩
      · have h1 := mem_U.mp h
        refine mem_U.mpr ⟨h1.1, h1.2.1, ?_⟩
        have h2 := h1.2.2
        rw [hrd i h1.1 h1.2.1] at h2
        split at h2
        · omega
        · exact h2
theorem listed_l0 (n : Nat) (l : List S50) (hok : ∀ e ∈ l, okE (n : Int) e) (hl : l.length ≤ 16384) (hn : n ≤ 4096) (p : Int) (hp1 : 1 ≤ p) (hp : p ≤ 64) (x2 : List Int) : ∀ (d : Nat) (T : List Int) (t : Int), (U n T).length ≤ d → 1 ≤ t → t - 1 + (U n T).length ≤ (n : Int) → PS n l p t T →
    ∃ R : List Int, Ev (fun k => plunderlaw7_listed.l0 k p x2 T ((n : Int) - (U n T).length) t (n : Int) l) R ∧ R.length = n ∧ ((posT R ∧ capT R p ∧ ordT l R) ∧ busy n l p R) ∧ great R ≤ (n : Int) := by
  have fin : ∀ (T : List Int) (t : Int), (U n T).length = 0 → 1 ≤ t → t - 1 ≤ (n : Int) → PS n l p t T → ∃ R : List Int, Ev (fun k => plunderlaw7_listed.l0 k p x2 T ((n : Int) - (U n T).length) t (n : Int) l) R ∧ R.length = n ∧ ((posT R ∧ capT R p ∧ ordT l R) ∧ busy n l p R) ∧ great R ≤ (n : Int) := by
    intro T t hU ht htn h
    refine ⟨T, Ev.step (f := fun k => plunderlaw7_listed.j1 k p x2 T ((n : Int) - (U n T).length) t false (n : Int) l) (fun k => ?_) (Ev.step (f := fun _ => some T) (fun k => ?_) (Ev.now _)), h.len, h.done hok (fun i hi hz => ?_), by have := h.great_le ht; omega⟩
    · simp only [plunderlaw7_listed.l0]
      rw [if_neg (by omega)]
    · simp only [plunderlaw7_listed.j1]
      rw [if_neg (by decide)]
    · have h2 : (i : Int) ∈ U n T := mem_U.mpr ⟨by omega, by omega, hz⟩
      rw [List.length_eq_zero_iff.mp hU] at h2
      cases h2
  intro d
  induction d with
  | zero =>
    intro T t hU ht htn h
    exact fin T t (by omega) ht (by omega) h
  | succ d ih =>
    intro T t hU ht htn h
    have hUn := U_len n T
    by_cases h0 : (U n T).length = 0
    · exact fin T t h0 ht (by omega) h
    · have hne : S0 n l T ≠ [] := fun e => h0 ((S0_nil_iff n l hok T).mp e)
      obtain ⟨N, a1, a2, a3, a4, a5⟩ := listed_l1 n l hok hl hn p hp x2 T t ht (by omega) h ((n : Int) - (U n T).length) (by omega) p.toNat [] (by simp; omega) List.nodup_nil (fun k hk => by cases hk)
      have hN1 : 1 ≤ N.length := by
        rcases a4 with a4 | a4
        · omega
        · cases hS : S0 n l T with
          | nil => exact absurd hS hne
          | cons x y => exact List.length_pos_of_mem (a4 x (by rw [hS]; exact List.mem_cons_self))
      have hUs := U_setT n l T t h.len ht N a1 a2
      obtain ⟨R, b1, b2, b3, b4⟩ := ih (setT T t N) (t + 1) (by omega) (by omega) (by omega) (h.step hok ht a1 a2 a3 a4)
      refine ⟨R, ?_, b2, b3, b4⟩
      refine Ev.step (f := fun k => plunderlaw7_listed.j1 k p x2 T ((n : Int) - (U n T).length) t true (n : Int) l) (fun k => ?_) (Ev.step (f := fun k => plunderlaw7_listed.l1 k p x2 T ((n : Int) - (U n T).length) t 0 (n : Int) l) (fun k => ?_) ?_)
      · simp only [plunderlaw7_listed.l0]
        rw [if_pos (by omega), decide_eq_true (by omega)]
      · simp only [plunderlaw7_listed.j1]
        rw [if_pos trivial]
      · have h5 := a5 R (by
          rw [show (n : Int) - (U n T).length + N.length = (n : Int) - (U n (setT T t N)).length from by omega]
          exact b1)
        simpa [setT] using h5
theorem listed_ev (n : Nat) (l : List S50) (hok : ∀ e ∈ l, okE (n : Int) e) (hl : l.length ≤ 16384) (hn : n ≤ 4096) (p : Int) (hp1 : 1 ≤ p) (hp : p ≤ 64) (x2 : List Int) :
    ∃ R : List Int, Ev (fun k => plunderlaw7_listed.f k (n : Int) l p x2) R ∧ R.length = n ∧ ((posT R ∧ capT R p ∧ ordT l R) ∧ busy n l p R) ∧ great R ≤ (n : Int) := by
  have hU : (U n (List.replicate n 0)).length = n := by
    have h : U n (List.replicate n 0) = nodes n := by
      unfold U
      rw [List.filter_eq_self]
      intro k _
      exact decide_eq_true (rd_naught n k)
    rw [h]
    simp [nodes]
  obtain ⟨R, h1, h2⟩ := listed_l0 n l hok hl hn p hp1 hp x2 n (List.replicate n 0) 1 (by omega) (by omega) (by omega) (PS.start n l p (by omega))
  refine ⟨R, Ev.congr (fun k => ?_) h1, h2⟩
  unfold plunderlaw7_listed.f
  rw [if_pos (by omega), if_pos (by omega), hU, Int.toNat_natCast, Int.sub_self]
end Go.Proofs.Ytbahnialbffkeaa.P
