/- Plain law, part Q: the document's Judge comes to the same verdict. -/
import Derived.Test.YtbahnialbffkeaaJPx2
import Derived.Test.YtbahnialbffkeaaJPx3
import Derived.Test.YtbahnialbffkeaaJPx4
import Derived.Test.YtbahnialbffkeaaJRoom
import Derived.Test.YtbahnialbffkeaaJJA
import Derived.Test.YtbahnialbffkeaaJPx0
import Derived.Test.YtbahnialbffkeaaJPx9
import Derived.Test.YtbahnialbffkeaaJJudge
import Derived.Test.YtbahnialbffkeaaJPx16
import Derived.Test.YtbahnialbffkeaaJPx11
import Derived.Test.YtbahnialbffkeaaJPx21
namespace Go.Proofs.Ytbahnialbffkeaa.P
open Go.RowKit Go.Proofs.YtbahnialbffkeaaW.PrintWords Go.Proofs.YtbahnialbffkeaaW.PrintLast Go.Proofs.YtbahnialbffkeaaW.PrintMore
set_option linter.unusedVariables false

theorem w64 {x : Int} (h0 : -9223372036854775808 ≤ x) (h1 : x ≤ 9223372036854775807) : wrap64 x = x := by
  unfold wrap64; omega
theorem w64s {j : Nat} (h1 : j < 4611686018427387904) : wrap64 ((j : Int) + 1) = ((j + 1 : Nat) : Int) := by
  unfold wrap64; omega
theorem S50_eta (e : S50) : (⟨e.f0, e.f1⟩ : S50) = e := by cases e; rfl

theorem rd50 (l : List S50) (j : Nat) (h : j < l.length) : rd_T50 l (j : Int) = l[j] := by
  unfold rd_T50
  simp [List.getD_eq_getElem?_getD, List.getElem?_eq_getElem h]
theorem rdi (l : List Int) (j : Nat) (h : j < l.length) : rd l (j : Int) = l[j] := by
  unfold rd
  simp [List.getD_eq_getElem?_getD, List.getElem?_eq_getElem h]

/-- an edge by the rule -/
def okE (n : Int) (e : S50) : Prop := 0 ≤ e.f0 ∧ e.f0 < e.f1 ∧ e.f1 < n
instance (n : Int) (e : S50) : Decidable (okE n e) := by unfold okE; infer_instance
/-- the error of edges, from some place on -/
def chkE (n : Int) (l : List S50) : Int := if ∀ e ∈ l, okE n e then 0 else 71
/-- Check's error -/
def chk (n : Int) (l : List S50) : Int := if n < 0 ∨ n > 4096 then 70 else if (l.length : Int) > 16384 then 2 else chkE n l

theorem chkE_nil (n : Int) : chkE n [] = 0 := by simp [chkE]
theorem chkE_ok {n : Int} {e : S50} {l : List S50} (h : okE n e) : chkE n (e :: l) = chkE n l := by simp [chkE, h]
theorem chkE_no {n : Int} {e : S50} {l : List S50} (h : ¬ okE n e) : chkE n (e :: l) = 71 := by simp [chkE, h]
theorem chk_zero {n : Int} {l : List S50} (h : chk n l = 0) : 0 ≤ n ∧ n ≤ 4096 ∧ l.length ≤ 16384 ∧ ∀ e ∈ l, okE n e := by
  unfold chk at h
  split at h
  · cases h
  · split at h
    · cases h
    · unfold chkE at h
      split at h
      · refine ⟨by omega, by omega, by omega, ‹_›⟩
      · cases h

theorem dagCheck_l0 (n : Int) (l : List S50) (hl : l.length < 1099511627776) : ∀ (d j : Nat), j + d = l.length → Ev (fun k => dag_Check.l0 k l (l.length : Int) (j : Int) n l) (chkE n (l.drop j)) := by
  intro d
  induction d with
  | zero =>
    intro j hj
    refine Ev.step (f := fun _ => some (chkE n (l.drop j))) (fun k => ?_) (Ev.now _)
    simp only [dag_Check.l0]
    rw [if_neg (by omega), List.drop_of_length_le (by omega), chkE_nil]
  | succ d ih =>
    intro j hj
    have hlt : j < l.length := by omega
    have hdr : l.drop j = l[j] :: l.drop (j + 1) := List.drop_eq_getElem_cons hlt
    by_cases hk : okE n l[j]
    · refine Ev.step (f := fun k => dag_Check.l0 k l (l.length : Int) ((j + 1 : Nat) : Int) n l) (fun k => ?_) ?_
      · simp only [dag_Check.l0]
        rw [if_pos (by omega), if_pos (by omega), if_pos (by omega), rd50 l j hlt, w64s (by omega)]
        obtain ⟨h0, h1, h2⟩ := hk
        rw [if_neg (by omega), if_neg (by omega), if_neg (by omega)]
      · rw [hdr, chkE_ok hk]
        exact ih (j + 1) (by omega)
    · refine Ev.step (f := fun _ => some (chkE n (l.drop j))) (fun k => ?_) (Ev.now _)
      simp only [dag_Check.l0]
      rw [if_pos (by omega), if_pos (by omega), if_pos (by omega), rd50 l j hlt, hdr, chkE_no hk]
      by_cases h0 : l[j].f0 < 0
      · rw [if_pos h0]
      rw [if_neg h0]
      by_cases h1 : l[j].f0 ≥ l[j].f1
      · rw [if_pos h1]
      rw [if_neg h1]
      by_cases h2 : l[j].f1 ≥ n
      · rw [if_pos h2]
      exact absurd (show okE n l[j] from ⟨by omega, by omega, by omega⟩) hk

theorem refCheck_l0 (n : Int) (l : List S50) (hl : l.length < 1099511627776) : ∀ (d j : Nat), j + d = l.length → Ev (fun k => plunderref7_Check.l0 k (j : Int) n l) (chkE n (l.drop j)) := by
  intro d
  induction d with
  | zero =>
    intro j hj
    refine Ev.step (f := fun _ => some (chkE n (l.drop j))) (fun k => ?_) (Ev.now _)
    simp only [plunderref7_Check.l0]
    rw [if_neg (by omega), List.drop_of_length_le (by omega), chkE_nil]
  | succ d ih =>
    intro j hj
    have hlt : j < l.length := by omega
    have hdr : l.drop j = l[j] :: l.drop (j + 1) := List.drop_eq_getElem_cons hlt
    by_cases hk : okE n l[j]
    · refine Ev.step (f := fun k => plunderref7_Check.l0 k ((j + 1 : Nat) : Int) n l) (fun k => ?_) ?_
      · simp only [plunderref7_Check.l0]
        rw [if_pos (by omega), if_pos (by omega), rd50 l j hlt, w64s (by omega)]
        obtain ⟨h0, h1, h2⟩ := hk
        rw [if_neg (by omega), if_neg (by omega), if_neg (by omega)]
      · rw [hdr, chkE_ok hk]
        exact ih (j + 1) (by omega)
    · refine Ev.step (f := fun _ => some (chkE n (l.drop j))) (fun k => ?_) (Ev.now _)
      simp only [plunderref7_Check.l0]
      rw [if_pos (by omega), if_pos (by omega), rd50 l j hlt, hdr, chkE_no hk]
      by_cases h0 : l[j].f0 < 0
      · rw [if_pos h0]
      rw [if_neg h0]
      by_cases h1 : l[j].f0 ≥ l[j].f1
      · rw [if_pos h1]
      rw [if_neg h1]
      by_cases h2 : l[j].f1 ≥ n
      · rw [if_pos h2]
      exact absurd (show okE n l[j] from ⟨by omega, by omega, by omega⟩) hk

theorem dagCheck_j0 (n : Int) (l : List S50) (hl : l.length < 1099511627776) (b : Bool) :
    Ev (fun k => dag_Check.j0 k b n l) (if b = true then 70 else if (l.length : Int) > 16384 then 2 else chkE n l) := by
  cases b with
  | true => exact Ev.step (f := fun _ => some 70) (fun k => by simp [dag_Check.j0]) (Ev.now _)
  | false =>
    by_cases h : (l.length : Int) > 16384
    · exact Ev.step (f := fun _ => some 2) (fun k => by simp only [dag_Check.j0]; rw [if_neg (by decide), if_pos h]) (by rw [if_neg (by decide), if_pos h]; exact Ev.now _)
    · refine Ev.step (f := fun k => dag_Check.l0 k l (l.length : Int) ((0 : Nat) : Int) n l) (fun k => by simp only [dag_Check.j0]; rw [if_neg (by decide), if_neg h]; rfl) ?_
      rw [if_neg (by decide), if_neg h]
      exact dagCheck_l0 n l hl l.length 0 (by omega)
theorem refCheck_j0 (n : Int) (l : List S50) (hl : l.length < 1099511627776) (b : Bool) :
    Ev (fun k => plunderref7_Check.j0 k b n l) (if b = true then 70 else if (l.length : Int) > 16384 then 2 else chkE n l) := by
  cases b with
  | true => exact Ev.step (f := fun _ => some 70) (fun k => by simp [plunderref7_Check.j0]) (Ev.now _)
  | false =>
    by_cases h : (l.length : Int) > 16384
    · exact Ev.step (f := fun _ => some 2) (fun k => by simp only [plunderref7_Check.j0]; rw [if_neg (by decide), if_pos h]) (by rw [if_neg (by decide), if_pos h]; exact Ev.now _)
    · refine Ev.step (f := fun k => plunderref7_Check.l0 k ((0 : Nat) : Int) n l) (fun k => by simp only [plunderref7_Check.j0]; rw [if_neg (by decide), if_neg h]; rfl) ?_
      rw [if_neg (by decide), if_neg h]
      exact refCheck_l0 n l hl l.length 0 (by omega)

theorem dagCheck_ev (n : Int) (l : List S50) (hl : l.length < 1099511627776) : Ev (fun k => dag_Check.f k n l) (chk n l) := by
  by_cases h : n < 0
  · refine Ev.congr (f := fun k => dag_Check.j0 k true n l) (fun k => by unfold dag_Check.f; rw [if_pos h]) ?_
    have := dagCheck_j0 n l hl true
    rw [if_pos rfl] at this
    rw [chk, if_pos (Or.inl h)]; exact this
  · refine Ev.congr (f := fun k => dag_Check.j0 k (decide (n > 4096)) n l) (fun k => by unfold dag_Check.f; rw [if_neg h]) ?_
    have h2 := dagCheck_j0 n l hl (decide (n > 4096))
    have e : chk n l = if decide (n > 4096) = true then 70 else if (l.length : Int) > 16384 then 2 else chkE n l := by
      unfold chk
      by_cases h3 : n > 4096
      · rw [if_pos (Or.inr h3), if_pos (by simpa using h3)]
      · have hd : decide (n > 4096) = false := by simpa using h3
        rw [hd, if_neg (show ¬ (n < 0 ∨ n > 4096) by omega)]
        simp
    rw [e]; exact h2
theorem refCheck_ev (n : Int) (l : List S50) (hl : l.length < 1099511627776) : Ev (fun k => plunderref7_Check.f k n l) (chk n l) := by
  by_cases h : n < 0
  · refine Ev.congr (f := fun k => plunderref7_Check.j0 k true n l) (fun k => by unfold plunderref7_Check.f; rw [if_pos h]) ?_
    have := refCheck_j0 n l hl true
    rw [if_pos rfl] at this
    rw [chk, if_pos (Or.inl h)]; exact this
  · refine Ev.congr (f := fun k => plunderref7_Check.j0 k (decide (n > 4096)) n l) (fun k => by unfold plunderref7_Check.f; rw [if_neg h]) ?_
    have h2 := refCheck_j0 n l hl (decide (n > 4096))
    have e : chk n l = if decide (n > 4096) = true then 70 else if (l.length : Int) > 16384 then 2 else chkE n l := by
      unfold chk
      by_cases h3 : n > 4096
      · rw [if_pos (Or.inr h3), if_pos (by simpa using h3)]
      · have hd : decide (n > 4096) = false := by simpa using h3
        rw [hd, if_neg (show ¬ (n < 0 ∨ n > 4096) by omega)]
        simp
    rw [e]; exact h2

/-- moved: as many edges, with other ends -/
def mvE (e : S50) : S50 := ⟨e.f0, wrap64 (e.f1 + 1)⟩
theorem moved_l0 (n : Int) (l : List S50) (hl : l.length < 1099511627776) : ∀ (d j : Nat), j + d = l.length →
    Ev (fun k => plunderlaw7_moved.l0 k (j : Int) n l n ((l.take j).map mvE)) (n, l.map mvE) := by
  intro d
  induction d with
  | zero =>
    intro j hj
    refine Ev.step (f := fun _ => some (n, l.map mvE)) (fun k => ?_) (Ev.now _)
    have hlen : ((l.take j).map mvE).length = l.length := by simp; omega
    simp only [plunderlaw7_moved.l0]
    rw [if_neg (by omega), if_pos (by rw [hlen]; omega)]
    simp only [Option.bind_some]
    rw [if_pos (by omega), if_pos (by simp; omega)]
    have e1 : l.take j = l := List.take_of_length_le (by omega)
    rw [e1]
    simp
  | succ d ih =>
    intro j hj
    have hlt : j < l.length := by omega
    refine Ev.step (f := fun k => plunderlaw7_moved.l0 k ((j + 1 : Nat) : Int) n l n ((l.take (j + 1)).map mvE)) (fun k => ?_) (ih (j + 1) (by omega))
    simp only [plunderlaw7_moved.l0]
    rw [if_pos (by omega), if_pos (by omega), if_pos (by simp; omega), rd50 l j hlt, w64s (by omega)]
    congr 1
    rw [List.map_take, List.map_take, List.take_succ_eq_append_getElem (by simp; omega)]
    simp [mvE]
theorem moved_ev (n : Int) (l : List S50) (hl : l.length < 1099511627776) : Ev (fun k => plunderlaw7_moved.f k n l) (n, l.map mvE) := by
  have := moved_l0 n l hl l.length 0 (by omega)
  exact this

theorem back_l0 (n m : Int) (l : List S50) (hl : l.length < 1099511627776) : ∀ (d j : Nat) (x : List S50), j + d = l.length → x.length = l.length → x.take j = l.take j →
    Ev (fun k => plunderlaw7_back.l0 k (j : Int) n x m l) l := by
  intro d
  induction d with
  | zero =>
    intro j x hj hx ht
    refine Ev.step (f := fun _ => some l) (fun k => ?_) (Ev.now _)
    simp only [plunderlaw7_back.l0]
    rw [if_neg (by omega)]
    rw [List.take_of_length_le (by omega), List.take_of_length_le (by omega)] at ht
    rw [ht]
  | succ d ih =>
    intro j x hj hx ht
    have hlt : j < l.length := by omega
    refine Ev.step (f := fun k => plunderlaw7_back.l0 k ((j + 1 : Nat) : Int) n (x.set j l[j]) m l) (fun k => ?_) (ih (j + 1) (x.set j l[j]) (by omega) (by simpa using hx) ?_)
    · simp only [plunderlaw7_back.l0]
      rw [if_pos (by omega), if_pos (by omega), if_pos (by omega), rd50 l j hlt, w64s (by omega), S50_eta]
      rfl
    · rw [List.take_succ_eq_append_getElem hlt, List.take_succ_eq_append_getElem (by simp; omega), ← ht]
      rw [List.take_set_of_le (Nat.le_refl j)]
      simp
theorem back_ev (n m : Int) (l x : List S50) (hl : l.length < 1099511627776) (hx : x.length = l.length) : Ev (fun k => plunderlaw7_back.f k n x m l) l :=
  back_l0 n m l hl l.length 0 x (by omega) hx (by simp)

theorem sameEdges_l0 (l : List S50) (hl : l.length < 1099511627776) : ∀ (d j : Nat), j + d = l.length → Ev (fun k => plunderlaw7_sameEdges.l0 k l l (j : Int)) true := by
  intro d
  induction d with
  | zero =>
    intro j hj
    refine Ev.step (f := fun _ => some true) (fun k => ?_) (Ev.now _)
    simp only [plunderlaw7_sameEdges.l0]
    rw [if_neg (by omega)]
  | succ d ih =>
    intro j hj
    refine Ev.step (f := fun k => plunderlaw7_sameEdges.l0 k l l ((j + 1 : Nat) : Int)) (fun k => ?_) (ih (j + 1) (by omega))
    simp only [plunderlaw7_sameEdges.l0]
    rw [if_pos (by omega), if_pos (by omega), if_pos (by omega), w64s (by omega), if_neg (by simp)]
theorem sameEdges_ev (l : List S50) (hl : l.length < 1099511627776) : Ev (fun k => plunderlaw7_sameEdges.f k l l) true := by
  refine Ev.congr (f := fun k => plunderlaw7_sameEdges.l0 k l l ((0 : Nat) : Int)) (fun k => by unfold plunderlaw7_sameEdges.f; rw [if_pos rfl]; rfl) ?_
  exact sameEdges_l0 l hl l.length 0 (by omega)
end Go.Proofs.Ytbahnialbffkeaa.P
namespace Go.Proofs.Ytbahnialbffkeaa.P
open Go.RowKit Go.Proofs.YtbahnialbffkeaaW.PrintWords Go.Proofs.YtbahnialbffkeaaW.PrintLast Go.Proofs.YtbahnialbffkeaaW.PrintMore
set_option linter.unusedVariables false
set_option linter.unusedSimpArgs false
/-- what is handed out, one after the other -/
def popsL : Nat → List Int → List Int
  | 0, _ => []
  | d + 1, H => H.getD 0 0 :: popsL d (popL H)
theorem grpR_pops : ∀ (d : Nat) (H : List Int) (L : List S70), grpR d H L = (popsL d H).foldl addR L := by
  intro d
  induction d with
  | zero => intro H L; rfl
  | succ d ih => intro H L; rw [grpR, ih, popsL, List.foldl_cons]
theorem pops_perm : ∀ (d : Nat) (H : List Int), H.length = d → (popsL d H).Perm H := by
  intro d
  induction d with
  | zero =>
    intro H h
    rw [List.length_eq_zero_iff.mp h, popsL]
  | succ d ih =>
    intro H h
    rw [popsL]
    exact ((ih (popL H) (by rw [popL_length]; omega)).cons _).trans (popL_perm H (by omega)).symm
theorem pops_sorted : ∀ (d : Nat) (H : List Int), H.length = d → isHeap H → (popsL d H).Pairwise (· ≤ ·) := by
  intro d
  induction d with
  | zero => intro H _ _; rw [popsL]; exact List.Pairwise.nil
  | succ d ih =>
    intro H h hh
    rw [popsL, List.pairwise_cons]
    refine ⟨fun x hx => ?_, ih (popL H) (by rw [popL_length]; omega) (popL_heap H hh (by omega))⟩
    have h1 := (pops_perm d (popL H) (by rw [popL_length]; omega)).mem_iff.mp hx
    exact heap_least_mem H hh ((popL_perm H (by omega)).mem_iff.mpr (List.mem_cons_of_mem _ h1))
theorem pushes_heap : ∀ (T H : List Int), isHeap H → isHeap (T.foldl pushL H) ∧ (T.foldl pushL H).Perm (T ++ H) := by
  intro T
  induction T with
  | nil => intro H h; exact ⟨h, List.Perm.refl _⟩
  | cons x T ih =>
    intro H h
    obtain ⟨a, b⟩ := ih (pushL H x) (pushL_heap H x h)
    refine ⟨a, b.trans ?_⟩
    refine ((List.Perm.append_left T (pushL_perm H x)).trans ?_)
    exact (List.perm_middle (a := x) (l₁ := T) (l₂ := H))
/-- the rows of a sorted list -/
structure RowsOK (S : List Int) (L : List S70) : Prop where
  up : L.Pairwise (fun a b => a.f0 < b.f0)
  cnt : ∀ r ∈ L, r.f1 = (S.count r.f0 : Int) ∧ r.f0 ∈ S
  all : ∀ x ∈ S, ∃ r ∈ L, r.f0 = x
theorem rd70_last (L : List S70) (r : S70) : rd_T70 (L ++ [r]) (((L ++ [r]).length : Int) - 1) = r := by
  unfold rd_T70
  rw [show (((L ++ [r]).length : Int) - 1).toNat = L.length from by simp, List.getD_eq_getElem?_getD]
  simp
theorem addR_nil (t : Int) : addR [] t = [⟨t, 1, 0⟩] := by
  unfold addR
  rw [if_neg (by simp)]
  rfl
theorem addR_same (L : List S70) (r : S70) : addR (L ++ [r]) r.f0 = L ++ [⟨r.f0, wrap64 (r.f1 + 1), r.f2⟩] := by
  unfold addR
  rw [rd70_last, if_pos ⟨by simp, rfl⟩, show (((L ++ [r]).length : Int) - 1).toNat = L.length from by simp]
  simp
theorem addR_new (L : List S70) (r : S70) (t : Int) (h : r.f0 ≠ t) : addR (L ++ [r]) t = L ++ [r] ++ [⟨t, 1, 0⟩] := by
  unfold addR
  rw [rd70_last, if_neg (fun h2 => h h2.2)]
theorem rows_step {S : List Int} {L : List S70} (h : RowsOK S L) (hS : S.length ≤ 1000000) (t : Int) (ht : ∀ x ∈ S, x ≤ t) : RowsOK (S ++ [t]) (addR L t) := by
  rcases List.eq_nil_or_concat L with rfl | ⟨L', r, hL⟩
  · have hs : S = [] := by
      rw [List.eq_nil_iff_forall_not_mem]
      intro x hx
      obtain ⟨r, hr, -⟩ := h.all x hx
      cases hr
    subst hs
    rw [addR_nil]
    refine ⟨List.pairwise_singleton _ _, fun r hr => ?_, fun x hx => ?_⟩
    · rw [List.mem_singleton.mp hr]; simp
    · exact ⟨_, List.mem_singleton.mpr rfl, (List.mem_singleton.mp (by simpa using hx)).symm⟩
  · have hL : L = L' ++ [r] := by simpa using hL
    subst hL
    have hup := List.pairwise_append.mp h.up
    have hlow : ∀ q ∈ L', q.f0 < r.f0 := fun q hq => hup.2.2 q hq r (List.mem_singleton.mpr rfl)
    have hr := h.cnt r (List.mem_append_right _ (List.mem_singleton.mpr rfl))
    have hrt := ht _ hr.2
    by_cases he : r.f0 = t
    · subst he
      rw [addR_same]
      refine ⟨?_, fun q hq => ?_, fun x hx => ?_⟩
      · rw [List.pairwise_append]
        refine ⟨hup.1, List.pairwise_singleton _ _, fun a ha b hb => ?_⟩
        rw [List.mem_singleton.mp hb]
        exact hlow a ha
      · rcases List.mem_append.mp hq with hq | hq
        · obtain ⟨h1, h2⟩ := h.cnt q (List.mem_append_left _ hq)
          refine ⟨?_, List.mem_append_left _ h2⟩
          have h3 := hlow q hq
          rw [List.count_append, h1, List.count_singleton]
          rw [if_neg (by simp; omega)]
          simp
        · rw [List.mem_singleton.mp hq]
          refine ⟨?_, List.mem_append_left _ hr.2⟩
          show wrap64 (r.f1 + 1) = _
          have h3 : S.count r.f0 ≤ S.length := List.count_le_length
          rw [List.count_append, List.count_singleton, hr.1]
          simp only [beq_self_eq_true, if_true]
          unfold wrap64
          omega
      · rcases List.mem_append.mp hx with hx | hx
        · obtain ⟨q, hq, rfl⟩ := h.all x hx
          rcases List.mem_append.mp hq with hq | hq
          · exact ⟨q, List.mem_append_left _ hq, rfl⟩
          · rw [List.mem_singleton.mp hq]
            exact ⟨_, List.mem_append_right _ (List.mem_singleton.mpr rfl), rfl⟩
        · rw [List.mem_singleton.mp hx]
          exact ⟨_, List.mem_append_right _ (List.mem_singleton.mpr rfl), rfl⟩
    · rw [addR_new L' r t he]
      have hall : ∀ q ∈ L' ++ [r], q.f0 < t := fun q hq => by
        rcases List.mem_append.mp hq with hq | hq
        · have := hlow q hq
          omega
        · rw [List.mem_singleton.mp hq]; omega
      have hno : t ∉ S := fun hm => by
        obtain ⟨q, hq, h2⟩ := h.all t hm
        have := hall q hq
        omega
      refine ⟨?_, fun q hq => ?_, fun x hx => ?_⟩
      · rw [List.pairwise_append]
        refine ⟨h.up, List.pairwise_singleton _ _, fun a ha b hb => ?_⟩
        rw [List.mem_singleton.mp hb]
        exact hall a ha
      · rcases List.mem_append.mp hq with hq | hq
        · obtain ⟨h1, h2⟩ := h.cnt q hq
          refine ⟨?_, List.mem_append_left _ h2⟩
          have h3 := hall q hq
          rw [List.count_append, h1, List.count_singleton, if_neg (by simp; omega)]
          simp
        · rw [List.mem_singleton.mp hq]
          refine ⟨?_, by simp⟩
          show (1 : Int) = _
          rw [List.count_append, List.count_eq_zero.mpr hno, List.count_singleton]
          simp
      · rcases List.mem_append.mp hx with hx | hx
        · obtain ⟨q, hq, h2⟩ := h.all x hx
          exact ⟨q, List.mem_append_left _ hq, h2⟩
        · rw [List.mem_singleton.mp hx]
          exact ⟨_, List.mem_append_right _ (List.mem_singleton.mpr rfl), rfl⟩
theorem rows_all : ∀ (S2 S1 : List Int) (L : List S70), RowsOK S1 L → (S1 ++ S2).Pairwise (· ≤ ·) → (S1 ++ S2).length ≤ 1000000 → RowsOK (S1 ++ S2) (S2.foldl addR L) := by
  intro S2
  induction S2 with
  | nil => intro S1 L h _ _; rw [List.append_nil]; exact h
  | cons t S2 ih =>
    intro S1 L h hp hl
    have e : S1 ++ t :: S2 = (S1 ++ [t]) ++ S2 := by simp
    rw [List.foldl_cons, e]
    rw [e] at hp hl
    refine ih (S1 ++ [t]) (addR L t) (rows_step h (by simp at hl; omega) t (fun x hx => ?_)) hp hl
    exact (List.pairwise_append.mp (List.pairwise_append.mp hp).1).2.2 x hx t (List.mem_singleton.mpr rfl)
theorem RowsOK.perm {S T : List Int} {L : List S70} (h : RowsOK S L) (hp : S.Perm T) : RowsOK T L :=
  ⟨h.up, fun r hr => ⟨by rw [← hp.count_eq]; exact (h.cnt r hr).1, hp.mem_iff.mp (h.cnt r hr).2⟩, fun x hx => h.all x (hp.mem_iff.mpr hx)⟩
theorem grp_ok (T : List Int) (hT : T.length ≤ 1000000) : RowsOK T (grpR T.length (T.foldl pushL []) []) := by
  have h0 : isHeap [] := fun j _ h => by simp at h
  obtain ⟨hh, hp⟩ := pushes_heap T [] h0
  rw [List.append_nil] at hp
  have hl := hp.length_eq
  rw [grpR_pops]
  have hq := pops_perm T.length _ hl
  have h1 := rows_all (popsL T.length (T.foldl pushL [])) [] [] ⟨List.Pairwise.nil, fun r hr => (by cases hr), fun x hx => (by cases hx)⟩ (by rw [List.nil_append]; exact pops_sorted _ _ hl hh) (by rw [List.nil_append, hq.length_eq, hl]; exact hT)
  rw [List.nil_append] at h1
  exact (h1.perm hq).perm hp
/-- from which time on all up to the time of row k is full, if that row is -/
def sv (L : List S70) (p : Int) : Nat → Int
  | 0 => (rd_T70 L ((0 : Nat) : Int)).f0
  | j + 1 => if (rd_T70 L ((j + 1 : Nat) : Int)).f1 = p ∧ (rd_T70 L (j : Int)).f1 = p ∧ (rd_T70 L (j : Int)).f0 = (rd_T70 L ((j + 1 : Nat) : Int)).f0 - 1 then sv L p j else (rd_T70 L ((j + 1 : Nat) : Int)).f0
theorem rd70_get (L : List S70) (j : Nat) (h : j < L.length) : rd_T70 L (j : Int) = L[j] := by
  unfold rd_T70
  simp [List.getD_eq_getElem?_getD, List.getElem?_eq_getElem h]
theorem rd70_mem (L : List S70) (j : Nat) (h : j < L.length) : rd_T70 L (j : Int) ∈ L := by rw [rd70_get L j h]; exact List.getElem_mem h
theorem RowsOK.lt {S : List Int} {L : List S70} (h : RowsOK S L) {i j : Nat} (hij : i < j) (hj : j < L.length) : (rd_T70 L (i : Int)).f0 < (rd_T70 L (j : Int)).f0 := by
  rw [rd70_get L i (by omega), rd70_get L j hj]
  exact List.pairwise_iff_getElem.mp h.up i j (by omega) hj hij
theorem rd70_set (L : List S70) (i : Int) (h0 : 0 ≤ i) (h : i < (L.length : Int)) (x : S70) (k : Int) (hk : 0 ≤ k) : rd_T70 (L.set i.toNat x) k = if k = i then x else rd_T70 L k := by
  unfold rd_T70
  rw [List.getD_eq_getElem?_getD, List.getD_eq_getElem?_getD, List.getElem?_set]
  by_cases h1 : k = i
  · subst h1
    rw [if_pos rfl, if_pos (by omega), if_pos rfl]
    rfl
  · rw [if_neg (by omega), if_neg h1]
/-- the loop behind the grouping -/
theorem rows_l1 (L : List S70) (p : Int) (hb : ∀ j : Nat, j < L.length → 1 ≤ (rd_T70 L (j : Int)).f0 ∧ (rd_T70 L (j : Int)).f0 ≤ 9223372036854775807) (hn : L.length ≤ 1000000) : ∀ (d i : Nat) (C : List S70), i + d = L.length → C.length = L.length →
    (∀ j : Nat, j < L.length → (rd_T70 C (j : Int)).f0 = (rd_T70 L (j : Int)).f0 ∧ (rd_T70 C (j : Int)).f1 = (rd_T70 L (j : Int)).f1 ∧ (j < i → (rd_T70 C (j : Int)).f2 = sv L p j)) →
    ∃ R : List S70, Ev (fun k => dag_rows.l1 k p C (L.length : Int) (i : Int)) R ∧ R.length = L.length ∧ ∀ j : Nat, j < L.length → (rd_T70 R (j : Int)).f0 = (rd_T70 L (j : Int)).f0 ∧ (rd_T70 R (j : Int)).f1 = (rd_T70 L (j : Int)).f1 ∧ (rd_T70 R (j : Int)).f2 = sv L p j := by
  intro d
  induction d with
  | zero =>
    intro i C hi hC hc
    refine ⟨C, Ev.step (f := fun _ => some C) (fun k => ?_) (Ev.now _), hC, fun j hj => ⟨(hc j hj).1, (hc j hj).2.1, (hc j hj).2.2 (by omega)⟩⟩
    simp only [dag_rows.l1]
    rw [if_neg (by omega)]
  | succ d ih =>
    intro i C hi hC hc
    have hlt : i < L.length := by omega
    obtain ⟨q, hq⟩ : ∃ q, q = C.set (i : Int).toNat (⟨(rd_T70 C (i : Int)).f0, (rd_T70 C (i : Int)).f1, (rd_T70 C (i : Int)).f0⟩ : S70) := ⟨_, rfl⟩
    have hql : q.length = L.length := by rw [hq, List.length_set, hC]
    have hrd : ∀ k : Int, 0 ≤ k → rd_T70 q k = if k = (i : Int) then ⟨(rd_T70 C (i : Int)).f0, (rd_T70 C (i : Int)).f1, (rd_T70 C (i : Int)).f0⟩ else rd_T70 C k := fun k hk => by
      rw [hq]
      exact rd70_set C (i : Int) (by omega) (by omega) _ k hk
    have hci := hc i hlt
    have hqi : rd_T70 q (i : Int) = ⟨(rd_T70 L (i : Int)).f0, (rd_T70 L (i : Int)).f1, (rd_T70 L (i : Int)).f0⟩ := by
      rw [hrd _ (by omega), if_pos rfl, hci.1, hci.2.1]
    have hw : wrap64 ((i : Int) + 1) = ((i + 1 : Nat) : Int) := w64s (by omega)
    -- the row as it stands, when the one ahead does not join
    have plain : sv L p i = (rd_T70 L (i : Int)).f0 → ∀ j : Nat, j < L.length → (rd_T70 q (j : Int)).f0 = (rd_T70 L (j : Int)).f0 ∧ (rd_T70 q (j : Int)).f1 = (rd_T70 L (j : Int)).f1 ∧ (j < i + 1 → (rd_T70 q (j : Int)).f2 = sv L p j) := by
      intro hs j hj
      by_cases e : j = i
      · subst e
        rw [hqi]
        exact ⟨rfl, rfl, fun _ => hs.symm⟩
      · rw [hrd _ (by omega), if_neg (by omega)]
        exact ⟨(hc j hj).1, (hc j hj).2.1, fun h => (hc j hj).2.2 (by omega)⟩
    have head : ∀ r, Ev (fun k => if (i : Int) > 0 then (if ((rd_T70 q (i : Int)).f1) = p then (if 0 ≤ (wrap64 ((i : Int) - 1)) then (if (wrap64 ((i : Int) - 1)) < (C.length : Int) then (if ((rd_T70 q (wrap64 ((i : Int) - 1))).f1) = p then (if ((rd_T70 q (wrap64 ((i : Int) - 1))).f0) = (wrap64 (((rd_T70 q (i : Int)).f0) - 1)) then (dag_rows.l1 k p (q.set (i : Int).toNat (⟨(rd_T70 q (i : Int)).f0, (rd_T70 q (i : Int)).f1, (rd_T70 q (wrap64 ((i : Int) - 1))).f2⟩ : S70)) (L.length : Int) (wrap64 ((i : Int) + 1))) else (dag_rows.l1 k p q (L.length : Int) (wrap64 ((i : Int) + 1)))) else (dag_rows.l1 k p q (L.length : Int) (wrap64 ((i : Int) + 1)))) else (none)) else (none)) else (dag_rows.l1 k p q (L.length : Int) (wrap64 ((i : Int) + 1)))) else (dag_rows.l1 k p q (L.length : Int) (wrap64 ((i : Int) + 1)))) r → Ev (fun k => dag_rows.l1 k p C (L.length : Int) (i : Int)) r := by
      intro r hr
      refine Ev.step (fun k => ?_) hr
      simp only [dag_rows.l1]
      rw [if_pos (by omega), if_pos (by omega), if_pos (by omega), ← hq, Option.bind_some]
    by_cases h0 : i = 0
    · subst h0
      obtain ⟨R, hR, h⟩ := ih 1 q (by omega) hql (plain rfl)
      refine ⟨R, head R ?_, h⟩
      refine Ev.congr (f := fun k => dag_rows.l1 k p q (L.length : Int) ((1 : Nat) : Int)) (fun k => ?_) hR
      rw [if_neg (by omega), hw]
    · obtain ⟨m, rfl⟩ : ∃ m, i = m + 1 := ⟨i - 1, by omega⟩
      have hwm : wrap64 (((m + 1 : Nat) : Int) - 1) = (m : Int) := by rw [w64 (by omega) (by omega)]; omega
      have hqm : rd_T70 q (m : Int) = rd_T70 C (m : Int) := by rw [hrd _ (by omega), if_neg (by omega)]
      have hcm := hc m (by omega)
      have hw2 : wrap64 ((rd_T70 L ((m + 1 : Nat) : Int)).f0 - 1) = (rd_T70 L ((m + 1 : Nat) : Int)).f0 - 1 := by
        have := hb (m + 1) hlt
        exact w64 (by omega) (by omega)
      have joined : ∀ h : (rd_T70 L ((m + 1 : Nat) : Int)).f1 = p ∧ (rd_T70 L (m : Int)).f1 = p ∧ (rd_T70 L (m : Int)).f0 = (rd_T70 L ((m + 1 : Nat) : Int)).f0 - 1, sv L p (m + 1) = sv L p m := fun h => by rw [sv, if_pos h]
      have apart : ∀ h : ¬ ((rd_T70 L ((m + 1 : Nat) : Int)).f1 = p ∧ (rd_T70 L (m : Int)).f1 = p ∧ (rd_T70 L (m : Int)).f0 = (rd_T70 L ((m + 1 : Nat) : Int)).f0 - 1), sv L p (m + 1) = (rd_T70 L ((m + 1 : Nat) : Int)).f0 := fun h => by rw [sv, if_neg h]
      by_cases c1 : (rd_T70 L ((m + 1 : Nat) : Int)).f1 = p
      · by_cases c2 : (rd_T70 L (m : Int)).f1 = p
        · by_cases c3 : (rd_T70 L (m : Int)).f0 = (rd_T70 L ((m + 1 : Nat) : Int)).f0 - 1
          · obtain ⟨q2, hq2⟩ : ∃ q2, q2 = q.set ((m + 1 : Nat) : Int).toNat (⟨(rd_T70 q ((m + 1 : Nat) : Int)).f0, (rd_T70 q ((m + 1 : Nat) : Int)).f1, (rd_T70 q (m : Int)).f2⟩ : S70) := ⟨_, rfl⟩
            have hrd2 : ∀ k : Int, 0 ≤ k → rd_T70 q2 k = if k = ((m + 1 : Nat) : Int) then ⟨(rd_T70 q ((m + 1 : Nat) : Int)).f0, (rd_T70 q ((m + 1 : Nat) : Int)).f1, (rd_T70 q (m : Int)).f2⟩ else rd_T70 q k := fun k hk => by
              rw [hq2]
              exact rd70_set q ((m + 1 : Nat) : Int) (by omega) (by omega) _ k hk
            obtain ⟨R, hR, h⟩ := ih (m + 1 + 1) q2 (by omega) (by rw [hq2, List.length_set, hql]) (fun j hj => by
              by_cases e : j = m + 1
              · subst e
                rw [hrd2 _ (by omega), if_pos rfl, hqi, hqm]
                exact ⟨rfl, rfl, fun _ => by rw [joined ⟨c1, c2, c3⟩]; exact hcm.2.2 (by omega)⟩
              · rw [hrd2 _ (by omega), if_neg (by omega), hrd _ (by omega), if_neg (by omega)]
                exact ⟨(hc j hj).1, (hc j hj).2.1, fun h => (hc j hj).2.2 (by omega)⟩)
            refine ⟨R, head R ?_, h⟩
            refine Ev.congr (f := fun k => dag_rows.l1 k p q2 (L.length : Int) ((m + 1 + 1 : Nat) : Int)) (fun k => ?_) hR
            rw [if_pos (by omega), hqi, if_pos c1, hwm, if_pos (by omega), if_pos (by omega), if_pos (by rw [hqm, hcm.2.1]; exact c2), if_pos (by rw [hqm, hcm.1]; show _ = wrap64 ((rd_T70 L ((m + 1 : Nat) : Int)).f0 - 1); rw [hw2]; exact c3), hw, hq2, hqi]
          · obtain ⟨R, hR, h⟩ := ih (m + 1 + 1) q (by omega) hql (plain (apart (fun h => c3 h.2.2)))
            refine ⟨R, head R ?_, h⟩
            refine Ev.congr (f := fun k => dag_rows.l1 k p q (L.length : Int) ((m + 1 + 1 : Nat) : Int)) (fun k => ?_) hR
            rw [if_pos (by omega), hqi, if_pos c1, hwm, if_pos (by omega), if_pos (by omega), if_pos (by rw [hqm, hcm.2.1]; exact c2), if_neg (by rw [hqm, hcm.1]; show ¬ _ = wrap64 ((rd_T70 L ((m + 1 : Nat) : Int)).f0 - 1); rw [hw2]; exact c3), hw]
        · obtain ⟨R, hR, h⟩ := ih (m + 1 + 1) q (by omega) hql (plain (apart (fun h => c2 h.2.1)))
          refine ⟨R, head R ?_, h⟩
          refine Ev.congr (f := fun k => dag_rows.l1 k p q (L.length : Int) ((m + 1 + 1 : Nat) : Int)) (fun k => ?_) hR
          rw [if_pos (by omega), hqi, if_pos c1, hwm, if_pos (by omega), if_pos (by omega), if_neg (by rw [hqm, hcm.2.1]; exact c2), hw]
      · obtain ⟨R, hR, h⟩ := ih (m + 1 + 1) q (by omega) hql (plain (apart (fun h => c1 h.1)))
        refine ⟨R, head R ?_, h⟩
        refine Ev.congr (f := fun k => dag_rows.l1 k p q (L.length : Int) ((m + 1 + 1 : Nat) : Int)) (fun k => ?_) hR
        rw [if_pos (by omega), hqi, if_neg c1, hw]
end Go.Proofs.Ytbahnialbffkeaa.P
namespace Go.Proofs.Ytbahnialbffkeaa.P
open Go.RowKit Go.Proofs.YtbahnialbffkeaaW.PrintWords Go.Proofs.YtbahnialbffkeaaW.PrintLast Go.Proofs.YtbahnialbffkeaaW.PrintMore
set_option linter.unusedVariables false

/-- the nodes that are ahead of node i by one edge, in the edges' order -/
def preds (l : List S50) (i : Nat) : List Int := (l.filter (fun e => e.f1 = (i : Int))).map (·.f0)
def rowsOf (n : Nat) (l : List S50) : List (List Int) := (List.range n).map (preds l)

theorem preds_snoc (l : List S50) (e : S50) (i : Nat) : preds (l ++ [e]) i = if e.f1 = (i : Int) then preds l i ++ [e.f0] else preds l i := by
  unfold preds
  by_cases h : e.f1 = (i : Int) <;> simp [List.filter_append, h]
theorem rowsOf_length (n : Nat) (l : List S50) : (rowsOf n l).length = n := by simp [rowsOf]
theorem rowsOf_getD (n : Nat) (l : List S50) (i : Nat) (h : i < n) : (rowsOf n l).getD i [] = preds l i := by
  simp [rowsOf, List.getD_eq_getElem?_getD, h]
theorem rowsOf_snoc (n : Nat) (l : List S50) (e : S50) (h0 : 0 ≤ e.f1) (h : e.f1 < (n : Int)) :
    (rowsOf n l).set e.f1.toNat ((rowsOf n l).getD e.f1.toNat [] ++ [e.f0]) = rowsOf n (l ++ [e]) := by
  apply List.ext_getElem?
  intro i
  rw [rowsOf_getD _ _ _ (by omega)]
  by_cases hi : i < n
  · by_cases he : e.f1.toNat = i
    · subst he
      rw [List.getElem?_set_self (by rw [rowsOf_length]; exact hi)]
      simp only [rowsOf, List.getElem?_map, List.getElem?_range hi, Option.map_some]
      rw [preds_snoc, if_pos (by omega)]
    · rw [List.getElem?_set_ne he]
      simp only [rowsOf, List.getElem?_map, List.getElem?_range hi, Option.map_some]
      rw [preds_snoc, if_neg (by omega)]
  · rw [List.getElem?_eq_none (by simp [rowsOf_length]; omega), List.getElem?_eq_none (by simp [rowsOf_length]; omega)]
theorem preds_mem {l : List S50} {i : Nat} {k : Int} (h : k ∈ preds l i) : ∃ e ∈ l, e.f1 = (i : Int) ∧ e.f0 = k := by
  unfold preds at h
  simp only [List.mem_map, List.mem_filter, decide_eq_true_eq] at h
  obtain ⟨e, ⟨he, h1⟩, h2⟩ := h
  exact ⟨e, he, h1, h2⟩
theorem rowsOf_nil (n : Nat) : rowsOf n [] = List.replicate n [] := by
  apply List.ext_getElem?
  intro i
  by_cases hi : i < n
  · simp [rowsOf, preds, hi]
  · rw [List.getElem?_eq_none (by simp [rowsOf_length]; omega), List.getElem?_eq_none (by simp; omega)]

theorem preds_len (l : List S50) (i : Nat) : (preds l i).length ≤ l.length := by
  unfold preds
  simp only [List.length_map]
  exact List.length_filter_le _ _

theorem before_l0 (n : Nat) (l : List S50) (hl : l.length < 1099511627776) (hok : ∀ e ∈ l, okE (n : Int) e) : ∀ (d j : Nat), j + d = l.length →
    Ev (fun k => plunderref7_before.l0 k (rowsOf n (l.take j)) (j : Int) (n : Int) l) (rowsOf n l) := by
  intro d
  induction d with
  | zero =>
    intro j hj
    refine Ev.step (f := fun _ => some (rowsOf n l)) (fun k => ?_) (Ev.now _)
    simp only [plunderref7_before.l0]
    rw [if_neg (by omega), List.take_of_length_le (by omega)]
  | succ d ih =>
    intro j hj
    have hlt : j < l.length := by omega
    obtain ⟨h0, h1, h2⟩ := hok l[j] (List.getElem_mem hlt)
    refine Ev.step (f := fun k => plunderref7_before.l0 k (rowsOf n (l.take (j + 1))) ((j + 1 : Nat) : Int) (n : Int) l) (fun k => ?_) (ih (j + 1) (by omega))
    simp only [plunderref7_before.l0]
    have hp : ((rowsOf n (l.take j)).getD l[j].f1.toNat []).length ≤ l.length := by
      rw [rowsOf_getD _ _ _ (by omega)]
      have h3 := preds_len (l.take j) l[j].f1.toNat
      have h4 : (l.take j).length ≤ l.length := by simp; omega
      omega
    rw [if_pos (by omega), if_pos (by omega), rd50 l j hlt, if_pos (by omega), if_pos (by rw [rowsOf_length]; omega), w64s (by omega)]
    rw [if_pos (by show ((rowsOf n (l.take j)).getD l[j].f1.toNat []).length < _; omega)]
    congr 1
    show (rowsOf n (l.take j)).set l[j].f1.toNat ((rowsOf n (l.take j)).getD l[j].f1.toNat [] ++ [l[j].f0]) = _
    rw [rowsOf_snoc n _ _ (by omega) h2, List.take_succ_eq_append_getElem hlt]
theorem before_ev (n : Nat) (l : List S50) (hn : n ≤ 4096) (hl : l.length < 1099511627776) (hok : ∀ e ∈ l, okE (n : Int) e) : Ev (fun k => plunderref7_before.f k (n : Int) l) (rowsOf n l) := by
  refine Ev.congr (f := fun k => plunderref7_before.l0 k (rowsOf n (l.take 0)) ((0 : Nat) : Int) (n : Int) l) (fun k => ?_) (before_l0 n l hl hok l.length 0 (by omega))
  unfold plunderref7_before.f
  rw [if_pos (by omega), if_pos (by omega)]
  simp [rowsOf_nil]

theorem same_l0 (x : List Int) (hx : x.length < 1099511627776) : ∀ (d j : Nat), j + d = x.length → Ev (fun k => plunderlaw7_same.l0 k x x (j : Int)) true := by
  intro d
  induction d with
  | zero =>
    intro j hj
    refine Ev.step (f := fun _ => some true) (fun k => ?_) (Ev.now _)
    simp only [plunderlaw7_same.l0]
    rw [if_neg (by omega)]
  | succ d ih =>
    intro j hj
    refine Ev.step (f := fun k => plunderlaw7_same.l0 k x x ((j + 1 : Nat) : Int)) (fun k => ?_) (ih (j + 1) (by omega))
    simp only [plunderlaw7_same.l0]
    rw [if_pos (by omega), if_pos (by omega), if_pos (by omega), if_pos trivial, w64s (by omega)]
theorem same_ev (x : List Int) (hx : x.length < 1099511627776) : Ev (fun k => plunderlaw7_same.f k x x) true := by
  refine Ev.congr (f := fun k => plunderlaw7_same.l0 k x x ((0 : Nat) : Int)) (fun k => by unfold plunderlaw7_same.f; rw [if_pos rfl]; rfl) ?_
  exact same_l0 x hx x.length 0 (by omega)
end Go.Proofs.Ytbahnialbffkeaa.P
namespace Go.Proofs.Ytbahnialbffkeaa.P
open Go.RowKit Go.Proofs.YtbahnialbffkeaaW.PrintWords Go.Proofs.YtbahnialbffkeaaW.PrintLast Go.Proofs.YtbahnialbffkeaaW.PrintMore
set_option linter.unusedVariables false
set_option linter.unusedSimpArgs false
theorem sv_le {S : List Int} {L : List S70} (h : RowsOK S L) (p : Int) : ∀ k : Nat, k < L.length → sv L p k ≤ (rd_T70 L (k : Int)).f0 := by
  intro k
  induction k with
  | zero => intro _; rw [sv]; exact Int.le_refl _
  | succ k ih =>
    intro hk
    have := ih (by omega)
    have := h.lt (i := k) (j := k + 1) (by omega) hk
    rw [sv]
    split <;> omega
theorem RowsOK.at {S : List Int} {L : List S70} (h : RowsOK S L) {t : Int} (ht : t ∈ S) : ∃ j : Nat, j < L.length ∧ (rd_T70 L (j : Int)).f0 = t := by
  obtain ⟨r, hr, rfl⟩ := h.all t ht
  obtain ⟨j, hj, rfl⟩ := List.mem_iff_getElem.mp hr
  exact ⟨j, hj, by rw [rd70_get L j hj]⟩
theorem RowsOK.f1 {S : List Int} {L : List S70} (h : RowsOK S L) {j : Nat} (hj : j < L.length) : (rd_T70 L (j : Int)).f1 = (S.count (rd_T70 L (j : Int)).f0 : Int) := (h.cnt _ (rd70_mem L j hj)).1
theorem sv_full {S : List Int} {L : List S70} (h : RowsOK S L) (p : Int) (hp : 1 ≤ p) (lo : Int) : ∀ k : Nat, k < L.length → (rd_T70 L (k : Int)).f1 = p → lo ≤ (rd_T70 L (k : Int)).f0 →
    (sv L p k ≤ lo ↔ ∀ t, lo ≤ t → t ≤ (rd_T70 L (k : Int)).f0 → (S.count t : Int) = p) := by
  -- a full time just ahead of row k belongs to the row ahead
  have ahead : ∀ k : Nat, k < L.length → (S.count ((rd_T70 L (k : Int)).f0 - 1) : Int) = p → ∃ m : Nat, k = m + 1 ∧ (rd_T70 L (m : Int)).f1 = p ∧ (rd_T70 L (m : Int)).f0 = (rd_T70 L (k : Int)).f0 - 1 := by
    intro k hk hc
    have hm : (rd_T70 L (k : Int)).f0 - 1 ∈ S := by
      rw [← List.count_pos_iff]
      omega
    obtain ⟨j, hj, he⟩ := h.at hm
    have hjk : j < k := by
      rcases Nat.lt_trichotomy j k with h1 | h1 | h1
      · exact h1
      · subst h1; omega
      · have := h.lt h1 hj; omega
    refine ⟨k - 1, by omega, ?_, ?_⟩
    · by_cases e : j = k - 1
      · rw [← e, h.f1 hj, he]; exact hc
      · have h2 := h.lt (i := j) (j := k - 1) (by omega) (by omega)
        have h3 := h.lt (i := k - 1) (j := k) (by omega) hk
        omega
    · by_cases e : j = k - 1
      · rw [← e]; exact he
      · have h2 := h.lt (i := j) (j := k - 1) (by omega) (by omega)
        have h3 := h.lt (i := k - 1) (j := k) (by omega) hk
        omega
  intro k
  induction k with
  | zero =>
    intro hk h1 hlo
    rw [sv]
    constructor
    · intro h2 t ht1 ht2
      rw [show t = (rd_T70 L ((0 : Nat) : Int)).f0 from by omega, ← h.f1 hk]
      exact h1
    · intro h2
      by_cases e : (rd_T70 L ((0 : Nat) : Int)).f0 = lo
      · omega
      · obtain ⟨m, hm, -⟩ := ahead 0 hk (h2 _ (by omega) (by omega))
        omega
  | succ k ih =>
    intro hk h1 hlo
    have hsv := sv_le h p k (by omega)
    by_cases c : (rd_T70 L ((k + 1 : Nat) : Int)).f1 = p ∧ (rd_T70 L (k : Int)).f1 = p ∧ (rd_T70 L (k : Int)).f0 = (rd_T70 L ((k + 1 : Nat) : Int)).f0 - 1
    · rw [sv, if_pos c]
      by_cases e : lo = (rd_T70 L ((k + 1 : Nat) : Int)).f0
      · constructor
        · intro _ t ht1 ht2
          rw [show t = (rd_T70 L ((k + 1 : Nat) : Int)).f0 from by omega, ← h.f1 hk]
          exact h1
        · intro _; omega
      · rw [ih (by omega) c.2.1 (by omega)]
        constructor
        · intro h2 t ht1 ht2
          by_cases e2 : t = (rd_T70 L ((k + 1 : Nat) : Int)).f0
          · rw [e2, ← h.f1 hk]; exact h1
          · exact h2 t ht1 (by omega)
        · intro h2 t ht1 ht2
          exact h2 t ht1 (by omega)
    · rw [sv, if_neg c]
      constructor
      · intro h2 t ht1 ht2
        rw [show t = (rd_T70 L ((k + 1 : Nat) : Int)).f0 from by omega, ← h.f1 hk]
        exact h1
      · intro h2
        by_cases e : (rd_T70 L ((k + 1 : Nat) : Int)).f0 = lo
        · omega
        · obtain ⟨m, hm, h3, h4⟩ := ahead (k + 1) hk (h2 _ (by omega) (by omega))
          obtain rfl : m = k := by omega
          exact absurd ⟨h1, h3, h4⟩ c
/-- where the bisection ends -/
theorem bisect_is (R : List S70) (t : Int) (hup : ∀ i j : Nat, i < j → j < R.length → (rd_T70 R (i : Int)).f0 < (rd_T70 R (j : Int)).f0) : ∀ (d lo hi : Nat), lo ≤ hi → hi ≤ R.length → hi - lo ≤ d →
    (∀ j : Nat, j < lo → (rd_T70 R (j : Int)).f0 < t) → (hi < R.length → (rd_T70 R (hi : Int)).f0 ≥ t) →
    (∀ j : Nat, j < bisect R t d lo hi → (rd_T70 R (j : Int)).f0 < t) ∧ (bisect R t d lo hi < R.length → (rd_T70 R (bisect R t d lo hi : Nat)).f0 ≥ t) := by
  intro d
  induction d with
  | zero =>
    intro lo hi h1 h2 h3 ha hb
    obtain rfl : lo = hi := by omega
    exact ⟨ha, hb⟩
  | succ d ih =>
    intro lo hi h1 h2 h3 ha hb
    rw [bisect]
    by_cases c : lo < hi
    · rw [if_pos c]
      by_cases c2 : (rd_T70 R ((lo + hi) / 2 : Nat)).f0 ≥ t
      · rw [if_pos c2]
        exact ih lo ((lo + hi) / 2) (by omega) (by omega) (by omega) ha (fun _ => c2)
      · rw [if_neg c2]
        refine ih ((lo + hi) / 2 + 1) hi (by omega) h2 (by omega) (fun j hj => ?_) hb
        by_cases e : j = (lo + hi) / 2
        · rw [e]; omega
        · have := hup j ((lo + hi) / 2) (by omega) (by omega)
          omega
    · rw [if_neg c]
      obtain rfl : lo = hi := by omega
      exact ⟨ha, hb⟩
theorem fullB_is {S : List Int} {L R : List S70} (h : RowsOK S L) (p : Int) (hp : 1 ≤ p) (hR : R.length = L.length) (hr : ∀ j : Nat, j < L.length → (rd_T70 R (j : Int)).f0 = (rd_T70 L (j : Int)).f0 ∧ (rd_T70 R (j : Int)).f1 = (rd_T70 L (j : Int)).f1 ∧ (rd_T70 R (j : Int)).f2 = sv L p j)
    (lo hi : Int) (hlh : lo ≤ hi) : fullB R p lo hi = true ↔ ∀ t, lo ≤ t → t ≤ hi → (S.count t : Int) = p := by
  have hb := bisect_is R hi (fun i j hij hj => by rw [(hr i (by omega)).1, (hr j (by omega)).1]; exact h.lt hij (by omega)) R.length 0 R.length (by omega) (by omega) (by omega) (fun j hj => by omega) (fun hj => by omega)
  unfold fullB
  generalize bisect R hi R.length 0 R.length = K at hb ⊢
  simp only [Bool.and_eq_true, decide_eq_true_eq, beq_iff_eq]
  constructor
  · rintro ⟨⟨⟨h1, h2⟩, h3⟩, h4⟩
    have hk := hr K (by omega)
    have := (sv_full h p hp lo K (by omega) (by rw [← hk.2.1]; exact h3) (by rw [← hk.1, h2]; exact hlh)).mp (by rw [← hk.2.2]; exact h4)
    intro t ht1 ht2
    exact this t ht1 (by rw [← hk.1, h2]; exact ht2)
  · intro h1
    have hm : hi ∈ S := by
      rw [← List.count_pos_iff]
      have := h1 hi hlh (by omega)
      omega
    obtain ⟨j, hj, he⟩ := h.at hm
    have hKj : K = j := by
      rcases Nat.lt_trichotomy K j with h2 | h2 | h2
      · have h3 := hb.2 (by omega)
        have h4 := h.lt h2 hj
        rw [← (hr K (by omega)).1] at h4
        omega
      · exact h2
      · have h3 := hb.1 j h2
        rw [(hr j hj).1] at h3
        omega
    subst hKj
    have hk := hr K hj
    have h2 : (rd_T70 R (K : Int)).f1 = p := by rw [hk.2.1, h.f1 hj, he]; exact h1 hi hlh (by omega)
    refine ⟨⟨⟨by omega, by rw [hk.1]; exact he⟩, h2⟩, ?_⟩
    rw [hk.2.2]
    exact (sv_full h p hp lo K hj (by rw [← hk.2.1]; exact h2) (by rw [he]; exact hlh)).mpr (fun t ht1 ht2 => h1 t ht1 (by rw [he] at ht2; exact ht2))
def posT (T : List Int) : Prop := ∀ x ∈ T, 1 ≤ x
def capT (T : List Int) (p : Int) : Prop := ∀ x ∈ T, (T.count x : Int) ≤ p
def ordT (l : List S50) (T : List Int) : Prop := ∀ e ∈ l, rd T e.f0 < rd T e.f1
/-- no time at which a node waits for nothing but a processor, and one stands idle -/
def busy (n : Nat) (l : List S50) (p : Int) (T : List Int) : Prop := ∀ i : Nat, i < n → ∀ t, 1 ≤ t → t < rd T (i : Int) → (∀ k ∈ preds l i, rd T k < t) → (T.count t : Int) = p
open Classical in
noncomputable def vdt (n : Nat) (l : List S50) (p : Int) (T : List Int) : Int := if posT T ∧ capT T p ∧ ordT l T then (if busy n l p T then 2 else 1) else 0
open Classical in
noncomputable def jdg (n : Int) (l : List S50) (p : Int) (T : List Int) : Int × Int :=
  if chk n l = 0 then (if p < 1 ∨ p > 64 then (0, 3) else if (T.length : Int) = n then (vdt n.toNat l p T, 0) else (0, 72)) else (0, chk n l)
theorem vdt_no {n : Nat} {l : List S50} {p : Int} {T : List Int} (h : ¬ (posT T ∧ capT T p ∧ ordT l T)) : vdt n l p T = 0 := by unfold vdt; rw [if_neg h]
theorem vdt_lazy {n : Nat} {l : List S50} {p : Int} {T : List Int} (h : posT T ∧ capT T p ∧ ordT l T) (h2 : ¬ busy n l p T) : vdt n l p T = 1 := by unfold vdt; rw [if_pos h, if_neg h2]
theorem vdt_busy {n : Nat} {l : List S50} {p : Int} {T : List Int} (h : posT T ∧ capT T p ∧ ordT l T) (h2 : busy n l p T) : vdt n l p T = 2 := by unfold vdt; rw [if_pos h, if_pos h2]
/-- since when a node can be done -/
def snc (l : List S50) (T : List Int) (i : Nat) : Int := (preds l i).foldl (fun a k => mx a (rd T k + 1)) 1
theorem snc_le (l : List S50) (T : List Int) (i : Nat) (t : Int) : snc l T i ≤ t ↔ 1 ≤ t ∧ ∀ k ∈ preds l i, rd T k < t := by
  have key : ∀ (row : List Int) (a : Int), row.foldl (fun a k => mx a (rd T k + 1)) a ≤ t ↔ a ≤ t ∧ ∀ k ∈ row, rd T k < t := by
    intro row
    induction row with
    | nil => intro a; simp
    | cons x row ih =>
      intro a
      rw [List.foldl_cons, ih]
      constructor
      · rintro ⟨h1, h2⟩
        unfold mx at h1
        refine ⟨by omega, fun k hk => ?_⟩
        rcases List.mem_cons.mp hk with rfl | hk
        · omega
        · exact h2 k hk
      · rintro ⟨h1, h2⟩
        have := h2 x List.mem_cons_self
        refine ⟨by unfold mx; omega, fun k hk => h2 k (List.mem_cons_of_mem _ hk)⟩
  exact key _ _
theorem snc_snoc (l : List S50) (T : List Int) (e : S50) (i : Nat) : snc (l ++ [e]) T i = if e.f1 = (i : Int) then mx (snc l T i) (rd T e.f0 + 1) else snc l T i := by
  unfold snc
  rw [preds_snoc]
  split
  · rw [List.foldl_append]; rfl
  · rfl
end Go.Proofs.Ytbahnialbffkeaa.P
namespace Go.Proofs.Ytbahnialbffkeaa.P
open Go.RowKit Go.Proofs.YtbahnialbffkeaaW.PrintWords Go.Proofs.YtbahnialbffkeaaW.PrintLast Go.Proofs.YtbahnialbffkeaaW.PrintMore
set_option linter.unusedVariables false
set_option linter.unusedSimpArgs false
theorem grpR_length : ∀ (d : Nat) (H : List Int) (L : List S70), (grpR d H L).length ≤ L.length + d := by
  intro d
  induction d with
  | zero => intro H L; rw [grpR]; omega
  | succ d ih =>
    intro H L
    rw [grpR]
    have := ih (popL H) (addR L (H.getD 0 0))
    have := addR_length L (H.getD 0 0)
    omega
theorem rd_lt_mem {T : List Int} {i : Nat} (h : i < T.length) : rd T (i : Int) ∈ T := by rw [rdi T i h]; exact List.getElem_mem h
theorem rd_setJ (T : List Int) (i k t : Int) (h0 : 0 ≤ i) (hk : 0 ≤ k) : rd (T.set i.toNat t) k = if k = i ∧ i < (T.length : Int) then t else rd T k := by
  unfold rd
  rw [List.getD_eq_getElem?_getD, List.getD_eq_getElem?_getD, List.getElem?_set]
  by_cases h1 : k = i
  · subst h1
    by_cases h2 : k < (T.length : Int)
    · rw [if_pos rfl, if_pos (by omega), if_pos ⟨rfl, h2⟩]; rfl
    · rw [if_pos rfl, if_neg (by omega), if_neg (fun h => h2 h.2), List.getElem?_eq_none (by omega)]
  · rw [if_neg (by omega), if_neg (fun h => h1 h.1)]
theorem full_f (R : List S70) (hR : R.length ≤ 1000000) (p lo hi : Int) (k : Nat) : dag_full.f k R p lo hi = some (fullB R p lo hi) := by
  unfold dag_full.f
  rw [if_pos hR]
/-- the last loop -/
theorem judge_l4 {L R : List S70} {T : List Int} (h : RowsOK T L) (p : Int) (hp : 1 ≤ p) (hR : R.length = L.length) (hRn : R.length ≤ 1000000) (hr : ∀ j : Nat, j < L.length → (rd_T70 R (j : Int)).f0 = (rd_T70 L (j : Int)).f0 ∧ (rd_T70 R (j : Int)).f1 = (rd_T70 L (j : Int)).f1 ∧ (rd_T70 R (j : Int)).f2 = sv L p j)
    (l : List S50) (X : List Int) (hX : X.length = T.length) (hx : ∀ i : Nat, i < T.length → rd X (i : Int) = snc l T i) (hT : T.length ≤ 4096) (hb : ∀ x ∈ T, 1 ≤ x ∧ x ≤ 9223372036854775807) : ∀ (d i : Nat), i + d = T.length →
    ((∀ j : Nat, i ≤ j → j < T.length → ∀ t, snc l T j ≤ t → t < rd T (j : Int) → (T.count t : Int) = p) → Ev (fun k => dag_Judge.l4 k p R X T (T.length : Int) (i : Int)) (2, 0)) ∧
    (¬ (∀ j : Nat, i ≤ j → j < T.length → ∀ t, snc l T j ≤ t → t < rd T (j : Int) → (T.count t : Int) = p) → Ev (fun k => dag_Judge.l4 k p R X T (T.length : Int) (i : Int)) (1, 0)) := by
  intro d
  induction d with
  | zero =>
    intro i hi
    refine ⟨fun _ => Ev.step (f := fun _ => some (2, 0)) (fun k => ?_) (Ev.now _), fun h2 => absurd (fun j h3 h4 => by omega) h2⟩
    simp only [dag_Judge.l4]
    rw [if_neg (by omega)]
  | succ d ih =>
    intro i hi
    have hlt : i < T.length := by omega
    have hbi := hb _ (rd_lt_mem hlt)
    have hxi := hx i hlt
    have next : ∀ r, Ev (fun k => dag_Judge.l4 k p R X T (T.length : Int) ((i + 1 : Nat) : Int)) r → (snc l T i < rd T (i : Int) → fullB R p (snc l T i) (rd T (i : Int) - 1) = true) → Ev (fun k => dag_Judge.l4 k p R X T (T.length : Int) (i : Int)) r := by
      intro r hr2 hf
      refine Ev.step (fun k => ?_) hr2
      simp only [dag_Judge.l4]
      rw [if_pos (by omega), if_pos (by omega), if_pos (by omega), if_pos (by omega), hxi]
      by_cases c : snc l T i < rd T (i : Int)
      · rw [if_pos c, w64 (x := rd T (i : Int) - 1) (by omega) (by omega), full_f R hRn, Option.bind_some, if_pos (hf c), w64s (by omega)]
      · rw [if_neg c, w64s (by omega)]
    have hfi : snc l T i < rd T (i : Int) → (fullB R p (snc l T i) (rd T (i : Int) - 1) = true ↔ ∀ t, snc l T i ≤ t → t < rd T (i : Int) → (T.count t : Int) = p) := fun c => by
      rw [fullB_is h p hp hR hr _ _ (by omega)]
      constructor
      · intro h2 t h3 h4; exact h2 t h3 (by omega)
      · intro h2 t h3 h4; exact h2 t h3 (by omega)
    constructor
    · intro hall
      exact next _ ((ih (i + 1) (by omega)).1 (fun j h1 h2 => hall j (by omega) h2)) (fun c => (hfi c).mpr (hall i (Nat.le_refl _) hlt))
    · intro hno
      by_cases hi2 : ∀ t, snc l T i ≤ t → t < rd T (i : Int) → (T.count t : Int) = p
      · refine next _ ((ih (i + 1) (by omega)).2 (fun h2 => hno (fun j h3 h4 => ?_))) (fun c => (hfi c).mpr hi2)
        by_cases e : j = i
        · subst e; exact hi2
        · exact h2 j (by omega) h4
      · have c : snc l T i < rd T (i : Int) := by
          refine Classical.byContradiction (fun c => hi2 (fun t h1 h2 => ?_))
          omega
        refine Ev.step (f := fun _ => some (1, 0)) (fun k => ?_) (Ev.now _)
        simp only [dag_Judge.l4]
        rw [if_pos (by omega), if_pos (by omega), if_pos (by omega), if_pos (by omega), hxi, if_pos c, w64 (x := rd T (i : Int) - 1) (by omega) (by omega), full_f R hRn, Option.bind_some, if_neg (fun h2 => hi2 ((hfi c).mp h2))]
/-- the loop over the edges -/
theorem judge_l3 (n : Nat) (l : List S50) (hok : ∀ e ∈ l, okE (n : Int) e) (hl : l.length ≤ 16384) (p : Int) (R : List S70) (T : List Int) (hT : T.length = n) (hn : n ≤ 4096) (hb : ∀ x ∈ T, 1 ≤ x ∧ x ≤ 9223372036854775807) (r : Int × Int)
    (next : ∀ X : List Int, X.length = n → (∀ i : Nat, i < n → rd X (i : Int) = snc l T i) → ordT l T → Ev (fun k => dag_Judge.l4 k p R X T (T.length : Int) 0) r) (hno : ¬ ordT l T → r = (0, 0)) :
    ∀ (d j : Nat) (X : List Int), j + d = l.length → X.length = n → (∀ i : Nat, i < n → rd X (i : Int) = snc (l.take j) T i) → (∀ e ∈ l.take j, rd T e.f0 < rd T e.f1) →
    Ev (fun k => dag_Judge.l3 k p T R X l (l.length : Int) (j : Int)) r := by
  intro d
  induction d with
  | zero =>
    intro j X hj hX hx ho
    rw [List.take_of_length_le (by omega)] at hx ho
    refine Ev.step (fun k => ?_) (next X hX hx ho)
    simp only [dag_Judge.l3]
    rw [if_neg (by omega)]
  | succ d ih =>
    intro j X hj hX hx ho
    have hlt : j < l.length := by omega
    obtain ⟨e, hee⟩ : ∃ e, e = l[j] := ⟨_, rfl⟩
    have hmem : e ∈ l := by rw [hee]; exact List.getElem_mem hlt
    obtain ⟨b1, b2, b3⟩ := hok e hmem
    have htake : l.take (j + 1) = l.take j ++ [e] := by rw [hee, List.take_succ_eq_append_getElem hlt]
    by_cases c : rd T e.f0 ≥ rd T e.f1
    · rw [hno (fun h => by have := h e hmem; omega)]
      refine Ev.step (f := fun _ => some (0, 0)) (fun k => ?_) (Ev.now _)
      simp only [dag_Judge.l3]
      rw [if_pos (by omega), if_pos (by omega), if_pos (by omega), rd50 l j hlt, ← hee, if_pos b1, if_pos (by omega), if_pos (by omega), if_pos (by omega), if_pos c]
    · have e0 : ((e.f0.toNat : Nat) : Int) = e.f0 := by omega
      have e1 : ((e.f1.toNat : Nat) : Int) = e.f1 := by omega
      have hb0 := hb _ (rd_lt_mem (T := T) (i := e.f0.toNat) (by omega))
      have hb1 := hb _ (rd_lt_mem (T := T) (i := e.f1.toNat) (by omega))
      rw [e0] at hb0
      rw [e1] at hb1
      refine Ev.step (f := fun k => dag_Judge.l3 k p T R (X.set e.f1.toNat (mx (rd X e.f1) (rd T e.f0 + 1))) l (l.length : Int) ((j + 1 : Nat) : Int)) (fun k => ?_) (ih (j + 1) _ (by omega) (by rw [List.length_set]; exact hX) (fun i hi => ?_) (fun e' he' => ?_))
      · simp only [dag_Judge.l3]
        rw [if_pos (by omega), if_pos (by omega), if_pos (by omega), rd50 l j hlt, ← hee, if_pos b1, if_pos (by omega), if_pos (by omega), if_pos (by omega), if_neg c, if_pos (by omega), w64 (x := rd T e.f0 + 1) (by omega) (by omega), w64s (by omega)]
      · rw [htake, snc_snoc, rd_setJ X e.f1 (i : Int) _ (by omega) (by omega)]
        by_cases hk : e.f1 = (i : Int)
        · rw [if_pos ⟨hk.symm, by omega⟩, if_pos hk, hk, hx i hi]
        · rw [if_neg (fun h => hk h.1.symm), if_neg hk, hx i hi]
      · rw [htake] at he'
        rcases List.mem_append.mp he' with h | h
        · exact ho e' h
        · rw [List.mem_singleton.mp h]; omega
/-- all from 1 on -/
theorem judge_l2 (n : Nat) (l : List S50) (p : Int) (R : List S70) (T : List Int) (hn : n ≤ 4096) (r : Int × Int)
    (next : ∀ X : List Int, X.length = n → (∀ i : Nat, i < n → rd X (i : Int) = 1) → Ev (fun k => dag_Judge.l3 k p T R X l (l.length : Int) 0) r) :
    ∀ (d i : Nat) (X : List Int), i + d = n → X.length = n → (∀ j : Nat, j < i → rd X (j : Int) = 1) → Ev (fun k => dag_Judge.l2 k p T R X (n : Int) (i : Int) (n : Int) l) r := by
  intro d
  induction d with
  | zero =>
    intro i X hi hX hx
    refine Ev.step (fun k => ?_) (next X hX (fun j hj => hx j (by omega)))
    simp only [dag_Judge.l2]
    rw [if_neg (by omega)]
  | succ d ih =>
    intro i X hi hX hx
    refine Ev.step (f := fun k => dag_Judge.l2 k p T R (X.set (i : Int).toNat 1) (n : Int) ((i + 1 : Nat) : Int) (n : Int) l) (fun k => ?_) (ih (i + 1) _ (by omega) (by rw [List.length_set]; exact hX) (fun j hj => ?_))
    · simp only [dag_Judge.l2]
      rw [if_pos (by omega), if_pos (by omega), if_pos (by omega), w64s (by omega)]
    · rw [rd_setJ X (i : Int) (j : Int) 1 (by omega) (by omega)]
      by_cases e : (j : Int) = (i : Int)
      · rw [if_pos ⟨e, by omega⟩]
      · rw [if_neg (fun h => e h.1), hx j (by omega)]
/-- the loop over the rows -/
theorem judge_l1 (n : Nat) (l : List S50) (p : Int) (R : List S70) (T : List Int) (hn : n ≤ 4096) (hR : R.length ≤ 1000000) (r : Int × Int)
    (next : (∀ j : Nat, j < R.length → (rd_T70 R (j : Int)).f1 ≤ p) → Ev (fun k => dag_Judge.l2 k p T R (List.replicate n 0) (n : Int) 0 (n : Int) l) r) (hno : (∃ j : Nat, j < R.length ∧ (rd_T70 R (j : Int)).f1 > p) → r = (0, 0)) :
    ∀ (d i : Nat), i + d = R.length → (∀ j : Nat, j < i → (rd_T70 R (j : Int)).f1 ≤ p) → Ev (fun k => dag_Judge.l1 k p T R R (R.length : Int) (i : Int) (n : Int) l) r := by
  intro d
  induction d with
  | zero =>
    intro i hi hx
    refine Ev.step (fun k => ?_) (next (fun j hj => hx j (by omega)))
    simp only [dag_Judge.l1]
    rw [if_neg (by omega), if_pos (by omega), if_pos (by omega), Option.bind_some, Int.toNat_natCast, List.length_replicate]
  | succ d ih =>
    intro i hi hx
    by_cases c : (rd_T70 R (i : Int)).f1 > p
    · rw [hno ⟨i, by omega, c⟩]
      refine Ev.step (f := fun _ => some (0, 0)) (fun k => ?_) (Ev.now _)
      simp only [dag_Judge.l1]
      rw [if_pos (by omega), if_pos (by omega), if_pos (by omega), if_pos c]
    · refine Ev.step (f := fun k => dag_Judge.l1 k p T R R (R.length : Int) ((i + 1 : Nat) : Int) (n : Int) l) (fun k => ?_) (ih (i + 1) (by omega) (fun j hj => ?_))
      · simp only [dag_Judge.l1]
        rw [if_pos (by omega), if_pos (by omega), if_pos (by omega), if_neg c, w64s (by omega)]
      · by_cases e : j = i
        · subst e; omega
        · exact hx j (by omega)
/-- the loop over the times -/
theorem judge_l0 (n : Nat) (l : List S50) (p : Int) (T : List Int) (hT : T.length ≤ 4096) (r : Int × Int)
    (next : posT T → Ev (fun k => (dag_rows.f k T p).bind fun t => dag_Judge.l1 k p T t t (t.length : Int) 0 (n : Int) l) r) (hno : ¬ posT T → r = (0, 0)) :
    ∀ (d i : Nat), i + d = T.length → (∀ x ∈ T.take i, 1 ≤ x) → Ev (fun k => dag_Judge.l0 k p T T (T.length : Int) (i : Int) (n : Int) l) r := by
  intro d
  induction d with
  | zero =>
    intro i hi hx
    rw [List.take_of_length_le (by omega)] at hx
    refine Ev.step (fun k => ?_) (next hx)
    simp only [dag_Judge.l0]
    rw [if_neg (by omega)]
  | succ d ih =>
    intro i hi hx
    have hlt : i < T.length := by omega
    by_cases c : rd T (i : Int) < 1
    · rw [hno (fun h => by have := h _ (rd_lt_mem hlt); omega)]
      refine Ev.step (f := fun _ => some (0, 0)) (fun k => ?_) (Ev.now _)
      simp only [dag_Judge.l0]
      rw [if_pos (by omega), if_pos (by omega), if_pos (by omega), if_pos c]
    · refine Ev.step (f := fun k => dag_Judge.l0 k p T T (T.length : Int) ((i + 1 : Nat) : Int) (n : Int) l) (fun k => ?_) (ih (i + 1) (by omega) (fun x h => ?_))
      · simp only [dag_Judge.l0]
        rw [if_pos (by omega), if_pos (by omega), if_pos (by omega), if_neg c, w64s (by omega)]
      · rw [List.take_succ_eq_append_getElem hlt] at h
        rcases List.mem_append.mp h with h | h
        · exact hx x h
        · rw [List.mem_singleton.mp h, ← rdi T i hlt]; omega
theorem judge_go (n : Nat) (l : List S50) (hok : ∀ e ∈ l, okE (n : Int) e) (hl : l.length ≤ 16384) (hn : n ≤ 4096) (p : Int) (hp : 1 ≤ p) (T : List Int) (hT : T.length = n) (hb : ∀ x ∈ T, x ≤ 9223372036854775807) :
    Ev (fun k => dag_Judge.l0 k p T T (T.length : Int) 0 (n : Int) l) (vdt n l p T, 0) := by
  refine judge_l0 n l p T (by omega) _ (fun hpos => ?_) (fun h => by rw [vdt_no (fun h2 => h h2.1)]) T.length 0 (by omega) (by simp)
  have hb2 : ∀ x ∈ T, 1 ≤ x ∧ x ≤ 9223372036854775807 := fun x hx => ⟨hpos x hx, hb x hx⟩
  have hrows := grp_ok T (by omega)
  have hlen := grpR_length T.length (T.foldl pushL []) []
  obtain ⟨L, hL⟩ : ∃ L, L = grpR T.length (T.foldl pushL []) [] := ⟨_, rfl⟩
  rw [← hL] at hrows hlen
  have hLn : L.length ≤ 4096 := by simp at hlen; omega
  obtain ⟨R, hR, hRl, hRr⟩ := rows_l1 L p (fun j hj => by
    have h1 := (hrows.cnt _ (rd70_mem L j hj)).2
    exact hb2 _ h1) (by omega) L.length 0 L (by omega) rfl (fun j hj => ⟨rfl, rfl, fun h => by omega⟩)
  have hrf : Ev (fun k => dag_rows.f k T p) R := by
    refine Ev.congr (f := fun k => dag_rows.l1 k p L (L.length : Int) ((0 : Nat) : Int)) (fun k => ?_) hR
    unfold dag_rows.f
    rw [if_pos (by omega), ← hL]
    rfl
  refine Ev.bind hrf ?_
  have hcap : (∀ j : Nat, j < R.length → (rd_T70 R (j : Int)).f1 ≤ p) ↔ capT T p := by
    constructor
    · intro h x hx
      obtain ⟨j, hj, he⟩ := hrows.at hx
      have h2 := h j (by omega)
      rw [(hRr j hj).2.1, hrows.f1 hj, he] at h2
      exact h2
    · intro h j hj
      have hj2 : j < L.length := by omega
      rw [(hRr j hj2).2.1, hrows.f1 hj2]
      exact h _ (hrows.cnt _ (rd70_mem L j hj2)).2
  refine judge_l1 n l p R T hn (by omega) _ (fun hc => ?_) (fun hc => ?_) R.length 0 (by omega) (fun j hj => by omega)
  · refine judge_l2 n l p R T hn _ (fun X hX hx => ?_) n 0 _ (by omega) (by simp) (fun j hj => by omega)
    refine judge_l3 n l hok hl p R T hT hn hb2 _ (fun X2 hX2 hx2 ho => ?_) (fun h => by rw [vdt_no (fun h2 => h h2.2.2)]) l.length 0 X (by omega) hX (fun i hi => by rw [hx i hi]; simp [snc, preds]) (by simp)
    have hsched : posT T ∧ capT T p ∧ ordT l T := ⟨hpos, hcap.mp hc, ho⟩
    have h4 := judge_l4 hrows p hp hRl (by omega) hRr l X2 (by omega) (by rw [hT]; exact hx2) (by omega) hb2 T.length 0 (by omega)
    have hbusy : (∀ j : Nat, 0 ≤ j → j < T.length → ∀ t, snc l T j ≤ t → t < rd T (j : Int) → (T.count t : Int) = p) ↔ busy n l p T := by
      constructor
      · intro h i hi t h1 h2 h3
        exact h i (Nat.zero_le _) (by omega) t ((snc_le l T i t).mpr ⟨h1, h3⟩) h2
      · intro h j _ hj t h1 h2
        have h3 := (snc_le l T j t).mp h1
        exact h j (by omega) t h3.1 h2 h3.2
    by_cases c : busy n l p T
    · rw [vdt_busy hsched c]
      exact h4.1 (hbusy.mpr c)
    · rw [vdt_lazy hsched c]
      exact h4.2 (fun h => c (hbusy.mp h))
  · obtain ⟨j, hj, h2⟩ := hc
    rw [vdt_no (fun h3 => by have := hcap.mpr h3.2.1 j hj; omega)]
theorem dagJudge_ev (n : Int) (l : List S50) (p : Int) (T : List Int) (hl : l.length < 1099511627776) (hb : ∀ x ∈ T, x ≤ 9223372036854775807) : Ev (fun k => dag_Judge.f k n l p T) (jdg n l p T) := by
  unfold dag_Judge.f jdg
  refine Ev.bind (dagCheck_ev n l hl) ?_
  by_cases hc : chk n l = 0
  · rw [if_pos hc]
    simp only [hc, if_true]
    obtain ⟨h0, h1, h2, hok⟩ := chk_zero hc
    have bad : ∀ b : Bool, b = true → Ev (fun k => dag_Judge.j0 k p T b n l) (0, 3) := by
      rintro b rfl
      refine Ev.step (f := fun _ => some (0, 3)) (fun k => ?_) (Ev.now _)
      simp only [dag_Judge.j0, if_true]
    by_cases hp : p < 1 ∨ p > 64
    · rw [if_pos hp]
      by_cases hp1 : p < 1
      · simp only [if_pos hp1]
        exact bad true rfl
      · simp only [if_neg hp1]
        exact bad _ (decide_eq_true (by omega))
    · rw [if_neg hp]
      have hp1 : ¬ p < 1 := by omega
      simp only [if_neg hp1]
      rw [decide_eq_false (by omega)]
      by_cases hT : (T.length : Int) = n
      · rw [if_pos hT]
        refine Ev.step (f := fun k => dag_Judge.l0 k p T T (T.length : Int) 0 (n.toNat : Int) l) (fun k => ?_) (judge_go n.toNat l (by rw [show ((n.toNat : Nat) : Int) = n from by omega]; exact hok) (by omega) (by omega) p (by omega) T (by omega) hb)
        simp only [dag_Judge.j0]
        rw [if_neg (by decide), if_pos hT, show ((n.toNat : Nat) : Int) = n from by omega]
      · rw [if_neg hT]
        refine Ev.step (f := fun _ => some (0, 72)) (fun k => ?_) (Ev.now _)
        simp only [dag_Judge.j0]
        rw [if_neg (by decide), if_neg hT]
  · rw [if_neg hc]
    simp only [if_neg hc]
    exact Ev.now _
end Go.Proofs.Ytbahnialbffkeaa.P
namespace Go.Proofs.Ytbahnialbffkeaa.P
open Go.RowKit Go.Proofs.YtbahnialbffkeaaW.PrintWords Go.Proofs.YtbahnialbffkeaaW.PrintLast Go.Proofs.YtbahnialbffkeaaW.PrintMore
set_option linter.unusedVariables false

/-- by how many edges a node waits for nodes that are not done -/
def cnt (l : List S50) (T : List Int) (k : Int) : Nat := (l.filter (fun e => decide (e.f1 = k ∧ rd T e.f0 = 0))).length
theorem ready_l0 (row T : List Int) (t : Int) (hrow : row.length < 1099511627776) (hb : ∀ k ∈ row, 0 ≤ k ∧ k < (T.length : Int)) : ∀ (d j : Nat), j + d = row.length →
    Ev (fun k => plunderref7_ready.l0 k row T t (j : Int)) ((row.drop j).all (fun k => decide (rd T k ≠ 0 ∧ rd T k < t))) := by
  intro d
  induction d with
  | zero =>
    intro j hj
    refine Ev.step (f := fun _ => some true) (fun k => ?_) (by rw [List.drop_of_length_le (by omega)]; simpa using Ev.now true)
    simp only [plunderref7_ready.l0]
    rw [if_neg (by omega)]
  | succ d ih =>
    intro j hj
    have hlt : j < row.length := by omega
    obtain ⟨h0, h1⟩ := hb row[j] (List.getElem_mem hlt)
    have hdrop : row.drop j = row[j] :: row.drop (j + 1) := List.drop_eq_getElem_cons hlt
    by_cases c1 : rd T row[j] = 0
    · refine Ev.step (f := fun _ => some false) (fun k => ?_) ?_
      · simp only [plunderref7_ready.l0]
        rw [if_pos (by omega), if_pos (by omega), rdi row j hlt, if_pos h0, if_pos h1, if_pos c1]
      · rw [hdrop, List.all_cons, decide_eq_false (fun h => h.1 c1), Bool.false_and]
        exact Ev.now false
    · by_cases c2 : rd T row[j] ≥ t
      · refine Ev.step (f := fun _ => some false) (fun k => ?_) ?_
        · simp only [plunderref7_ready.l0]
          rw [if_pos (by omega), if_pos (by omega), rdi row j hlt, if_pos h0, if_pos h1, if_neg c1, if_pos c2]
        · rw [hdrop, List.all_cons, decide_eq_false (fun h => by have := h.2; omega), Bool.false_and]
          exact Ev.now false
      · refine Ev.step (f := fun k => plunderref7_ready.l0 k row T t ((j + 1 : Nat) : Int)) (fun k => ?_) ?_
        · simp only [plunderref7_ready.l0]
          rw [if_pos (by omega), if_pos (by omega), rdi row j hlt, if_pos h0, if_pos h1, if_neg c1, if_neg c2, w64s (by omega)]
        · rw [hdrop, List.all_cons, decide_eq_true ⟨c1, by omega⟩, Bool.true_and]
          exact ih (j + 1) (by omega)
end Go.Proofs.Ytbahnialbffkeaa.P
namespace Go.Proofs.Ytbahnialbffkeaa.P
open Go.RowKit Go.Proofs.YtbahnialbffkeaaW.PrintWords Go.Proofs.YtbahnialbffkeaaW.PrintLast Go.Proofs.YtbahnialbffkeaaW.PrintMore
set_option linter.unusedVariables false

/-- the greatest of a list, 0 if none is above 0 -/
def great (x : List Int) : Int := x.foldl mx 0
theorem great_snoc (x : List Int) (v : Int) : great (x ++ [v]) = mx (great x) v := by simp [great, List.foldl_append]

theorem refGreatest_l0 (x : List Int) (hx : x.length < 1099511627776) : ∀ (d j : Nat), j + d = x.length → Ev (fun k => plunderref7_greatest.l0 k x (great (x.take j)) (j : Int)) (great x) := by
  intro d
  induction d with
  | zero =>
    intro j hj
    refine Ev.step (f := fun _ => some (great x)) (fun k => ?_) (Ev.now _)
    simp only [plunderref7_greatest.l0]
    rw [if_neg (by omega), List.take_of_length_le (by omega)]
  | succ d ih =>
    intro j hj
    have hlt : j < x.length := by omega
    refine Ev.step (f := fun k => plunderref7_greatest.l0 k x (great (x.take (j + 1))) ((j + 1 : Nat) : Int)) (fun k => ?_) (ih (j + 1) (by omega))
    simp only [plunderref7_greatest.l0]
    rw [if_pos (by omega), if_pos (by omega), rdi x j hlt, w64s (by omega), List.take_succ_eq_append_getElem hlt, great_snoc]
theorem refGreatest_ev (x : List Int) (hx : x.length < 1099511627776) : Ev (fun k => plunderref7_greatest.f k x) (great x) :=
  refGreatest_l0 x hx x.length 0 (by omega)
end Go.Proofs.Ytbahnialbffkeaa.P
namespace Go.Proofs.Ytbahnialbffkeaa.P
open Go.RowKit Go.Proofs.YtbahnialbffkeaaW.PrintWords Go.Proofs.YtbahnialbffkeaaW.PrintLast Go.Proofs.YtbahnialbffkeaaW.PrintMore
set_option linter.unusedVariables false

theorem great_nonneg (x : List Int) : 0 ≤ great x := by
  have key : ∀ (x : List Int) (a : Int), 0 ≤ a → 0 ≤ x.foldl mx a := by
    intro x
    induction x with
    | nil => intro a h; exact h
    | cons v r ih =>
      intro a h
      refine ih (mx a v) ?_
      unfold mx; split <;> omega
  exact key x 0 (Int.le_refl 0)
theorem great_ge {x : List Int} {v : Int} (h : v ∈ x) : v ≤ great x := by
  have mono : ∀ (x : List Int) (a : Int), a ≤ x.foldl mx a := by
    intro x
    induction x with
    | nil => intro a; exact Int.le_refl a
    | cons w r ih =>
      intro a
      refine Int.le_trans (show a ≤ mx a w from ?_) (ih _)
      unfold mx; split <;> omega
  have key : ∀ (x : List Int) (a : Int), v ∈ x → v ≤ x.foldl mx a := by
    intro x
    induction x with
    | nil => intro a h; cases h
    | cons w r ih =>
      intro a h
      rcases List.mem_cons.1 h with rfl | h
      · refine Int.le_trans (show v ≤ mx a v from ?_) (mono r _)
        unfold mx; split <;> omega
      · exact ih _ h
  exact key x 0 h
theorem great_is (x : List Int) : great x = 0 ∨ great x ∈ x := by
  have key : ∀ (x : List Int) (a : Int), x.foldl mx a = a ∨ x.foldl mx a ∈ x := by
    intro x
    induction x with
    | nil => intro a; exact .inl rfl
    | cons w r ih =>
      intro a
      rcases ih (mx a w) with h | h
      · rw [List.foldl_cons, h]
        unfold mx
        by_cases hlt : a < w
        · rw [if_pos hlt]; exact .inr List.mem_cons_self
        · rw [if_neg hlt]; exact .inl rfl
      · exact .inr (List.mem_cons_of_mem _ h)
  exact key x 0
end Go.Proofs.Ytbahnialbffkeaa.P
namespace Go.Proofs.Ytbahnialbffkeaa.P
open Go.RowKit Go.Proofs.YtbahnialbffkeaaW.PrintWords Go.Proofs.YtbahnialbffkeaaW.PrintLast Go.Proofs.YtbahnialbffkeaaW.PrintMore
set_option linter.unusedVariables false
set_option linter.unusedSimpArgs false
theorem count_l0 (T : List Int) (hT : T.length ≤ 4096) (x : Int) : ∀ (d j : Nat), j + d = T.length → Ev (fun k => plunderref7_count.l0 k T x ((T.take j).count x : Int) (j : Int)) (T.count x : Int) := by
  intro d
  induction d with
  | zero =>
    intro j hj
    rw [List.take_of_length_le (by omega)]
    refine Ev.step (f := fun _ => some (T.count x : Int)) (fun k => ?_) (Ev.now _)
    simp only [plunderref7_count.l0]
    rw [if_neg (by omega)]
  | succ d ih =>
    intro j hj
    have hlt : j < T.length := by omega
    have htake : T.take (j + 1) = T.take j ++ [T[j]] := List.take_succ_eq_append_getElem hlt
    have hc : (T.take j).count x ≤ T.length := Nat.le_trans List.count_le_length (by rw [List.length_take]; omega)
    have h := ih (j + 1) (by omega)
    rw [htake, List.count_append, List.count_singleton] at h
    by_cases e : T[j] = x
    · refine Ev.step (fun k => ?_) h
      simp only [plunderref7_count.l0]
      rw [if_pos (by omega), if_pos (by omega), rdi T j hlt, if_pos e, w64s (by omega)]
      simp only [e, beq_self_eq_true, if_true]
      rw [w64s (by omega)]
    · refine Ev.step (fun k => ?_) h
      simp only [plunderref7_count.l0]
      rw [if_pos (by omega), if_pos (by omega), rdi T j hlt, if_neg e, w64s (by omega), if_neg (by simpa using e)]
      simp
theorem count_ev (T : List Int) (hT : T.length ≤ 4096) (x : Int) : Ev (fun k => plunderref7_count.f k T x) (T.count x : Int) := by
  have := count_l0 T hT x T.length 0 (by omega)
  simp only [List.take_zero, List.count_nil] at this
  exact this
/-- is it a schedule -/
theorem sched_l2 (n : Nat) (l : List S50) (hok : ∀ e ∈ l, okE (n : Int) e) (hl : l.length ≤ 16384) (T : List Int) (hT : T.length = n) (b : Bool) (h1 : ordT l T → b = true) (h2 : ¬ ordT l T → b = false) : ∀ (d j : Nat), j + d = l.length → (∀ e ∈ l.take j, rd T e.f0 < rd T e.f1) →
    Ev (fun k => plunderref7_schedule.l2 k T (j : Int) (n : Int) l) b := by
  intro d
  induction d with
  | zero =>
    intro j hj ho
    rw [List.take_of_length_le (by omega)] at ho
    rw [h1 ho]
    refine Ev.step (f := fun _ => some true) (fun k => ?_) (Ev.now _)
    simp only [plunderref7_schedule.l2]
    rw [if_neg (by omega)]
  | succ d ih =>
    intro j hj ho
    have hlt : j < l.length := by omega
    obtain ⟨e, hee⟩ : ∃ e, e = l[j] := ⟨_, rfl⟩
    have hmem : e ∈ l := by rw [hee]; exact List.getElem_mem hlt
    obtain ⟨b1, b2, b3⟩ := hok e hmem
    by_cases c : rd T e.f0 ≥ rd T e.f1
    · rw [h2 (fun h => by have := h e hmem; omega)]
      refine Ev.step (f := fun _ => some false) (fun k => ?_) (Ev.now _)
      simp only [plunderref7_schedule.l2]
      rw [if_pos (by omega), if_pos (by omega), rd50 l j hlt, ← hee, if_pos b1, if_pos (by omega), if_pos (by omega), if_pos (by omega), if_pos c]
    · refine Ev.step (f := fun k => plunderref7_schedule.l2 k T ((j + 1 : Nat) : Int) (n : Int) l) (fun k => ?_) (ih (j + 1) (by omega) (fun e' he' => ?_))
      · simp only [plunderref7_schedule.l2]
        rw [if_pos (by omega), if_pos (by omega), rd50 l j hlt, ← hee, if_pos b1, if_pos (by omega), if_pos (by omega), if_pos (by omega), if_neg c, w64s (by omega)]
      · rw [List.take_succ_eq_append_getElem hlt, ← hee] at he'
        rcases List.mem_append.mp he' with h | h
        · exact ho e' h
        · rw [List.mem_singleton.mp h]; omega
theorem sched_l1 (n : Nat) (l : List S50) (p : Int) (hn : n ≤ 4096) (T : List Int) (hT : T.length = n) (b : Bool) (next : capT T p → Ev (fun k => plunderref7_schedule.l2 k T 0 (n : Int) l) b) (h2 : ¬ capT T p → b = false) : ∀ (d i : Nat), i + d = n → (∀ x ∈ T.take i, (T.count x : Int) ≤ p) →
    Ev (fun k => plunderref7_schedule.l1 k p T (i : Int) (n : Int) l) b := by
  intro d
  induction d with
  | zero =>
    intro i hi ho
    rw [List.take_of_length_le (by omega)] at ho
    refine Ev.step (fun k => ?_) (next ho)
    simp only [plunderref7_schedule.l1]
    rw [if_neg (by omega)]
  | succ d ih =>
    intro i hi ho
    have hlt : i < T.length := by omega
    refine Ev.step (f := fun k => (plunderref7_count.f k T T[i]).bind fun t => if t > p then some false else plunderref7_schedule.l1 k p T ((i + 1 : Nat) : Int) (n : Int) l) (fun k => ?_) (Ev.bind (count_ev T (by omega) T[i]) ?_)
    · simp only [plunderref7_schedule.l1]
      rw [if_pos (by omega), if_pos (by omega), if_pos (by omega), rdi T i hlt, w64s (by omega)]
    · by_cases c : (T.count T[i] : Int) > p
      · rw [h2 (fun h => by have := h _ (List.getElem_mem hlt); omega)]
        simp only [if_pos c]
        exact Ev.now _
      · simp only [if_neg c]
        refine ih (i + 1) (by omega) (fun x hx => ?_)
        rw [List.take_succ_eq_append_getElem hlt] at hx
        rcases List.mem_append.mp hx with h | h
        · exact ho x h
        · rw [List.mem_singleton.mp h]; omega
theorem sched_l0 (n : Nat) (l : List S50) (p : Int) (hn : n ≤ 4096) (T : List Int) (hT : T.length = n) (b : Bool) (next : posT T → Ev (fun k => plunderref7_schedule.l1 k p T 0 (n : Int) l) b) (h2 : ¬ posT T → b = false) : ∀ (d i : Nat), i + d = n → (∀ x ∈ T.take i, 1 ≤ x) →
    Ev (fun k => plunderref7_schedule.l0 k p T (i : Int) (n : Int) l) b := by
  intro d
  induction d with
  | zero =>
    intro i hi ho
    rw [List.take_of_length_le (by omega)] at ho
    refine Ev.step (fun k => ?_) (next ho)
    simp only [plunderref7_schedule.l0]
    rw [if_neg (by omega)]
  | succ d ih =>
    intro i hi ho
    have hlt : i < T.length := by omega
    by_cases c : T[i] < 1
    · rw [h2 (fun h => by have := h _ (List.getElem_mem hlt); omega)]
      refine Ev.step (f := fun _ => some false) (fun k => ?_) (Ev.now _)
      simp only [plunderref7_schedule.l0]
      rw [if_pos (by omega), if_pos (by omega), if_pos (by omega), rdi T i hlt, if_pos c]
    · refine Ev.step (f := fun k => plunderref7_schedule.l0 k p T ((i + 1 : Nat) : Int) (n : Int) l) (fun k => ?_) (ih (i + 1) (by omega) (fun x hx => ?_))
      · simp only [plunderref7_schedule.l0]
        rw [if_pos (by omega), if_pos (by omega), if_pos (by omega), rdi T i hlt, if_neg c, w64s (by omega)]
      · rw [List.take_succ_eq_append_getElem hlt] at hx
        rcases List.mem_append.mp hx with h | h
        · exact ho x h
        · rw [List.mem_singleton.mp h]; omega
theorem sched_ev (n : Nat) (l : List S50) (hok : ∀ e ∈ l, okE (n : Int) e) (hl : l.length ≤ 16384) (p : Int) (hn : n ≤ 4096) (T : List Int) (hT : T.length = n) (b : Bool) (hb : b = true ↔ posT T ∧ capT T p ∧ ordT l T) : Ev (fun k => plunderref7_schedule.f k (n : Int) l p T) b := by
  have no : ¬ (posT T ∧ capT T p ∧ ordT l T) → b = false := fun h => by
    cases b with
    | false => rfl
    | true => exact absurd (hb.mp rfl) h
  exact sched_l0 n l p hn T hT b (fun h1 => sched_l1 n l p hn T hT b (fun h2 => sched_l2 n l hok hl T hT b (fun h3 => hb.mpr ⟨h1, h2, h3⟩) (fun h3 => no (fun h => h3 h.2.2)) l.length 0 (by omega) (by simp)) (fun h2 => no (fun h => h2 h.2.1)) n 0 (by omega) (by simp)) (fun h1 => no (fun h => h1 h.1)) n 0 (by omega) (by simp)
/-- a list that holds 1, 2, .., m is as long as m -/
theorem pigeon : ∀ (m : Nat) (T : List Int), (∀ t : Nat, 1 ≤ t → t ≤ m → (t : Int) ∈ T) → m ≤ T.length := by
  intro m
  induction m with
  | zero => intro T _; omega
  | succ m ih =>
    intro T h
    have hm := h (m + 1) (by omega) (by omega)
    have h1 := ih (T.erase ((m + 1 : Nat) : Int)) (fun t ht1 ht2 => (List.mem_erase_of_ne (by omega)).mpr (h t ht1 (by omega)))
    rw [List.length_erase_of_mem hm] at h1
    have := List.length_pos_of_mem hm
    omega
/-- the least element above some number -/
theorem least_above (T : List Int) (g : Int) (h : ∃ x ∈ T, g < x) : ∃ x ∈ T, g < x ∧ ∀ y ∈ T, g < y → x ≤ y := by
  induction T with
  | nil => obtain ⟨x, hx, -⟩ := h; cases hx
  | cons a T ih =>
    by_cases h2 : ∃ x ∈ T, g < x
    · obtain ⟨x, hx, hg, hmin⟩ := ih h2
      by_cases h3 : g < a ∧ a < x
      · refine ⟨a, List.mem_cons_self, h3.1, fun y hy hgy => ?_⟩
        rcases List.mem_cons.mp hy with rfl | hy
        · exact Int.le_refl _
        · have := hmin y hy hgy
          omega
      · refine ⟨x, List.mem_cons_of_mem _ hx, hg, fun y hy hgy => ?_⟩
        rcases List.mem_cons.mp hy with rfl | hy
        · omega
        · exact hmin y hy hgy
    · obtain ⟨x, hx, hg⟩ := h
      have hxa : x = a := by
        rcases List.mem_cons.mp hx with h3 | h3
        · exact h3
        · exact absurd ⟨x, h3, hg⟩ h2
      subst hxa
      refine ⟨x, List.mem_cons_self, hg, fun y hy hgy => ?_⟩
      rcases List.mem_cons.mp hy with rfl | hy
      · exact Int.le_refl _
      · exact absurd ⟨y, hy, hgy⟩ h2
theorem mem_rd {T : List Int} {x : Int} (h : x ∈ T) : ∃ i : Nat, i < T.length ∧ rd T (i : Int) = x := by
  obtain ⟨j, hj, rfl⟩ := List.mem_iff_getElem.mp h
  exact ⟨j, hj, rdi T j hj⟩
/-- what takes longer than there are nodes is not greedy -/
theorem busy_short (n : Nat) (l : List S50) (hok : ∀ e ∈ l, okE (n : Int) e) (p : Int) (hp : 1 ≤ p) (T : List Int) (hT : T.length = n) (hord : ordT l T) (hbusy : busy n l p T) : great T ≤ n := by
  refine Classical.byContradiction (fun hgt => ?_)
  have hg0 := great_nonneg T
  -- a time at which nothing is done
  have hgap : ∃ g : Nat, 1 ≤ g ∧ (g : Int) ≤ great T ∧ (g : Int) ∉ T := by
    refine Classical.byContradiction (fun hno => ?_)
    have h1 := pigeon (great T).toNat T (fun t h1 h2 => Classical.byContradiction (fun h3 => hno ⟨t, h1, by omega, h3⟩))
    omega
  obtain ⟨g, hg1, hg2, hg3⟩ := hgap
  have hmem : great T ∈ T := by
    rcases great_is T with h | h
    · omega
    · exact h
  obtain ⟨x, hx, hgx, hmin⟩ := least_above T (g : Int) ⟨great T, hmem, by
    have : great T ≠ (g : Int) := fun e => hg3 (by rw [← e]; exact hmem)
    omega⟩
  obtain ⟨i, hi, rfl⟩ := mem_rd hx
  have h1 := hbusy i (by omega) (g : Int) (by omega) hgx (fun k hk => ?_)
  · rw [List.count_eq_zero.mpr hg3] at h1
    omega
  · obtain ⟨e, he, a1, a2⟩ := preds_mem hk
    obtain ⟨b1, b2, b3⟩ := hok e he
    have h2 := hord e he
    rw [a1, a2] at h2
    have hk0 : ((k.toNat : Nat) : Int) = k := by omega
    have hkm : rd T k ∈ T := by rw [← hk0]; exact rd_lt_mem (by omega)
    have h3 : rd T k ≠ (g : Int) := fun e => hg3 (by rw [← e]; exact hkm)
    by_cases h4 : (g : Int) < rd T k
    · have := hmin _ hkm h4
      omega
    · omega
theorem refgr_l1 (n : Nat) (l : List S50) (hok : ∀ e ∈ l, okE (n : Int) e) (hl : l.length ≤ 16384) (hn : n ≤ 4096) (p : Int) (T : List Int) (hT : T.length = n) (hpos : posT T) (last t : Int) (b : Bool)
    (next : (∀ i : Nat, i < n → ¬ (t < rd T (i : Int) ∧ ∀ k ∈ preds l i, rd T k < t)) → Ev (fun k => plunderref7_greedy.l0 k p T last (rowsOf n l) (wrap64 (t + 1)) (n : Int) l) b)
    (hno : (∃ i : Nat, i < n ∧ t < rd T (i : Int) ∧ ∀ k ∈ preds l i, rd T k < t) → b = false) : ∀ (d i : Nat), i + d = n → (∀ j : Nat, j < i → ¬ (t < rd T (j : Int) ∧ ∀ k ∈ preds l j, rd T k < t)) →
    Ev (fun k => plunderref7_greedy.l1 k p T last (rowsOf n l) t (i : Int) (n : Int) l) b := by
  intro d
  induction d with
  | zero =>
    intro i hi hx
    refine Ev.step (fun k => ?_) (next (fun j hj => hx j (by omega)))
    simp only [plunderref7_greedy.l1]
    rw [if_neg (by omega)]
  | succ d ih =>
    intro i hi hx
    have hlt : i < n := by omega
    have hnext : ¬ (t < rd T (i : Int) ∧ ∀ k ∈ preds l i, rd T k < t) → Ev (fun k => plunderref7_greedy.l1 k p T last (rowsOf n l) t ((i + 1 : Nat) : Int) (n : Int) l) b := fun h => ih (i + 1) (by omega) (fun j hj => by
      by_cases e : j = i
      · subst e; exact h
      · exact hx j (by omega))
    by_cases c : rd T (i : Int) > t
    · have hpre : ∀ k ∈ preds l i, 0 ≤ k ∧ k < (T.length : Int) := fun k hk => by
        obtain ⟨e, he, h1, h2⟩ := preds_mem hk
        obtain ⟨a1, a2, a3⟩ := hok e he
        omega
      have hr := ready_l0 (preds l i) T t (Nat.lt_of_le_of_lt (preds_len l i) (by omega)) hpre (preds l i).length 0 (by omega)
      rw [List.drop_zero] at hr
      have hall : (preds l i).all (fun k => decide (rd T k ≠ 0 ∧ rd T k < t)) = true ↔ ∀ k ∈ preds l i, rd T k < t := by
        rw [List.all_eq_true]
        simp only [decide_eq_true_eq]
        refine ⟨fun h k hk => (h k hk).2, fun h k hk => ⟨?_, h k hk⟩⟩
        have h1 := hpre k hk
        have hk0 : ((k.toNat : Nat) : Int) = k := by omega
        have h2 := hpos (rd T k) (by rw [← hk0]; exact rd_lt_mem (by omega))
        omega
      refine Ev.step (f := fun k => (plunderref7_ready.f k (preds l i) T t).bind fun q => if q = true then some false else plunderref7_greedy.l1 k p T last (rowsOf n l) t ((i + 1 : Nat) : Int) (n : Int) l) (fun k => ?_) (Ev.bind hr ?_)
      · simp only [plunderref7_greedy.l1]
        rw [if_pos (by omega), if_pos (by omega), if_pos (by omega), if_pos c, if_pos (by rw [rowsOf_length]; omega), w64s (by omega)]
        rw [show rd_L5 (rowsOf n l) (i : Int) = preds l i from by show (rowsOf n l).getD (i : Int).toNat [] = _; rw [Int.toNat_natCast, rowsOf_getD _ _ _ hlt]]
      · by_cases h : ∀ k ∈ preds l i, rd T k < t
        · simp only [if_pos (hall.mpr h)]
          rw [hno ⟨i, hlt, by omega, h⟩]
          exact Ev.now _
        · simp only [if_neg (fun h2 => h (hall.mp h2))]
          exact hnext (fun h2 => h h2.2)
    · refine Ev.step (f := fun k => plunderref7_greedy.l1 k p T last (rowsOf n l) t ((i + 1 : Nat) : Int) (n : Int) l) (fun k => ?_) (hnext (fun h2 => by omega))
      simp only [plunderref7_greedy.l1]
      rw [if_pos (by omega), if_pos (by omega), if_pos (by omega), if_neg c, w64s (by omega)]
theorem refgr_l0 (n : Nat) (l : List S50) (hok : ∀ e ∈ l, okE (n : Int) e) (hl : l.length ≤ 16384) (hn : n ≤ 4096) (p : Int) (T : List Int) (hT : T.length = n) (hpos : posT T) (last : Nat) (hlast : last ≤ 4096) (b : Bool)
    (hyes : (∀ t : Int, 1 ≤ t → t ≤ last → (T.count t : Int) = p ∨ ∀ i : Nat, i < n → ¬ (t < rd T (i : Int) ∧ ∀ k ∈ preds l i, rd T k < t)) → b = true)
    (hno : (∃ t : Int, 1 ≤ t ∧ t ≤ last ∧ (T.count t : Int) ≠ p ∧ ∃ i : Nat, i < n ∧ t < rd T (i : Int) ∧ ∀ k ∈ preds l i, rd T k < t) → b = false) : ∀ (d j : Nat), j + d = last →
    (∀ t : Int, 1 ≤ t → t ≤ j → (T.count t : Int) = p ∨ ∀ i : Nat, i < n → ¬ (t < rd T (i : Int) ∧ ∀ k ∈ preds l i, rd T k < t)) →
    Ev (fun k => plunderref7_greedy.l0 k p T (last : Int) (rowsOf n l) ((j + 1 : Nat) : Int) (n : Int) l) b := by
  intro d
  induction d with
  | zero =>
    intro j hj hx
    rw [hyes (fun t h1 h2 => hx t h1 (by omega))]
    refine Ev.step (f := fun _ => some true) (fun k => ?_) (Ev.now _)
    simp only [plunderref7_greedy.l0]
    rw [if_neg (by omega)]
  | succ d ih =>
    intro j hj hx
    have hw : wrap64 (((j + 1 : Nat) : Int) + 1) = ((j + 1 + 1 : Nat) : Int) := w64s (by omega)
    have hnext : ((T.count ((j + 1 : Nat) : Int) : Int) = p ∨ ∀ i : Nat, i < n → ¬ (((j + 1 : Nat) : Int) < rd T (i : Int) ∧ ∀ k ∈ preds l i, rd T k < ((j + 1 : Nat) : Int))) → Ev (fun k => plunderref7_greedy.l0 k p T (last : Int) (rowsOf n l) ((j + 1 + 1 : Nat) : Int) (n : Int) l) b := fun h => ih (j + 1) (by omega) (fun t h1 h2 => by
      by_cases e : t = ((j + 1 : Nat) : Int)
      · rw [e]; exact h
      · exact hx t h1 (by omega))
    refine Ev.step (f := fun k => (plunderref7_count.f k T ((j + 1 : Nat) : Int)).bind fun q => if q = p then plunderref7_greedy.l0 k p T (last : Int) (rowsOf n l) ((j + 1 + 1 : Nat) : Int) (n : Int) l else plunderref7_greedy.l1 k p T (last : Int) (rowsOf n l) ((j + 1 : Nat) : Int) 0 (n : Int) l) (fun k => ?_) (Ev.bind (count_ev T (by omega) _) ?_)
    · simp only [plunderref7_greedy.l0]
      rw [if_pos (by omega), hw]
    · by_cases c : (T.count ((j + 1 : Nat) : Int) : Int) = p
      · simp only [if_pos c]
        exact hnext (.inl c)
      · simp only [if_neg c]
        refine refgr_l1 n l hok hl hn p T hT hpos (last : Int) ((j + 1 : Nat) : Int) b (fun h => ?_) (fun h => hno ⟨((j + 1 : Nat) : Int), by omega, by omega, c, h⟩) n 0 (by omega) (fun i hi => by omega)
        rw [hw]
        exact hnext (.inr h)
theorem refgreedy_ev (n : Nat) (l : List S50) (hok : ∀ e ∈ l, okE (n : Int) e) (hl : l.length ≤ 16384) (hn : n ≤ 4096) (p : Int) (hp : 1 ≤ p) (T : List Int) (hT : T.length = n) (hs : posT T ∧ capT T p ∧ ordT l T) (b : Bool) (hb : b = true ↔ busy n l p T) :
    Ev (fun k => plunderref7_greedy.f k (n : Int) l p T) b := by
  have no : ¬ busy n l p T → b = false := fun h => by
    cases b with
    | false => rfl
    | true => exact absurd (hb.mp rfl) h
  unfold plunderref7_greedy.f
  refine Ev.bind (refGreatest_ev T (by omega)) ?_
  by_cases c : great T > (n : Int)
  · simp only [if_pos c]
    rw [no (fun h => by have := busy_short n l hok p hp T hT hs.2.2 h; omega)]
    exact Ev.now _
  · simp only [if_neg c]
    have hg0 := great_nonneg T
    refine Ev.bind (before_ev n l hn (by omega) hok) ?_
    have h := refgr_l0 n l hok hl hn p T hT hs.1 (great T).toNat (by omega) b (fun h => hb.mpr (fun i hi t h1 h2 h3 => ?_)) (fun h => no (fun h2 => ?_)) (great T).toNat 0 (by omega) (fun t h1 h2 => by omega)
    · rw [show (((great T).toNat : Nat) : Int) = great T from by omega] at h
      exact h
    · have h4 := great_ge (rd_lt_mem (T := T) (i := i) (by omega))
      rcases h t h1 (by omega) with h5 | h5
      · exact h5
      · exact absurd ⟨h2, h3⟩ (h5 i hi)
    · obtain ⟨t, h3, h4, h5, i, hi, h6, h7⟩ := h
      exact h5 (h2 i hi t h3 h6 h7)
open Classical in
theorem refJudge_ev (n : Int) (l : List S50) (p : Int) (T : List Int) (hl : l.length < 1099511627776) : Ev (fun k => plunderref7_Judge.f k n l p T) (jdg n l p T) := by
  unfold plunderref7_Judge.f jdg
  refine Ev.bind (refCheck_ev n l hl) ?_
  by_cases hc : chk n l = 0
  · rw [if_pos hc]
    simp only [hc, if_true]
    obtain ⟨h0, h1, h2, hok⟩ := chk_zero hc
    have bad : ∀ b : Bool, b = true → Ev (fun k => plunderref7_Judge.j0 k p T b n l) (0, 3) := by
      rintro b rfl
      refine Ev.step (f := fun _ => some (0, 3)) (fun k => ?_) (Ev.now _)
      simp only [plunderref7_Judge.j0, if_true]
    by_cases hp : p < 1 ∨ p > 64
    · rw [if_pos hp]
      by_cases hp1 : p < 1
      · simp only [if_pos hp1]
        exact bad true rfl
      · simp only [if_neg hp1]
        exact bad _ (decide_eq_true (by omega))
    · rw [if_neg hp]
      have hp1 : ¬ p < 1 := by omega
      simp only [if_neg hp1]
      rw [decide_eq_false (by omega)]
      by_cases hT : (T.length : Int) = n
      · rw [if_pos hT]
        obtain ⟨m, rfl⟩ : ∃ m : Nat, n = (m : Int) := ⟨n.toNat, by omega⟩
        rw [Int.toNat_natCast]
        refine Ev.step (f := fun k => (plunderref7_schedule.f k (m : Int) l p T).bind fun t => if t = true then (plunderref7_greedy.f k (m : Int) l p T).bind fun q => if q = true then some (2, 0) else some (1, 0) else some (0, 0)) (fun k => ?_) ?_
        · simp only [plunderref7_Judge.j0]
          rw [if_neg (by decide), if_pos hT]
        · refine Ev.bind (sched_ev m l hok h2 p (by omega) T (by omega) (decide (posT T ∧ capT T p ∧ ordT l T)) (by simp)) ?_
          by_cases hs : posT T ∧ capT T p ∧ ordT l T
          · simp only [if_pos (decide_eq_true hs)]
            refine Ev.bind (refgreedy_ev m l hok h2 (by omega) p (by omega) T (by omega) hs (decide (busy m l p T)) (by simp)) ?_
            by_cases hbz : busy m l p T
            · simp only [if_pos (decide_eq_true hbz)]
              rw [vdt_busy hs hbz]
              exact Ev.now _
            · have e : ¬ (decide (busy m l p T) = true) := by rw [decide_eq_true_eq]; exact hbz
              simp only [if_neg e]
              rw [vdt_lazy hs hbz]
              exact Ev.now _
          · have e : ¬ (decide (posT T ∧ capT T p ∧ ordT l T) = true) := by rw [decide_eq_true_eq]; exact hs
            simp only [if_neg e]
            rw [vdt_no hs]
            exact Ev.now _
      · rw [if_neg hT]
        refine Ev.step (f := fun _ => some (0, 72)) (fun k => ?_) (Ev.now _)
        simp only [plunderref7_Judge.j0]
        rw [if_neg (by decide), if_neg hT]
  · rw [if_neg hc]
    simp only [if_neg hc]
    exact Ev.now _
end Go.Proofs.Ytbahnialbffkeaa.P
