/- Plain law, part A: what Check (the program's and the document's), moved, back and sameEdges of layer 7 come to, for every list of edges of a length below 2^40. -/
import Derived.Test.YtbahnialbffkeaaPx2
import Derived.Test.YtbahnialbffkeaaPx3
import Derived.Test.YtbahnialbffkeaaPx4
import Derived.Test.YtbahnialbffkeaaRoom
namespace Go.Proofs.Ytbahnialbffkeaa.P
open Go.RowKit Go.Proofs.YtbahnialbffkeaaW.PrintWords Go.Proofs.YtbahnialbffkeaaW.PrintLast Go.Proofs.YtbahnialbffkeaaW.PrintMore
set_option linter.unusedVariables false

theorem w64 {x : Int} (h0 : -9223372036854775808 ≤ x) (h1 : x ≤ 9223372036854775807) : wrap64 x = x := by
  unfold wrap64; omega
theorem w64s {j : Nat} (h1 : j < 4611686018427387904) : wrap64 ((j : Int) + 1) = ((j + 1 : Nat) : Int) := by
  unfold wrap64; omega
theorem S50_eta (e : S50) : (⟨e.f0, e.f1⟩ : S50) = e := by cases e; rfl

theorem rd50 (l : List S50) (j : Nat) (h : j < l.length) : rd_T50 l (j : Int) = l[j] := by
  unfold rd_T50
  simp [List.getD_eq_getElem?_getD, List.getElem?_eq_getElem h]
theorem rdi (l : List Int) (j : Nat) (h : j < l.length) : rd l (j : Int) = l[j] := by
  unfold rd
  simp [List.getD_eq_getElem?_getD, List.getElem?_eq_getElem h]

/-- an edge by the rule -/
def okE (n : Int) (e : S50) : Prop := 0 ≤ e.f0 ∧ e.f0 < e.f1 ∧ e.f1 < n
instance (n : Int) (e : S50) : Decidable (okE n e) := by unfold okE; infer_instance
/-- the error of edges, from some place on -/
def chkE (n : Int) (l : List S50) : Int := if ∀ e ∈ l, okE n e then 0 else 71
/-- Check's error -/
def chk (n : Int) (l : List S50) : Int := if n < 0 ∨ n > 4096 then 70 else if (l.length : Int) > 16384 then 2 else chkE n l

theorem chkE_nil (n : Int) : chkE n [] = 0 := by simp [chkE]
theorem chkE_ok {n : Int} {e : S50} {l : List S50} (h : okE n e) : chkE n (e :: l) = chkE n l := by simp [chkE, h]
theorem chkE_no {n : Int} {e : S50} {l : List S50} (h : ¬ okE n e) : chkE n (e :: l) = 71 := by simp [chkE, h]
theorem chk_zero {n : Int} {l : List S50} (h : chk n l = 0) : 0 ≤ n ∧ n ≤ 4096 ∧ l.length ≤ 16384 ∧ ∀ e ∈ l, okE n e := by
  unfold chk at h
  split at h
  · cases h
  · split at h
    · cases h
    · unfold chkE at h
      split at h
      · refine ⟨by omega, by omega, by omega, ‹_›⟩
      · cases h

theorem dagCheck_l0 (n : Int) (l : List S50) (hl : l.length < 1099511627776) : ∀ (d j : Nat), j + d = l.length → Ev (fun k => dag_Check.l0 k l (l.length : Int) (j : Int) n l) (chkE n (l.drop j)) := by
  intro d
  induction d with
  | zero =>
    intro j hj
    refine Ev.step (f := fun _ => some (chkE n (l.drop j))) (fun k => ?_) (Ev.now _)
    simp only [dag_Check.l0]
    rw [if_neg (by omega), List.drop_of_length_le (by omega), chkE_nil]
  | succ d ih =>
    intro j hj
    have hlt : j < l.length := by omega
    have hdr : l.drop j = l[j] :: l.drop (j + 1) := List.drop_eq_getElem_cons hlt
    by_cases hk : okE n l[j]
    · refine Ev.step (f := fun k => dag_Check.l0 k l (l.length : Int) ((j + 1 : Nat) : Int) n l) (fun k => ?_) ?_
      · simp only [dag_Check.l0]
        rw [if_pos (by omega), if_pos (by omega), if_pos (by omega), rd50 l j hlt, w64s (by omega)]
        obtain ⟨h0, h1, h2⟩ := hk
        rw [if_neg (by omega), if_neg (by omega), if_neg (by omega)]
      · rw [hdr, chkE_ok hk]
        exact ih (j + 1) (by omega)
    · refine Ev.step (f := fun _ => some (chkE n (l.drop j))) (fun k => ?_) (Ev.now _)
      simp only [dag_Check.l0]
      rw [if_pos (by omega), if_pos (by omega), if_pos (by omega), rd50 l j hlt, hdr, chkE_no hk]
      by_cases h0 : l[j].f0 < 0
      · rw [if_pos h0]
      rw [if_neg h0]
      by_cases h1 : l[j].f0 ≥ l[j].f1
      · rw [if_pos h1]
      rw [if_neg h1]
      by_cases h2 : l[j].f1 ≥ n
      · rw [if_pos h2]
      exact absurd (show okE n l[j] from ⟨by omega, by omega, by omega⟩) hk

theorem refCheck_l0 (n : Int) (l : List S50) (hl : l.length < 1099511627776) : ∀ (d j : Nat), j + d = l.length → Ev (fun k => plunderref7_Check.l0 k (j : Int) n l) (chkE n (l.drop j)) := by
  intro d
  induction d with
  | zero =>
    intro j hj
    refine Ev.step (f := fun _ => some (chkE n (l.drop j))) (fun k => ?_) (Ev.now _)
    simp only [plunderref7_Check.l0]
    rw [if_neg (by omega), List.drop_of_length_le (by omega), chkE_nil]
  | succ d ih =>
    intro j hj
    have hlt : j < l.length := by omega
    have hdr : l.drop j = l[j] :: l.drop (j + 1) := List.drop_eq_getElem_cons hlt
    by_cases hk : okE n l[j]
    · refine Ev.step (f := fun k => plunderref7_Check.l0 k ((j + 1 : Nat) : Int) n l) (fun k => ?_) ?_
      · simp only [plunderref7_Check.l0]
        rw [if_pos (by omega), if_pos (by omega), rd50 l j hlt, w64s (by omega)]
        obtain ⟨h0, h1, h2⟩ := hk
        rw [if_neg (by omega), if_neg (by omega), if_neg (by omega)]
      · rw [hdr, chkE_ok hk]
        exact ih (j + 1) (by omega)
    · refine Ev.step (f := fun _ => some (chkE n (l.drop j))) (fun k => ?_) (Ev.now _)
      simp only [plunderref7_Check.l0]
      rw [if_pos (by omega), if_pos (by omega), rd50 l j hlt, hdr, chkE_no hk]
      by_cases h0 : l[j].f0 < 0
      · rw [if_pos h0]
      rw [if_neg h0]
      by_cases h1 : l[j].f0 ≥ l[j].f1
      · rw [if_pos h1]
      rw [if_neg h1]
      by_cases h2 : l[j].f1 ≥ n
      · rw [if_pos h2]
      exact absurd (show okE n l[j] from ⟨by omega, by omega, by omega⟩) hk

theorem dagCheck_j0 (n : Int) (l : List S50) (hl : l.length < 1099511627776) (b : Bool) :
    Ev (fun k => dag_Check.j0 k b n l) (if b = true then 70 else if (l.length : Int) > 16384 then 2 else chkE n l) := by
  cases b with
  | true => exact Ev.step (f := fun _ => some 70) (fun k => by simp [dag_Check.j0]) (Ev.now _)
  | false =>
    by_cases h : (l.length : Int) > 16384
    · exact Ev.step (f := fun _ => some 2) (fun k => by simp only [dag_Check.j0]; rw [if_neg (by decide), if_pos h]) (by rw [if_neg (by decide), if_pos h]; exact Ev.now _)
    · refine Ev.step (f := fun k => dag_Check.l0 k l (l.length : Int) ((0 : Nat) : Int) n l) (fun k => by simp only [dag_Check.j0]; rw [if_neg (by decide), if_neg h]; rfl) ?_
      rw [if_neg (by decide), if_neg h]
      exact dagCheck_l0 n l hl l.length 0 (by omega)
theorem refCheck_j0 (n : Int) (l : List S50) (hl : l.length < 1099511627776) (b : Bool) :
    Ev (fun k => plunderref7_Check.j0 k b n l) (if b = true then 70 else if (l.length : Int) > 16384 then 2 else chkE n l) := by
  cases b with
  | true => exact Ev.step (f := fun _ => some 70) (fun k => by simp [plunderref7_Check.j0]) (Ev.now _)
  | false =>
    by_cases h : (l.length : Int) > 16384
    · exact Ev.step (f := fun _ => some 2) (fun k => by simp only [plunderref7_Check.j0]; rw [if_neg (by decide), if_pos h]) (by rw [if_neg (by decide), if_pos h]; exact Ev.now _)
    · refine Ev.step (f := fun k => plunderref7_Check.l0 k ((0 : Nat) : Int) n l) (fun k => by simp only [plunderref7_Check.j0]; rw [if_neg (by decide), if_neg h]; rfl) ?_
      rw [if_neg (by decide), if_neg h]
      exact refCheck_l0 n l hl l.length 0 (by omega)

theorem dagCheck_ev (n : Int) (l : List S50) (hl : l.length < 1099511627776) : Ev (fun k => dag_Check.f k n l) (chk n l) := by
  by_cases h : n < 0
  · refine Ev.congr (f := fun k => dag_Check.j0 k true n l) (fun k => by unfold dag_Check.f; rw [if_pos h]) ?_
    have := dagCheck_j0 n l hl true
    rw [if_pos rfl] at this
    rw [chk, if_pos (Or.inl h)]; exact this
  · refine Ev.congr (f := fun k => dag_Check.j0 k (decide (n > 4096)) n l) (fun k => by unfold dag_Check.f; rw [if_neg h]) ?_
    have h2 := dagCheck_j0 n l hl (decide (n > 4096))
    have e : chk n l = if decide (n > 4096) = true then 70 else if (l.length : Int) > 16384 then 2 else chkE n l := by
      unfold chk
      by_cases h3 : n > 4096
      · rw [if_pos (Or.inr h3), if_pos (by simpa using h3)]
      · have hd : decide (n > 4096) = false := by simpa using h3
        rw [hd, if_neg (show ¬ (n < 0 ∨ n > 4096) by omega)]
        simp
    rw [e]; exact h2
theorem refCheck_ev (n : Int) (l : List S50) (hl : l.length < 1099511627776) : Ev (fun k => plunderref7_Check.f k n l) (chk n l) := by
  by_cases h : n < 0
  · refine Ev.congr (f := fun k => plunderref7_Check.j0 k true n l) (fun k => by unfold plunderref7_Check.f; rw [if_pos h]) ?_
    have := refCheck_j0 n l hl true
    rw [if_pos rfl] at this
    rw [chk, if_pos (Or.inl h)]; exact this
  · refine Ev.congr (f := fun k => plunderref7_Check.j0 k (decide (n > 4096)) n l) (fun k => by unfold plunderref7_Check.f; rw [if_neg h]) ?_
    have h2 := refCheck_j0 n l hl (decide (n > 4096))
    have e : chk n l = if decide (n > 4096) = true then 70 else if (l.length : Int) > 16384 then 2 else chkE n l := by
      unfold chk
      by_cases h3 : n > 4096
      · rw [if_pos (Or.inr h3), if_pos (by simpa using h3)]
      · have hd : decide (n > 4096) = false := by simpa using h3
        rw [hd, if_neg (show ¬ (n < 0 ∨ n > 4096) by omega)]
        simp
    rw [e]; exact h2

/-- moved: as many edges, with other ends -/
def mvE (e : S50) : S50 := ⟨e.f0, wrap64 (e.f1 + 1)⟩
theorem moved_l0 (n : Int) (l : List S50) (hl : l.length < 1099511627776) : ∀ (d j : Nat), j + d = l.length →
    Ev (fun k => plunderlaw7_moved.l0 k (j : Int) n l n ((l.take j).map mvE)) (n, l.map mvE) := by
  intro d
  induction d with
  | zero =>
    intro j hj
    refine Ev.step (f := fun _ => some (n, l.map mvE)) (fun k => ?_) (Ev.now _)
    have hlen : ((l.take j).map mvE).length = l.length := by simp; omega
    simp only [plunderlaw7_moved.l0]
    rw [if_neg (by omega), if_pos (by rw [hlen]; omega)]
    simp only [Option.bind_some]
    rw [if_pos (by omega), if_pos (by simp; omega)]
    have e1 : l.take j = l := List.take_of_length_le (by omega)
    rw [e1]
    simp
  | succ d ih =>
    intro j hj
    have hlt : j < l.length := by omega
    refine Ev.step (f := fun k => plunderlaw7_moved.l0 k ((j + 1 : Nat) : Int) n l n ((l.take (j + 1)).map mvE)) (fun k => ?_) (ih (j + 1) (by omega))
    simp only [plunderlaw7_moved.l0]
    rw [if_pos (by omega), if_pos (by omega), if_pos (by simp; omega), rd50 l j hlt, w64s (by omega)]
    congr 1
    rw [List.map_take, List.map_take, List.take_succ_eq_append_getElem (by simp; omega)]
    simp [mvE]
theorem moved_ev (n : Int) (l : List S50) (hl : l.length < 1099511627776) : Ev (fun k => plunderlaw7_moved.f k n l) (n, l.map mvE) := by
  have := moved_l0 n l hl l.length 0 (by omega)
  exact this

theorem back_l0 (n m : Int) (l : List S50) (hl : l.length < 1099511627776) : ∀ (d j : Nat) (x : List S50), j + d = l.length → x.length = l.length → x.take j = l.take j →
    Ev (fun k => plunderlaw7_back.l0 k (j : Int) n x m l) l := by
  intro d
  induction d with
  | zero =>
    intro j x hj hx ht
    refine Ev.step (f := fun _ => some l) (fun k => ?_) (Ev.now _)
    simp only [plunderlaw7_back.l0]
    rw [if_neg (by omega)]
    rw [List.take_of_length_le (by omega), List.take_of_length_le (by omega)] at ht
    rw [ht]
  | succ d ih =>
    intro j x hj hx ht
    have hlt : j < l.length := by omega
    refine Ev.step (f := fun k => plunderlaw7_back.l0 k ((j + 1 : Nat) : Int) n (x.set j l[j]) m l) (fun k => ?_) (ih (j + 1) (x.set j l[j]) (by omega) (by simpa using hx) ?_)
    · simp only [plunderlaw7_back.l0]
      rw [if_pos (by omega), if_pos (by omega), if_pos (by omega), rd50 l j hlt, w64s (by omega), S50_eta]
      rfl
    · rw [List.take_succ_eq_append_getElem hlt, List.take_succ_eq_append_getElem (by simp; omega), ← ht]
      rw [List.take_set_of_le (Nat.le_refl j)]
      simp
theorem back_ev (n m : Int) (l x : List S50) (hl : l.length < 1099511627776) (hx : x.length = l.length) : Ev (fun k => plunderlaw7_back.f k n x m l) l :=
  back_l0 n m l hl l.length 0 x (by omega) hx (by simp)

theorem sameEdges_l0 (l : List S50) (hl : l.length < 1099511627776) : ∀ (d j : Nat), j + d = l.length → Ev (fun k => plunderlaw7_sameEdges.l0 k l l (j : Int)) true := by
  intro d
  induction d with
  | zero =>
    intro j hj
    refine Ev.step (f := fun _ => some true) (fun k => ?_) (Ev.now _)
    simp only [plunderlaw7_sameEdges.l0]
    rw [if_neg (by omega)]
  | succ d ih =>
    intro j hj
    refine Ev.step (f := fun k => plunderlaw7_sameEdges.l0 k l l ((j + 1 : Nat) : Int)) (fun k => ?_) (ih (j + 1) (by omega))
    simp only [plunderlaw7_sameEdges.l0]
    rw [if_pos (by omega), if_pos (by omega), if_pos (by omega), w64s (by omega), if_neg (by simp)]
theorem sameEdges_ev (l : List S50) (hl : l.length < 1099511627776) : Ev (fun k => plunderlaw7_sameEdges.f k l l) true := by
  refine Ev.congr (f := fun k => plunderlaw7_sameEdges.l0 k l l ((0 : Nat) : Int)) (fun k => by unfold plunderlaw7_sameEdges.f; rw [if_pos rfl]; rfl) ?_
  exact sameEdges_l0 l hl l.length 0 (by omega)
end Go.Proofs.Ytbahnialbffkeaa.P
