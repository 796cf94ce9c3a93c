/- Plain law, part A of layer 19: what Check (the program's and the document's), spare, untouched, turned and lay come to. -/
import Derived.Test.YtjbnbepjbioboaaPx5
namespace Go.Proofs.Ytjbnbepjbioboaa.P
open Go.RowKit Go.Proofs.YtjbnbepjbioboaaW.PrintWords Go.Proofs.YtjbnbepjbioboaaW.PrintLast Go.Proofs.YtjbnbepjbioboaaW.PrintMore
set_option linter.unusedVariables false

theorem w64 {x : Int} (h0 : -9223372036854775808 ≤ x) (h1 : x ≤ 9223372036854775807) : wrap64 x = x := by
  unfold wrap64; omega
theorem w64s {j : Nat} (h1 : j < 4611686018427387904) : wrap64 ((j : Int) + 1) = ((j + 1 : Nat) : Int) := by
  unfold wrap64; omega
theorem S55_eta (e : S55) : (⟨e.f0, e.f1⟩ : S55) = e := by cases e; rfl
theorem rd55 (l : List S55) (j : Nat) (h : j < l.length) : rd_T55 l (j : Int) = l[j] := by
  unfold rd_T55
  simp [List.getD_eq_getElem?_getD, List.getElem?_eq_getElem h]

/-- the fault and its place, from deed i on, o children open -/
def ck (o : Int) (i : Nat) : List S55 → Int × Int
  | [] => (0, 0)
  | e :: r => if e.f0 < 0 ∨ e.f0 > 4 ∨ (e.f0 = 1 ∧ o = 0) then (190, (i : Int)) else ck (o + (if e.f0 = 0 then 1 else if e.f0 = 1 then -1 else 0)) (i + 1) r
def chk (l : List S55) : Int × Int := if (l.length : Int) > 4096 then (2, 0) else ck 0 0 l

theorem ck_no {o : Int} {i : Nat} {e : S55} {r : List S55} (h : e.f0 < 0 ∨ e.f0 > 4 ∨ (e.f0 = 1 ∧ o = 0)) : ck o i (e :: r) = (190, (i : Int)) := by
  rw [ck, if_pos h]
theorem ck_yes {o : Int} {i : Nat} {e : S55} {r : List S55} (h : ¬ (e.f0 < 0 ∨ e.f0 > 4 ∨ (e.f0 = 1 ∧ o = 0))) (o' : Int) (ho : o' = o + (if e.f0 = 0 then 1 else if e.f0 = 1 then -1 else 0)) : ck o i (e :: r) = ck o' (i + 1) r := by
  rw [ck, if_neg h, ho]

theorem racesCheck_l0 (l : List S55) (hl : l.length < 1099511627776) : ∀ (d j : Nat) (o : Int), j + d = l.length → 0 ≤ o → o ≤ (j : Int) → Ev (fun k => races_Check.l0 k o l (l.length : Int) (j : Int)) (ck o j (l.drop j)) := by
  intro d
  induction d with
  | zero =>
    intro j o hj h0 h1
    refine Ev.step (f := fun _ => some (0, 0)) (fun k => ?_) (by rw [List.drop_of_length_le (by omega)]; exact Ev.now _)
    simp only [races_Check.l0]
    rw [if_neg (by omega)]
  | succ d ih =>
    intro j o hj h0 h1
    have hlt : j < l.length := by omega
    rw [List.drop_eq_getElem_cons hlt]
    by_cases k0 : l[j].f0 = 0
    · rw [ck_yes (by omega) (o + 1) (by rw [if_pos k0])]
      refine Ev.step (f := fun k => races_Check.l0 k (o + 1) l (l.length : Int) ((j + 1 : Nat) : Int)) (fun k => ?_) (ih (j + 1) (o + 1) (by omega) (by omega) (by omega))
      simp only [races_Check.l0]
      rw [if_pos (by omega), if_pos (by omega), if_pos (by omega), rd55 l j hlt, if_pos k0, w64 (by omega) (by omega), if_neg (by omega), w64s (by omega)]
    by_cases k1 : l[j].f0 = 1
    · by_cases ho : o = 0
      · rw [ck_no (by omega)]
        refine Ev.step (f := fun _ => some (190, (j : Int))) (fun k => ?_) (Ev.now _)
        simp only [races_Check.l0]
        rw [if_pos (by omega), if_pos (by omega), if_pos (by omega), rd55 l j hlt, if_neg k0, if_pos k1, w64 (by omega) (by omega), if_pos (by omega)]
      · rw [ck_yes (by omega) (o - 1) (by rw [if_neg k0, if_pos k1]; omega)]
        refine Ev.step (f := fun k => races_Check.l0 k (o - 1) l (l.length : Int) ((j + 1 : Nat) : Int)) (fun k => ?_) (ih (j + 1) (o - 1) (by omega) (by omega) (by omega))
        simp only [races_Check.l0]
        rw [if_pos (by omega), if_pos (by omega), if_pos (by omega), rd55 l j hlt, if_neg k0, if_pos k1, w64 (by omega) (by omega), if_neg (by omega), w64s (by omega)]
    -- the others
    have hj1 : ∀ b : Bool, Ev (fun k => races_Check.j1 k o (j : Int) l (l.length : Int) (j : Int) b) (if b = true then ck o (j + 1) (l.drop (j + 1)) else (190, (j : Int))) := by
      intro b
      cases b with
      | true =>
        refine Ev.step (f := fun k => races_Check.l0 k o l (l.length : Int) ((j + 1 : Nat) : Int)) (fun k => ?_) (by rw [if_pos rfl]; exact ih (j + 1) o (by omega) h0 (by omega))
        simp only [races_Check.j1]
        rw [if_pos trivial, if_neg (by omega), w64s (by omega)]
      | false =>
        refine Ev.step (f := fun _ => some (190, (j : Int))) (fun k => ?_) (by rw [if_neg (by decide)]; exact Ev.now _)
        simp only [races_Check.j1]
        rw [if_neg (by decide)]
    by_cases k2 : l[j].f0 = 2
    · have h2 := hj1 (l[j].f0 == 2)
      rw [if_pos (by simpa using k2)] at h2
      rw [ck_yes (by omega) o (by rw [if_neg k0, if_neg k1]; omega)]
      refine Ev.step (f := fun k => races_Check.j1 k o (j : Int) l (l.length : Int) (j : Int) (l[j].f0 == 2)) (fun k => ?_) h2
      simp only [races_Check.l0]
      rw [if_pos (by omega), if_pos (by omega), if_pos (by omega), rd55 l j hlt, if_neg k0, if_neg k1, if_pos k2]
    by_cases k3 : l[j].f0 = 3
    · have h2 := hj1 (l[j].f0 == 3)
      rw [if_pos (by simpa using k3)] at h2
      rw [ck_yes (by omega) o (by rw [if_neg k0, if_neg k1]; omega)]
      refine Ev.step (f := fun k => races_Check.j1 k o (j : Int) l (l.length : Int) (j : Int) (l[j].f0 == 3)) (fun k => ?_) h2
      simp only [races_Check.l0]
      rw [if_pos (by omega), if_pos (by omega), if_pos (by omega), rd55 l j hlt, if_neg k0, if_neg k1, if_neg k2, if_pos k3]
    have h2 := hj1 (l[j].f0 == 4)
    have h3 : ck o j (l[j] :: l.drop (j + 1)) = if (l[j].f0 == 4) = true then ck o (j + 1) (l.drop (j + 1)) else (190, (j : Int)) := by
      by_cases k4 : l[j].f0 = 4
      · rw [if_pos (by simpa using k4), ck_yes (by omega) o (by rw [if_neg k0, if_neg k1]; omega)]
      · rw [if_neg (by simpa using k4), ck_no (by omega)]
    rw [h3]
    refine Ev.step (f := fun k => races_Check.j1 k o (j : Int) l (l.length : Int) (j : Int) (l[j].f0 == 4)) (fun k => ?_) h2
    simp only [races_Check.l0]
    rw [if_pos (by omega), if_pos (by omega), if_pos (by omega), rd55 l j hlt, if_neg k0, if_neg k1, if_neg k2, if_neg k3]
theorem racesCheck_ev (l : List S55) (hl : l.length < 1099511627776) : Ev (fun k => races_Check.f k l) (chk l) := by
  unfold races_Check.f chk
  by_cases h : (l.length : Int) > 4096
  · simp only [if_pos h]; exact Ev.now _
  · simp only [if_neg h]
    exact racesCheck_l0 l hl l.length 0 0 (by omega) (by omega) (by omega)

theorem refCheck_l0 (l : List S55) (hl : l.length < 1099511627776) : ∀ (d j : Nat) (o : Int), j + d = l.length → 0 ≤ o → o ≤ (j : Int) → Ev (fun k => plunderref19_Check.l0 k l o (j : Int)) (ck o j (l.drop j)) := by
  intro d
  induction d with
  | zero =>
    intro j o hj h0 h1
    refine Ev.step (f := fun _ => some (0, 0)) (fun k => ?_) (by rw [List.drop_of_length_le (by omega)]; exact Ev.now _)
    simp only [plunderref19_Check.l0]
    rw [if_neg (by omega)]
  | succ d ih =>
    intro j o hj h0 h1
    have hlt : j < l.length := by omega
    rw [List.drop_eq_getElem_cons hlt]
    have hj1 : ∀ b : Bool, (b = true ↔ (l[j].f0 < 0 ∨ l[j].f0 > 4 ∨ (l[j].f0 = 1 ∧ o = 0))) → Ev (fun k => plunderref19_Check.j1 k l o (j : Int) l[j].f0 b) (ck o j (l[j] :: l.drop (j + 1))) := by
      intro b hb
      cases b with
      | true =>
        rw [ck_no (hb.1 rfl)]
        refine Ev.step (f := fun _ => some (190, (j : Int))) (fun k => ?_) (Ev.now _)
        simp only [plunderref19_Check.j1]
        rw [if_pos trivial]
      | false =>
        have hn : ¬ (l[j].f0 < 0 ∨ l[j].f0 > 4 ∨ (l[j].f0 = 1 ∧ o = 0)) := fun h => by have := hb.2 h; cases this
        by_cases k0 : l[j].f0 = 0
        · rw [ck_yes hn (o + 1) (by rw [if_pos k0])]
          refine Ev.step (f := fun k => plunderref19_Check.l0 k l (o + 1) ((j + 1 : Nat) : Int)) (fun k => ?_) (ih (j + 1) (o + 1) (by omega) (by omega) (by omega))
          simp only [plunderref19_Check.j1]
          rw [if_neg (by decide), if_pos k0, if_neg (by omega), w64 (by omega) (by omega), w64s (by omega)]
        by_cases k1 : l[j].f0 = 1
        · rw [ck_yes hn (o - 1) (by rw [if_neg k0, if_pos k1]; omega)]
          refine Ev.step (f := fun k => plunderref19_Check.l0 k l (o - 1) ((j + 1 : Nat) : Int)) (fun k => ?_) (ih (j + 1) (o - 1) (by omega) (by omega) (by omega))
          simp only [plunderref19_Check.j1]
          rw [if_neg (by decide), if_neg k0, if_pos k1, w64 (by omega) (by omega), w64s (by omega)]
        · rw [ck_yes hn o (by rw [if_neg k0, if_neg k1]; omega)]
          refine Ev.step (f := fun k => plunderref19_Check.l0 k l o ((j + 1 : Nat) : Int)) (fun k => ?_) (ih (j + 1) o (by omega) (by omega) (by omega))
          simp only [plunderref19_Check.j1]
          rw [if_neg (by decide), if_neg k0, if_neg k1, w64s (by omega)]
    by_cases k0 : l[j].f0 < 0
    · refine Ev.step (f := fun k => plunderref19_Check.j1 k l o (j : Int) l[j].f0 true) (fun k => ?_) (hj1 true (by simp; omega))
      simp only [plunderref19_Check.l0]
      rw [if_pos (by omega), if_pos (by omega), rd55 l j hlt, if_pos k0]
    by_cases k4 : l[j].f0 > 4
    · refine Ev.step (f := fun k => plunderref19_Check.j1 k l o (j : Int) l[j].f0 true) (fun k => ?_) (hj1 true (by simp; omega))
      simp only [plunderref19_Check.l0]
      rw [if_pos (by omega), if_pos (by omega), rd55 l j hlt, if_neg k0, if_pos k4]
    by_cases k1 : l[j].f0 = 1
    · refine Ev.step (f := fun k => plunderref19_Check.j1 k l o (j : Int) l[j].f0 (o == 0)) (fun k => ?_) (hj1 (o == 0) (by simp; omega))
      simp only [plunderref19_Check.l0]
      rw [if_pos (by omega), if_pos (by omega), rd55 l j hlt, if_neg k0, if_neg k4, if_pos k1]
    · refine Ev.step (f := fun k => plunderref19_Check.j1 k l o (j : Int) l[j].f0 false) (fun k => ?_) (hj1 false (by simp; omega))
      simp only [plunderref19_Check.l0]
      rw [if_pos (by omega), if_pos (by omega), rd55 l j hlt, if_neg k0, if_neg k4, if_neg k1]
theorem refCheck_ev (l : List S55) (hl : l.length < 1099511627776) : Ev (fun k => plunderref19_Check.f k l) (chk l) := by
  unfold plunderref19_Check.f chk
  by_cases h : (l.length : Int) > 4096
  · simp only [if_pos h]; exact Ev.now _
  · simp only [if_neg h]
    exact refCheck_l0 l hl l.length 0 0 (by omega) (by omega) (by omega)

/-! ### spare, untouched, turned, lay -/
def odd : List S55 := [⟨77, 5⟩, ⟨78, 6⟩]
theorem spare_l0 (l : List S55) (hl : l.length < 1099511627776) : ∀ (d j : Nat) (x : List S55), j + d = l.length → x.length = l.length + 2 → x.take j = l.take j →
    Ev (fun k => plunderlaw19_spare.l0 k l (l.length : Int) x (j : Int)) (l ++ odd) := by
  intro d
  induction d with
  | zero =>
    intro j x hj hx ht
    refine Ev.step (f := fun _ => some (l ++ odd)) (fun k => ?_) (Ev.now _)
    simp only [plunderlaw19_spare.l0]
    rw [if_neg (by omega), if_pos (by omega), if_pos (by omega), w64s (by omega), if_pos (by omega), if_pos (by omega)]
    congr 1
    have e1 : x = l ++ x.drop l.length := by
      conv => lhs; rw [← List.take_append_drop l.length x]
      rw [show l.length = j by omega, ht, List.take_of_length_le (by omega)]
    have hd : (x.drop l.length).length = 2 := by rw [List.length_drop]; omega
    match hq : x.drop l.length, hd with
    | [a, b], _ =>
      rw [hq] at e1
      rw [e1]
      simp only [Int.toNat_natCast]
      rw [List.set_append_right _ _ (by omega), List.set_append_right _ _ (by omega)]
      simp [odd]
  | succ d ih =>
    intro j x hj hx ht
    have hlt : j < l.length := by omega
    refine Ev.step (f := fun k => plunderlaw19_spare.l0 k l (l.length : Int) (x.set j l[j]) ((j + 1 : Nat) : Int)) (fun k => ?_) (ih (j + 1) (x.set j l[j]) (by omega) (by simpa using hx) ?_)
    · simp only [plunderlaw19_spare.l0]
      rw [if_pos (by omega), if_pos (by omega), if_pos (by omega), if_pos (by omega), rd55 l j hlt, w64s (by omega), S55_eta]
      rfl
    · rw [List.take_succ_eq_append_getElem hlt, List.take_succ_eq_append_getElem (by simp; omega), ← ht]
      rw [List.take_set_of_le (Nat.le_refl j)]
      simp
theorem spare_ev (l : List S55) (hl : l.length < 1099511627776) : Ev (fun k => plunderlaw19_spare.f k l) (l ++ odd) := by
  have hw : wrap64 ((l.length : Int) + 2) = ((l.length + 2 : Nat) : Int) := by unfold wrap64; omega
  unfold plunderlaw19_spare.f
  have h1 : (0 : Int) ≤ wrap64 ((l.length : Int) + 2) := by omega
  have h2 : (wrap64 ((l.length : Int) + 2)).toNat ≤ 17592186044416 := by omega
  simp only [if_pos h1, if_pos h2]
  exact spare_l0 l hl l.length 0 _ (by omega) (by rw [List.length_replicate]; omega) (by simp)
theorem sameDeeds_l0 (l : List S55) (hl : l.length < 1099511627776) : ∀ (d j : Nat), j + d = l.length → Ev (fun k => plunderlaw19_sameDeeds.l0 k l l (j : Int)) true := by
  intro d
  induction d with
  | zero =>
    intro j hj
    refine Ev.step (f := fun _ => some true) (fun k => ?_) (Ev.now _)
    simp only [plunderlaw19_sameDeeds.l0]
    rw [if_neg (by omega)]
  | succ d ih =>
    intro j hj
    refine Ev.step (f := fun k => plunderlaw19_sameDeeds.l0 k l l ((j + 1 : Nat) : Int)) (fun k => ?_) (ih (j + 1) (by omega))
    simp only [plunderlaw19_sameDeeds.l0]
    rw [if_pos (by omega), if_pos (by omega), if_pos (by omega), w64s (by omega), if_neg (by simp)]
theorem sameDeeds_ev (l : List S55) (hl : l.length < 1099511627776) : Ev (fun k => plunderlaw19_sameDeeds.f k l l) true := by
  refine Ev.congr (f := fun k => plunderlaw19_sameDeeds.l0 k l l ((0 : Nat) : Int)) (fun k => by unfold plunderlaw19_sameDeeds.f; rw [if_pos rfl]; rfl) ?_
  exact sameDeeds_l0 l hl l.length 0 (by omega)
theorem untouched_ev (l : List S55) (hl : l.length < 1099511627776) : Ev (fun k => plunderlaw19_untouched.f k (l ++ odd) l) true := by
  unfold plunderlaw19_untouched.f
  have e0 : (l ++ odd).length = l.length + 2 := by simp [odd]
  have h0 : (0 : Int) ≤ (l.length : Int) := by omega
  have h1 : (l.length : Int) ≤ ((l ++ odd).length : Int) := by omega
  have h2 : (l.length : Int) < ((l ++ odd).length : Int) := by omega
  have h3 : (l ++ odd).take ((l.length : Int)).toNat = l := by simp
  have h4 : rd_T55 (l ++ odd) (l.length : Int) = ⟨77, 5⟩ := by
    unfold rd_T55
    simp [List.getD_eq_getElem?_getD, odd]
  have h5 : rd_T55 (l ++ odd) ((l.length + 1 : Nat) : Int) = ⟨78, 6⟩ := by
    unfold rd_T55
    simp [List.getD_eq_getElem?_getD, odd]
  have h6 : (0 : Int) ≤ ((l.length + 1 : Nat) : Int) := by omega
  have h7 : ((l.length + 1 : Nat) : Int) < ((l ++ odd).length : Int) := by omega
  simp only [if_pos h0, if_pos h1, h3, w64s (show l.length < 4611686018427387904 by omega)]
  refine Ev.bind (sameDeeds_ev l hl) ?_
  simp only [if_true, if_pos h2, h4, if_pos h6, if_pos h7, h5]
  exact Ev.now true
def tnE (e : S55) : S55 := if e.f0 = 3 then ⟨4, wrap64 (e.f1 + 1)⟩ else if e.f0 = 4 then ⟨3, wrap64 (e.f1 + 1)⟩ else if e.f0 = 2 then ⟨3, e.f1⟩ else e
theorem turned_l0 (l : List S55) (hl : l.length < 1099511627776) : ∀ (d j : Nat), j + d = l.length → Ev (fun k => plunderlaw19_turned.l0 k l ((l.map tnE).take j) (j : Int)) (l.map tnE) := by
  intro d
  induction d with
  | zero =>
    intro j hj
    refine Ev.step (f := fun _ => some (l.map tnE)) (fun k => ?_) (Ev.now _)
    simp only [plunderlaw19_turned.l0]
    rw [if_neg (by omega), List.take_of_length_le (by simp; omega)]
  | succ d ih =>
    intro j hj
    have hlt : j < l.length := by omega
    refine Ev.step (f := fun k => plunderlaw19_turned.l0 k l ((l.map tnE).take (j + 1)) ((j + 1 : Nat) : Int)) (fun k => ?_) (ih (j + 1) (by omega))
    have hL : ((l.map tnE).take j).length < 8796093022208 := by simp; omega
    simp only [plunderlaw19_turned.l0]
    rw [if_pos (by omega), if_pos (by omega), rd55 l j hlt, List.take_succ_eq_append_getElem (by simpa using hlt), List.getElem_map, w64s (by omega)]
    by_cases k3 : l[j].f0 = 3
    · rw [if_pos k3, if_pos hL, tnE, if_pos k3]
    rw [if_neg k3]
    by_cases k4 : l[j].f0 = 4
    · rw [if_pos k4, if_pos hL, tnE, if_neg k3, if_pos k4]
    rw [if_neg k4]
    by_cases k2 : l[j].f0 = 2
    · rw [if_pos k2, if_pos hL, tnE, if_neg k3, if_neg k4, if_pos k2]
    · rw [if_neg k2, if_pos hL, tnE, if_neg k3, if_neg k4, if_neg k2, S55_eta]
theorem turned_ev (l : List S55) (hl : l.length < 1099511627776) : Ev (fun k => plunderlaw19_turned.f k l) (l.map tnE) := by
  have := turned_l0 l hl l.length 0 (by omega)
  exact this
theorem lay_l0 (l : List S55) (hl : l.length < 1099511627776) : ∀ (d j : Nat) (x : List S55), j + d = l.length → x.length = l.length → x.take j = l.take j →
    Ev (fun k => plunderlaw19_lay.l0 k x l (j : Int)) l := by
  intro d
  induction d with
  | zero =>
    intro j x hj hx ht
    refine Ev.step (f := fun _ => some l) (fun k => ?_) (Ev.now _)
    simp only [plunderlaw19_lay.l0]
    rw [if_neg (by omega)]
    rw [List.take_of_length_le (by omega), List.take_of_length_le (by omega)] at ht
    rw [ht]
  | succ d ih =>
    intro j x hj hx ht
    have hlt : j < l.length := by omega
    refine Ev.step (f := fun k => plunderlaw19_lay.l0 k (x.set j l[j]) l ((j + 1 : Nat) : Int)) (fun k => ?_) (ih (j + 1) (x.set j l[j]) (by omega) (by simpa using hx) ?_)
    · simp only [plunderlaw19_lay.l0]
      rw [if_pos (by omega), if_pos (by omega), if_pos (by omega), rd55 l j hlt, w64s (by omega), S55_eta]
      rfl
    · rw [List.take_succ_eq_append_getElem hlt, List.take_succ_eq_append_getElem (by simp; omega), ← ht]
      rw [List.take_set_of_le (Nat.le_refl j)]
      simp
theorem lay_ev (x l : List S55) (hl : l.length < 1099511627776) (hx : x.length = l.length) : Ev (fun k => plunderlaw19_lay.f k x l) l :=
  lay_l0 l hl l.length 0 x (by omega) hx (by simp)
end Go.Proofs.Ytjbnbepjbioboaa.P
