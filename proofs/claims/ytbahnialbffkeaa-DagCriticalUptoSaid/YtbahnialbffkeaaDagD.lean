/- Plain law, part D: Critical of layer 7 tells a path with as many nodes as the span, and the document's Path takes it. -/
import Derived.Test.YtbahnialbffkeaaDagC
import Derived.Test.YtbahnialbffkeaaPx13
import Derived.Test.YtbahnialbffkeaaPx14
namespace Go.Proofs.Ytbahnialbffkeaa.P
open Go.RowKit Go.Proofs.YtbahnialbffkeaaW.PrintWords Go.Proofs.YtbahnialbffkeaaW.PrintLast Go.Proofs.YtbahnialbffkeaaW.PrintMore
set_option linter.unusedVariables false

theorem great_nonneg (x : List Int) : 0 ≤ great x := by
  have key : ∀ (x : List Int) (a : Int), 0 ≤ a → 0 ≤ x.foldl mx a := by
    intro x
    induction x with
    | nil => intro a h; exact h
    | cons v r ih =>
      intro a h
      refine ih (mx a v) ?_
      unfold mx; split <;> omega
  exact key x 0 (Int.le_refl 0)
theorem great_ge {x : List Int} {v : Int} (h : v ∈ x) : v ≤ great x := by
  have mono : ∀ (x : List Int) (a : Int), a ≤ x.foldl mx a := by
    intro x
    induction x with
    | nil => intro a; exact Int.le_refl a
    | cons w r ih =>
      intro a
      refine Int.le_trans (show a ≤ mx a w from ?_) (ih _)
      unfold mx; split <;> omega
  have key : ∀ (x : List Int) (a : Int), v ∈ x → v ≤ x.foldl mx a := by
    intro x
    induction x with
    | nil => intro a h; cases h
    | cons w r ih =>
      intro a h
      rcases List.mem_cons.1 h with rfl | h
      · refine Int.le_trans (show v ≤ mx a v from ?_) (mono r _)
        unfold mx; split <;> omega
      · exact ih _ h
  exact key x 0 h
theorem great_is (x : List Int) : great x = 0 ∨ great x ∈ x := by
  have key : ∀ (x : List Int) (a : Int), x.foldl mx a = a ∨ x.foldl mx a ∈ x := by
    intro x
    induction x with
    | nil => intro a; exact .inl rfl
    | cons w r ih =>
      intro a
      rcases ih (mx a w) with h | h
      · rw [List.foldl_cons, h]
        unfold mx
        by_cases hlt : a < w
        · rw [if_pos hlt]; exact .inr List.mem_cons_self
        · rw [if_neg hlt]; exact .inl rfl
      · exact .inr (List.mem_cons_of_mem _ h)
  exact key x 0
theorem rd_mem {x : List Int} {i : Int} (h0 : 0 ≤ i) (h : i < (x.length : Int)) : rd x i ∈ x := by
  unfold rd
  rw [List.getD_eq_getElem?_getD, List.getElem?_eq_getElem (by omega)]
  exact List.getElem_mem _
theorem great_at {x : List Int} {i : Int} (h0 : 0 ≤ i) (h : i < (x.length : Int)) (hpos : 0 < rd x i) (hall : ∀ j : Nat, j < x.length → rd x (j : Int) ≤ rd x i) : great x = rd x i := by
  have h1 := great_ge (rd_mem h0 h)
  rcases great_is x with h2 | h2
  · omega
  · obtain ⟨j, hj, he⟩ := List.getElem_of_mem h2
    have := hall j hj
    rw [rdi x j hj, he] at this
    omega

/-- the nodes of a path -/
def Way (n : Nat) (l : List S50) (p : List Int) : Prop :=
  ∀ j : Nat, j < p.length → 0 ≤ rd p (j : Int) ∧ rd p (j : Int) < (n : Int) ∧ (0 < j → rd p ((j : Int) - 1) ∈ preds l (rd p (j : Int)).toNat)


/-- on the way back: done from a + 1 on -/
def Back (n : Nat) (l : List S50) (p : List Int) (at_ e : Int) : Prop :=
  (∀ j : Nat, j < p.length → at_ < (j : Int) → 0 ≤ rd p (j : Int) ∧ rd p (j : Int) < (n : Int) ∧ (at_ + 1 < (j : Int) → rd p ((j : Int) - 1) ∈ preds l (rd p (j : Int)).toNat)) ∧
  (0 ≤ at_ → at_ + 1 < (p.length : Int) → e ∈ preds l (rd p (at_ + 1)).toNat)

theorem rd_set_self (p : List Int) (a v : Int) (h0 : 0 ≤ a) (h : a < (p.length : Int)) : rd (p.set a.toNat v) a = v := by
  unfold rd
  rw [List.getD_eq_getElem?_getD, List.getElem?_set_self (by omega)]
  rfl
theorem rd_set_ne (p : List Int) (a v j : Int) (h0 : 0 ≤ a) (hj : 0 ≤ j) (h : j ≠ a) : rd (p.set a.toNat v) j = rd p j := by
  unfold rd
  rw [List.getD_eq_getElem?_getD, List.getD_eq_getElem?_getD, List.getElem?_set_ne (by omega)]

theorem crit_l1 (n : Nat) (l : List S50) (hn : n ≤ 4096) (hl : l.length < 1099511627776) (hok : ∀ e ∈ l, okE (n : Int) e) : ∀ (d : Nat) (p : List Int) (e : Int), d ≤ p.length → p.length ≤ 4096 → 0 ≤ e → e < (n : Int) → (0 < d → rd (ear (rowsOf n l) n) e = (d : Int)) → Back n l p ((d : Int) - 1) e →
    ∃ q : List Int, q.length = p.length ∧ Way n l q ∧ Ev (fun k => dag_Critical.l1 k (ear (rowsOf n l) n) e (rowsOf n l) p ((d : Int) - 1)) (q, 0) := by
  have hlow := low_rowsOf hok
  intro d
  induction d with
  | zero =>
    intro p e hd hp he0 he1 _ hb
    refine ⟨p, rfl, ?_, Ev.step (f := fun _ => some (p, 0)) (fun k => ?_) (Ev.now _)⟩
    · intro j hj
      obtain ⟨h1, h2, h3⟩ := hb.1 j hj (by omega)
      exact ⟨h1, h2, fun h => h3 (by omega)⟩
    · simp only [dag_Critical.l1]
      rw [if_neg (by omega)]
  | succ d ih =>
    intro p e hd hp he0 he1 hE hb
    have hE := hE (by omega)
    have ea : ((d + 1 : Nat) : Int) - 1 = (d : Int) := by omega
    rw [ea] at hb ⊢
    have hrow : rd_L5 (rowsOf n l) e = preds l e.toNat := by
      unfold rd_L5
      rw [rowsOf_getD _ _ _ (by omega)]
    -- the list with the node laid down
    have hp' : (p.set (d : Int).toNat e).length = p.length := by simp
    have hset : Back n l (p.set (d : Int).toNat e) ((d : Int) - 1) 0 ∨ True := .inr trivial
    have hnext : ∀ e', (0 < d → e' ∈ preds l e.toNat) → Back n l (p.set (d : Int).toNat e) ((d : Int) - 1) e' := by
      intro e' he'
      refine ⟨fun j hj hlt => ?_, fun h0 h1 => ?_⟩
      · rw [hp'] at hj
        by_cases hjd : j = d
        · subst hjd
          rw [rd_set_self _ _ _ (by omega) (by omega)]
          exact ⟨he0, he1, fun h => absurd h (by omega)⟩
        · obtain ⟨h1, h2, h3⟩ := hb.1 j hj (by omega)
          rw [rd_set_ne _ _ _ _ (by omega) (by omega) (by omega)]
          refine ⟨h1, h2, fun _ => ?_⟩
          by_cases hj1 : j = d + 1
          · subst hj1
            have h4 := hb.2 (by omega) (by omega)
            have e1 : ((d + 1 : Nat) : Int) - 1 = (d : Int) := by omega
            rw [e1, rd_set_self _ _ _ (by omega) (by omega)]
            exact h4
          · rw [rd_set_ne _ _ _ _ (by omega) (by omega) (by omega)]
            exact h3 (by omega)
      · have e1 : (d : Int) - 1 + 1 = (d : Int) := by omega
        rw [e1, rd_set_self _ _ _ (by omega) (by omega)]
        exact he' (by omega)
    -- the search
    have hsearch : ∀ (c j : Nat), j + c = (preds l e.toNat).length → (∀ i : Nat, i < j → rd (ear (rowsOf n l) n) ((preds l e.toNat).getD i 0) ≠ (d : Int)) →
        ∃ q : List Int, q.length = p.length ∧ Way n l q ∧ Ev (fun k => dag_Critical.l2 k (ear (rowsOf n l) n) e (rowsOf n l) (p.set (d : Int).toNat e) (d : Int) (preds l e.toNat) ((preds l e.toNat).length : Int) (j : Int)) (q, 0) := by
      have hpl := preds_len l e.toNat
      intro c
      induction c with
      | zero =>
        intro j hj hno
        have hd0 : d = 0 := by
          apply Classical.byContradiction
          intro hne
          have h1 := ear_at (rowsOf n l) (i := e.toNat) (n := n) (by omega)
          rw [show ((e.toNat : Nat) : Int) = e by omega, rowsOf_getD _ _ _ (by omega)] at h1
          rcases mxL_is (ear (rowsOf n l) e.toNat) (preds l e.toNat) with h2 | ⟨k, hk, h2⟩
          · omega
          · have hkl := hlow e.toNat k (by rw [rowsOf_getD _ _ _ (by omega)]; exact hk)
            have h3 := ear_stays (rowsOf n l) (i := e.toNat) (j := n) (by omega) hkl.1 hkl.2
            obtain ⟨i, hi, hki⟩ := List.getElem_of_mem hk
            refine hno i (by omega) ?_
            rw [List.getD_eq_getElem?_getD, List.getElem?_eq_getElem hi, hki]
            show rd (ear (rowsOf n l) n) k = _
            omega
        subst hd0
        obtain ⟨q, hq, hw, hev⟩ := ih (p.set ((0 : Nat) : Int).toNat e) e (by omega) (by omega) he0 he1 (fun h => absurd h (by omega)) (hnext e (fun h => absurd h (by omega)))
        refine ⟨q, by rw [hq, hp'], hw, Ev.step (f := fun k => dag_Critical.l1 k (ear (rowsOf n l) n) e (rowsOf n l) (p.set ((0 : Nat) : Int).toNat e) (((0 : Nat) : Int) - 1)) (fun k => ?_) hev⟩
        simp only [dag_Critical.l2]
        rw [if_neg (by omega), w64 (by omega) (by omega)]
      | succ c ihc =>
        intro j hj hno
        have hlt : j < (preds l e.toNat).length := by omega
        have hmem : (preds l e.toNat)[j] ∈ preds l e.toNat := List.getElem_mem hlt
        have hkl := hlow e.toNat _ (by rw [rowsOf_getD _ _ _ (by omega)]; exact hmem)
        by_cases hf : rd (ear (rowsOf n l) n) (preds l e.toNat)[j] = (d : Int)
        · obtain ⟨q, hq, hw, hev⟩ := ih (p.set (d : Int).toNat e) (preds l e.toNat)[j] (by omega) (by omega) hkl.1 (by omega) (fun _ => hf) (hnext _ (fun _ => hmem))
          refine ⟨q, by rw [hq, hp'], hw, Ev.step (f := fun k => dag_Critical.l1 k (ear (rowsOf n l) n) (preds l e.toNat)[j] (rowsOf n l) (p.set (d : Int).toNat e) ((d : Int) - 1)) (fun k => ?_) hev⟩
          simp only [dag_Critical.l2]
          rw [if_pos (by omega), if_pos (by omega), if_pos (by omega), rdi _ j hlt, if_pos hkl.1, if_pos (by rw [ear_length]; omega), if_pos hf, w64 (by omega) (by omega)]
        · obtain ⟨q, hq, hw, hev⟩ := ihc (j + 1) (by omega) (fun i hi => by
            by_cases hij : i = j
            · subst hij
              rw [List.getD_eq_getElem?_getD, List.getElem?_eq_getElem hlt]
              exact hf
            · exact hno i (by omega))
          refine ⟨q, hq, hw, Ev.step (f := fun k => dag_Critical.l2 k (ear (rowsOf n l) n) e (rowsOf n l) (p.set (d : Int).toNat e) (d : Int) (preds l e.toNat) ((preds l e.toNat).length : Int) ((j + 1 : Nat) : Int)) (fun k => ?_) hev⟩
          simp only [dag_Critical.l2]
          rw [if_pos (by omega), if_pos (by omega), if_pos (by omega), rdi _ j hlt, if_pos hkl.1, if_pos (by rw [ear_length]; omega), if_neg hf, w64s (by omega)]
    obtain ⟨q, hq, hw, hev⟩ := hsearch (preds l e.toNat).length 0 (by omega) (fun i hi => absurd hi (by omega))
    refine ⟨q, hq, hw, Ev.step (f := fun k => dag_Critical.l2 k (ear (rowsOf n l) n) e (rowsOf n l) (p.set (d : Int).toNat e) (d : Int) (preds l e.toNat) ((preds l e.toNat).length : Int) ((0 : Nat) : Int)) (fun k => ?_) hev⟩
    simp only [dag_Critical.l1, hrow]
    rw [if_pos (by omega), if_pos (by omega), if_pos (by omega), if_pos he0, if_pos (by rw [rowsOf_length]; exact he1)]
    rfl

theorem crit_l0 (n : Nat) (l : List S50) (hn : n ≤ 4096) (hl : l.length < 1099511627776) (hok : ∀ e ∈ l, okE (n : Int) e) : ∀ (d j : Nat) (e : Int), j + d = n → 0 ≤ e → e < (n : Int) → (∀ i : Nat, i < j → rd (ear (rowsOf n l) n) (i : Int) ≤ rd (ear (rowsOf n l) n) e) →
    ∃ q : List Int, (q.length : Int) = great (ear (rowsOf n l) n) ∧ Way n l q ∧ Ev (fun k => dag_Critical.l0 k (ear (rowsOf n l) n) e (n : Int) (j : Int) (n : Int) l) (q, 0) := by
  have hlow := low_rowsOf hok
  intro d
  induction d with
  | zero =>
    intro j e hj he0 he1 hall
    have hbd := ear_bd (rowsOf n l) hlow n e he0 he1
    have hg : great (ear (rowsOf n l) n) = rd (ear (rowsOf n l) n) e := great_at he0 (by rw [ear_length]; exact he1) (by omega) (fun i hi => hall i (by rw [ear_length] at hi; omega))
    have hpl : (List.replicate (rd (ear (rowsOf n l) n) e).toNat (0 : Int)).length = (rd (ear (rowsOf n l) n) e).toNat := List.length_replicate
    obtain ⟨q, hq, hw, hev⟩ := crit_l1 n l hn hl hok (rd (ear (rowsOf n l) n) e).toNat (List.replicate (rd (ear (rowsOf n l) n) e).toNat (0 : Int)) e (by omega) (by omega) he0 he1 (fun _ => by omega)
      ⟨fun i hi hlt => absurd hlt (by omega), fun h0 h1 => absurd h1 (by omega)⟩
    refine ⟨q, by omega, hw, Ev.step (f := fun k => (dag_ahead.f k (n : Int) l).bind fun t => dag_Critical.l1 k (ear (rowsOf n l) n) e t (List.replicate (rd (ear (rowsOf n l) n) e).toNat (0 : Int)) (((rd (ear (rowsOf n l) n) e).toNat : Int) - 1)) (fun k => ?_) (Ev.bind (ahead_ev n l hn hl hok) hev)⟩
    simp only [dag_Critical.l0]
    have h1 : (rd (ear (rowsOf n l) n) e).toNat ≤ 35184372088832 := by omega
    have h2 : (0 : Int) ≤ rd (ear (rowsOf n l) n) e := by omega
    have h3 : e < ((ear (rowsOf n l) n).length : Int) := by rw [ear_length]; exact he1
    rw [if_neg (by omega)]
    simp only [if_pos he0, if_pos h3, if_pos h2, if_pos h1, Option.bind_some, hpl]
    rw [w64 (by omega) (by omega)]
  | succ d ih =>
    intro j e hj he0 he1 hall
    by_cases hgt : rd (ear (rowsOf n l) n) (j : Int) > rd (ear (rowsOf n l) n) e
    · obtain ⟨q, hq, hw, hev⟩ := ih (j + 1) (j : Int) (by omega) (by omega) (by omega) (fun i hi => by
        by_cases hij : i = j
        · subst hij; omega
        · have := hall i (by omega); omega)
      refine ⟨q, hq, hw, Ev.step (f := fun k => dag_Critical.l0 k (ear (rowsOf n l) n) (j : Int) (n : Int) ((j + 1 : Nat) : Int) (n : Int) l) (fun k => ?_) hev⟩
      simp only [dag_Critical.l0]
      rw [if_pos (by omega), if_pos (by omega), if_pos (by rw [ear_length]; omega), if_pos he0, if_pos (by rw [ear_length]; exact he1), if_pos hgt, w64s (by omega)]
    · obtain ⟨q, hq, hw, hev⟩ := ih (j + 1) e (by omega) he0 he1 (fun i hi => by
        by_cases hij : i = j
        · subst hij; omega
        · exact hall i (by omega))
      refine ⟨q, hq, hw, Ev.step (f := fun k => dag_Critical.l0 k (ear (rowsOf n l) n) e (n : Int) ((j + 1 : Nat) : Int) (n : Int) l) (fun k => ?_) hev⟩
      simp only [dag_Critical.l0]
      rw [if_pos (by omega), if_pos (by omega), if_pos (by rw [ear_length]; omega), if_pos he0, if_pos (by rw [ear_length]; exact he1), if_neg hgt, w64s (by omega)]

theorem critical_ev (n : Int) (l : List S50) (hl : l.length < 1099511627776) :
    ∃ q : List Int, q.length ≤ 4096 ∧ (chk n l = 0 → (q.length : Int) = (span n l).1 ∧ Way n.toNat l q) ∧ (chk n l ≠ 0 → q = []) ∧ Ev (fun k => dag_Critical.f k n l) (q, chk n l) := by
  by_cases h : chk n l = 0
  · obtain ⟨h0, h1, h2, h3⟩ := chk_zero h
    obtain ⟨m, rfl⟩ : ∃ m : Nat, n = (m : Int) := ⟨n.toNat, by omega⟩
    have hE : earl (m : Int) l = (ear (rowsOf m l) m, 0) := by rw [earl, if_pos h]; rfl
    by_cases hm : m = 0
    · subst hm
      refine ⟨[], by simp, fun _ => ⟨?_, fun j hj => by simp at hj⟩, fun hne => absurd h hne, ?_⟩
      · rw [span, if_pos h, hE]; rfl
      · rw [h]
        unfold dag_Critical.f
        refine Ev.bind (dagEarliest_ev _ l hl) ?_
        rw [hE]
        simp only [if_true]
        exact Ev.now _
    · obtain ⟨q, hq, hw, hev⟩ := crit_l0 m l (by omega) hl h3 m 0 0 (by omega) (by omega) (by omega) (fun i hi => absurd hi (by omega))
      have hbound : great (ear (rowsOf m l) m) ≤ 4096 := by
        rcases great_is (ear (rowsOf m l) m) with h4 | h4
        · omega
        · obtain ⟨j, hj, he⟩ := List.getElem_of_mem h4
          have := (ear_bd (rowsOf m l) (low_rowsOf h3) m (j : Int) (by omega) (by rw [ear_length] at hj; omega)).2
          rw [rdi _ j hj, he] at this
          rw [ear_length] at hj
          omega
      refine ⟨q, by omega, fun _ => ⟨?_, by rw [Int.toNat_natCast]; exact hw⟩, fun hne => absurd h hne, ?_⟩
      · rw [span, if_pos h, hE]; exact hq
      · rw [h]
        unfold dag_Critical.f
        refine Ev.bind (dagEarliest_ev _ l hl) ?_
        rw [hE]
        have hm' : ¬ ((m : Int) = 0) := by omega
        simp only [if_true, if_neg hm']
        exact hev
  · refine ⟨[], by simp, fun h1 => absurd h1 h, fun _ => rfl, ?_⟩
    unfold dag_Critical.f
    refine Ev.bind (dagEarliest_ev _ l hl) ?_
    simp only [earl_snd, if_neg h]
    exact Ev.now _

/-! ### the document's Path -/
theorem joined_l0 (n : Int) (l : List S50) (hl : l.length < 1099511627776) (a b : Int) : ∀ (d j : Nat), j + d = l.length → (∃ e ∈ l.drop j, e.f0 = a ∧ e.f1 = b) → Ev (fun k => plunderref7_joined.l0 k a b (j : Int) n l) true := by
  intro d
  induction d with
  | zero =>
    intro j hj h
    rw [List.drop_of_length_le (by omega)] at h
    obtain ⟨e, he, _⟩ := h
    cases he
  | succ d ih =>
    intro j hj h
    have hlt : j < l.length := by omega
    have hdr : l.drop j = l[j] :: l.drop (j + 1) := List.drop_eq_getElem_cons hlt
    by_cases h1 : l[j].f0 = a ∧ l[j].f1 = b
    · refine Ev.step (f := fun _ => some true) (fun k => ?_) (Ev.now _)
      simp only [plunderref7_joined.l0]
      rw [if_pos (by omega), if_pos (by omega), rd50 l j hlt, if_pos h1.1, if_pos h1.2]
    · have h2 : ∃ e ∈ l.drop (j + 1), e.f0 = a ∧ e.f1 = b := by
        obtain ⟨e, he, h3⟩ := h
        rw [hdr] at he
        rcases List.mem_cons.1 he with rfl | he
        · exact absurd h3 h1
        · exact ⟨e, he, h3⟩
      refine Ev.step (f := fun k => plunderref7_joined.l0 k a b ((j + 1 : Nat) : Int) n l) (fun k => ?_) (ih (j + 1) (by omega) h2)
      simp only [plunderref7_joined.l0]
      rw [if_pos (by omega), if_pos (by omega), rd50 l j hlt, w64s (by omega)]
      by_cases h3 : l[j].f0 = a
      · rw [if_pos h3, if_neg (fun h4 => h1 ⟨h3, h4⟩)]
      · rw [if_neg h3]
theorem joined_ev (n : Int) (l : List S50) (hl : l.length < 1099511627776) (a b : Int) (h : ∃ e ∈ l, e.f0 = a ∧ e.f1 = b) : Ev (fun k => plunderref7_joined.f k n l a b) true :=
  joined_l0 n l hl a b l.length 0 (by omega) (by simpa using h)
theorem path_l0 (n : Nat) (l : List S50) (hl : l.length < 1099511627776) (p : List Int) (hp : p.length ≤ 4096) (hw : Way n l p) : ∀ (d j : Nat), j + d = p.length → Ev (fun k => plunderref7_Path.l0 k p (j : Int) (n : Int) l) true := by
  intro d
  induction d with
  | zero =>
    intro j hj
    refine Ev.step (f := fun _ => some true) (fun k => ?_) (Ev.now _)
    simp only [plunderref7_Path.l0]
    rw [if_neg (by omega)]
  | succ d ih =>
    intro j hj
    have hlt : j < p.length := by omega
    obtain ⟨h0, h1, h2⟩ := hw j hlt
    have hdec : decide (rd p (j : Int) ≥ (n : Int)) = false := decide_eq_false (by omega)
    refine Ev.step (f := fun k => plunderref7_Path.j1 k p (j : Int) false (n : Int) l) (fun k => ?_) ?_
    · simp only [plunderref7_Path.l0]
      rw [if_pos (by omega), if_pos (by omega), if_neg (by omega), hdec]
    · by_cases hj0 : j = 0
      · subst hj0
        refine Ev.step (f := fun k => plunderref7_Path.l0 k p ((0 + 1 : Nat) : Int) (n : Int) l) (fun k => ?_) (ih 1 (by omega))
        simp only [plunderref7_Path.j1]
        rw [if_neg (by decide), if_neg (by omega), w64s (by omega)]
      · obtain ⟨e, he, h3, h4⟩ := preds_mem (h2 (by omega))
        refine Ev.step (f := fun k => (plunderref7_joined.f k (n : Int) l (rd p ((j : Int) - 1)) (rd p (j : Int))).bind fun t => if t = true then plunderref7_Path.l0 k p ((j + 1 : Nat) : Int) (n : Int) l else some false) (fun k => ?_) (Ev.bind (joined_ev (n : Int) l hl _ _ ⟨e, he, h4, by omega⟩) ?_)
        · simp only [plunderref7_Path.j1]
          rw [if_neg (by decide), if_pos (by omega), w64 (by omega) (by omega), if_pos (by omega), if_pos (by omega), if_pos (by omega), if_pos (by omega), w64s (by omega)]
        · simp only [if_true]
          exact ih (j + 1) (by omega)
theorem path_ev (n : Int) (l : List S50) (hl : l.length < 1099511627776) (hc : chk n l = 0) (p : List Int) (hp : p.length ≤ 4096) (hs : (p.length : Int) = (span n l).1) (hw : Way n.toNat l p) : Ev (fun k => plunderref7_Path.f k n l p) true := by
  obtain ⟨h0, h1, h2, h3⟩ := chk_zero hc
  obtain ⟨m, rfl⟩ : ∃ m : Nat, n = (m : Int) := ⟨n.toNat, by omega⟩
  unfold plunderref7_Path.f
  refine Ev.bind (refSpan_ev _ l hl) ?_
  simp only [if_pos hs]
  exact path_l0 m l hl p hp (by rw [Int.toNat_natCast] at hw; exact hw) p.length 0 (by omega)
end Go.Proofs.Ytbahnialbffkeaa.P
