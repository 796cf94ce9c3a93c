/- Plain law of layer 19: which deeds are parallel. -/
import Derived.Test.YtkecgjmbamaejaaPELat
import Derived.Test.YtkecgjmbamaejaaPEPx4
import Derived.Test.YtkecgjmbamaejaaPEPx5
import Derived.Test.YtkecgjmbamaejaaPEPx7
import Derived.Test.YtkecgjmbamaejaaPEPx0
import Derived.Test.YtkecgjmbamaejaaPEPx3
import Derived.Test.YtkecgjmbamaejaaPERB
set_option linter.unusedVariables false
set_option linter.unusedSimpArgs false
namespace Go.Proofs.Ytkecgjmbamaejaa.P
open Go.RowKit Go.Proofs.YtkecgjmbamaejaaW.PrintWords Go.Proofs.YtkecgjmbamaejaaW.PrintLast Go.Proofs.YtkecgjmbamaejaaW.PrintMore
set_option linter.unusedVariables false

theorem w64 {x : Int} (h0 : -9223372036854775808 ≤ x) (h1 : x ≤ 9223372036854775807) : wrap64 x = x := by
  unfold wrap64; omega
theorem w64s {j : Nat} (h1 : j < 4611686018427387904) : wrap64 ((j : Int) + 1) = ((j + 1 : Nat) : Int) := by
  unfold wrap64; omega
theorem S52_eta (e : S52) : (⟨e.f0, e.f1⟩ : S52) = e := by cases e; rfl
theorem rd52 (l : List S52) (j : Nat) (h : j < l.length) : rd_T52 l (j : Int) = l[j] := by
  unfold rd_T52
  simp [List.getD_eq_getElem?_getD, List.getElem?_eq_getElem h]

/-- the fault and its place, from deed i on, o children open -/
def ck (o : Int) (i : Nat) : List S52 → Int × Int
  | [] => (0, 0)
  | e :: r => if e.f0 < 0 ∨ e.f0 > 4 ∨ (e.f0 = 1 ∧ o = 0) then (190, (i : Int)) else ck (o + (if e.f0 = 0 then 1 else if e.f0 = 1 then -1 else 0)) (i + 1) r
def chk (l : List S52) : Int × Int := if (l.length : Int) > 4096 then (2, 0) else ck 0 0 l

theorem ck_no {o : Int} {i : Nat} {e : S52} {r : List S52} (h : e.f0 < 0 ∨ e.f0 > 4 ∨ (e.f0 = 1 ∧ o = 0)) : ck o i (e :: r) = (190, (i : Int)) := by
  rw [ck, if_pos h]
theorem ck_yes {o : Int} {i : Nat} {e : S52} {r : List S52} (h : ¬ (e.f0 < 0 ∨ e.f0 > 4 ∨ (e.f0 = 1 ∧ o = 0))) (o' : Int) (ho : o' = o + (if e.f0 = 0 then 1 else if e.f0 = 1 then -1 else 0)) : ck o i (e :: r) = ck o' (i + 1) r := by
  rw [ck, if_neg h, ho]

theorem racesCheck_l0 (l : List S52) (hl : l.length < 1099511627776) : ∀ (d j : Nat) (o : Int), j + d = l.length → 0 ≤ o → o ≤ (j : Int) → Ev (fun k => races_Check.l0 k o l (l.length : Int) (j : Int)) (ck o j (l.drop j)) := by
  intro d
  induction d with
  | zero =>
    intro j o hj h0 h1
    refine Ev.step (f := fun _ => some (0, 0)) (fun k => ?_) (by rw [List.drop_of_length_le (by omega)]; exact Ev.now _)
    simp only [races_Check.l0]
    rw [if_neg (by omega)]
  | succ d ih =>
    intro j o hj h0 h1
    have hlt : j < l.length := by omega
    rw [List.drop_eq_getElem_cons hlt]
    by_cases k0 : l[j].f0 = 0
    · rw [ck_yes (by omega) (o + 1) (by rw [if_pos k0])]
      refine Ev.step (f := fun k => races_Check.l0 k (o + 1) l (l.length : Int) ((j + 1 : Nat) : Int)) (fun k => ?_) (ih (j + 1) (o + 1) (by omega) (by omega) (by omega))
      simp only [races_Check.l0]
      rw [if_pos (by omega), if_pos (by omega), if_pos (by omega), rd52 l j hlt, if_pos k0, w64 (by omega) (by omega), if_neg (by omega), w64s (by omega)]
    by_cases k1 : l[j].f0 = 1
    · by_cases ho : o = 0
      · rw [ck_no (by omega)]
        refine Ev.step (f := fun _ => some (190, (j : Int))) (fun k => ?_) (Ev.now _)
        simp only [races_Check.l0]
        rw [if_pos (by omega), if_pos (by omega), if_pos (by omega), rd52 l j hlt, if_neg k0, if_pos k1, w64 (by omega) (by omega), if_pos (by omega)]
      · rw [ck_yes (by omega) (o - 1) (by rw [if_neg k0, if_pos k1]; omega)]
        refine Ev.step (f := fun k => races_Check.l0 k (o - 1) l (l.length : Int) ((j + 1 : Nat) : Int)) (fun k => ?_) (ih (j + 1) (o - 1) (by omega) (by omega) (by omega))
        simp only [races_Check.l0]
        rw [if_pos (by omega), if_pos (by omega), if_pos (by omega), rd52 l j hlt, if_neg k0, if_pos k1, w64 (by omega) (by omega), if_neg (by omega), w64s (by omega)]
    -- the others
    have hj1 : ∀ b : Bool, Ev (fun k => races_Check.j1 k o (j : Int) l (l.length : Int) (j : Int) b) (if b = true then ck o (j + 1) (l.drop (j + 1)) else (190, (j : Int))) := by
      intro b
      cases b with
      | true =>
        refine Ev.step (f := fun k => races_Check.l0 k o l (l.length : Int) ((j + 1 : Nat) : Int)) (fun k => ?_) (by rw [if_pos rfl]; exact ih (j + 1) o (by omega) h0 (by omega))
        simp only [races_Check.j1]
        rw [if_pos trivial, if_neg (by omega), w64s (by omega)]
      | false =>
        refine Ev.step (f := fun _ => some (190, (j : Int))) (fun k => ?_) (by rw [if_neg (by decide)]; exact Ev.now _)
        simp only [races_Check.j1]
        rw [if_neg (by decide)]
    by_cases k2 : l[j].f0 = 2
    · have h2 := hj1 (l[j].f0 == 2)
      rw [if_pos (by simpa using k2)] at h2
      rw [ck_yes (by omega) o (by rw [if_neg k0, if_neg k1]; omega)]
      refine Ev.step (f := fun k => races_Check.j1 k o (j : Int) l (l.length : Int) (j : Int) (l[j].f0 == 2)) (fun k => ?_) h2
      simp only [races_Check.l0]
      rw [if_pos (by omega), if_pos (by omega), if_pos (by omega), rd52 l j hlt, if_neg k0, if_neg k1, if_pos k2]
    by_cases k3 : l[j].f0 = 3
    · have h2 := hj1 (l[j].f0 == 3)
      rw [if_pos (by simpa using k3)] at h2
      rw [ck_yes (by omega) o (by rw [if_neg k0, if_neg k1]; omega)]
      refine Ev.step (f := fun k => races_Check.j1 k o (j : Int) l (l.length : Int) (j : Int) (l[j].f0 == 3)) (fun k => ?_) h2
      simp only [races_Check.l0]
      rw [if_pos (by omega), if_pos (by omega), if_pos (by omega), rd52 l j hlt, if_neg k0, if_neg k1, if_neg k2, if_pos k3]
    have h2 := hj1 (l[j].f0 == 4)
    have h3 : ck o j (l[j] :: l.drop (j + 1)) = if (l[j].f0 == 4) = true then ck o (j + 1) (l.drop (j + 1)) else (190, (j : Int)) := by
      by_cases k4 : l[j].f0 = 4
      · rw [if_pos (by simpa using k4), ck_yes (by omega) o (by rw [if_neg k0, if_neg k1]; omega)]
      · rw [if_neg (by simpa using k4), ck_no (by omega)]
    rw [h3]
    refine Ev.step (f := fun k => races_Check.j1 k o (j : Int) l (l.length : Int) (j : Int) (l[j].f0 == 4)) (fun k => ?_) h2
    simp only [races_Check.l0]
    rw [if_pos (by omega), if_pos (by omega), if_pos (by omega), rd52 l j hlt, if_neg k0, if_neg k1, if_neg k2, if_neg k3]
theorem racesCheck_ev (l : List S52) (hl : l.length < 1099511627776) : Ev (fun k => races_Check.f k l) (chk l) := by
  unfold races_Check.f chk
  by_cases h : (l.length : Int) > 4096
  · simp only [if_pos h]; exact Ev.now _
  · simp only [if_neg h]
    exact racesCheck_l0 l hl l.length 0 0 (by omega) (by omega) (by omega)

theorem refCheck_l0 (l : List S52) (hl : l.length < 1099511627776) : ∀ (d j : Nat) (o : Int), j + d = l.length → 0 ≤ o → o ≤ (j : Int) → Ev (fun k => plunderref19_Check.l0 k l o (j : Int)) (ck o j (l.drop j)) := by
  intro d
  induction d with
  | zero =>
    intro j o hj h0 h1
    refine Ev.step (f := fun _ => some (0, 0)) (fun k => ?_) (by rw [List.drop_of_length_le (by omega)]; exact Ev.now _)
    simp only [plunderref19_Check.l0]
    rw [if_neg (by omega)]
  | succ d ih =>
    intro j o hj h0 h1
    have hlt : j < l.length := by omega
    rw [List.drop_eq_getElem_cons hlt]
    have hj1 : ∀ b : Bool, (b = true ↔ (l[j].f0 < 0 ∨ l[j].f0 > 4 ∨ (l[j].f0 = 1 ∧ o = 0))) → Ev (fun k => plunderref19_Check.j1 k l o (j : Int) l[j].f0 b) (ck o j (l[j] :: l.drop (j + 1))) := by
      intro b hb
      cases b with
      | true =>
        rw [ck_no (hb.1 rfl)]
        refine Ev.step (f := fun _ => some (190, (j : Int))) (fun k => ?_) (Ev.now _)
        simp only [plunderref19_Check.j1]
        rw [if_pos trivial]
      | false =>
        have hn : ¬ (l[j].f0 < 0 ∨ l[j].f0 > 4 ∨ (l[j].f0 = 1 ∧ o = 0)) := fun h => by have := hb.2 h; cases this
        by_cases k0 : l[j].f0 = 0
        · rw [ck_yes hn (o + 1) (by rw [if_pos k0])]
          refine Ev.step (f := fun k => plunderref19_Check.l0 k l (o + 1) ((j + 1 : Nat) : Int)) (fun k => ?_) (ih (j + 1) (o + 1) (by omega) (by omega) (by omega))
          simp only [plunderref19_Check.j1]
          rw [if_neg (by decide), if_pos k0, if_neg (by omega), w64 (by omega) (by omega), w64s (by omega)]
        by_cases k1 : l[j].f0 = 1
        · rw [ck_yes hn (o - 1) (by rw [if_neg k0, if_pos k1]; omega)]
          refine Ev.step (f := fun k => plunderref19_Check.l0 k l (o - 1) ((j + 1 : Nat) : Int)) (fun k => ?_) (ih (j + 1) (o - 1) (by omega) (by omega) (by omega))
          simp only [plunderref19_Check.j1]
          rw [if_neg (by decide), if_neg k0, if_pos k1, w64 (by omega) (by omega), w64s (by omega)]
        · rw [ck_yes hn o (by rw [if_neg k0, if_neg k1]; omega)]
          refine Ev.step (f := fun k => plunderref19_Check.l0 k l o ((j + 1 : Nat) : Int)) (fun k => ?_) (ih (j + 1) o (by omega) (by omega) (by omega))
          simp only [plunderref19_Check.j1]
          rw [if_neg (by decide), if_neg k0, if_neg k1, w64s (by omega)]
    by_cases k0 : l[j].f0 < 0
    · refine Ev.step (f := fun k => plunderref19_Check.j1 k l o (j : Int) l[j].f0 true) (fun k => ?_) (hj1 true (by simp; omega))
      simp only [plunderref19_Check.l0]
      rw [if_pos (by omega), if_pos (by omega), rd52 l j hlt, if_pos k0]
    by_cases k4 : l[j].f0 > 4
    · refine Ev.step (f := fun k => plunderref19_Check.j1 k l o (j : Int) l[j].f0 true) (fun k => ?_) (hj1 true (by simp; omega))
      simp only [plunderref19_Check.l0]
      rw [if_pos (by omega), if_pos (by omega), rd52 l j hlt, if_neg k0, if_pos k4]
    by_cases k1 : l[j].f0 = 1
    · refine Ev.step (f := fun k => plunderref19_Check.j1 k l o (j : Int) l[j].f0 (o == 0)) (fun k => ?_) (hj1 (o == 0) (by simp; omega))
      simp only [plunderref19_Check.l0]
      rw [if_pos (by omega), if_pos (by omega), rd52 l j hlt, if_neg k0, if_neg k4, if_pos k1]
    · refine Ev.step (f := fun k => plunderref19_Check.j1 k l o (j : Int) l[j].f0 false) (fun k => ?_) (hj1 false (by simp; omega))
      simp only [plunderref19_Check.l0]
      rw [if_pos (by omega), if_pos (by omega), rd52 l j hlt, if_neg k0, if_neg k4, if_neg k1]
theorem refCheck_ev (l : List S52) (hl : l.length < 1099511627776) : Ev (fun k => plunderref19_Check.f k l) (chk l) := by
  unfold plunderref19_Check.f chk
  by_cases h : (l.length : Int) > 4096
  · simp only [if_pos h]; exact Ev.now _
  · simp only [if_neg h]
    exact refCheck_l0 l hl l.length 0 0 (by omega) (by omega) (by omega)

def odd : List S52 := [⟨77, 5⟩, ⟨78, 6⟩]
theorem spare_l0 (l : List S52) (hl : l.length < 1099511627776) : ∀ (d j : Nat) (x : List S52), j + d = l.length → x.length = l.length + 2 → x.take j = l.take j →
    Ev (fun k => plunderlaw19_spare.l0 k l (l.length : Int) x (j : Int)) (l ++ odd) := by
  intro d
  induction d with
  | zero =>
    intro j x hj hx ht
    refine Ev.step (f := fun _ => some (l ++ odd)) (fun k => ?_) (Ev.now _)
    simp only [plunderlaw19_spare.l0]
    rw [if_neg (by omega), if_pos (by omega), if_pos (by omega), w64s (by omega), if_pos (by omega), if_pos (by omega)]
    congr 1
    have e1 : x = l ++ x.drop l.length := by
      conv => lhs; rw [← List.take_append_drop l.length x]
      rw [show l.length = j by omega, ht, List.take_of_length_le (by omega)]
    have hd : (x.drop l.length).length = 2 := by rw [List.length_drop]; omega
    match hq : x.drop l.length, hd with
    | [a, b], _ =>
      rw [hq] at e1
      rw [e1]
      simp only [Int.toNat_natCast]
      rw [List.set_append_right _ _ (by omega), List.set_append_right _ _ (by omega)]
      simp [odd]
  | succ d ih =>
    intro j x hj hx ht
    have hlt : j < l.length := by omega
    refine Ev.step (f := fun k => plunderlaw19_spare.l0 k l (l.length : Int) (x.set j l[j]) ((j + 1 : Nat) : Int)) (fun k => ?_) (ih (j + 1) (x.set j l[j]) (by omega) (by simpa using hx) ?_)
    · simp only [plunderlaw19_spare.l0]
      rw [if_pos (by omega), if_pos (by omega), if_pos (by omega), if_pos (by omega), rd52 l j hlt, w64s (by omega), S52_eta]
      rfl
    · rw [List.take_succ_eq_append_getElem hlt, List.take_succ_eq_append_getElem (by simp; omega), ← ht]
      rw [List.take_set_of_le (Nat.le_refl j)]
      simp
theorem spare_ev (l : List S52) (hl : l.length < 1099511627776) : Ev (fun k => plunderlaw19_spare.f k l) (l ++ odd) := by
  have hw : wrap64 ((l.length : Int) + 2) = ((l.length + 2 : Nat) : Int) := by unfold wrap64; omega
  unfold plunderlaw19_spare.f
  have h1 : (0 : Int) ≤ wrap64 ((l.length : Int) + 2) := by omega
  have h2 : (wrap64 ((l.length : Int) + 2)).toNat ≤ 17592186044416 := by omega
  simp only [if_pos h1, if_pos h2]
  exact spare_l0 l hl l.length 0 _ (by omega) (by rw [List.length_replicate]; omega) (by simp)
theorem sameDeeds_l0 (l : List S52) (hl : l.length < 1099511627776) : ∀ (d j : Nat), j + d = l.length → Ev (fun k => plunderlaw19_sameDeeds.l0 k l l (j : Int)) true := by
  intro d
  induction d with
  | zero =>
    intro j hj
    refine Ev.step (f := fun _ => some true) (fun k => ?_) (Ev.now _)
    simp only [plunderlaw19_sameDeeds.l0]
    rw [if_neg (by omega)]
  | succ d ih =>
    intro j hj
    refine Ev.step (f := fun k => plunderlaw19_sameDeeds.l0 k l l ((j + 1 : Nat) : Int)) (fun k => ?_) (ih (j + 1) (by omega))
    simp only [plunderlaw19_sameDeeds.l0]
    rw [if_pos (by omega), if_pos (by omega), if_pos (by omega), w64s (by omega), if_neg (by simp)]
theorem sameDeeds_ev (l : List S52) (hl : l.length < 1099511627776) : Ev (fun k => plunderlaw19_sameDeeds.f k l l) true := by
  refine Ev.congr (f := fun k => plunderlaw19_sameDeeds.l0 k l l ((0 : Nat) : Int)) (fun k => by unfold plunderlaw19_sameDeeds.f; rw [if_pos rfl]; rfl) ?_
  exact sameDeeds_l0 l hl l.length 0 (by omega)
theorem untouched_ev (l : List S52) (hl : l.length < 1099511627776) : Ev (fun k => plunderlaw19_untouched.f k (l ++ odd) l) true := by
  unfold plunderlaw19_untouched.f
  have e0 : (l ++ odd).length = l.length + 2 := by simp [odd]
  have h0 : (0 : Int) ≤ (l.length : Int) := by omega
  have h1 : (l.length : Int) ≤ ((l ++ odd).length : Int) := by omega
  have h2 : (l.length : Int) < ((l ++ odd).length : Int) := by omega
  have h3 : (l ++ odd).take ((l.length : Int)).toNat = l := by simp
  have h4 : rd_T52 (l ++ odd) (l.length : Int) = ⟨77, 5⟩ := by
    unfold rd_T52
    simp [List.getD_eq_getElem?_getD, odd]
  have h5 : rd_T52 (l ++ odd) ((l.length + 1 : Nat) : Int) = ⟨78, 6⟩ := by
    unfold rd_T52
    simp [List.getD_eq_getElem?_getD, odd]
  have h6 : (0 : Int) ≤ ((l.length + 1 : Nat) : Int) := by omega
  have h7 : ((l.length + 1 : Nat) : Int) < ((l ++ odd).length : Int) := by omega
  simp only [if_pos h0, if_pos h1, h3, w64s (show l.length < 4611686018427387904 by omega)]
  refine Ev.bind (sameDeeds_ev l hl) ?_
  simp only [if_true, if_pos h2, h4, if_pos h6, if_pos h7, h5]
  exact Ev.now true
def tnE (e : S52) : S52 := if e.f0 = 3 then ⟨4, wrap64 (e.f1 + 1)⟩ else if e.f0 = 4 then ⟨3, wrap64 (e.f1 + 1)⟩ else if e.f0 = 2 then ⟨3, e.f1⟩ else e
theorem turned_l0 (l : List S52) (hl : l.length < 1099511627776) : ∀ (d j : Nat), j + d = l.length → Ev (fun k => plunderlaw19_turned.l0 k l ((l.map tnE).take j) (j : Int)) (l.map tnE) := by
  intro d
  induction d with
  | zero =>
    intro j hj
    refine Ev.step (f := fun _ => some (l.map tnE)) (fun k => ?_) (Ev.now _)
    simp only [plunderlaw19_turned.l0]
    rw [if_neg (by omega), List.take_of_length_le (by simp; omega)]
  | succ d ih =>
    intro j hj
    have hlt : j < l.length := by omega
    refine Ev.step (f := fun k => plunderlaw19_turned.l0 k l ((l.map tnE).take (j + 1)) ((j + 1 : Nat) : Int)) (fun k => ?_) (ih (j + 1) (by omega))
    have hL : ((l.map tnE).take j).length < 8796093022208 := by simp; omega
    simp only [plunderlaw19_turned.l0]
    rw [if_pos (by omega), if_pos (by omega), rd52 l j hlt, List.take_succ_eq_append_getElem (by simpa using hlt), List.getElem_map, w64s (by omega)]
    by_cases k3 : l[j].f0 = 3
    · rw [if_pos k3, if_pos hL, tnE, if_pos k3]
    rw [if_neg k3]
    by_cases k4 : l[j].f0 = 4
    · rw [if_pos k4, if_pos hL, tnE, if_neg k3, if_pos k4]
    rw [if_neg k4]
    by_cases k2 : l[j].f0 = 2
    · rw [if_pos k2, if_pos hL, tnE, if_neg k3, if_neg k4, if_pos k2]
    · rw [if_neg k2, if_pos hL, tnE, if_neg k3, if_neg k4, if_neg k2, S52_eta]
theorem turned_ev (l : List S52) (hl : l.length < 1099511627776) : Ev (fun k => plunderlaw19_turned.f k l) (l.map tnE) := by
  have := turned_l0 l hl l.length 0 (by omega)
  exact this
theorem lay_l0 (l : List S52) (hl : l.length < 1099511627776) : ∀ (d j : Nat) (x : List S52), j + d = l.length → x.length = l.length → x.take j = l.take j →
    Ev (fun k => plunderlaw19_lay.l0 k x l (j : Int)) l := by
  intro d
  induction d with
  | zero =>
    intro j x hj hx ht
    refine Ev.step (f := fun _ => some l) (fun k => ?_) (Ev.now _)
    simp only [plunderlaw19_lay.l0]
    rw [if_neg (by omega)]
    rw [List.take_of_length_le (by omega), List.take_of_length_le (by omega)] at ht
    rw [ht]
  | succ d ih =>
    intro j x hj hx ht
    have hlt : j < l.length := by omega
    refine Ev.step (f := fun k => plunderlaw19_lay.l0 k (x.set j l[j]) l ((j + 1 : Nat) : Int)) (fun k => ?_) (ih (j + 1) (x.set j l[j]) (by omega) (by simpa using hx) ?_)
    · simp only [plunderlaw19_lay.l0]
      rw [if_pos (by omega), if_pos (by omega), if_pos (by omega), rd52 l j hlt, w64s (by omega), S52_eta]
      rfl
    · rw [List.take_succ_eq_append_getElem hlt, List.take_succ_eq_append_getElem (by simp; omega), ← ht]
      rw [List.take_set_of_le (Nat.le_refl j)]
      simp
theorem lay_ev (x l : List S52) (hl : l.length < 1099511627776) (hx : x.length = l.length) : Ev (fun k => plunderlaw19_lay.f k x l) l :=
  lay_l0 l hl l.length 0 x (by omega) hx (by simp)
end Go.Proofs.Ytkecgjmbamaejaa.P
namespace Go.Proofs.Ytkecgjmbamaejaa.P
open Go.RowKit Go.Proofs.YtkecgjmbamaejaaW.PrintWords Go.Proofs.YtkecgjmbamaejaaW.PrintLast Go.Proofs.YtkecgjmbamaejaaW.PrintMore
set_option linter.unusedVariables false

structure Good (l : List S52) : Prop where
  len : l.length ≤ 4096
  knd : ∀ j, j < l.length → 0 ≤ (kdsOf l).getD j 0 ∧ (kdsOf l).getD j 0 ≤ 4
  fair : fair (kdsOf l)
theorem kds_get (l : List S52) (j : Nat) (h : j < l.length) : (kdsOf l).getD j 0 = l[j].f0 := by
  unfold kdsOf
  rw [List.getD_eq_getElem?_getD, List.getElem?_map, List.getElem?_eq_getElem h]
  rfl
theorem ck_good (l : List S52) : ∀ (d i : Nat) (o : Int), i + d = l.length → o = openF (kdsOf l) i → ck o i (l.drop i) = (0, 0) → ∀ j, i ≤ j → j < l.length → (0 ≤ (kdsOf l).getD j 0 ∧ (kdsOf l).getD j 0 ≤ 4) ∧ ((kdsOf l).getD j 0 = 1 → openF (kdsOf l) j ≠ 0) := by
  intro d
  induction d with
  | zero => intro i o hi _ _ j h1 h2; omega
  | succ d ih =>
    intro i o hi ho hc j h1 h2
    have hlt : i < l.length := by omega
    rw [List.drop_eq_getElem_cons hlt] at hc
    by_cases hb : l[i].f0 < 0 ∨ l[i].f0 > 4 ∨ (l[i].f0 = 1 ∧ o = 0)
    · rw [ck_no hb] at hc
      injection hc with hc _
      cases hc
    · rw [ck_yes hb _ rfl] at hc
      by_cases e : j = i
      · subst e
        rw [kds_get l j hlt]
        exact ⟨⟨by omega, by omega⟩, fun h3 h4 => hb (Or.inr (Or.inr ⟨h3, by rw [ho]; exact h4⟩))⟩
      · refine ih (i + 1) _ (by omega) ?_ hc j (by omega) h2
        show _ = openF (kdsOf l) i + _
        rw [← ho, kds_get l i hlt]
theorem open_ge {ks : List Int} (h : ∀ j, j < ks.length → ks.getD j 0 = 1 → openF ks j ≠ 0) : ∀ i, i ≤ ks.length → 0 ≤ openF ks i
  | 0, _ => Int.le_refl _
  | i + 1, hi => by
    have ih := open_ge h i (by omega)
    show 0 ≤ openF ks i + (if ks.getD i 0 = 0 then 1 else if ks.getD i 0 = 1 then -1 else 0)
    by_cases k0 : ks.getD i 0 = 0
    · rw [if_pos k0]; omega
    · rw [if_neg k0]
      by_cases k1 : ks.getD i 0 = 1
      · rw [if_pos k1]
        have := h i (by omega) k1
        omega
      · rw [if_neg k1]; omega
theorem chk_good {l : List S52} (h : (chk l).1 = 0) : Good l := by
  unfold chk at h
  by_cases hl : (l.length : Int) > 4096
  · rw [if_pos hl] at h
    cases h
  · rw [if_neg hl] at h
    have hc : ck 0 0 (l.drop 0) = (0, 0) := by
      have e : ∀ (m : List S52) (o : Int) (i : Nat), (ck o i m).1 = 0 → ck o i m = (0, 0) := by
        intro m
        induction m with
        | nil => intro o i _; rfl
        | cons x r ih =>
          intro o i h
          by_cases hb : x.f0 < 0 ∨ x.f0 > 4 ∨ (x.f0 = 1 ∧ o = 0)
          · rw [ck_no hb] at h; cases h
          · rw [ck_yes hb _ rfl] at h ⊢
            exact ih _ _ h
      exact e l 0 0 h
    have hg := ck_good l l.length 0 0 (by omega) rfl hc
    have hk : (kdsOf l).length = l.length := kds_len l
    refine ⟨by omega, fun j hj => (hg j (Nat.zero_le _) hj).1, fair_of _ (fun m hm hm1 => ?_)⟩
    have h1 := open_ge (ks := kdsOf l) (fun j hj h1 => (hg j (Nat.zero_le _) (by omega)).2 h1) m (by omega)
    have h2 := (hg m (Nat.zero_le _) (by omega)).2 hm1
    omega

theorem dts_lo (ks : List Int) : ∀ i, ∀ t ∈ dts ks i, t.last < i ∧ t.by_ < i ∧ -1 ≤ t.last ∧ -1 ≤ t.by_ ∧ ∀ x ∈ t.out, 0 ≤ x ∧ x < i
  | 0, t, h => by
    rw [List.mem_singleton.1 h]
    exact ⟨by decide, by decide, by decide, by decide, fun x hx => by cases hx⟩
  | i + 1, t, h => by
    have ih := dts_lo ks i
    have up : ∀ x ∈ dts ks i, x.last < ((i + 1 : Nat) : Int) ∧ x.by_ < ((i + 1 : Nat) : Int) ∧ -1 ≤ x.last ∧ -1 ≤ x.by_ ∧ ∀ y ∈ x.out, 0 ≤ y ∧ y < ((i + 1 : Nat) : Int) := fun x hx => by
      obtain ⟨a1, a2, a3, a4, a5⟩ := ih x hx
      exact ⟨by omega, by omega, a3, a4, fun y hy => by have := a5 y hy; omega⟩
    have hs : ∀ x ∈ dts ks i, (dself (ks.getD i 0) i x).last < ((i + 1 : Nat) : Int) ∧ (dself (ks.getD i 0) i x).by_ < ((i + 1 : Nat) : Int) ∧ -1 ≤ (dself (ks.getD i 0) i x).last ∧ -1 ≤ (dself (ks.getD i 0) i x).by_ ∧ ∀ y ∈ (dself (ks.getD i 0) i x).out, 0 ≤ y ∧ y < ((i + 1 : Nat) : Int) := fun x hx => by
      obtain ⟨a1, a2, a3, a4, a5⟩ := up x hx
      unfold dself
      refine ⟨by simp only; omega, a2, by simp only; omega, a4, fun y hy => ?_⟩
      simp only at hy
      split at hy
      · cases hy
      · exact a5 y hy
    have h2 : t ∈ dstep (ks.getD i 0) i (dts ks i) := h
    cases hd : dts ks i with
    | nil => rw [hd] at h2; cases h2
    | cons a u =>
      rw [hd] at h2 up hs
      have ha := hs a List.mem_cons_self
      simp only [dstep] at h2
      split at h2
      · rcases List.mem_cons.1 h2 with rfl | h2
        · exact ⟨by simp only; omega, by simp only; omega, by simp only; omega, by simp only; omega, fun y hy => by cases hy⟩
        rcases List.mem_cons.1 h2 with rfl | h2
        · exact ha
        · exact up t (List.mem_cons_of_mem _ h2)
      · split at h2
        · cases u with
          | nil => rw [List.mem_singleton.1 h2]; exact ha
          | cons g u2 =>
            rcases List.mem_cons.1 h2 with rfl | h2
            · obtain ⟨a1, a2, a3, a4, a5⟩ := up g (List.mem_cons_of_mem _ List.mem_cons_self)
              refine ⟨a1, a2, a3, a4, fun y hy => ?_⟩
              rcases List.mem_append.1 hy with hy | hy
              · exact a5 y hy
              · rw [List.mem_singleton.1 hy]; omega
            · exact up t (List.mem_cons_of_mem _ (List.mem_cons_of_mem _ h2))
        · rcases List.mem_cons.1 h2 with rfl | h2
          · exact ha
          · exact up t (List.mem_cons_of_mem _ h2)
theorem frm_lo (ks : List Int) (i : Nat) : ∀ x ∈ frm ks i, 0 ≤ x ∧ x < (i : Int) := by
  intro x hx
  obtain ⟨t, u, hd⟩ := dts_cons ks i
  rw [frm_eq hd] at hx
  obtain ⟨a1, a2, a3, a4, a5⟩ := dts_lo ks i t (by rw [hd]; exact List.mem_cons_self)
  unfold dfrom at hx
  rcases List.mem_append.1 hx with hx | hx
  · split at hx
    · rw [List.mem_singleton.1 hx]; exact ⟨by omega, a1⟩
    · split at hx
      · rw [List.mem_singleton.1 hx]; exact ⟨by omega, a2⟩
      · cases hx
  · split at hx
    · exact a5 x hx
    · cases hx
theorem frm_few (ks : List Int) (i : Nat) : (frm ks i).length ≤ i + 1 := by
  obtain ⟨t, u, hd⟩ := dts_cons ks i
  rw [frm_eq hd]
  have ho := dts_out ks i t (by rw [hd]; exact List.mem_cons_self)
  unfold dfrom
  rw [List.length_append]
  have h1 : (if t.last ≥ 0 then [t.last] else if t.by_ ≥ 0 then [t.by_] else []).length ≤ 1 := by
    split
    · exact Nat.le_refl _
    · split
      · exact Nat.le_refl _
      · exact Nat.zero_le _
  have h2 : (if ks.getD i 0 = 2 ∨ ks.getD i 0 = 1 then t.out else []).length ≤ i := by
    split
    · exact ho
    · exact Nat.zero_le _
  omega
/-- ahead: a step from there, or from what it is ahead of -/
theorem ahead_iff {ks : List Int} (hf : fair ks) {i j : Nat} (hi : i < ks.length) : Ahead ks j i ↔ ∃ m : Nat, (m : Int) ∈ frm ks i ∧ (j = m ∨ Ahead ks j m) := by
  rw [← hb_ahead ks hf i hi j, hb_iff]
  constructor
  · rintro ⟨m, h1, h2⟩
    have hm := frm_lo ks i _ h1
    refine ⟨m, h1, h2.imp (fun h => h) (fun h => (hb_ahead ks hf m (by omega) j).1 h)⟩
  · rintro ⟨m, h1, h2⟩
    have hm := frm_lo ks i _ h1
    exact ⟨m, h1, h2.imp (fun h => h) (fun h => (hb_ahead ks hf m (by omega) j).2 h)⟩

def Rw (n : Nat) (R : List Bool) (P : Nat → Prop) : Prop := R.length = n ∧ ∀ j, j < n → (R.getD j false = true ↔ P j)
theorem Rw.congr {n : Nat} {R : List Bool} {P Q : Nat → Prop} (h : Rw n R P) (e : ∀ j, j < n → (P j ↔ Q j)) : Rw n R Q := ⟨h.1, fun j hj => (h.2 j hj).trans (e j hj)⟩
theorem Rw.set {n k : Nat} {R : List Bool} {P : Nat → Prop} (h : Rw n R P) (hk : k < n) : Rw n (R.set k true) (fun j => P j ∨ j = k) := by
  refine ⟨by rw [List.length_set]; exact h.1, fun j hj => ?_⟩
  rw [List.getD_eq_getElem?_getD, List.getElem?_set]
  by_cases e : k = j
  · subst e
    rw [if_pos rfl, if_pos (by rw [h.1]; exact hk)]
    simp
  · rw [if_neg e, ← List.getD_eq_getElem?_getD, h.2 j hj]
    constructor
    · exact Or.inl
    · rintro (h | h)
      · exact h
      · exact absurd h.symm e
theorem Rw.none (n : Nat) : Rw n (List.replicate n false) (fun _ => False) := by
  refine ⟨List.length_replicate, fun j hj => ?_⟩
  rw [List.getD_eq_getElem?_getD, List.getElem?_replicate, if_pos hj]
  simp
def TB (ks : List Int) (n i : Nat) (T : List (List Bool)) : Prop := T.length = n ∧ ∀ m, m < i → Rw n (T.getD m []) (fun j => Ahead ks j m)
theorem TB.set {ks : List Int} {n i : Nat} {T : List (List Bool)} (h : TB ks n i T) (R : List Bool) : TB ks n i (T.set i R) := by
  refine ⟨by rw [List.length_set]; exact h.1, fun m hm => ?_⟩
  rw [List.getD_eq_getElem?_getD, List.getElem?_set_ne (by omega), ← List.getD_eq_getElem?_getD]
  exact h.2 m hm
theorem TB.at {ks : List Int} {n i : Nat} {T : List (List Bool)} (h : TB ks n i T) (hi : i < n) (R : List Bool) : (T.set i R).getD i [] = R := by
  rw [List.getD_eq_getElem?_getD, List.getElem?_set_self (by rw [h.1]; exact hi)]; rfl
theorem rdL6 (T : List (List Bool)) (i : Nat) : rd_L6 T (i : Int) = T.getD i [] := by unfold rd_L6; rw [Int.toNat_natCast]
theorem rdB (R : List Bool) (j : Nat) : rdOf false R (j : Int) = R.getD j false := by unfold rdOf; rw [Int.toNat_natCast]
theorem bef_l2 (ks : List Int) (n i kk q : Nat) (x3 : List (List Int)) (hn : n ≤ 4096) (hi : i < n) (hk : kk < i) (Tgt : List (List Bool) → Prop) : ∀ (d m : Nat) (x5 : List (List Bool)) (P : Nat → Prop), m + d = kk → TB ks n i x5 → Rw n (x5.getD i []) P →
    (∀ x', TB ks n i x' → Rw n (x'.getD i []) (fun j => P j ∨ (m ≤ j ∧ j < kk ∧ Ahead ks j kk)) → ∃ T, Ev (fun k => plunderref19_Before.l1 k x3 (n : Int) x' (i : Int) (wrap64 ((q : Int) + 1))) T ∧ Tgt T) →
    ∃ T, Ev (fun k => plunderref19_Before.l2 k x3 (n : Int) x5 (i : Int) (q : Int) (kk : Int) (m : Int)) T ∧ Tgt T := by
  intro d
  induction d with
  | zero =>
    intro m x5 P hm hT hR hc
    obtain ⟨T, h1, h2⟩ := hc x5 hT (hR.congr (fun j hj => ⟨Or.inl, fun h => h.elim (fun h => h) (fun h => by omega)⟩))
    refine ⟨T, Ev.step (fun k => ?_) h1, h2⟩
    simp only [plunderref19_Before.l2]
    rw [if_neg (by omega)]
  | succ d ih =>
    intro m x5 P hm hT hR hc
    have hRk := hT.2 kk hk
    have hlk : (rd_L6 x5 (kk : Int)).length = n := by rw [rdL6]; exact hRk.1
    have hli : (rd_L6 x5 (i : Int)).length = n := by rw [rdL6]; exact hR.1
    have hl5 : x5.length = n := hT.1
    have hb : rdOf false (rd_L6 x5 (kk : Int)) (m : Int) = true ↔ Ahead ks m kk := by rw [rdL6, rdB]; exact hRk.2 m (by omega)
    by_cases ha : rdOf false (rd_L6 x5 (kk : Int)) (m : Int) = true
    · obtain ⟨T, h1, h2⟩ := ih (m + 1) (x5.set i ((x5.getD i []).set m true)) (fun j => P j ∨ j = m) (by omega) (hT.set _) (by rw [hT.at hi]; exact hR.set (by omega)) (fun x' hx hRx => hc x' hx (hRx.congr (fun j hj => by
        constructor
        · rintro ((h | h) | h)
          · exact Or.inl h
          · subst h; exact Or.inr ⟨Nat.le_refl _, by omega, hb.1 ha⟩
          · exact Or.inr ⟨by omega, h.2⟩
        · rintro (h | ⟨h3, h4, h5⟩)
          · exact Or.inl (Or.inl h)
          · by_cases e : j = m
            · exact Or.inl (Or.inr e)
            · exact Or.inr ⟨by omega, h4, h5⟩)))
      refine ⟨T, Ev.step (fun k => ?_) h1, h2⟩
      simp only [plunderref19_Before.l2]
      rw [if_pos (by omega), if_pos (by omega), if_pos (by omega), if_pos (by omega), if_pos (by omega), if_pos ha, if_pos (by omega), if_pos (by omega), if_pos (by omega), w64s (by omega), rdL6, Int.toNat_natCast, Int.toNat_natCast]
    · obtain ⟨T, h1, h2⟩ := ih (m + 1) x5 P (by omega) hT hR (fun x' hx hRx => hc x' hx (hRx.congr (fun j hj => by
        constructor
        · rintro (h | h)
          · exact Or.inl h
          · exact Or.inr ⟨by omega, h.2⟩
        · rintro (h | ⟨h3, h4, h5⟩)
          · exact Or.inl h
          · by_cases e : j = m
            · subst e; exact absurd (hb.2 h5) ha
            · exact Or.inr ⟨by omega, h4, h5⟩)))
      refine ⟨T, Ev.step (fun k => ?_) h1, h2⟩
      simp only [plunderref19_Before.l2]
      rw [if_pos (by omega), if_pos (by omega), if_pos (by omega), if_pos (by omega), if_pos (by omega), if_neg ha, w64s (by omega)]
theorem rdL3 {ks : List Int} {n i : Nat} (hn : ks.length = n) (hi : i < n) : rd_L3 ((List.range ks.length).map (frm ks)) (i : Int) = frm ks i := by
  unfold rd_L3
  rw [Int.toNat_natCast, List.getD_eq_getElem?_getD, List.getElem?_map, List.getElem?_range (by omega)]
  rfl
theorem bef_l1 (ks : List Int) (hf : fair ks) (n i : Nat) (hkn : ks.length = n) (hn : n ≤ 4096) (hi : i < n) (Tgt : List (List Bool) → Prop)
    (hc : ∀ x', TB ks n (i + 1) x' → ∃ T, Ev (fun k => plunderref19_Before.l0 k ((List.range ks.length).map (frm ks)) (n : Int) x' ((i + 1 : Nat) : Int)) T ∧ Tgt T) : ∀ (d q : Nat) (x5 : List (List Bool)), q + d = (frm ks i).length → TB ks n i x5 →
    Rw n (x5.getD i []) (fun j => ∃ m : Nat, (m : Int) ∈ (frm ks i).take q ∧ (j = m ∨ Ahead ks j m)) → ∃ T, Ev (fun k => plunderref19_Before.l1 k ((List.range ks.length).map (frm ks)) (n : Int) x5 (i : Int) (q : Int)) T ∧ Tgt T := by
  intro d
  induction d with
  | zero =>
    intro q x5 hq hT hR
    have hT2 : TB ks n (i + 1) x5 := ⟨hT.1, fun m hm => by
      by_cases e : m = i
      · subst e
        refine hR.congr (fun j hj => ?_)
        rw [List.take_of_length_le (by omega)]
        exact (ahead_iff hf (by omega)).symm
      · exact hT.2 m (by omega)⟩
    obtain ⟨T, h1, h2⟩ := hc x5 hT2
    refine ⟨T, Ev.step (fun k => ?_) h1, h2⟩
    simp only [plunderref19_Before.l1]
    rw [if_pos (by omega), if_pos (by rw [List.length_map, List.length_range]; omega), rdL3 hkn hi, if_neg (by omega), w64s (by omega)]
  | succ d ih =>
    intro q x5 hq hT hR
    have hqlt : q < (frm ks i).length := by omega
    have hmem : (frm ks i)[q] ∈ frm ks i := List.getElem_mem hqlt
    have hlo := frm_lo ks i _ hmem
    obtain ⟨kk, hkk⟩ : ∃ kk : Nat, (frm ks i)[q] = (kk : Int) := ⟨((frm ks i)[q]).toNat, by omega⟩
    have hrd : rd (frm ks i) (q : Int) = (kk : Int) := by
      unfold rd
      rw [Int.toNat_natCast, List.getD_eq_getElem?_getD, List.getElem?_eq_getElem hqlt]
      exact hkk
    have hki : kk < i := by omega
    have hfew := frm_few ks i
    have hl5 : x5.length = n := hT.1
    have hli : (rd_L6 x5 (i : Int)).length = n := by rw [rdL6]; exact hR.1
    have hset := hR.set (show kk < n by omega)
    obtain ⟨T, h1, h2⟩ := bef_l2 ks n i kk q ((List.range ks.length).map (frm ks)) hn hi hki Tgt kk 0 (x5.set i ((x5.getD i []).set kk true)) _ (by omega) (hT.set _) (by rw [hT.at hi]; exact hset) (fun x' hx hRx => by
      rw [w64s (by omega)]
      refine ih (q + 1) x' (by omega) hx (hRx.congr (fun j hj => ?_))
      rw [List.take_succ_eq_append_getElem hqlt]
      constructor
      · rintro ((⟨m, h3, h4⟩ | h3) | ⟨_, h4, h5⟩)
        · exact ⟨m, List.mem_append_left _ h3, h4⟩
        · exact ⟨kk, List.mem_append_right _ (by rw [hkk]; exact List.mem_singleton.2 rfl), Or.inl h3⟩
        · exact ⟨kk, List.mem_append_right _ (by rw [hkk]; exact List.mem_singleton.2 rfl), Or.inr h5⟩
      · rintro ⟨m, h3, h4⟩
        rcases List.mem_append.1 h3 with h3 | h3
        · exact Or.inl (Or.inl ⟨m, h3, h4⟩)
        · rw [hkk] at h3
          have : m = kk := by have := List.mem_singleton.1 h3; omega
          subst this
          rcases h4 with h4 | h4
          · exact Or.inl (Or.inr h4)
          · exact Or.inr ⟨Nat.zero_le _, Ahead.lt hf (by omega) h4, h4⟩)
    refine ⟨T, Ev.step (fun k => ?_) h1, h2⟩
    simp only [plunderref19_Before.l1]
    rw [if_pos (by omega), if_pos (by rw [List.length_map, List.length_range]; omega), rdL3 hkn hi, if_pos (by omega), if_pos (by omega), if_pos (by omega), hrd, if_pos (by omega), if_pos (by omega), rdL6, Int.toNat_natCast, Int.toNat_natCast]
    rfl
theorem bef_l0 (ks : List Int) (hf : fair ks) (n : Nat) (hkn : ks.length = n) (hn : n ≤ 4096) : ∀ (d i : Nat) (x5 : List (List Bool)), i + d = n → TB ks n i x5 →
    ∃ T, Ev (fun k => plunderref19_Before.l0 k ((List.range ks.length).map (frm ks)) (n : Int) x5 (i : Int)) T ∧ TB ks n n T := by
  intro d
  induction d with
  | zero =>
    intro i x5 hi hT
    refine ⟨x5, Ev.step (f := fun _ => some x5) (fun k => ?_) (Ev.now _), ?_⟩
    · simp only [plunderref19_Before.l0]
      rw [if_neg (by omega)]
    · rw [show n = i by omega] at hT ⊢
      exact hT
  | succ d ih =>
    intro i x5 hi hT
    have hl5 : x5.length = n := hT.1
    obtain ⟨T, h1, h2⟩ := bef_l1 ks hf n i hkn hn (by omega) (TB ks n n) (fun x' hx => ih (i + 1) x' (by omega) hx) (frm ks i).length 0 (x5.set i (List.replicate n false)) (by omega) (hT.set _) (by
      rw [hT.at (by omega)]
      exact (Rw.none n).congr (fun j hj => ⟨fun h => h.elim, fun ⟨m, h3, _⟩ => by rw [List.take_zero] at h3; cases h3⟩))
    refine ⟨T, Ev.step (fun k => ?_) h1, h2⟩
    simp only [plunderref19_Before.l0]
    rw [if_pos (by omega), if_pos (by omega), if_pos (by omega), if_pos (by omega), if_pos (by omega), Int.toNat_natCast, Int.toNat_natCast]
    rfl
theorem before_ev {l : List S52} (h : Good l) : ∃ T, Ev (fun k => plunderref19_Before.f k l) T ∧ TB (kdsOf l) l.length l.length T := by
  have hk := kds_len l
  obtain ⟨T, h1, h2⟩ := bef_l0 (kdsOf l) h.fair l.length hk h.len l.length 0 (List.replicate l.length []) (by omega) ⟨List.length_replicate, fun m hm => absurd hm (Nat.not_lt_zero _)⟩
  refine ⟨T, ?_, h2⟩
  refine Ev.congr (fun k => ?_) h1
  unfold plunderref19_Before.f plunderref19_Steps.f
  rw [if_pos ⟨h.len, (fairB_iff _).2 h.fair⟩, Option.bind_some, if_pos (by omega), if_pos (by have := h.len; omega), Int.toNat_natCast]
  rfl
end Go.Proofs.Ytkecgjmbamaejaa.P
namespace Go.Proofs.Ytkecgjmbamaejaa.P
open Go.RowKit Go.Proofs.YtkecgjmbamaejaaW.PrintWords Go.Proofs.YtkecgjmbamaejaaW.PrintLast Go.Proofs.YtkecgjmbamaejaaW.PrintMore
set_option linter.unusedVariables false

end Go.Proofs.Ytkecgjmbamaejaa.P
