/- Plain law: RacesTwo. -/
import Derived.Test.YtkecgjmbamaejaaPTPx16
import Derived.Test.YtkecgjmbamaejaaPTPx17
import Derived.Test.YtkecgjmbamaejaaPTPx20
import Derived.Test.YtkecgjmbamaejaaPTPx0
import Derived.Test.YtkecgjmbamaejaaPTPx4
import Derived.Test.YtkecgjmbamaejaaPTRB
import Derived.Test.YtkecgjmbamaejaaPTLat
import Derived.Deep.DeepCutAuto
import Derived.Test.YtkecgjmbamaejaaPTPx2
import Derived.Test.YtkecgjmbamaejaaPTRC
import Derived.Test.YtkecgjmbamaejaaPTRD
set_option linter.unusedVariables false
set_option linter.unusedSimpArgs false
namespace Go.Proofs.Ytkecgjmbamaejaa.P
open Go.RowKit Go.Proofs.YtkecgjmbamaejaaW.PrintWords Go.Proofs.YtkecgjmbamaejaaW.PrintLast Go.Proofs.YtkecgjmbamaejaaW.PrintMore
set_option linter.unusedVariables false

theorem orders_l0 {l : List S52} (h : Good l) : ∀ (d j : Nat), j + d = l.length → Ev (fun k => races_Orders.l0 k l (ints (List.range j)) (l.length : Int) (j : Int)) (ints (List.range l.length), ints (ord l), 0) := by
  have hb := h.len
  intro d
  induction d with
  | zero =>
    intro j hj
    have : j = l.length := by omega
    subst this
    refine Ev.step (f := fun _ => some (ints (List.range l.length), ints (ord l), 0)) (fun k => ?_) (Ev.now _)
    simp only [races_Orders.l0]
    rw [if_neg (by omega), late_ev h, Option.bind_some]
  | succ d ih =>
    intro j hj
    refine Ev.step (fun k => ?_) (ih (j + 1) (by omega))
    simp only [races_Orders.l0]
    rw [if_pos (by omega), if_pos (by rw [ints_len, List.length_range]; omega), w64s (by omega), List.range_succ, ints_app]
    rfl
end Go.Proofs.Ytkecgjmbamaejaa.P
namespace Go.Proofs.Ytkecgjmbamaejaa.P
open Go.RowKit Go.Proofs.YtkecgjmbamaejaaW.PrintWords Go.Proofs.YtkecgjmbamaejaaW.PrintLast Go.Proofs.YtkecgjmbamaejaaW.PrintMore
set_option linter.unusedVariables false
theorem sound_l0 (l : List S52) (hl : l.length < 17592186044416) : ∀ (d j : Nat) (o : Int), j + d = l.length → 0 ≤ o → o ≤ (j : Int) → Ev (fun k => plunderlaw19_sound.l0 k l o (j : Int)) (decide ((ck o j (l.drop j)).1 = 0 ∧ (l.length : Int) ≤ 4096)) := by
  intro d
  induction d with
  | zero =>
    intro j o hj h0 h1
    refine Ev.step (f := fun _ => some (decide ((l.length : Int) ≤ 4096))) (fun k => ?_) ?_
    · simp only [plunderlaw19_sound.l0]
      rw [if_neg (by omega)]
    · rw [List.drop_of_length_le (by omega)]
      have : decide ((ck o j []).1 = 0 ∧ (l.length : Int) ≤ 4096) = decide ((l.length : Int) ≤ 4096) := by
        congr 1
        exact propext ⟨fun h => h.2, fun h => ⟨rfl, h⟩⟩
      rw [this]
      exact Ev.now _
  | succ d ih =>
    intro j o hj h0 h1
    have hlt : j < l.length := by omega
    rw [List.drop_eq_getElem_cons hlt]
    have bad : ∀ {e : S52}, (e.f0 < 0 ∨ e.f0 > 4 ∨ (e.f0 = 1 ∧ o = 0)) → decide ((ck o j (e :: l.drop (j + 1))).1 = 0 ∧ (l.length : Int) ≤ 4096) = false := fun h => by
      rw [ck_no h]
      exact decide_eq_false (fun h => by simp at h)
    have hr := rd52 l j hlt
    by_cases k0 : l[j].f0 = 0
    · rw [ck_yes (by omega) (o + 1) (by rw [if_pos k0])]
      refine Ev.step (f := fun k => plunderlaw19_sound.l0 k l (o + 1) ((j + 1 : Nat) : Int)) (fun k => ?_) (ih (j + 1) (o + 1) (by omega) (by omega) (by omega))
      simp only [plunderlaw19_sound.l0]
      rw [if_pos (by omega), if_pos (by omega), hr, if_pos k0, w64 (by omega) (by omega), w64s (by omega)]
    by_cases k1 : l[j].f0 = 1
    · by_cases ho : o = 0
      · rw [bad (by omega)]
        refine Ev.step (f := fun _ => some false) (fun k => ?_) (Ev.now _)
        simp only [plunderlaw19_sound.l0]
        rw [if_pos (by omega), if_pos (by omega), hr, if_neg k0, if_pos k1, w64 (by omega) (by omega), if_pos (by omega)]
      · rw [ck_yes (by omega) (o - 1) (by rw [if_neg k0, if_pos k1]; omega)]
        refine Ev.step (f := fun k => plunderlaw19_sound.l0 k l (o - 1) ((j + 1 : Nat) : Int)) (fun k => ?_) (ih (j + 1) (o - 1) (by omega) (by omega) (by omega))
        simp only [plunderlaw19_sound.l0]
        rw [if_pos (by omega), if_pos (by omega), hr, if_neg k0, if_pos k1, w64 (by omega) (by omega), if_neg (by omega), w64s (by omega)]
    by_cases k2 : l[j].f0 = 2 ∨ l[j].f0 = 3 ∨ l[j].f0 = 4
    · rw [ck_yes (by omega) o (by rw [if_neg k0, if_neg k1]; omega)]
      refine Ev.step (f := fun k => plunderlaw19_sound.l0 k l o ((j + 1 : Nat) : Int)) (fun k => ?_) (ih (j + 1) o (by omega) (by omega) (by omega))
      simp only [plunderlaw19_sound.l0]
      rw [if_pos (by omega), if_pos (by omega), hr, if_neg k0, if_neg k1, w64s (by omega)]
      by_cases e2 : l[j].f0 = 2
      · rw [if_pos e2]
      rw [if_neg e2]
      by_cases e3 : l[j].f0 = 3
      · rw [if_pos e3]
      rw [if_neg e3, if_pos (by omega)]
    · rw [bad (by omega)]
      refine Ev.step (f := fun _ => some false) (fun k => ?_) (Ev.now _)
      simp only [plunderlaw19_sound.l0]
      rw [if_pos (by omega), if_pos (by omega), hr, if_neg k0, if_neg k1, if_neg (by omega), if_neg (by omega), if_neg (by omega)]
theorem sound_ev (l : List S52) (hl : l.length < 17592186044416) : Ev (fun k => plunderlaw19_sound.f k l) (decide ((chk l).1 = 0)) := by
  have h := sound_l0 l hl l.length 0 0 (by omega) (by omega) (by omega)
  have e : decide ((ck 0 0 (l.drop 0)).1 = 0 ∧ (l.length : Int) ≤ 4096) = decide ((chk l).1 = 0) := by
    congr 1
    unfold chk
    by_cases hb : (l.length : Int) > 4096
    · rw [if_pos hb]
      exact propext ⟨fun h => by omega, fun h => by simp at h⟩
    · rw [if_neg hb]
      exact propext ⟨fun h => h.1, fun h => ⟨h, by omega⟩⟩
  rw [e] at h
  exact h
theorem mod_ev (x : Int) (n : Nat) (hn : 0 < n) (hb : n ≤ 4096) : ∃ m : Nat, m < n ∧ plunderlaw19_mod.f x (n : Int) = some (m : Int) := by
  have h1 : Int.tmod x (n : Int) < (n : Int) := Int.tmod_lt_of_pos x (by omega)
  have h2 : -(n : Int) < Int.tmod x (n : Int) := by
    have := Int.lt_tmod_of_pos x (b := (n : Int)) (by omega)
    omega
  unfold plunderlaw19_mod.f
  rw [if_neg (by omega)]
  generalize Int.tmod x (n : Int) = t at h1 h2
  by_cases ht : t < 0
  · refine ⟨(t + n).toNat, by omega, ?_⟩
    rw [if_pos ht, w64 (by omega) (by omega)]
    congr 1
    omega
  · refine ⟨t.toNat, by omega, ?_⟩
    rw [if_neg ht]
    congr 1
    omega
theorem orders_good {l : List S52} (hl : l.length < 1099511627776) (h0 : (chk l).1 = 0) : Ev (fun k => races_Orders.f k l) (ints (List.range l.length), ints (ord l), 0) := by
  unfold races_Orders.f
  refine Ev.bind (racesCheck_ev l hl) ?_
  simp only [if_pos h0]
  exact orders_l0 (chk_good h0) l.length 0 (by omega)
end Go.Proofs.Ytkecgjmbamaejaa.P
namespace Go.Proofs.Ytkecgjmbamaejaa.P
open Go.RowKit Go.Proofs.YtkecgjmbamaejaaW.PrintWords Go.Proofs.YtkecgjmbamaejaaW.PrintLast Go.Proofs.YtkecgjmbamaejaaW.PrintMore
set_option linter.unusedVariables false
theorem rd_intsV (p : List Nat) (q : Nat) (h : q < p.length) : rd (ints p) (q : Int) = (p[q] : Int) := by
  unfold rd ints
  rw [Int.toNat_natCast, List.getD_eq_getElem?_getD, List.getElem?_map, List.getElem?_eq_getElem h]
  rfl
def posA (p : List Nat) (i q : Nat) : Int := if p.idxOf i < q then (p.idxOf i : Int) else -1
theorem posA_step {p : List Nat} (hn : p.Nodup) {i q : Nat} (hq : q < p.length) : posA p i (q + 1) = if p[q] = i then (q : Int) else posA p i q := by
  unfold posA
  by_cases e : p[q] = i
  · have e2 : p.idxOf i = q := by rw [← e]; exact hn.idxOf_getElem q hq
    rw [if_pos e, e2, if_pos (by omega)]
  · have e2 : p.idxOf i ≠ q := fun h => by
      have hlt : p.idxOf i < p.length := by omega
      have := List.getElem_idxOf hlt
      apply e
      rw [← this]
      congr 1
      omega
    rw [if_neg e]
    by_cases h : p.idxOf i < q
    · rw [if_pos h, if_pos (by omega)]
    · rw [if_neg h, if_neg (by omega)]
theorem ahead_l0 (p : List Nat) (hn : p.Nodup) (hl : p.length ≤ 4096) (i j : Nat) (hi : i ∈ p) (hj : j ∈ p) : ∀ (d q : Nat), q + d = p.length →
    Ev (fun k => plunderlaw19_ahead.l0 k (ints p) (i : Int) (j : Int) (posA p i q) (posA p j q) (q : Int)) (if p.idxOf i < p.idxOf j then 1 else -1) := by
  intro d
  induction d with
  | zero =>
    intro q hq
    have hi2 := List.idxOf_lt_length_of_mem hi
    have hj2 := List.idxOf_lt_length_of_mem hj
    have e1 : posA p i q = (p.idxOf i : Int) := by unfold posA; rw [if_pos (by omega)]
    have e2 : posA p j q = (p.idxOf j : Int) := by unfold posA; rw [if_pos (by omega)]
    rw [e1, e2]
    refine Ev.step (f := fun k => plunderlaw19_ahead.j1 k (p.idxOf i : Int) (p.idxOf j : Int) false) (fun k => ?_) ?_
    · simp only [plunderlaw19_ahead.l0]
      rw [if_neg (by rw [ints_len]; omega), if_neg (by omega), decide_eq_false (by omega)]
    · refine Ev.step (f := fun _ => some (if p.idxOf i < p.idxOf j then 1 else -1)) (fun k => ?_) (Ev.now _)
      simp only [plunderlaw19_ahead.j1]
      rw [if_neg (by decide)]
      by_cases h : p.idxOf i < p.idxOf j
      · rw [if_pos (by omega), if_pos h]
      · rw [if_neg (by omega), if_neg h]
  | succ d ih =>
    intro q hq
    have hlt : q < p.length := by omega
    have h := ih (q + 1) (by omega)
    rw [posA_step hn hlt, posA_step hn hlt] at h
    refine Ev.step (fun k => ?_) h
    simp only [plunderlaw19_ahead.l0]
    rw [if_pos (by rw [ints_len]; omega), if_pos (by omega), rd_intsV p q hlt, w64s (by omega)]
    by_cases e1 : p[q] = i
    · by_cases e2 : p[q] = j
      · rw [if_pos (by omega), if_pos (by omega), if_pos e1, if_pos e2]
      · rw [if_pos (by omega), if_neg (by omega), if_pos e1, if_neg e2]
    · by_cases e2 : p[q] = j
      · rw [if_neg (by omega), if_pos (by omega), if_neg e1, if_pos e2]
      · rw [if_neg (by omega), if_neg (by omega), if_neg e1, if_neg e2]
theorem ahead_ev (p : List Nat) (hn : p.Nodup) (hl : p.length ≤ 4096) (i j : Nat) (hi : i ∈ p) (hj : j ∈ p) : Ev (fun k => plunderlaw19_ahead.f k (ints p) (i : Int) (j : Int)) (if p.idxOf i < p.idxOf j then 1 else -1) := by
  have h := ahead_l0 p hn hl i j hi hj p.length 0 (by omega)
  have e1 : posA p i 0 = -1 := by unfold posA; rw [if_neg (by omega)]
  have e2 : posA p j 0 = -1 := by unfold posA; rw [if_neg (by omega)]
  rw [e1, e2] at h
  exact h
theorem idx_range {n i : Nat} (h : i < n) : (List.range n).idxOf i = i := by
  have := List.nodup_range (n := n) |>.idxOf_getElem i (by rw [List.length_range]; exact h)
  rwa [List.getElem_range] at this
theorem Par.symm {ks : List Int} {i j : Nat} (h : Par ks i j) : Par ks j i := ⟨fun e => h.1 e.symm, h.2.2, h.2.1⟩
theorem head_ev : Ev (fun k => plunderlaw19_head.f k) true := Ev.congr (fun _ => rfl) (Ev.now true)
theorem RacesTwo_pure (l : List S52) (a1 a2 : Int) (hl : l.length < 17592186044416) : ∃ k, plunderlaw19_RacesTwo.f k l a1 a2 = some true := by
  refine Ev.rounds ?_
  unfold plunderlaw19_RacesTwo.f
  refine Ev.bind (sound_ev l hl) ?_
  have hhead : Ev (fun k => plunderlaw19_RacesTwo.j0 k l a1 a2 true) true := by
    refine Ev.step (f := fun k => (plunderlaw19_head.f k).bind fun t622 => some t622) (fun k => ?_) (Ev.bind head_ev (Ev.now true))
    simp only [plunderlaw19_RacesTwo.j0]
    rw [if_pos trivial]
  by_cases h0 : (chk l).1 = 0
  · have hg := chk_good h0
    have hlen := hg.len
    have hl : l.length < 1099511627776 := by omega
    rw [decide_eq_true h0]
    simp only [if_true]
    by_cases h2 : (l.length : Int) < 2
    · rw [decide_eq_true h2]
      exact hhead
    · rw [decide_eq_false h2]
      obtain ⟨i, hi, hmi⟩ := mod_ev a1 l.length (by omega) hlen
      obtain ⟨j, hj, hmj⟩ := mod_ev a2 l.length (by omega) hlen
      refine Ev.step (f := fun k => (races_Parallel.f k l (i : Int) (j : Int)).bind fun bt625 => ((races_Parallel.f k l (j : Int) (i : Int)).bind fun bt627 => ((races_Orders.f k l).bind fun bt629 => (if bt625.2 = 0 then (if bt627.2 = 0 then (if bt629.2.2 = 0 then (if (bt625.1 != bt627.1) = true then (plunderlaw19_RacesTwo.j1 k (i : Int) (j : Int) bt625.1 bt629.1 bt629.2.1 true) else (if (bt629.1.length : Int) = (l.length : Int) then (plunderlaw19_RacesTwo.j1 k (i : Int) (j : Int) bt625.1 bt629.1 bt629.2.1 ((bt629.2.1.length : Int) != (l.length : Int))) else (plunderlaw19_RacesTwo.j1 k (i : Int) (j : Int) bt625.1 bt629.1 bt629.2.1 true))) else (plunderlaw19_RacesTwo.j1 k (i : Int) (j : Int) bt625.1 bt629.1 bt629.2.1 true)) else (plunderlaw19_RacesTwo.j1 k (i : Int) (j : Int) bt625.1 bt629.1 bt629.2.1 true)) else (plunderlaw19_RacesTwo.j1 k (i : Int) (j : Int) bt625.1 bt629.1 bt629.2.1 true))))) (fun k => ?_) ?_
      · simp only [plunderlaw19_RacesTwo.j0]
        rw [if_neg (by decide), hmi, Option.bind_some, hmj, Option.bind_some]
      · obtain ⟨⟨r, re⟩, e1, s1⟩ := par_ev l hl (i : Int) (j : Int)
        obtain ⟨⟨s, se⟩, e2, s2⟩ := par_ev l hl (j : Int) (i : Int)
        obtain ⟨p1, p2⟩ := s1.inn h0 ⟨by omega, by omega, by omega, by omega⟩
        obtain ⟨p3, p4⟩ := s2.inn h0 ⟨by omega, by omega, by omega, by omega⟩
        simp only [Int.toNat_natCast] at p1 p2 p3 p4
        subst p1
        subst p3
        have hrs : r = s := by
          rw [Bool.eq_iff_iff, p2, p4]
          exact ⟨Par.symm, Par.symm⟩
        subst hrs
        refine Ev.bind e1 (Ev.bind e2 (Ev.bind (orders_good hl h0) ?_))
        have l1 : ((ints (List.range l.length)).length : Int) = (l.length : Int) := by rw [ints_len, List.length_range]
        have l2 : ((ints (ord l)).length : Int) = (l.length : Int) := by rw [ints_len, ord_len hg]
        simp only [bne_self_eq_false, if_true, l1, l2, Bool.false_eq_true, if_false]
        have mi : i ∈ List.range l.length := List.mem_range.2 hi
        have mj : j ∈ List.range l.length := List.mem_range.2 hj
        have A1 := ahead_ev (List.range l.length) List.nodup_range (by rw [List.length_range]; exact hlen) i j mi mj
        have A2 := ahead_ev (ord l) (ord_nodup hg) (by rw [ord_len hg]; exact hlen) i j ((ord_mem hg i).2 hi) ((ord_mem hg j).2 hj)
        rw [idx_range hi, idx_range hj] at A1
        by_cases hij : i = j
        · subst hij
          have hr : r = false := eq_false_of_ne_true (fun h => (p2.1 h).1 rfl)
          subst hr
          refine Ev.step (f := fun k => (plunderlaw19_ahead.f k (ints (List.range l.length)) (i : Int) (i : Int)).bind fun t636 => (some (t636 == (-1)))) (fun k => ?_) ?_
          · simp only [plunderlaw19_RacesTwo.j1]
            rw [if_neg (by decide), if_pos trivial, if_neg (by decide)]
          · refine Ev.bind A1 ?_
            rw [if_neg (by omega)]
            exact Ev.now true
        · have hne := idx_ne hg hi hj hij
          refine Ev.step (f := fun k => (plunderlaw19_ahead.f k (ints (List.range l.length)) (i : Int) (j : Int)).bind fun t637 => ((plunderlaw19_ahead.f k (ints (ord l)) (i : Int) (j : Int)).bind fun t638 => (if t637 = 0 then (plunderlaw19_RacesTwo.j2 k (i : Int) (j : Int) r t637 t638 true) else (plunderlaw19_RacesTwo.j2 k (i : Int) (j : Int) r t637 t638 (t638 == 0))))) (fun k => ?_) ?_
          · simp only [plunderlaw19_RacesTwo.j1]
            rw [if_neg (by decide), if_neg (by omega)]
          · refine Ev.bind A1 (Ev.bind A2 ?_)
            have n0 : ∀ (P : Prop) [Decidable P], ((if P then (1 : Int) else -1) = 0) = False := fun P _ => by split <;> simp
            have n1 : ∀ (P : Prop) [Decidable P], ((if P then (1 : Int) else -1) == 0) = false := fun P _ => by split <;> rfl
            simp only [n0, n1, if_false]
            have hl1 : ∀ a b : Nat, Ahead (kdsOf l) a b → b < l.length → a < b := fun a b ha hb => Ahead.lt hg.fair (by rw [kds_len]; exact hb) ha
            refine Ev.step (f := fun _ => if r = true then some ((if i < j then (1 : Int) else -1) != (if (ord l).idxOf i < (ord l).idxOf j then 1 else -1)) else if (if i < j then (1 : Int) else -1) = (if (ord l).idxOf i < (ord l).idxOf j then 1 else -1) then some (((if i < j then (1 : Int) else -1) == 1) == (decide ((i : Int) < (j : Int)))) else some false) (fun k => ?_) ?_
            · simp only [plunderlaw19_RacesTwo.j2]
              rw [if_neg (by decide)]
            · by_cases hlt : i < j
              · have hs := second_ahead hg hlt hj
                have hd : decide ((i : Int) < (j : Int)) = true := decide_eq_true (by omega)
                rw [hd]
                simp only [if_pos hlt]
                by_cases ha : Ahead (kdsOf l) i j
                · have hr : r = false := eq_false_of_ne_true (fun h => (p2.1 h).2.2 ha)
                  subst hr
                  simp only [if_pos (hs.2 ha)]
                  exact Ev.now true
                · have hr : r = true := p2.2 ⟨hij, fun h => by have := hl1 _ _ h hi; omega, ha⟩
                  subst hr
                  simp only [if_neg (fun h => ha (hs.1 h))]
                  exact Ev.now true
              · have hlt2 : j < i := by omega
                have hs := second_ahead hg hlt2 hi
                have hd : decide ((i : Int) < (j : Int)) = false := decide_eq_false (by omega)
                rw [hd]
                simp only [if_neg hlt]
                by_cases ha : Ahead (kdsOf l) j i
                · have hr : r = false := eq_false_of_ne_true (fun h => (p2.1 h).2.1 ha)
                  subst hr
                  have := hs.2 ha
                  simp only [if_neg (show ¬ (ord l).idxOf i < (ord l).idxOf j by omega)]
                  exact Ev.now true
                · have hr : r = true := p2.2 ⟨hij, ha, fun h => by have := hl1 _ _ h hj; omega⟩
                  subst hr
                  have h3 : ¬ (ord l).idxOf j < (ord l).idxOf i := fun h => ha (hs.1 h)
                  simp only [if_pos (show (ord l).idxOf i < (ord l).idxOf j by omega)]
                  exact Ev.now true
  · rw [decide_eq_false h0]
    simp only [Bool.false_eq_true, if_false]
    exact hhead
end Go.Proofs.Ytkecgjmbamaejaa.P
