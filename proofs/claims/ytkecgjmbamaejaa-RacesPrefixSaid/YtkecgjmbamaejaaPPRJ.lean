/- RacesPrefix: its calls. -/
import Derived.Deep.RegionHeld3
import Derived.Test.YtkecgjmbamaejaaPPHead
import Derived.Test.YtkecgjmbamaejaaPPPx0
import Derived.Test.YtkecgjmbamaejaaPPPx3
import Derived.Test.YtkecgjmbamaejaaPPLate
import Derived.Test.YtkecgjmbamaejaaPPRB
import Derived.Test.YtkecgjmbamaejaaPPLat
import Derived.Deep.DeepCutAuto
import Derived.Test.YtkecgjmbamaejaaPPPx1
import Derived.Test.YtkecgjmbamaejaaPPPx2
import Derived.Test.YtkecgjmbamaejaaPPRH
import Derived.Test.YtkecgjmbamaejaaPPPx16
import Derived.Test.YtkecgjmbamaejaaPPPx17
import Derived.Test.YtkecgjmbamaejaaPPRD
import Derived.Test.YtkecgjmbamaejaaPPRI
set_option linter.unusedVariables false
set_option linter.unusedSimpArgs false
namespace Go.Proofs.Ytkecgjmbamaejaa.P
open Go.RowKit Go.Proofs.YtkecgjmbamaejaaW.PrintWords Go.Proofs.YtkecgjmbamaejaaW.PrintLast Go.Proofs.YtkecgjmbamaejaaW.PrintMore
set_option linter.unusedVariables false
theorem detV_len (l : List S52) : (detV l).1.length ≤ 4096 := by
  unfold detV
  split
  · rename_i h0
    have := detL_len (kdsOf l) (lcsOf l) l.length
    have := (chk_good h0).len
    simp only
    omega
  · simp
end Go.Proofs.Ytkecgjmbamaejaa.P
namespace Go.Proofs.Ytkecgjmbamaejaa.P
open Go.RowKit Go.Proofs.YtkecgjmbamaejaaW.PrintWords Go.Proofs.YtkecgjmbamaejaaW.PrintLast Go.Proofs.YtkecgjmbamaejaaW.PrintMore
set_option linter.unusedVariables false
set_option linter.unusedSimpArgs false
def RP (b : Nat) (W : World) (u : Value) (l : List Int) : Prop := Kd.R (Kd.int .i64) 2 W b (fun k => some k = u.ownBlock) u l
theorem RP.below {b : Nat} {W W' : World} {u : Value} {l : List Int} (h : RP b W u l) (hb : Below W.heap.size W W') : RP b W' u l := Kd.R_below h hb
theorem RP.cell {b : Nat} {W : World} {g n c : Nat} {l : List Int} (h : RP b W (.slice (some ⟨g, 0, none⟩) n c) l) (hn : l.length = n) {i : Nat} (hi : i < n) : W.cell? ⟨g, i, none⟩ = some (.int .i64 (l.getD i 0)) ∧ W.frozen? ⟨g, i, none⟩ = false := by
  have h1 := Kd.R_celln (0 : Int) h (i : Int) (by omega) (by omega)
  rw [Int.toNat_natCast] at h1
  refine ⟨h1.1.trans ?_, h1.2⟩
  unfold rdOf
  rw [Int.toNat_natCast]
end Go.Proofs.Ytkecgjmbamaejaa.P
namespace Go.Proofs.Ytkecgjmbamaejaa.P
open Go.RowKit Go.Proofs.YtkecgjmbamaejaaW.PrintWords Go.Proofs.YtkecgjmbamaejaaW.PrintLast Go.Proofs.YtkecgjmbamaejaaW.PrintMore
set_option linter.unusedVariables false
theorem sound_l0 (l : List S52) (hl : l.length < 17592186044416) : ∀ (d j : Nat) (o : Int), j + d = l.length → 0 ≤ o → o ≤ (j : Int) → Ev (fun k => plunderlaw19_sound.l0 k l o (j : Int)) (decide ((ck o j (l.drop j)).1 = 0 ∧ (l.length : Int) ≤ 4096)) := by
  intro d
  induction d with
  | zero =>
    intro j o hj h0 h1
    refine Ev.step (f := fun _ => some (decide ((l.length : Int) ≤ 4096))) (fun k => ?_) ?_
    · simp only [plunderlaw19_sound.l0]
      rw [if_neg (by omega)]
    · rw [List.drop_of_length_le (by omega)]
      have : decide ((ck o j []).1 = 0 ∧ (l.length : Int) ≤ 4096) = decide ((l.length : Int) ≤ 4096) := by
        congr 1
        exact propext ⟨fun h => h.2, fun h => ⟨rfl, h⟩⟩
      rw [this]
      exact Ev.now _
  | succ d ih =>
    intro j o hj h0 h1
    have hlt : j < l.length := by omega
    rw [List.drop_eq_getElem_cons hlt]
    have bad : ∀ {e : S52}, (e.f0 < 0 ∨ e.f0 > 4 ∨ (e.f0 = 1 ∧ o = 0)) → decide ((ck o j (e :: l.drop (j + 1))).1 = 0 ∧ (l.length : Int) ≤ 4096) = false := fun h => by
      rw [ck_no h]
      exact decide_eq_false (fun h => by simp at h)
    have hr := rd52 l j hlt
    by_cases k0 : l[j].f0 = 0
    · rw [ck_yes (by omega) (o + 1) (by rw [if_pos k0])]
      refine Ev.step (f := fun k => plunderlaw19_sound.l0 k l (o + 1) ((j + 1 : Nat) : Int)) (fun k => ?_) (ih (j + 1) (o + 1) (by omega) (by omega) (by omega))
      simp only [plunderlaw19_sound.l0]
      rw [if_pos (by omega), if_pos (by omega), hr, if_pos k0, w64 (by omega) (by omega), w64s (by omega)]
    by_cases k1 : l[j].f0 = 1
    · by_cases ho : o = 0
      · rw [bad (by omega)]
        refine Ev.step (f := fun _ => some false) (fun k => ?_) (Ev.now _)
        simp only [plunderlaw19_sound.l0]
        rw [if_pos (by omega), if_pos (by omega), hr, if_neg k0, if_pos k1, w64 (by omega) (by omega), if_pos (by omega)]
      · rw [ck_yes (by omega) (o - 1) (by rw [if_neg k0, if_pos k1]; omega)]
        refine Ev.step (f := fun k => plunderlaw19_sound.l0 k l (o - 1) ((j + 1 : Nat) : Int)) (fun k => ?_) (ih (j + 1) (o - 1) (by omega) (by omega) (by omega))
        simp only [plunderlaw19_sound.l0]
        rw [if_pos (by omega), if_pos (by omega), hr, if_neg k0, if_pos k1, w64 (by omega) (by omega), if_neg (by omega), w64s (by omega)]
    by_cases k2 : l[j].f0 = 2 ∨ l[j].f0 = 3 ∨ l[j].f0 = 4
    · rw [ck_yes (by omega) o (by rw [if_neg k0, if_neg k1]; omega)]
      refine Ev.step (f := fun k => plunderlaw19_sound.l0 k l o ((j + 1 : Nat) : Int)) (fun k => ?_) (ih (j + 1) o (by omega) (by omega) (by omega))
      simp only [plunderlaw19_sound.l0]
      rw [if_pos (by omega), if_pos (by omega), hr, if_neg k0, if_neg k1, w64s (by omega)]
      by_cases e2 : l[j].f0 = 2
      · rw [if_pos e2]
      rw [if_neg e2]
      by_cases e3 : l[j].f0 = 3
      · rw [if_pos e3]
      rw [if_neg e3, if_pos (by omega)]
    · rw [bad (by omega)]
      refine Ev.step (f := fun _ => some false) (fun k => ?_) (Ev.now _)
      simp only [plunderlaw19_sound.l0]
      rw [if_pos (by omega), if_pos (by omega), hr, if_neg k0, if_neg k1, if_neg (by omega), if_neg (by omega), if_neg (by omega)]
theorem sound_ev (l : List S52) (hl : l.length < 17592186044416) : Ev (fun k => plunderlaw19_sound.f k l) (decide ((chk l).1 = 0)) := by
  have h := sound_l0 l hl l.length 0 0 (by omega) (by omega) (by omega)
  have e : decide ((ck 0 0 (l.drop 0)).1 = 0 ∧ (l.length : Int) ≤ 4096) = decide ((chk l).1 = 0) := by
    congr 1
    unfold chk
    by_cases hb : (l.length : Int) > 4096
    · rw [if_pos hb]
      exact propext ⟨fun h => by omega, fun h => by simp at h⟩
    · rw [if_neg hb]
      exact propext ⟨fun h => h.1, fun h => ⟨h, by omega⟩⟩
  rw [e] at h
  exact h
end Go.Proofs.Ytkecgjmbamaejaa.P
namespace Go.Proofs.Ytkecgjmbamaejaa.P
open Go.RowKit Go.Proofs.YtkecgjmbamaejaaW.PrintWords Go.Proofs.YtkecgjmbamaejaaW.PrintLast Go.Proofs.YtkecgjmbamaejaaW.PrintMore
set_option linter.unusedVariables false
theorem getD_take {ks : List Int} {n j : Nat} (h : j < n) : (ks.take n).getD j 0 = ks.getD j 0 := by
  rw [List.getD_eq_getElem?_getD, List.getD_eq_getElem?_getD, List.getElem?_take_of_lt h]
theorem frs_take (ks : List Int) (n : Nat) : ∀ j, j ≤ n → frs (ks.take n) j = frs ks j
  | 0, _ => rfl
  | j + 1, h => by
    show stepF ((ks.take n).getD j 0) j (frs (ks.take n) j) = stepF (ks.getD j 0) j (frs ks j)
    rw [getD_take (by omega), frs_take ks n j (by omega)]
theorem ahead_take {ks : List Int} {n i j : Nat} (h : j < n) : Ahead (ks.take n) i j ↔ Ahead ks i j := by
  unfold Ahead
  rw [getD_take h, frs_take ks n j (by omega)]
theorem racy_take {ks ls : List Int} {n j : Nat} (h : j < n) : Racy (ks.take n) (ls.take n) j ↔ Racy ks ls j := by
  unfold Racy
  constructor
  · rintro ⟨i, hi, ht, ha⟩
    refine ⟨i, hi, ?_, fun h2 => ha ((ahead_take h).2 h2)⟩
    unfold Touch at ht ⊢
    rwa [getD_take (by omega), getD_take h, getD_take (by omega), getD_take h] at ht
  · rintro ⟨i, hi, ht, ha⟩
    refine ⟨i, hi, ?_, fun h2 => ha ((ahead_take h).1 h2)⟩
    unfold Touch at ht ⊢
    rwa [getD_take (by omega), getD_take h, getD_take (by omega), getD_take h]
theorem kds_take (l : List S52) (n : Nat) : kdsOf (l.take n) = (kdsOf l).take n := by unfold kdsOf; rw [List.map_take]
theorem lcs_take (l : List S52) (n : Nat) : lcsOf (l.take n) = (lcsOf l).take n := by unfold lcsOf; rw [List.map_take]
theorem ck_take : ∀ (l : List S52) (o : Int) (i n : Nat), (ck o i l).1 = 0 → (ck o i (l.take n)).1 = 0
  | [], o, i, n, _ => by rw [List.take_nil]; rfl
  | e :: r, o, i, 0, _ => rfl
  | e :: r, o, i, n + 1, h => by
    by_cases hb : e.f0 < 0 ∨ e.f0 > 4 ∨ (e.f0 = 1 ∧ o = 0)
    · rw [ck_no hb] at h
      simp at h
    · rw [ck_yes hb _ rfl] at h
      rw [List.take_succ_cons, ck_yes hb _ rfl]
      exact ck_take r _ _ n h
theorem chk_take {l : List S52} (h : (chk l).1 = 0) (n : Nat) : (chk (l.take n)).1 = 0 := by
  unfold chk at h ⊢
  split at h
  · simp at h
  · rename_i hl
    rw [if_neg (by rw [List.length_take]; omega)]
    exact ck_take l 0 0 n h
theorem wfB_take {l : List S52} (h : wfB l = true) (n : Nat) : wfB (l.take n) = true := List.all_eq_true.2 fun e he => List.all_eq_true.1 h e (List.mem_of_mem_take he)
theorem mod_ev' (x : Int) (n : Nat) (hn : 0 < n) (hb : n ≤ 8192) : ∃ m : Nat, m < n ∧ plunderlaw19_mod.f x (n : Int) = some (m : Int) := by
  have h1 : Int.tmod x (n : Int) < (n : Int) := Int.tmod_lt_of_pos x (by omega)
  have h2 : -(n : Int) < Int.tmod x (n : Int) := by
    have := Int.lt_tmod_of_pos x (b := (n : Int)) (by omega)
    omega
  unfold plunderlaw19_mod.f
  rw [if_neg (by omega)]
  generalize Int.tmod x (n : Int) = t at h1 h2
  by_cases ht : t < 0
  · refine ⟨(t + n).toNat, by omega, ?_⟩
    rw [if_pos ht, w64 (by omega) (by omega)]
    congr 1
    omega
  · refine ⟨t.toNat, by omega, ?_⟩
    rw [if_neg ht]
    congr 1
    omega
/-- what the four calls answer -/
structure PX (l : List S52) (n : Nat) (d1 d2 : List Int) (x1 x2 x3 y1 y2 y3 : Int) (s1 s2 : Bool) : Prop where
  e1 : detV (l.take n) = (d1, 0)
  e2 : detV l = (d2, 0)
  e3 : firstV (l.take n) = (x1, x2, x3, s1, 0)
  e4 : firstV l = (y1, y2, y3, s2, 0)
  sub : ∀ x ∈ d1, x ∈ d2
  cases : (s1 = true ∧ s2 = true ∧ x1 = y1 ∧ x2 = y2 ∧ x3 = y3 ∧ y1 < (n : Int)) ∨ (s1 = false ∧ s2 = false) ∨ (s1 = false ∧ s2 = true ∧ ¬ y1 < (n : Int))
theorem first_some {l : List S52} (h0 : (chk l).1 = 0) {j : Nat} (hj : j < l.length) (hr : Racy (kdsOf l) (lcsOf l) j) (hm : ∀ k, k < j → ¬ Racy (kdsOf l) (lcsOf l) k) : ∃ i, i < j ∧ (Touch (kdsOf l) (lcsOf l) i j ∧ ¬ Ahead (kdsOf l) i j) ∧ (∀ k, k < i → ¬ (Touch (kdsOf l) (lcsOf l) k j ∧ ¬ Ahead (kdsOf l) k j)) ∧ firstV l = ((j : Int), (i : Int), (lcsOf l).getD j 0, true, 0) := by
  have hx : firstI (kdsOf l) (lcsOf l) j ≠ none := fun e => by
    obtain ⟨i, h1, h2⟩ := hr
    have := findN_no e i (Nat.zero_le _) (by omega)
    rw [(raceB_iff _ _ _ _).2 h2] at this
    cases this
  obtain ⟨i, hi⟩ := Option.ne_none_iff_exists'.1 hx
  obtain ⟨-, h2, h3, h4⟩ := findN_spec hi
  have h3' := (raceB_iff _ _ _ _).1 h3
  have h4' : ∀ k, k < i → ¬ (Touch (kdsOf l) (lcsOf l) k j ∧ ¬ Ahead (kdsOf l) k j) := fun k hk hq => by
    have := h4 k (Nat.zero_le _) hk
    rw [(raceB_iff _ _ _ _).2 hq] at this
    cases this
  exact ⟨i, by omega, h3', h4', firstV_some h0 hj hm (by omega) h3' h4'⟩
theorem racy_least (ks ls : List Int) (n : Nat) : (∀ j, j < n → ¬ Racy ks ls j) ∨ ∃ j, j < n ∧ Racy ks ls j ∧ ∀ k, k < j → ¬ Racy ks ls k := by
  cases e : firstJ ks ls n with
  | none =>
    refine .inl fun j hj hr => ?_
    have := findN_no e j (Nat.zero_le _) (by omega)
    rw [(racyB_iff _ _ _).2 hr] at this
    cases this
  | some j =>
    obtain ⟨-, h2, h3, h4⟩ := findN_spec e
    refine .inr ⟨j, by omega, (racyB_iff _ _ _).1 h3, fun k hk hr => ?_⟩
    have := h4 k (Nat.zero_le _) hk
    rw [(racyB_iff _ _ _).2 hr] at this
    cases this
theorem PX.all {l : List S52} (h0 : (chk l).1 = 0) {n : Nat} (hn : n ≤ l.length) : ∃ d1 d2 x1 x2 x3 y1 y2 y3 s1 s2, PX l n d1 d2 x1 x2 x3 y1 y2 y3 s1 s2 := by
  have h1 := chk_take h0 n
  have hlt : (l.take n).length = n := by rw [List.length_take]; omega
  have hd1 : detV (l.take n) = (detL (kdsOf (l.take n)) (lcsOf (l.take n)) n, 0) := by unfold detV; rw [if_pos h1, hlt]
  have hd2 : detV l = (detL (kdsOf l) (lcsOf l) l.length, 0) := by unfold detV; rw [if_pos h0]
  have hk := kds_take l n
  have hl := lcs_take l n
  have hsub : ∀ x ∈ detL (kdsOf (l.take n)) (lcsOf (l.take n)) n, x ∈ detL (kdsOf l) (lcsOf l) l.length := fun x hx => by
    obtain ⟨j, a, b, c⟩ := (detL_mem _ _ x _).1 hx
    rw [hl, getD_take a] at b
    rw [hk, hl] at c
    exact (detL_mem _ _ x _).2 ⟨j, by omega, b, (racy_take a).1 c⟩
  have hrt : ∀ j, j < n → (Racy (kdsOf (l.take n)) (lcsOf (l.take n)) j ↔ Racy (kdsOf l) (lcsOf l) j) := fun j hj => by rw [hk, hl]; exact racy_take hj
  rcases racy_least (kdsOf l) (lcsOf l) l.length with hno | ⟨j, hj, hr, hm⟩
  · have e3 := firstV_none (l := l.take n) h1 (fun j hj hr => hno j (by omega) ((hrt j (by omega)).1 hr))
    exact ⟨_, _, _, _, _, _, _, _, _, _, hd1, hd2, e3, firstV_none h0 hno, hsub, .inr (.inl ⟨rfl, rfl⟩)⟩
  · obtain ⟨i, hi, hi2, hi3, e4⟩ := first_some h0 hj hr hm
    by_cases hjn : j < n
    · have t : ∀ k, k < j → (Touch (kdsOf (l.take n)) (lcsOf (l.take n)) k j ∧ ¬ Ahead (kdsOf (l.take n)) k j ↔ Touch (kdsOf l) (lcsOf l) k j ∧ ¬ Ahead (kdsOf l) k j) := fun k hkj => by
        rw [hk, hl, ahead_take hjn]
        unfold Touch
        rw [getD_take (by omega), getD_take hjn, getD_take (by omega), getD_take hjn]
      have e3 := firstV_some (l := l.take n) h1 (by omega : j < (l.take n).length) (fun k hkj hq => hm k hkj ((hrt k (by omega)).1 hq)) hi ((t i hi).2 hi2) (fun k hki hq => hi3 k hki ((t k (by omega)).1 hq))
      rw [hl, getD_take hjn] at e3
      exact ⟨_, _, _, _, _, _, _, _, _, _, hd1, hd2, e3, e4, hsub, .inl ⟨rfl, rfl, rfl, rfl, rfl, by omega⟩⟩
    · have e3 := firstV_none (l := l.take n) h1 (fun k hkn hq => hm k (by omega) ((hrt k (by omega)).1 hq))
      exact ⟨_, _, _, _, _, _, _, _, _, _, hd1, hd2, e3, e4, hsub, .inr (.inr ⟨rfl, rfl, by omega⟩)⟩
theorem has_ev (l : List Int) (v : Int) (hl : l.length ≤ 4096) (hv : v ∈ l) : Ev (fun k => plunderlaw19_has.f k l v) true := by
  have : ∀ (d i : Nat), i + d = l.length → v ∈ l.drop i → Ev (fun k => plunderlaw19_has.l0 k l v (i : Int)) true := by
    intro d
    induction d with
    | zero => intro i hi hm; rw [List.drop_of_length_le (by omega)] at hm; cases hm
    | succ d ih =>
      intro i hi hm
      have hlt : i < l.length := by omega
      rw [List.drop_eq_getElem_cons hlt] at hm
      have hr : rd l (i : Int) = l[i] := by
        unfold rd
        rw [Int.toNat_natCast, List.getD_eq_getElem?_getD, List.getElem?_eq_getElem hlt]
        rfl
      by_cases e : l[i] = v
      · refine Ev.step (f := fun _ => some true) (fun k => ?_) (Ev.now _)
        simp only [plunderlaw19_has.l0]
        rw [if_pos (by omega), if_pos (by omega), hr, if_pos e]
      · refine Ev.step (fun k => ?_) (ih (i + 1) (by omega) (by rcases List.mem_cons.1 hm with h | h; exact absurd h.symm e; exact h))
        simp only [plunderlaw19_has.l0]
        rw [if_pos (by omega), if_pos (by omega), hr, if_neg e, w64s (by omega)]
  exact this l.length 0 (by omega) hv
end Go.Proofs.Ytkecgjmbamaejaa.P
namespace Go.Proofs.Ytkecgjmbamaejaa.P
open Go.RowKit Go.Proofs.YtkecgjmbamaejaaW.PrintWords Go.Proofs.YtkecgjmbamaejaaW.PrintLast Go.Proofs.YtkecgjmbamaejaaW.PrintMore
set_option linter.unusedVariables false
set_option linter.unusedSimpArgs false
theorem cut_n {A : Option Addr} {n m c : Nat} (hm : m ≤ n) (hc : n ≤ c) : ∀ W : World, (Instr.slice 22 (.slice A n c) none (some (.int .i64 (m : Int))) none).run Try.prog W = .ok (.slice A m c) W := by
  intro W
  obtain ⟨i0, hi, -, -, -⟩ := info_parts info52
  have := cut_to (P := Try.prog) 22 52 .i64 Try.underlying22 hi A n c (m : Int) (by omega) (by omega) hc W
  rwa [Int.toNat_natCast] at this
theorem det_good (l : List S52) (dl : List Int) (hv : detV l = (dl, 0)) (hw : wfB l = true) (hl : l.length < 1099511627776) (A : Option Addr) (c : Nat) (W : World) (h1 : Kd.C k52 W A l.length l) (h2 : l.length ≤ c) : Calls Try.prog 27 #[.slice A l.length c] W fun e w' => ∃ v0_ : Value, e = .returned (.tuple #[v0_, .int .i64 0]) ∧ Kd.R (Kd.int .i64) 2 w' W.heap.size (fun _ => True) v0_ dl ∧ Below W.heap.size W w' := by
  have hh := detect_calls A c l W h1 h2 hw hl
  unfold DetPost at hh
  rw [hv] at hh
  exact hh
theorem fir_good (l : List S52) (x1 x2 x3 : Int) (s : Bool) (e0 : Int) (hv : firstV l = (x1, x2, x3, s, e0)) (hw : wfB l = true) (hl : l.length < 1099511627776) (A : Option Addr) (c : Nat) (W : World) (h1 : Kd.C k52 W A l.length l) (h2 : l.length ≤ c) : Calls Try.prog 23 #[.slice A l.length c] W fun e w' => e = .returned (.tuple #[.agg #[.int .i64 x1, .int .i64 x2, .int .i64 x3], .bool s, .int .i64 e0]) ∧ Below W.heap.size W w' := by
  have hh := first_calls A c l W h1 h2 hw hl
  unfold FirPost at hh
  rw [hv] at hh
  exact hh
/-- two rows, and records -/
structure PZ (w W : World) (bs : List (Nat × Array Value × TypeId)) (v5 v7 : Value) (d1 d2 : List Int) : Prop where
  L : Locs w W bs
  h5 : RP w.heap.size W v5 d1
  h7 : RP w.heap.size W v7 d2
theorem PZ.step {w W W' : World} {bs : List (Nat × Array Value × TypeId)} {v5 v7 : Value} {d1 d2 : List Int} (h : PZ w W bs v5 v7 d1 d2) (hb : Below W.heap.size W W') : PZ w W' bs v5 v7 d1 d2 := ⟨h.L.step hb, h.h5.below hb, h.h7.below hb⟩
theorem PZ.drew {w W : World} {bs : List (Nat × Array Value × TypeId)} {v5 v7 : Value} {d1 d2 : List Int} (h : PZ w W bs v5 v7 d1 d2) : PZ w W.drew bs v5 v7 d1 d2 := h.step (below_drew (Below.refl _ _))
theorem PZ.drewN {w W : World} {bs : List (Nat × Array Value × TypeId)} {v5 v7 : Value} {d1 d2 : List Int} (h : PZ w W bs v5 v7 d1 d2) (n : Nat) : PZ w (W.drewN n) bs v5 v7 d1 d2 := h.step (pw_below_drewN (Below.refl _ _) n)
theorem drawn_below {w w' : World} (h : Drawn0 w w') : Below w.heap.size w w' := by
  obtain ⟨n, rfl⟩ := h
  exact pw_below_drewN (Below.refl _ _) n
theorem PZ.set {w W : World} {bs : List (Nat × Array Value × TypeId)} {v5 v7 : Value} {d1 d2 : List Int} (h : PZ w W bs v5 v7 d1 d2) (i : Nat) {g : Nat} {cs : Array Value} {t : TypeId} (hi : bs[i]? = some (g, cs, t)) (ht : t = 37 ∨ t = 52) (j : Nat) (v : Value) : PZ w (W.setCell ⟨g, j, none⟩ v) (bs.set i (g, cs.setIfInBounds j v, t)) v5 v7 d1 d2 := by
  have hc := h.L.at i hi
  have ne : ∀ {u : Value} {l : List Int}, RP w.heap.size W u l → ∀ k, some k = u.ownBlock → k ≠ g := fun hu k hk e => by
    obtain ⟨c, hc2⟩ := Kd.R_typed hu k hk.symm
    exact blk_ne hc2 hc (by rcases ht with rfl | rfl <;> decide) e
  exact ⟨h.L.set i hi j v, Kd.R_far (p := ⟨g, j, none⟩) h.h5 (fun k hk => ne h.h5 k hk) v, Kd.R_far (p := ⟨g, j, none⟩) h.h7 (fun k hk => ne h.h7 k hk) v⟩
section
variable {P : Program} {ops : Array Oper} {rest : List Oper} {o : Oper} {a : Act} {Q : Exit → Act → World → Prop}
theorem box_PZ {w W : World} {bs : List (Nat × Array Value × TypeId)} {v5 v7 : Value} {d1 d2 : List Int} (HL : PZ w W bs v5 v7 d1 d2) (hgd : o.guard = none) {N : Tmp} (_hd : o.dst = some N) {cs : Array Value} {t : TypeId}
    (hrun : (execOp a.eval o).run P W = .ok (.value (.pointer (some ⟨W.heap.size, 0, none⟩))) (W.alloc (.cells cs t (0, 0))))
    (h : ∀ g w1, Aside0 (PZ w w1 ((g, cs, t) :: bs) v5 v7 d1 d2) → wpList P ops Q rest (a.put o.dst (.pointer (some ⟨g, 0, none⟩))) w1) : wpList P ops Q (o :: rest) a W :=
  Kd.event_run hgd hrun (h _ _ ⟨⟨HL.L.alloc cs t, HL.h5.below (below_alloc (Below.refl _ _) _), HL.h7.below (below_alloc (Below.refl _ _) _)⟩⟩)
end
def plunderlaw19_RacesPrefix.f (k : Nat) (l0 : List S52) (a1 : Int) : Option Bool := if l0.length < 17592186044416 ∧ wfB l0 = true then some true else none
set_option maxHeartbeats 4000000 in
set_option maxRecDepth 100000 in
theorem plunderlaw19_RacesPrefix.calls (k : Nat) (A0 : Option Addr) (c0 : Nat) (l0 : List S52) (a1 : Int) (r : Bool) (w : World) (hr0 : Kd.C k52 w A0 l0.length l0) (hc0 : l0.length ≤ c0) (h : plunderlaw19_RacesPrefix.f k l0 a1 = some r) :
    Calls Try.prog 8 #[.slice A0 l0.length c0, .int .i64 a1] w fun e w' => e = .returned (.bool r) ∧ Below w.heap.size w w' := by
  unfold plunderlaw19_RacesPrefix.f at h
  by_cases hl : l0.length < 17592186044416 ∧ wfB l0 = true
  case neg => rw [if_neg hl] at h; cases h
  rw [if_pos hl] at h
  obtain rfl := Option.some.inj h
  clear h
  obtain ⟨k1, F1⟩ := Ev.rounds (sound_ev l0 hl.1)
  have HD := Aside0.mk hr0
  have HC := Aside0.mk hc0
  have HL := Aside0.mk (Locs.nil w)
  have HW := Aside0.mk hl.2
  have hu37 := Try.underlying37
  by_cases hgt : (l0.length : Int) > 4096
  · have hgb : decide (4096 < (l0.length : Int)) = true := decide_eq_true (by omega)
    clear hr0 hc0 hl F1
    go_enter Try.func8, Try.ntmps8
    go_wp2_with (first | (go_at_call 30; (with_reducible refine (head_calls _).mono ?_); rintro e_ wh ⟨rfl, hb_⟩; have HLn := Aside0.mk (HL.out.step hb_); clear HL hb_; have HL := HLn; clear HLn))
    go_ret
    exact ⟨rfl, HL.out.below⟩
  have hgb : decide (4096 < (l0.length : Int)) = false := decide_eq_false (by omega)
  by_cases h0 : (chk l0).1 = 0
  case neg =>
    rw [decide_eq_false h0] at F1
    have G1 := Aside0.mk F1
    clear hr0 hc0 hl F1 h0
    go_enter Try.func8, Try.ntmps8
    go_wp2_with (first | (go_at_call 29; have hcall := plunderlaw19_sound.calls k1 A0 c0 l0 false _ (Kd.C_below HD.out HL.out.below) HC.out G1.out; (with_reducible refine hcall.mono ?_); clear hcall; rintro e_ w2 ⟨rfl, hd_⟩; have HLn := Aside0.mk (HL.out.step (drawn_below hd_)); clear HL hd_; have HL := HLn; clear HLn) | (go_at_call 30; (with_reducible refine (head_calls _).mono ?_); rintro e_ wh ⟨rfl, hb_⟩; have HLn := Aside0.mk (HL.out.step hb_); clear HL hb_; have HL := HLn; clear HLn))
    go_ret
    exact ⟨rfl, HL.out.below⟩
  rw [decide_eq_true h0] at F1
  have G1 := Aside0.mk F1
  have hlen := (chk_good h0).len
  obtain ⟨n, hn, hmod⟩ := mod_ev' a1 (l0.length + 1) (by omega) (by omega)
  have hn2 : n ≤ l0.length := by omega
  obtain ⟨d1, d2, x1, x2, x3, y1, y2, y3, s1, s2, hx⟩ := PX.all h0 hn2
  have hcut := cut_n (A := A0) hn2 hc0
  have hln : (l0.take n).length = n := by rw [List.length_take]; omega
  have HTK : Aside0 (∀ W, Below w.heap.size w W → Kd.C k52 W A0 (l0.take n).length (l0.take n)) := ⟨fun W hW => Kd.C_take (Kd.C_below hr0 hW) hn2⟩
  have HLN := Aside0.mk hln
  rw [show (((l0.length + 1 : Nat)) : Int) = (l0.length : Int) + 1 from Int.natCast_succ _] at hmod
  have HMOD := Aside0.mk hmod
  have HX := Aside0.mk hx
  have hl4 : (l0.length : Int) ≤ 4096 := by omega
  have HN := Aside0.mk (And.intro hn2 hlen)
  clear hr0 hc0 hl F1 h0 hx hmod hln hn2 hn hlen hgt
  go_enter Try.func8, Try.ntmps8
  go_upto_region 4 with (first | (go_at_call 29; have hcall := plunderlaw19_sound.calls k1 A0 c0 l0 true _ (Kd.C_below HD.out HL.out.below) HC.out G1.out; (with_reducible refine hcall.mono ?_); clear hcall; rintro e_ w2 ⟨rfl, hd_⟩; have HLn := Aside0.mk (HL.out.step (drawn_below hd_)); clear HL hd_; have HL := HLn; clear HLn) | (go_at_call 33; (with_reducible refine (plunderlaw19_mod.calls a1 ((l0.length : Int) + 1) (n : Int) _ HMOD.out).mono ?_); rintro e_ w3 ⟨rfl, hd_⟩; have HLn := Aside0.mk (HL.out.step (drawn_below hd_)); clear HL hd_; have HL := HLn; clear HLn))
  obtain ⟨HLl, HRL⟩ : Aside0 (wfB (l0.take n) = true ∧ (l0.take n).length < 1099511627776) ∧ Aside0 (l0.length < 1099511627776) := ⟨⟨wfB_take HW.out n, by rw [HLN.out]; have := HN.out; omega⟩, ⟨by have := HN.out; omega⟩⟩
  have HDT : Aside0 (∀ W, Below w.heap.size w W → Calls Try.prog 27 #[.slice A0 n c0] W fun e w' => ∃ v0_ : Value, e = .returned (.tuple #[v0_, .int .i64 0]) ∧ Kd.R (Kd.int .i64) 2 w' W.heap.size (fun _ => True) v0_ d1 ∧ Below W.heap.size W w') := ⟨fun W hW => by
    have h := det_good (l0.take n) d1 HX.out.e1 HLl.out.1 HLl.out.2 A0 c0 W (HTK.out W hW) (by rw [HLN.out]; have := HC.out; have := HN.out; omega)
    rwa [HLN.out] at h⟩
  have HDA : Aside0 (∀ W, Below w.heap.size w W → Calls Try.prog 27 #[.slice A0 l0.length c0] W fun e w' => ∃ v0_ : Value, e = .returned (.tuple #[v0_, .int .i64 0]) ∧ Kd.R (Kd.int .i64) 2 w' W.heap.size (fun _ => True) v0_ d2 ∧ Below W.heap.size W w') := ⟨fun W hW => det_good l0 d2 HX.out.e2 HW.out HRL.out A0 c0 W (Kd.C_below HD.out hW) HC.out⟩
  have HFT : Aside0 (∀ W, Below w.heap.size w W → Calls Try.prog 23 #[.slice A0 n c0] W fun e w' => e = .returned (.tuple #[.agg #[.int .i64 x1, .int .i64 x2, .int .i64 x3], .bool s1, .int .i64 0]) ∧ Below W.heap.size W w') := ⟨fun W hW => by
    have h := fir_good (l0.take n) x1 x2 x3 s1 0 HX.out.e3 HLl.out.1 HLl.out.2 A0 c0 W (HTK.out W hW) (by rw [HLN.out]; have := HC.out; have := HN.out; omega)
    rwa [HLN.out] at h⟩
  have HFA : Aside0 (∀ W, Below w.heap.size w W → Calls Try.prog 23 #[.slice A0 l0.length c0] W fun e w' => e = .returned (.tuple #[.agg #[.int .i64 y1, .int .i64 y2, .int .i64 y3], .bool s2, .int .i64 0]) ∧ Below W.heap.size W w') := ⟨fun W hW => fir_good l0 y1 y2 y3 s2 0 HX.out.e4 HW.out HRL.out A0 c0 W (Kd.C_below HD.out hW) HC.out⟩
  go_upto_region 5 with (first | (go_at_call 27; have hcall := HDT.out _ HL.out.below; (with_reducible refine hcall.mono ?_); clear hcall; rintro e_ w4 ⟨v5, rfl, hR, hb_⟩; have HR5 := Aside0.mk (Kd.R_tight rfl (Kd.R_lower hR (below_size HL.out.below))); have HLn := Aside0.mk (HL.out.step hb_); clear HL hb_ hR; have HL := HLn; clear HLn))
  go_upto_region 6 with (first | (go_at_call 27; have hcall := HDA.out _ HL.out.below; (with_reducible refine hcall.mono ?_); clear hcall; rintro e_ w5 ⟨v7, rfl, hR, hb_⟩; have HS : Aside0 (PZ w w5 [] v5 v7 d1 d2) := ⟨⟨HL.out.step hb_, RP.below HR5.out hb_, Kd.R_tight rfl (Kd.R_lower hR (below_size HL.out.below))⟩⟩; clear HL hb_ hR HR5))
  obtain ⟨A5, c5, hv5⟩ := Kd.R_slice HS.out.h5
  subst hv5
  obtain ⟨A7, c7, hv7⟩ := Kd.R_slice HS.out.h7
  subst hv7
  go_upto_region 7 with (first | (go_at_call 23; have hcall := HFT.out _ HS.out.L.below; (with_reducible refine hcall.mono ?_); clear hcall; rintro e_ w6 ⟨rfl, hb_⟩; have HSn := Aside0.mk (HS.out.step hb_); clear HS hb_; have HS := HSn; clear HSn; (try clear hf); have hf := HS.out.L.facts; simp only [factsOf, List.cons_append, List.nil_append] at hf; skip) | ((with_reducible refine gate_dst (N := 9) rfl ?_); (try (refine gate_guard (by rfl) ?_; dsimp only)); refine box_PZ (by repeat (first | exact HS.out | refine PZ.drew ?_ | refine PZ.drewN ?_ _)) ?hg (N := 9) ?hd (cs := #[.int .i64 0, .int .i64 0, .int .i64 0]) (t := 37) ?hr ?_; (case hd => rfl); (case hg => rfl); (case hr => first | (go_simp; done) | (go_simp; rfl)); intro g9 wb4 HLn; clear HS; have HS := HLn; clear HLn; (try clear hf); have hf := HS.out.L.facts; simp only [factsOf, List.cons_append, List.nil_append] at hf; skip))
  generalize hwt : World.setCell _ _ _ = w7
  have HSn : Aside0 (PZ w w7 [(g9, #[.int .i64 x1, .int .i64 x2, .int .i64 x3], 37)] (.slice A5 d1.length c5) (.slice A7 d2.length c7) d1 d2) := ⟨by rw [← hwt]; exact ((HS.out.set 0 rfl (Or.inl rfl) 0 _).set 0 rfl (Or.inl rfl) 1 _).set 0 rfl (Or.inl rfl) 2 _⟩
  clear HS hwt; have HS := HSn; clear HSn; (try clear hf); have hf := HS.out.L.facts; simp only [factsOf, List.cons_append, List.nil_append] at hf; skip
  go_upto_region 8 with (first | (go_at_call 23; have hcall := HFA.out _ HS.out.L.below; (with_reducible refine hcall.mono ?_); clear hcall; rintro e_ w8 ⟨rfl, hb_⟩; have HSn := Aside0.mk (HS.out.step hb_); clear HS hb_; have HS := HSn; clear HSn; (try clear hf); have hf := HS.out.L.facts; simp only [factsOf, List.cons_append, List.nil_append] at hf; skip) | ((with_reducible refine gate_dst (N := 12) rfl ?_); (try (refine gate_guard (by rfl) ?_; dsimp only)); refine box_PZ (by repeat (first | exact HS.out | refine PZ.drew ?_ | refine PZ.drewN ?_ _)) ?hg (N := 12) ?hd (cs := #[.int .i64 0, .int .i64 0, .int .i64 0]) (t := 37) ?hr ?_; (case hd => rfl); (case hg => rfl); (case hr => first | (go_simp; done) | (go_simp; rfl)); intro g12 wb7 HLn; clear HS; have HS := HLn; clear HLn; (try clear hf); have hf := HS.out.L.facts; simp only [factsOf, List.cons_append, List.nil_append] at hf; skip))
  generalize hwt : World.setCell _ _ _ = w9
  have HSn : Aside0 (PZ w w9 [(g12, #[.int .i64 y1, .int .i64 y2, .int .i64 y3], 37), (g9, #[.int .i64 x1, .int .i64 x2, .int .i64 x3], 37)] (.slice A5 d1.length c5) (.slice A7 d2.length c7) d1 d2) := ⟨by rw [← hwt]; exact ((HS.out.set 0 rfl (Or.inl rfl) 0 _).set 0 rfl (Or.inl rfl) 1 _).set 0 rfl (Or.inl rfl) 2 _⟩
  clear HS hwt; have HS := HSn; clear HSn; (try clear hf); have hf := HS.out.L.facts; simp only [factsOf, List.cons_append, List.nil_append] at hf; skip
  obtain ⟨n5, hn5⟩ : ∃ n, d1.length = n := ⟨_, rfl⟩
  obtain ⟨n7, hn7⟩ : ∃ n, d2.length = n := ⟨_, rfl⟩
  rw [hn5, hn7] at HS ⊢
  have HN57 : Aside0 (d1.length = n5 ∧ d2.length = n7 ∧ n5 ≤ 4096 ∧ n7 ≤ 4096) := ⟨hn5, hn7, by have := detV_len (l0.take n); rw [HX.out.e1] at this; rw [← hn5]; exact this, by have := detV_len l0; rw [HX.out.e2] at this; rw [← hn7]; exact this⟩
  clear hn5 hn7
  go_wp2_with (first | fail)
  go_loopg [15, 16] (n5 + 1) (fun kq v15 v16 w' => ∃ i : Nat, v15 = .int .i64 (i : Int) ∧ Aside0 (n5 - i < kq ∧ i ≤ n5) ∧ Aside0 (PZ w w' [(g12, #[.int .i64 y1, .int .i64 y2, .int .i64 y3], 37), (g9, #[.int .i64 x1, .int .i64 x2, .int .i64 x3], 37)] (.slice A5 n5 c5) (.slice A7 n7 c7) d1 d2))
  case atStart => exact ⟨0, rfl, ⟨by omega, by omega⟩, HS⟩
  case round =>
    clear HS hf
    obtain ⟨i, rfl, HI, HS⟩ := hrel
    (try clear hf); have hf := HS.out.L.facts; simp only [factsOf, List.cons_append, List.nil_append] at hf; skip
    by_cases hi : i < n5
    · have hi2 : (i : Int) < (n5 : Int) := by omega
      have HIN := Aside0.mk hi
      have hi4 : (i : Int) ≤ 4096 := by have := HN57.out; omega
      obtain ⟨gb, c9, e_, -⟩ := Kd.R_form HS.out.h5 (by have := HN57.out; omega)
      obtain ⟨rfl, rfl⟩ : A5 = some ⟨gb, 0, none⟩ ∧ c5 = c9 := by injection e_ with e1 e2 e3; exact ⟨e1, e3⟩
      clear e_
      have hx1 := (RP.cell HS.out.h5 HN57.out.1 hi).1
      have hmem : d1.getD i 0 ∈ d2 := HX.out.sub _ (by
        have hlt : i < d1.length := by rw [HN57.out.1]; exact hi
        rw [List.getD_eq_getElem?_getD, List.getElem?_eq_getElem hlt]
        exact List.getElem_mem hlt)
      obtain ⟨kh, hkh⟩ := Ev.rounds (has_ev d2 (d1.getD i 0) (by have := HN57.out; omega) hmem)
      generalize d1.getD i 0 = x at hx1 hkh
      have HKH := Aside0.mk hkh
      clear hi hmem hkh
      go_wp2_with (first | (go_at_call 35; have hcall := plunderlaw19_has.calls kh A7 c7 d2 x true _ (Kd.R_reads' (n := d2.length) (by have h := HS.out.h7; rw [← HN57.out.2.1] at h; exact h)).2.2 (Kd.R_reads' (n := d2.length) (by have h := HS.out.h7; rw [← HN57.out.2.1] at h; exact h)).2.1 HKH.out; rw [HN57.out.2.1] at hcall; (with_reducible refine hcall.mono ?_); clear hcall; rintro e_ w10 ⟨rfl, hd_⟩; have HSn := Aside0.mk (HS.out.step (drawn_below hd_)); clear HS hd_; have HS := HSn; clear HSn; (try clear hx1); (try clear hf)))
      go_roundg (n5 - (i + 1) + 1)
      case measure => have := HI.out.1; have := HIN.out; omega
      case rel => exact ⟨i + 1, (by first | rfl | rw [wrap_ix (by have := HIN.out; have := HN57.out; omega)] | simp), ⟨by omega, by have := HIN.out; omega⟩, HS⟩
    · have hlt : ¬ ((i : Int) < (n5 : Int)) := by omega
      clear hi
      rcases HX.out.cases with ⟨rfl, rfl, rfl, rfl, rfl, hlt2⟩ | ⟨rfl, rfl⟩ | ⟨rfl, rfl, hlt2⟩
      · go_wp2_with (first | (go_at_call 30; (with_reducible refine (head_calls _).mono ?_); rintro e_ wh ⟨rfl, hb_⟩; have HSn := Aside0.mk (HS.out.step hb_); clear HS hb_; have HS := HSn; clear HSn))
        go_ret
        exact ⟨rfl, HS.out.L.below⟩
      · go_wp2_with (first | (go_at_call 30; (with_reducible refine (head_calls _).mono ?_); rintro e_ wh ⟨rfl, hb_⟩; have HSn := Aside0.mk (HS.out.step hb_); clear HS hb_; have HS := HSn; clear HSn))
        go_ret
        exact ⟨rfl, HS.out.L.below⟩
      · have hlt3 := decide_eq_false hlt2
        go_wp2_with (first | (go_at_call 30; (with_reducible refine (head_calls _).mono ?_); rintro e_ wh ⟨rfl, hb_⟩; have HSn := Aside0.mk (HS.out.step hb_); clear HS hb_; have HS := HSn; clear HSn))
        go_ret
        exact ⟨rfl, HS.out.L.below⟩
end Go.Proofs.Ytkecgjmbamaejaa.P
