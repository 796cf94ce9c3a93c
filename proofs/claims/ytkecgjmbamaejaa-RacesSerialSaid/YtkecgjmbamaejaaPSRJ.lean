/- Plain law: RacesSerial. -/
import Derived.Test.YtkecgjmbamaejaaPSPx0
import Derived.Test.YtkecgjmbamaejaaPSPx1
import Derived.Test.YtkecgjmbamaejaaPSPx3
import Derived.Test.YtkecgjmbamaejaaPSPx2
import Derived.Test.YtkecgjmbamaejaaPSLate
import Derived.Test.YtkecgjmbamaejaaPSRB
import Derived.Test.YtkecgjmbamaejaaPSLat
import Derived.Deep.DeepCutAuto
import Derived.Test.YtkecgjmbamaejaaPSRH
import Derived.Test.YtkecgjmbamaejaaPSPx21
import Derived.Test.YtkecgjmbamaejaaPSRI
set_option linter.unusedVariables false
set_option linter.unusedSimpArgs false
namespace Go.Proofs.Ytkecgjmbamaejaa.P
open Go.RowKit Go.Proofs.YtkecgjmbamaejaaW.PrintWords Go.Proofs.YtkecgjmbamaejaaW.PrintLast Go.Proofs.YtkecgjmbamaejaaW.PrintMore
set_option linter.unusedVariables false
theorem detect_ev {l : List S52} (hw : wfB l = true) (hl : l.length < 1099511627776) : Ev (fun k => races_Detect.f k l) (detV l) := by
  refine Ev.congr (f := fun _ => some (detV l)) (fun k => ?_) (Ev.now _)
  unfold races_Detect.f
  rw [if_pos ⟨hw, hl⟩]
end Go.Proofs.Ytkecgjmbamaejaa.P
namespace Go.Proofs.Ytkecgjmbamaejaa.P
open Go.RowKit Go.Proofs.YtkecgjmbamaejaaW.PrintWords Go.Proofs.YtkecgjmbamaejaaW.PrintLast Go.Proofs.YtkecgjmbamaejaaW.PrintMore
set_option linter.unusedVariables false
/-- each return is followed by a sync -/
def SL (ks : List Int) : Prop := ∀ j, ks.getD j 0 = 1 → ks.getD (j + 1) 0 = 2
/-- what is outstanding -/
structure SI (ks : List Int) (n : Nat) : Prop where
  tl : ∀ f ∈ (frs ks n).tail, f.p.flatten = []
  hd : (∀ f ∈ (frs ks n).head?, f.p.flatten = []) ∨ ks.getD n 0 = 2
theorem SI.all {ks : List Int} (hs : SL ks) : ∀ n, SI ks n
  | 0 => ⟨fun f h => by simp [frs] at h, .inl fun f h => by simp [frs] at h; subst h; rfl⟩
  | n + 1 => by
    have ih := SI.all hs n
    have e1 : frs ks (n + 1) = stepF (ks.getD n 0) n (frs ks n) := rfl
    obtain ⟨t1, t2⟩ := ih
    cases hf : frs ks n with
    | nil => exact absurd hf (frs_ne ks n)
    | cons f r =>
      rw [hf] at e1 t1 t2
      simp only [List.tail_cons, List.head?_cons] at t1 t2
      have t3 : ks.getD n 0 ≠ 2 → f.p.flatten = [] := fun h => t2.elim (fun h2 => h2 f rfl) (fun h2 => absurd h2 h)
      by_cases k0 : ks.getD n 0 = 0
      · simp only [stepF, if_pos k0] at e1
        refine ⟨fun g hg => ?_, .inl fun g hg => ?_⟩
        · rw [e1] at hg
          simp only [List.tail_cons] at hg
          rcases List.mem_cons.1 hg with rfl | hg
          · exact t3 (by omega)
          · exact t1 g hg
        · rw [e1] at hg
          simp at hg
          subst hg
          rfl
      by_cases k1 : ks.getD n 0 = 1
      · simp only [stepF, if_neg k0, if_pos k1] at e1
        cases r with
        | nil =>
          simp only at e1
          refine ⟨fun g hg => by rw [e1] at hg; simp at hg, .inl fun g hg => by rw [e1] at hg; simp at hg; subst hg; rfl⟩
        | cons g r2 =>
          simp only at e1
          refine ⟨fun q hq => ?_, .inr (hs n k1)⟩
          rw [e1] at hq
          simp only [List.tail_cons] at hq
          exact t1 q (List.mem_cons_of_mem _ hq)
      by_cases k2 : ks.getD n 0 = 2
      · simp only [stepF, if_neg k0, if_neg k1, if_pos k2] at e1
        refine ⟨fun g hg => by rw [e1] at hg; exact t1 g hg, .inl fun g hg => by rw [e1] at hg; simp at hg; subst hg; rfl⟩
      · simp only [stepF, if_neg k0, if_neg k1, if_neg k2] at e1
        refine ⟨fun g hg => by rw [e1] at hg; exact t1 g hg, .inl fun g hg => ?_⟩
        rw [e1] at hg
        simp at hg
        subst hg
        exact t3 k2
theorem postF_nil : ∀ {r : List Fr}, (∀ f ∈ r, f.p.flatten = []) → postF r = []
  | [], _ => rfl
  | f :: r, h => by rw [postF, h f List.mem_cons_self, postF_nil (fun g hg => h g (List.mem_cons_of_mem _ hg))]; rfl
/-- then whatever is earlier is ahead -/
theorem ahead_all {ks : List Int} (hs : SL ks) (hf : fair ks) {i n : Nat} (hn : n < ks.length) (hi : i < n) : Ahead ks i n := by
  have h := SI.all hs n
  have hm := (frs_mem ks hf n (by omega) i).2 hi
  rw [ord_split _ (ks.getD n 0)] at hm
  have hb : behindF (frs ks n) (ks.getD n 0) = [] := by
    cases hq : frs ks n with
    | nil => rfl
    | cons f r =>
      have h1 := h.tl
      have h2 := h.hd
      rw [hq] at h1 h2
      simp only [List.tail_cons, List.head?_cons] at h1 h2
      unfold behindF
      simp only [postF_nil h1, List.append_nil]
      split
      · rfl
      · rename_i hk
        rcases h2 with h2 | h2
        · exact h2 f rfl
        · exact absurd (.inr h2) hk
  rw [hb, List.append_nil] at hm
  exact hm
def expE (e : S52) : List S52 := if e.f0 = 1 then [e, ⟨2, 0⟩] else [e]
def expL (l : List S52) : List S52 := l.flatMap expE
theorem expL_snoc (l : List S52) (e : S52) : expL (l ++ [e]) = expL l ++ expE e := by unfold expL; rw [List.flatMap_append]; simp
theorem expL_len (l : List S52) : (expL l).length ≤ 2 * l.length := by
  induction l with
  | nil => simp [expL]
  | cons e r ih =>
    have e1 : expL (e :: r) = expE e ++ expL r := by simp [expL]
    rw [e1, List.length_append, List.length_cons]
    have : (expE e).length ≤ 2 := by unfold expE; split <;> simp
    omega
theorem expL_wf {l : List S52} (h : wfB l = true) : wfB (expL l) = true := by
  refine List.all_eq_true.2 fun e he => ?_
  obtain ⟨d, hd, he⟩ := List.mem_flatMap.1 he
  have hw := List.all_eq_true.1 h d hd
  unfold expE at he
  split at he
  · simp at he
    rcases he with rfl | rfl
    · exact hw
    · decide
  · simp at he
    subst he
    exact hw
theorem SL_cons {k : Int} {r : List Int} (h : SL r) (h1 : k = 1 → r.getD 0 0 = 2) : SL (k :: r) := by
  intro j hj
  cases j with
  | zero => simp at hj ⊢; simpa using h1 hj
  | succ j => simp at hj ⊢; simpa using h j (by simpa using hj)
theorem SL_exp : ∀ l : List S52, SL (kdsOf (expL l))
  | [] => fun j hj => by simp [expL, kdsOf] at hj
  | e :: r => by
    have e1 : expL (e :: r) = expE e ++ expL r := by simp [expL]
    rw [e1]
    have ih := SL_exp r
    unfold expE
    split
    · rename_i h
      show SL (e.f0 :: 2 :: kdsOf (expL r))
      exact SL_cons (SL_cons ih (fun h => by simp at h)) (fun _ => rfl)
    · rename_i h
      show SL (e.f0 :: kdsOf (expL r))
      exact SL_cons ih (fun h2 => absurd h2 h)
theorem ck_exp : ∀ (l : List S52) (o : Int) (i j : Nat), (ck o i l).1 = 0 → (ck o j (expL l)).1 = 0
  | [], o, i, j, _ => rfl
  | e :: r, o, i, j, h => by
    have e1 : expL (e :: r) = expE e ++ expL r := by simp [expL]
    rw [e1]
    by_cases hb : e.f0 < 0 ∨ e.f0 > 4 ∨ (e.f0 = 1 ∧ o = 0)
    · rw [ck_no hb] at h
      simp at h
    · rw [ck_yes hb _ rfl] at h
      unfold expE
      by_cases h1 : e.f0 = 1
      · rw [if_pos h1]
        show (ck o j (e :: ⟨2, 0⟩ :: expL r)).1 = 0
        rw [ck_yes hb _ rfl, ck_yes (by simp) _ rfl]
        simp only [if_neg (show ¬ (2 : Int) = 0 by decide), if_neg (show ¬ (2 : Int) = 1 by decide), Int.add_zero]
        exact ck_exp r _ _ _ h
      · rw [if_neg h1]
        show (ck o j (e :: expL r)).1 = 0
        rw [ck_yes hb _ rfl]
        exact ck_exp r _ _ _ h
theorem chk_exp {l : List S52} (h : (chk l).1 = 0) (hl : ¬ ((expL l).length : Int) > 4096) : (chk (expL l)).1 = 0 := by
  unfold chk at h ⊢
  rw [if_neg hl]
  split at h
  · simp at h
  · exact ck_exp l 0 0 0 h
theorem head_evS : Ev (fun k => plunderlaw19_head.f k) true := Ev.congr (fun _ => rfl) (Ev.now true)
theorem serial_j1 (l : List S52) (a1 a2 : Int) (h0 : (chk l).1 = 0) (hs : SL (kdsOf l)) (hw : wfB l = true) (hl : l.length < 1099511627776) (hp : 0 < l.length) : Ev (fun k => plunderlaw19_RacesSerial.j1 k a1 a2 l false) true := by
  have hg := chk_good h0
  obtain ⟨i, hi, hmi⟩ := mod_ev a1 l.length hp hg.len
  obtain ⟨j, hj, hmj⟩ := mod_ev a2 l.length hp hg.len
  have hd : detV l = ([], 0) := by
    unfold detV
    rw [if_pos h0]
    congr 1
    refine List.eq_nil_iff_forall_not_mem.2 fun x hx => ?_
    obtain ⟨q, h1, h2, z, h3, h4, h5⟩ := (detL_mem _ _ x _).1 hx
    exact h5 (ahead_all hs hg.fair (by rw [kds_len]; exact h1) h3)
  obtain ⟨⟨r, re⟩, e1, s1⟩ := par_ev l hl (i : Int) (j : Int)
  obtain ⟨p1, p2⟩ := s1.inn h0 ⟨by omega, by omega, by omega, by omega⟩
  simp only [Int.toNat_natCast] at p1 p2
  subst p1
  have hr : r = false := eq_false_of_ne_true fun h => by
    obtain ⟨h1, h2, h3⟩ := p2.1 h
    rcases Nat.lt_or_gt_of_ne h1 with hlt | hlt
    · exact h3 (ahead_all hs hg.fair (by rw [kds_len]; exact hj) hlt)
    · exact h2 (ahead_all hs hg.fair (by rw [kds_len]; exact hi) hlt)
  subst hr
  refine Ev.step (f := fun k => (races_Detect.f k l).bind fun bt650 => ((races_Parallel.f k l (i : Int) (j : Int)).bind fun bt656 => (if bt650.2 = 0 then (if (bt650.1.length : Int) = 0 then (if bt656.2 = 0 then (if bt656.1 = true then (some false) else ((plunderlaw19_head.f k).bind fun t658 => (some t658))) else (some false)) else (some false)) else (some false)))) (fun k => ?_) ?_
  · simp only [plunderlaw19_RacesSerial.j1]
    rw [if_neg (by decide), hmi, hmj]
    rfl
  · refine Ev.bind (detect_ev hw hl) (Ev.bind e1 ?_)
    rw [hd]
    simp only [if_true, List.length_nil]
    refine Ev.congr (f := fun k => (plunderlaw19_head.f k).bind fun t658 => some t658) (fun k => ?_) (Ev.bind head_evS (Ev.now true))
    rfl
theorem serial_l0 (l : List S52) (a1 a2 : Int) (h0 : (chk l).1 = 0) (hw : wfB l = true) : ∀ (d i : Nat), i + d = l.length → Ev (fun k => plunderlaw19_RacesSerial.l0 k l a1 a2 (expL (l.take i)) (i : Int)) true := by
  have hlen := (chk_good h0).len
  intro d
  induction d with
  | zero =>
    intro i hi
    rw [List.take_of_length_le (by omega)]
    have hb := expL_len l
    have hhead : Ev (fun k => plunderlaw19_RacesSerial.j1 k a1 a2 (expL l) true) true := by
      refine Ev.step (f := fun k => (plunderlaw19_head.f k).bind fun t649 => some t649) (fun k => ?_) (Ev.bind head_evS (Ev.now true))
      simp only [plunderlaw19_RacesSerial.j1]
      rw [if_pos trivial]
    by_cases hgt : ((expL l).length : Int) > 4096
    · refine Ev.step (fun k => ?_) hhead
      simp only [plunderlaw19_RacesSerial.l0]
      rw [if_neg (by omega), if_pos hgt]
    · by_cases hz : (expL l).length = 0
      · refine Ev.step (fun k => ?_) hhead
        simp only [plunderlaw19_RacesSerial.l0]
        rw [if_neg (by omega), if_neg hgt, hz]
        rfl
      · refine Ev.step (fun k => ?_) (serial_j1 (expL l) a1 a2 (chk_exp h0 hgt) (SL_exp l) (expL_wf hw) (by omega) (by omega))
        simp only [plunderlaw19_RacesSerial.l0]
        rw [if_neg (by omega), if_neg hgt, beq_eq_false_iff_ne.mpr (by omega)]
  | succ d ih =>
    intro i hi
    have hlt : i < l.length := by omega
    have h := ih (i + 1) (by omega)
    have e : l.take (i + 1) = l.take i ++ [l[i]] := by rw [List.take_add_one, List.getElem?_eq_getElem hlt]; rfl
    rw [e, expL_snoc] at h
    have hb := expL_len (l.take i)
    have hti : (l.take i).length ≤ 4096 := by rw [List.length_take]; omega
    refine Ev.step (fun k => ?_) h
    simp only [plunderlaw19_RacesSerial.l0]
    rw [if_pos (by omega), if_pos (by omega), if_pos (by omega), Option.bind_some, rd52 l i hlt, S52_eta, w64s (by omega)]
    unfold expE
    by_cases h1 : l[i].f0 = 1
    · rw [if_pos h1, if_pos (by rw [List.length_append, List.length_singleton]; omega), if_pos h1, List.append_assoc]
      rfl
    · rw [if_neg h1, if_neg h1]
theorem RacesSerial_pure (l : List S52) (a1 a2 : Int) (hl : l.length < 17592186044416) (hw : wfB l = true) : ∃ k, plunderlaw19_RacesSerial.f k l a1 a2 = some true := by
  refine Ev.rounds ?_
  unfold plunderlaw19_RacesSerial.f
  refine Ev.bind (sound_ev l hl) ?_
  by_cases h0 : (chk l).1 = 0
  · rw [decide_eq_true h0]
    simp only [if_true]
    have h := serial_l0 l a1 a2 h0 hw l.length 0 (by omega)
    simpa [expL] using h
  · rw [decide_eq_false h0]
    simp only [Bool.false_eq_true, if_false]
    exact Ev.bind head_evS (Ev.now true)
end Go.Proofs.Ytkecgjmbamaejaa.P
