/- Plain law: sound, mod, the two orders. -/
import Derived.Test.YtkecgjmbamaejaaPSPx16
import Derived.Test.YtkecgjmbamaejaaPSPx17
import Derived.Test.YtkecgjmbamaejaaPSPx0
import Derived.Test.YtkecgjmbamaejaaPSPx3
import Derived.Test.YtkecgjmbamaejaaPSLate
import Derived.Test.YtkecgjmbamaejaaPSRB
import Derived.Test.YtkecgjmbamaejaaPSLat
import Derived.Deep.DeepCutAuto
import Derived.Test.YtkecgjmbamaejaaPSPx2
import Derived.Test.YtkecgjmbamaejaaPSRC
import Derived.Test.YtkecgjmbamaejaaPSRD
set_option linter.unusedVariables false
set_option linter.unusedSimpArgs false
namespace Go.Proofs.Ytkecgjmbamaejaa.P
open Go.RowKit Go.Proofs.YtkecgjmbamaejaaW.PrintWords Go.Proofs.YtkecgjmbamaejaaW.PrintLast Go.Proofs.YtkecgjmbamaejaaW.PrintMore
set_option linter.unusedVariables false

end Go.Proofs.Ytkecgjmbamaejaa.P
namespace Go.Proofs.Ytkecgjmbamaejaa.P
open Go.RowKit Go.Proofs.YtkecgjmbamaejaaW.PrintWords Go.Proofs.YtkecgjmbamaejaaW.PrintLast Go.Proofs.YtkecgjmbamaejaaW.PrintMore
set_option linter.unusedVariables false
theorem sound_l0 (l : List S52) (hl : l.length < 17592186044416) : ∀ (d j : Nat) (o : Int), j + d = l.length → 0 ≤ o → o ≤ (j : Int) → Ev (fun k => plunderlaw19_sound.l0 k l o (j : Int)) (decide ((ck o j (l.drop j)).1 = 0 ∧ (l.length : Int) ≤ 4096)) := by
  intro d
  induction d with
  | zero =>
    intro j o hj h0 h1
    refine Ev.step (f := fun _ => some (decide ((l.length : Int) ≤ 4096))) (fun k => ?_) ?_
    · simp only [plunderlaw19_sound.l0]
      rw [if_neg (by omega)]
    · rw [List.drop_of_length_le (by omega)]
      have : decide ((ck o j []).1 = 0 ∧ (l.length : Int) ≤ 4096) = decide ((l.length : Int) ≤ 4096) := by
        congr 1
        exact propext ⟨fun h => h.2, fun h => ⟨rfl, h⟩⟩
      rw [this]
      exact Ev.now _
  | succ d ih =>
    intro j o hj h0 h1
    have hlt : j < l.length := by omega
    rw [List.drop_eq_getElem_cons hlt]
    have bad : ∀ {e : S52}, (e.f0 < 0 ∨ e.f0 > 4 ∨ (e.f0 = 1 ∧ o = 0)) → decide ((ck o j (e :: l.drop (j + 1))).1 = 0 ∧ (l.length : Int) ≤ 4096) = false := fun h => by
      rw [ck_no h]
      exact decide_eq_false (fun h => by simp at h)
    have hr := rd52 l j hlt
    by_cases k0 : l[j].f0 = 0
    · rw [ck_yes (by omega) (o + 1) (by rw [if_pos k0])]
      refine Ev.step (f := fun k => plunderlaw19_sound.l0 k l (o + 1) ((j + 1 : Nat) : Int)) (fun k => ?_) (ih (j + 1) (o + 1) (by omega) (by omega) (by omega))
      simp only [plunderlaw19_sound.l0]
      rw [if_pos (by omega), if_pos (by omega), hr, if_pos k0, w64 (by omega) (by omega), w64s (by omega)]
    by_cases k1 : l[j].f0 = 1
    · by_cases ho : o = 0
      · rw [bad (by omega)]
        refine Ev.step (f := fun _ => some false) (fun k => ?_) (Ev.now _)
        simp only [plunderlaw19_sound.l0]
        rw [if_pos (by omega), if_pos (by omega), hr, if_neg k0, if_pos k1, w64 (by omega) (by omega), if_pos (by omega)]
      · rw [ck_yes (by omega) (o - 1) (by rw [if_neg k0, if_pos k1]; omega)]
        refine Ev.step (f := fun k => plunderlaw19_sound.l0 k l (o - 1) ((j + 1 : Nat) : Int)) (fun k => ?_) (ih (j + 1) (o - 1) (by omega) (by omega) (by omega))
        simp only [plunderlaw19_sound.l0]
        rw [if_pos (by omega), if_pos (by omega), hr, if_neg k0, if_pos k1, w64 (by omega) (by omega), if_neg (by omega), w64s (by omega)]
    by_cases k2 : l[j].f0 = 2 ∨ l[j].f0 = 3 ∨ l[j].f0 = 4
    · rw [ck_yes (by omega) o (by rw [if_neg k0, if_neg k1]; omega)]
      refine Ev.step (f := fun k => plunderlaw19_sound.l0 k l o ((j + 1 : Nat) : Int)) (fun k => ?_) (ih (j + 1) o (by omega) (by omega) (by omega))
      simp only [plunderlaw19_sound.l0]
      rw [if_pos (by omega), if_pos (by omega), hr, if_neg k0, if_neg k1, w64s (by omega)]
      by_cases e2 : l[j].f0 = 2
      · rw [if_pos e2]
      rw [if_neg e2]
      by_cases e3 : l[j].f0 = 3
      · rw [if_pos e3]
      rw [if_neg e3, if_pos (by omega)]
    · rw [bad (by omega)]
      refine Ev.step (f := fun _ => some false) (fun k => ?_) (Ev.now _)
      simp only [plunderlaw19_sound.l0]
      rw [if_pos (by omega), if_pos (by omega), hr, if_neg k0, if_neg k1, if_neg (by omega), if_neg (by omega), if_neg (by omega)]
theorem sound_ev (l : List S52) (hl : l.length < 17592186044416) : Ev (fun k => plunderlaw19_sound.f k l) (decide ((chk l).1 = 0)) := by
  have h := sound_l0 l hl l.length 0 0 (by omega) (by omega) (by omega)
  have e : decide ((ck 0 0 (l.drop 0)).1 = 0 ∧ (l.length : Int) ≤ 4096) = decide ((chk l).1 = 0) := by
    congr 1
    unfold chk
    by_cases hb : (l.length : Int) > 4096
    · rw [if_pos hb]
      exact propext ⟨fun h => by omega, fun h => by simp at h⟩
    · rw [if_neg hb]
      exact propext ⟨fun h => h.1, fun h => ⟨h, by omega⟩⟩
  rw [e] at h
  exact h
theorem mod_ev (x : Int) (n : Nat) (hn : 0 < n) (hb : n ≤ 4096) : ∃ m : Nat, m < n ∧ plunderlaw19_mod.f x (n : Int) = some (m : Int) := by
  have h1 : Int.tmod x (n : Int) < (n : Int) := Int.tmod_lt_of_pos x (by omega)
  have h2 : -(n : Int) < Int.tmod x (n : Int) := by
    have := Int.lt_tmod_of_pos x (b := (n : Int)) (by omega)
    omega
  unfold plunderlaw19_mod.f
  rw [if_neg (by omega)]
  generalize Int.tmod x (n : Int) = t at h1 h2
  by_cases ht : t < 0
  · refine ⟨(t + n).toNat, by omega, ?_⟩
    rw [if_pos ht, w64 (by omega) (by omega)]
    congr 1
    omega
  · refine ⟨t.toNat, by omega, ?_⟩
    rw [if_neg ht]
    congr 1
    omega
end Go.Proofs.Ytkecgjmbamaejaa.P
