/- RacesPrefix: its calls. -/
import Derived.Deep.RegionHeld3
import Derived.Test.YtkecgjmbamaejaaPAHead
import Derived.Test.YtkecgjmbamaejaaPAPx0
import Derived.Test.YtkecgjmbamaejaaPAPx3
import Derived.Test.YtkecgjmbamaejaaPALate
import Derived.Test.YtkecgjmbamaejaaPARB
import Derived.Test.YtkecgjmbamaejaaPALat
import Derived.Deep.DeepCutAuto
import Derived.Test.YtkecgjmbamaejaaPAPx1
import Derived.Test.YtkecgjmbamaejaaPAPx2
import Derived.Test.YtkecgjmbamaejaaPARH
import Derived.Test.YtkecgjmbamaejaaPAPx16
import Derived.Test.YtkecgjmbamaejaaPAPx17
import Derived.Test.YtkecgjmbamaejaaPARD
import Derived.Test.YtkecgjmbamaejaaPARI
set_option linter.unusedVariables false
set_option linter.unusedSimpArgs false
namespace Go.Proofs.Ytkecgjmbamaejaa.P
open Go.RowKit Go.Proofs.YtkecgjmbamaejaaW.PrintWords Go.Proofs.YtkecgjmbamaejaaW.PrintLast Go.Proofs.YtkecgjmbamaejaaW.PrintMore
set_option linter.unusedVariables false
theorem detV_len (l : List S52) : (detV l).1.length ≤ 4096 := by
  unfold detV
  split
  · rename_i h0
    have := detL_len (kdsOf l) (lcsOf l) l.length
    have := (chk_good h0).len
    simp only
    omega
  · simp
end Go.Proofs.Ytkecgjmbamaejaa.P
namespace Go.Proofs.Ytkecgjmbamaejaa.P
open Go.RowKit Go.Proofs.YtkecgjmbamaejaaW.PrintWords Go.Proofs.YtkecgjmbamaejaaW.PrintLast Go.Proofs.YtkecgjmbamaejaaW.PrintMore
set_option linter.unusedVariables false
set_option linter.unusedSimpArgs false
def RP (b : Nat) (W : World) (u : Value) (l : List Int) : Prop := Kd.R (Kd.int .i64) 2 W b (fun k => some k = u.ownBlock) u l
theorem RP.below {b : Nat} {W W' : World} {u : Value} {l : List Int} (h : RP b W u l) (hb : Below W.heap.size W W') : RP b W' u l := Kd.R_below h hb
theorem RP.cell {b : Nat} {W : World} {g n c : Nat} {l : List Int} (h : RP b W (.slice (some ⟨g, 0, none⟩) n c) l) (hn : l.length = n) {i : Nat} (hi : i < n) : W.cell? ⟨g, i, none⟩ = some (.int .i64 (l.getD i 0)) ∧ W.frozen? ⟨g, i, none⟩ = false := by
  have h1 := Kd.R_celln (0 : Int) h (i : Int) (by omega) (by omega)
  rw [Int.toNat_natCast] at h1
  refine ⟨h1.1.trans ?_, h1.2⟩
  unfold rdOf
  rw [Int.toNat_natCast]
end Go.Proofs.Ytkecgjmbamaejaa.P
namespace Go.Proofs.Ytkecgjmbamaejaa.P
open Go.RowKit Go.Proofs.YtkecgjmbamaejaaW.PrintWords Go.Proofs.YtkecgjmbamaejaaW.PrintLast Go.Proofs.YtkecgjmbamaejaaW.PrintMore
set_option linter.unusedVariables false
theorem sound_l0 (l : List S52) (hl : l.length < 17592186044416) : ∀ (d j : Nat) (o : Int), j + d = l.length → 0 ≤ o → o ≤ (j : Int) → Ev (fun k => plunderlaw19_sound.l0 k l o (j : Int)) (decide ((ck o j (l.drop j)).1 = 0 ∧ (l.length : Int) ≤ 4096)) := by
  intro d
  induction d with
  | zero =>
    intro j o hj h0 h1
    refine Ev.step (f := fun _ => some (decide ((l.length : Int) ≤ 4096))) (fun k => ?_) ?_
    · simp only [plunderlaw19_sound.l0]
      rw [if_neg (by omega)]
    · rw [List.drop_of_length_le (by omega)]
      have : decide ((ck o j []).1 = 0 ∧ (l.length : Int) ≤ 4096) = decide ((l.length : Int) ≤ 4096) := by
        congr 1
        exact propext ⟨fun h => h.2, fun h => ⟨rfl, h⟩⟩
      rw [this]
      exact Ev.now _
  | succ d ih =>
    intro j o hj h0 h1
    have hlt : j < l.length := by omega
    rw [List.drop_eq_getElem_cons hlt]
    have bad : ∀ {e : S52}, (e.f0 < 0 ∨ e.f0 > 4 ∨ (e.f0 = 1 ∧ o = 0)) → decide ((ck o j (e :: l.drop (j + 1))).1 = 0 ∧ (l.length : Int) ≤ 4096) = false := fun h => by
      rw [ck_no h]
      exact decide_eq_false (fun h => by simp at h)
    have hr := rd52 l j hlt
    by_cases k0 : l[j].f0 = 0
    · rw [ck_yes (by omega) (o + 1) (by rw [if_pos k0])]
      refine Ev.step (f := fun k => plunderlaw19_sound.l0 k l (o + 1) ((j + 1 : Nat) : Int)) (fun k => ?_) (ih (j + 1) (o + 1) (by omega) (by omega) (by omega))
      simp only [plunderlaw19_sound.l0]
      rw [if_pos (by omega), if_pos (by omega), hr, if_pos k0, w64 (by omega) (by omega), w64s (by omega)]
    by_cases k1 : l[j].f0 = 1
    · by_cases ho : o = 0
      · rw [bad (by omega)]
        refine Ev.step (f := fun _ => some false) (fun k => ?_) (Ev.now _)
        simp only [plunderlaw19_sound.l0]
        rw [if_pos (by omega), if_pos (by omega), hr, if_neg k0, if_pos k1, w64 (by omega) (by omega), if_pos (by omega)]
      · rw [ck_yes (by omega) (o - 1) (by rw [if_neg k0, if_pos k1]; omega)]
        refine Ev.step (f := fun k => plunderlaw19_sound.l0 k l (o - 1) ((j + 1 : Nat) : Int)) (fun k => ?_) (ih (j + 1) (o - 1) (by omega) (by omega) (by omega))
        simp only [plunderlaw19_sound.l0]
        rw [if_pos (by omega), if_pos (by omega), hr, if_neg k0, if_pos k1, w64 (by omega) (by omega), if_neg (by omega), w64s (by omega)]
    by_cases k2 : l[j].f0 = 2 ∨ l[j].f0 = 3 ∨ l[j].f0 = 4
    · rw [ck_yes (by omega) o (by rw [if_neg k0, if_neg k1]; omega)]
      refine Ev.step (f := fun k => plunderlaw19_sound.l0 k l o ((j + 1 : Nat) : Int)) (fun k => ?_) (ih (j + 1) o (by omega) (by omega) (by omega))
      simp only [plunderlaw19_sound.l0]
      rw [if_pos (by omega), if_pos (by omega), hr, if_neg k0, if_neg k1, w64s (by omega)]
      by_cases e2 : l[j].f0 = 2
      · rw [if_pos e2]
      rw [if_neg e2]
      by_cases e3 : l[j].f0 = 3
      · rw [if_pos e3]
      rw [if_neg e3, if_pos (by omega)]
    · rw [bad (by omega)]
      refine Ev.step (f := fun _ => some false) (fun k => ?_) (Ev.now _)
      simp only [plunderlaw19_sound.l0]
      rw [if_pos (by omega), if_pos (by omega), hr, if_neg k0, if_neg k1, if_neg (by omega), if_neg (by omega), if_neg (by omega)]
theorem sound_ev (l : List S52) (hl : l.length < 17592186044416) : Ev (fun k => plunderlaw19_sound.f k l) (decide ((chk l).1 = 0)) := by
  have h := sound_l0 l hl l.length 0 0 (by omega) (by omega) (by omega)
  have e : decide ((ck 0 0 (l.drop 0)).1 = 0 ∧ (l.length : Int) ≤ 4096) = decide ((chk l).1 = 0) := by
    congr 1
    unfold chk
    by_cases hb : (l.length : Int) > 4096
    · rw [if_pos hb]
      exact propext ⟨fun h => by omega, fun h => by simp at h⟩
    · rw [if_neg hb]
      exact propext ⟨fun h => h.1, fun h => ⟨h, by omega⟩⟩
  rw [e] at h
  exact h
end Go.Proofs.Ytkecgjmbamaejaa.P
namespace Go.Proofs.Ytkecgjmbamaejaa.P
open Go.RowKit Go.Proofs.YtkecgjmbamaejaaW.PrintWords Go.Proofs.YtkecgjmbamaejaaW.PrintLast Go.Proofs.YtkecgjmbamaejaaW.PrintMore
set_option linter.unusedVariables false
theorem first_some {l : List S52} (h0 : (chk l).1 = 0) {j : Nat} (hj : j < l.length) (hr : Racy (kdsOf l) (lcsOf l) j) (hm : ∀ k, k < j → ¬ Racy (kdsOf l) (lcsOf l) k) : ∃ i, i < j ∧ (Touch (kdsOf l) (lcsOf l) i j ∧ ¬ Ahead (kdsOf l) i j) ∧ (∀ k, k < i → ¬ (Touch (kdsOf l) (lcsOf l) k j ∧ ¬ Ahead (kdsOf l) k j)) ∧ firstV l = ((j : Int), (i : Int), (lcsOf l).getD j 0, true, 0) := by
  have hx : firstI (kdsOf l) (lcsOf l) j ≠ none := fun e => by
    obtain ⟨i, h1, h2⟩ := hr
    have := findN_no e i (Nat.zero_le _) (by omega)
    rw [(raceB_iff _ _ _ _).2 h2] at this
    cases this
  obtain ⟨i, hi⟩ := Option.ne_none_iff_exists'.1 hx
  obtain ⟨-, h2, h3, h4⟩ := findN_spec hi
  have h3' := (raceB_iff _ _ _ _).1 h3
  have h4' : ∀ k, k < i → ¬ (Touch (kdsOf l) (lcsOf l) k j ∧ ¬ Ahead (kdsOf l) k j) := fun k hk hq => by
    have := h4 k (Nat.zero_le _) hk
    rw [(raceB_iff _ _ _ _).2 hq] at this
    cases this
  exact ⟨i, by omega, h3', h4', firstV_some h0 hj hm (by omega) h3' h4'⟩
theorem racy_least (ks ls : List Int) (n : Nat) : (∀ j, j < n → ¬ Racy ks ls j) ∨ ∃ j, j < n ∧ Racy ks ls j ∧ ∀ k, k < j → ¬ Racy ks ls k := by
  cases e : firstJ ks ls n with
  | none =>
    refine .inl fun j hj hr => ?_
    have := findN_no e j (Nat.zero_le _) (by omega)
    rw [(racyB_iff _ _ _).2 hr] at this
    cases this
  | some j =>
    obtain ⟨-, h2, h3, h4⟩ := findN_spec e
    refine .inr ⟨j, by omega, (racyB_iff _ _ _).1 h3, fun k hk hr => ?_⟩
    have := h4 k (Nat.zero_le _) hk
    rw [(racyB_iff _ _ _).2 hr] at this
    cases this
theorem has_ev (l : List Int) (v : Int) (hl : l.length ≤ 4096) (hv : v ∈ l) : Ev (fun k => plunderlaw19_has.f k l v) true := by
  have : ∀ (d i : Nat), i + d = l.length → v ∈ l.drop i → Ev (fun k => plunderlaw19_has.l0 k l v (i : Int)) true := by
    intro d
    induction d with
    | zero => intro i hi hm; rw [List.drop_of_length_le (by omega)] at hm; cases hm
    | succ d ih =>
      intro i hi hm
      have hlt : i < l.length := by omega
      rw [List.drop_eq_getElem_cons hlt] at hm
      have hr : rd l (i : Int) = l[i] := by
        unfold rd
        rw [Int.toNat_natCast, List.getD_eq_getElem?_getD, List.getElem?_eq_getElem hlt]
        rfl
      by_cases e : l[i] = v
      · refine Ev.step (f := fun _ => some true) (fun k => ?_) (Ev.now _)
        simp only [plunderlaw19_has.l0]
        rw [if_pos (by omega), if_pos (by omega), hr, if_pos e]
      · refine Ev.step (fun k => ?_) (ih (i + 1) (by omega) (by rcases List.mem_cons.1 hm with h | h; exact absurd h.symm e; exact h))
        simp only [plunderlaw19_has.l0]
        rw [if_pos (by omega), if_pos (by omega), hr, if_neg e, w64s (by omega)]
  exact this l.length 0 (by omega) hv
end Go.Proofs.Ytkecgjmbamaejaa.P
namespace Go.Proofs.Ytkecgjmbamaejaa.P
open Go.RowKit Go.Proofs.YtkecgjmbamaejaaW.PrintWords Go.Proofs.YtkecgjmbamaejaaW.PrintLast Go.Proofs.YtkecgjmbamaejaaW.PrintMore
set_option linter.unusedVariables false
set_option linter.unusedSimpArgs false
theorem det_good (l : List S52) (dl : List Int) (hv : detV l = (dl, 0)) (hw : wfB l = true) (hl : l.length < 17592186044416) (A : Option Addr) (c : Nat) (W : World) (h1 : Kd.C k52 W A l.length l) (h2 : l.length ≤ c) : Calls Try.prog 27 #[.slice A l.length c] W fun e w' => ∃ v0_ : Value, e = .returned (.tuple #[v0_, .int .i64 0]) ∧ Kd.R (Kd.int .i64) 2 w' W.heap.size (fun _ => True) v0_ dl ∧ Below W.heap.size W w' := by
  have hh := detect_calls A c l W h1 h2 hw hl
  unfold DetPost at hh
  rw [hv] at hh
  exact hh
theorem fir_good (l : List S52) (x1 x2 x3 : Int) (s : Bool) (e0 : Int) (hv : firstV l = (x1, x2, x3, s, e0)) (hw : wfB l = true) (hl : l.length < 17592186044416) (A : Option Addr) (c : Nat) (W : World) (h1 : Kd.C k52 W A l.length l) (h2 : l.length ≤ c) : Calls Try.prog 23 #[.slice A l.length c] W fun e w' => e = .returned (.tuple #[.agg #[.int .i64 x1, .int .i64 x2, .int .i64 x3], .bool s, .int .i64 e0]) ∧ Below W.heap.size W w' := by
  have hh := first_calls A c l W h1 h2 hw hl
  unfold FirPost at hh
  rw [hv] at hh
  exact hh
/-- two rows, and records -/
structure PZ (w W : World) (bs : List (Nat × Array Value × TypeId)) (v5 v7 : Value) (d1 d2 : List Int) : Prop where
  L : Locs w W bs
  h5 : RP w.heap.size W v5 d1
  h7 : RP w.heap.size W v7 d2
theorem PZ.step {w W W' : World} {bs : List (Nat × Array Value × TypeId)} {v5 v7 : Value} {d1 d2 : List Int} (h : PZ w W bs v5 v7 d1 d2) (hb : Below W.heap.size W W') : PZ w W' bs v5 v7 d1 d2 := ⟨h.L.step hb, h.h5.below hb, h.h7.below hb⟩
theorem PZ.drew {w W : World} {bs : List (Nat × Array Value × TypeId)} {v5 v7 : Value} {d1 d2 : List Int} (h : PZ w W bs v5 v7 d1 d2) : PZ w W.drew bs v5 v7 d1 d2 := h.step (below_drew (Below.refl _ _))
theorem PZ.drewN {w W : World} {bs : List (Nat × Array Value × TypeId)} {v5 v7 : Value} {d1 d2 : List Int} (h : PZ w W bs v5 v7 d1 d2) (n : Nat) : PZ w (W.drewN n) bs v5 v7 d1 d2 := h.step (pw_below_drewN (Below.refl _ _) n)
theorem drawn_below {w w' : World} (h : Drawn0 w w') : Below w.heap.size w w' := by
  obtain ⟨n, rfl⟩ := h
  exact pw_below_drewN (Below.refl _ _) n
theorem PZ.set {w W : World} {bs : List (Nat × Array Value × TypeId)} {v5 v7 : Value} {d1 d2 : List Int} (h : PZ w W bs v5 v7 d1 d2) (i : Nat) {g : Nat} {cs : Array Value} {t : TypeId} (hi : bs[i]? = some (g, cs, t)) (ht : t = 37 ∨ t = 52) (j : Nat) (v : Value) : PZ w (W.setCell ⟨g, j, none⟩ v) (bs.set i (g, cs.setIfInBounds j v, t)) v5 v7 d1 d2 := by
  have hc := h.L.at i hi
  have ne : ∀ {u : Value} {l : List Int}, RP w.heap.size W u l → ∀ k, some k = u.ownBlock → k ≠ g := fun hu k hk e => by
    obtain ⟨c, hc2⟩ := Kd.R_typed hu k hk.symm
    exact blk_ne hc2 hc (by rcases ht with rfl | rfl <;> decide) e
  exact ⟨h.L.set i hi j v, Kd.R_far (p := ⟨g, j, none⟩) h.h5 (fun k hk => ne h.h5 k hk) v, Kd.R_far (p := ⟨g, j, none⟩) h.h7 (fun k hk => ne h.h7 k hk) v⟩
section
variable {P : Program} {ops : Array Oper} {rest : List Oper} {o : Oper} {a : Act} {Q : Exit → Act → World → Prop}
theorem box_PZ {w W : World} {bs : List (Nat × Array Value × TypeId)} {v5 v7 : Value} {d1 d2 : List Int} (HL : PZ w W bs v5 v7 d1 d2) (hgd : o.guard = none) {N : Tmp} (_hd : o.dst = some N) {cs : Array Value} {t : TypeId}
    (hrun : (execOp a.eval o).run P W = .ok (.value (.pointer (some ⟨W.heap.size, 0, none⟩))) (W.alloc (.cells cs t (0, 0))))
    (h : ∀ g w1, Aside0 (PZ w w1 ((g, cs, t) :: bs) v5 v7 d1 d2) → wpList P ops Q rest (a.put o.dst (.pointer (some ⟨g, 0, none⟩))) w1) : wpList P ops Q (o :: rest) a W :=
  Kd.event_run hgd hrun (h _ _ ⟨⟨HL.L.alloc cs t, HL.h5.below (below_alloc (Below.refl _ _) _), HL.h7.below (below_alloc (Below.refl _ _) _)⟩⟩)
end
end Go.Proofs.Ytkecgjmbamaejaa.P
