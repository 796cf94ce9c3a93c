/- RacesDetect: its calls. -/
import Derived.Deep.RegionHeld3
import Derived.Test.YtkecgjmbamaejaaPEPx13
import Derived.Test.YtkecgjmbamaejaaPEPx14
import Derived.Test.YtkecgjmbamaejaaPERI
set_option linter.unusedVariables false
set_option linter.unusedSimpArgs false
namespace Go.Proofs.Ytkecgjmbamaejaa.P
open Go.RowKit Go.Proofs.YtkecgjmbamaejaaW.PrintWords Go.Proofs.YtkecgjmbamaejaaW.PrintLast Go.Proofs.YtkecgjmbamaejaaW.PrintMore
set_option linter.unusedVariables false
theorem rdI (l : List Int) (j : Nat) (h : j < l.length) : rd l (j : Int) = l[j] := by
  unfold rd
  rw [Int.toNat_natCast, List.getD_eq_getElem?_getD, List.getElem?_eq_getElem h]
  rfl
theorem joins_done (l : List Int) (v : Int) (hl : l.length ≤ 4096) : ∀ (d i : Nat) (m : List Int), i + d = l.length → m.length ≤ i + 1 → Ev (fun k => plunderref19_joins.l0 k l v m true (i : Int)) (m ++ l.drop i) := by
  intro d
  induction d with
  | zero =>
    intro i m hi hm
    refine Ev.step (f := fun _ => some m) (fun k => ?_) (by rw [List.drop_of_length_le (by omega), List.append_nil]; exact Ev.now _)
    simp only [plunderref19_joins.l0]
    rw [if_neg (by omega), if_pos trivial]
  | succ d ih =>
    intro i m hi hm
    have hlt : i < l.length := by omega
    have h := ih (i + 1) (m ++ [l[i]]) (by omega) (by rw [List.length_append, List.length_singleton]; omega)
    rw [List.append_assoc, List.singleton_append, ← List.drop_eq_getElem_cons hlt] at h
    refine Ev.step (f := fun k => plunderref19_joins.j1 k l v m true (i : Int) false) (fun k => ?_) (Ev.step (f := fun k => plunderref19_joins.l0 k l v (m ++ [l[i]]) true ((i + 1 : Nat) : Int)) (fun k => ?_) h)
    · simp only [plunderref19_joins.l0]
      rw [if_pos (by omega), if_pos trivial]
    · simp only [plunderref19_joins.j1]
      rw [if_neg (by decide), if_pos (by omega), if_pos (by omega), if_pos (by omega), rdI l i hlt, w64s (by omega)]
theorem joins_l0 (l : List Int) (v : Int) (hl : l.length ≤ 4096) : ∀ (d i : Nat) (m : List Int), i + d = l.length → m.length ≤ i → Ev (fun k => plunderref19_joins.l0 k l v m false (i : Int)) (m ++ joinL (l.drop i) v) := by
  intro d
  induction d with
  | zero =>
    intro i m hi hm
    refine Ev.step (f := fun _ => some (m ++ [v])) (fun k => ?_) (by rw [List.drop_of_length_le (by omega)]; exact Ev.now _)
    simp only [plunderref19_joins.l0]
    rw [if_neg (by omega), if_neg (by decide), if_pos (by omega)]
  | succ d ih =>
    intro i m hi hm
    have hlt : i < l.length := by omega
    have hst : Ev (fun k => plunderref19_joins.j1 k l v m false (i : Int) (decide (l[i] ≥ v))) (m ++ joinL (l.drop i) v) := by
      rw [List.drop_eq_getElem_cons hlt]
      by_cases hge : l[i] ≥ v
      · rw [decide_eq_true hge]
        by_cases hgt : l[i] > v
        · have h := joins_done l v hl d (i + 1) (m ++ [v] ++ [l[i]]) (by omega) (by simp; omega)
          refine Ev.step (f := fun k => plunderref19_joins.l0 k l v (m ++ [v] ++ [l[i]]) true ((i + 1 : Nat) : Int)) (fun k => ?_) ?_
          · simp only [plunderref19_joins.j1]
            rw [if_pos trivial, if_pos (by omega), if_pos (by omega), rdI l i hlt, if_pos hgt, if_pos (by omega), Option.bind_some, if_pos (by simp; omega), w64s (by omega)]
          · have e : joinL (l[i] :: l.drop (i + 1)) v = v :: l[i] :: l.drop (i + 1) := by unfold joinL; rw [if_pos (by omega)]
            rw [e]
            simpa [List.append_assoc] using h
        · have h := joins_done l v hl d (i + 1) (m ++ [l[i]]) (by omega) (by simp; omega)
          refine Ev.step (f := fun k => plunderref19_joins.l0 k l v (m ++ [l[i]]) true ((i + 1 : Nat) : Int)) (fun k => ?_) ?_
          · simp only [plunderref19_joins.j1]
            rw [if_pos trivial, if_pos (by omega), if_pos (by omega), rdI l i hlt, if_neg hgt, if_pos (by omega), w64s (by omega)]
          · have e : joinL (l[i] :: l.drop (i + 1)) v = l[i] :: l.drop (i + 1) := by unfold joinL; rw [if_neg (by omega), if_pos (by omega)]
            rw [e]
            simpa [List.append_assoc] using h
      · rw [decide_eq_false hge]
        have h := ih (i + 1) (m ++ [l[i]]) (by omega) (by simp; omega)
        refine Ev.step (f := fun k => plunderref19_joins.l0 k l v (m ++ [l[i]]) false ((i + 1 : Nat) : Int)) (fun k => ?_) ?_
        · simp only [plunderref19_joins.j1]
          rw [if_neg (by decide), if_pos (by omega), if_pos (by omega), rdI l i hlt, if_pos (by omega), w64s (by omega)]
        · have e : joinL (l[i] :: l.drop (i + 1)) v = l[i] :: joinL (l.drop (i + 1)) v := by
            conv => lhs; unfold joinL
            rw [if_neg (by omega), if_neg (by omega)]
          rw [e]
          simpa [List.append_assoc] using h
    refine Ev.step (fun k => ?_) hst
    simp only [plunderref19_joins.l0]
    rw [if_pos (by omega), if_neg (by decide), if_pos (by omega), rdI l i hlt]
theorem joins_ev (l : List Int) (v : Int) (hl : l.length ≤ 4096) : Ev (fun k => plunderref19_joins.f k l v) (joinL l v) := by
  have h := joins_l0 l v hl l.length 0 [] (by omega) (by simp)
  exact h
theorem refRacy_ev {l : List S52} (hg : Good l) {T : List (List Bool)} (hT : TB (kdsOf l) l.length l.length T) {j : Nat} (hj : j < l.length) : Ev (fun k => plunderref19_racy.f k l T (j : Int)) (racyB (kdsOf l) (lcsOf l) j) := by
  have hlen := hg.len
  have hin : ∀ (e i : Nat), i + e = j → (∀ k, k < i → raceB (kdsOf l) (lcsOf l) k j = false) → Ev (fun k => plunderref19_racy.l0 k l T (j : Int) (i : Int)) (racyB (kdsOf l) (lcsOf l) j) := by
    intro e
    induction e with
    | zero =>
      intro i hi hn
      have hij : i = j := by omega
      subst hij
      refine Ev.step (f := fun _ => some false) (fun k => ?_) ?_
      · simp only [plunderref19_racy.l0]
        rw [if_neg (by omega)]
      · have : racyB (kdsOf l) (lcsOf l) i = false := by
          refine eq_false_of_ne_true fun hq => ?_
          obtain ⟨x, h1, h2⟩ := List.any_eq_true.1 hq
          rw [hn x (List.mem_range.1 h1)] at h2
          cases h2
        rw [this]
        exact Ev.now _
    | succ e ihe =>
      intro i hi hn
      have hij : i < j := by omega
      have ht := refTouches l (i := i) (j := j) (by omega) hj
      have hbl : ((rd_L6 T (j : Int)).length : Int) = (l.length : Int) := by rw [rdL6, (hT.2 j hj).1]
      have htl : T.length = l.length := hT.1
      by_cases hr : raceB (kdsOf l) (lcsOf l) i j = true
      · have hr2 := (raceB_iff _ _ _ _).1 hr
        refine Ev.step (f := fun _ => some true) (fun k => ?_) ?_
        · simp only [plunderref19_racy.l0]
          rw [if_pos (by omega), if_pos (by omega), if_pos (by omega), if_pos (by omega), if_pos (by omega), ht, Option.bind_some, (touchB_iff _ _ _ _).2 hr2.1, if_pos rfl, if_pos (by omega), if_pos (by omega), hT.rd (by omega) hj, if_neg (fun h => hr2.2 ((aheadB_iff _ _ _).1 h))]
        · have : racyB (kdsOf l) (lcsOf l) j = true := List.any_eq_true.2 ⟨i, List.mem_range.2 hij, hr⟩
          rw [this]
          exact Ev.now _
      · refine Ev.step (f := fun k => plunderref19_racy.l0 k l T (j : Int) ((i + 1 : Nat) : Int)) (fun k => ?_) (ihe (i + 1) (by omega) (fun k hk => ?_))
        · simp only [plunderref19_racy.l0]
          rw [if_pos (by omega), if_pos (by omega), if_pos (by omega), if_pos (by omega), if_pos (by omega), ht, Option.bind_some]
          by_cases ht2 : touchB (kdsOf l) (lcsOf l) i j = true
          · have ha : aheadB (kdsOf l) i j = true := by
              cases hb : aheadB (kdsOf l) i j with
              | true => rfl
              | false => exact absurd (by unfold raceB; rw [ht2, hb]; rfl) hr
            rw [if_pos ht2, if_pos (by omega), if_pos (by omega), hT.rd (by omega) hj, if_pos ha, w64s (by omega)]
          · rw [if_neg ht2, w64s (by omega)]
        · by_cases e : k = i
          · subst e; exact eq_false_of_ne_true hr
          · exact hn k (by omega)
  exact hin j 0 (by omega) (fun k hk => absurd hk (Nat.not_lt_zero _))
theorem refDetect_l {l : List S52} (hg : Good l) {T : List (List Bool)} (hT : TB (kdsOf l) l.length l.length T) : ∀ (d j : Nat), j + d = l.length → Ev (fun k => plunderref19_Detect.l0 k l T (detL (kdsOf l) (lcsOf l) j) (j : Int)) (detL (kdsOf l) (lcsOf l) l.length, 0) := by
  have hlen := hg.len
  intro d
  induction d with
  | zero =>
    intro j hj
    have hj2 : j = l.length := by omega
    subst hj2
    refine Ev.step (f := fun _ => some (detL (kdsOf l) (lcsOf l) l.length, 0)) (fun k => ?_) (Ev.now _)
    simp only [plunderref19_Detect.l0]
    rw [if_neg (by omega)]
  | succ d ih =>
    intro j hj
    have hjl : j < l.length := by omega
    have h := ih (j + 1) (by omega)
    have hd := detL_len (kdsOf l) (lcsOf l) j
    have hl1 := lcs_at l j hjl
    refine Ev.step (f := fun k => (plunderref19_racy.f k l T (j : Int)).bind fun t426 => (if t426 = true then ((plunderref19_joins.f k (detL (kdsOf l) (lcsOf l) j) ((rd_T52 l (j : Int)).f1)).bind fun t428 => (plunderref19_Detect.l0 k l T t428 ((j + 1 : Nat) : Int))) else (plunderref19_Detect.l0 k l T (detL (kdsOf l) (lcsOf l) j) ((j + 1 : Nat) : Int)))) (fun k => ?_) ?_
    · simp only [plunderref19_Detect.l0]
      rw [if_pos (by omega), w64s (by omega)]
      simp only [if_pos (show (0 : Int) ≤ (j : Int) by omega)]
    · refine Ev.bind (refRacy_ev hg hT hjl) ?_
      by_cases hr : racyB (kdsOf l) (lcsOf l) j = true
      · simp only [if_pos hr]
        refine Ev.bind (joins_ev _ _ (by omega)) ?_
        rw [← hl1]
        have e : detL (kdsOf l) (lcsOf l) (j + 1) = joinL (detL (kdsOf l) (lcsOf l) j) ((lcsOf l).getD j 0) := by
          show (if racyB (kdsOf l) (lcsOf l) j = true then _ else _) = _
          rw [if_pos hr]
        rw [← e]
        exact h
      · simp only [if_neg hr]
        have e : detL (kdsOf l) (lcsOf l) (j + 1) = detL (kdsOf l) (lcsOf l) j := by
          show (if racyB (kdsOf l) (lcsOf l) j = true then _ else _) = _
          rw [if_neg hr]
        rw [← e]
        exact h
theorem refDetect_ev (l : List S52) (hl : l.length < 1099511627776) : Ev (fun k => plunderref19_Detect.f k l) (detV l) := by
  unfold plunderref19_Detect.f detV
  refine Ev.bind (refCheck_ev l hl) ?_
  by_cases h0 : (chk l).1 = 0
  · have hg := chk_good h0
    obtain ⟨T, hT1, hT2⟩ := before_ev hg
    simp only [if_pos h0]
    exact Ev.bind hT1 (refDetect_l hg hT2 l.length 0 (by omega))
  · simp only [if_neg h0]
    exact Ev.now _
theorem detV_len (l : List S52) : (detV l).1.length ≤ 4096 := by
  unfold detV
  split
  · rename_i h0
    have := detL_len (kdsOf l) (lcsOf l) l.length
    have := (chk_good h0).len
    simp only
    omega
  · simp
theorem samePlaces_ev (x : List Int) (hx : x.length ≤ 4096) : Ev (fun k => plunderlaw19_samePlaces.f k x x) true := by
  unfold plunderlaw19_samePlaces.f
  have : ∀ (d i : Nat), i + d = x.length → Ev (fun k => plunderlaw19_samePlaces.l0 k x x (i : Int)) true := by
    intro d
    induction d with
    | zero =>
      intro i hi
      refine Ev.step (f := fun _ => some true) (fun k => ?_) (Ev.now _)
      simp only [plunderlaw19_samePlaces.l0]
      rw [if_neg (by omega)]
    | succ d ih =>
      intro i hi
      refine Ev.step (fun k => ?_) (ih (i + 1) (by omega))
      simp only [plunderlaw19_samePlaces.l0]
      rw [if_pos (by omega)]
      simp only [w64s (show i < 4611686018427387904 by omega)]
      simp
      omega
  simp only [if_true]
  exact this x.length 0 (by omega)
theorem detectPlaced_ev (l : List S52) (hl : l.length < 1099511627776) (hw : wfB l = true) : Ev (fun k => plunderlaw19_detectPlaced.f k l) true := by
  unfold plunderlaw19_detectPlaced.f
  have hm : (l.map tnE).length = l.length := by simp
  have h0 : (0 : Int) ≤ ((l.map tnE).length : Int) := by omega
  have h1 : ((l.map tnE).length : Int) ≤ ((l.map tnE ++ odd).length : Int) := by simp [odd]; omega
  have h3 : (l.map tnE ++ odd).take (((l.map tnE).length : Int)).toNat = l.map tnE := by simp
  refine Ev.bind (turned_ev l hl) ?_
  refine Ev.bind (spare_ev _ (by omega)) ?_
  simp only [if_pos h0, if_pos h1, h3, Option.bind_some]
  refine Ev.bind (detect_ev (wfB_turn hw) (by omega)) ?_
  refine Ev.bind (lay_ev _ l hl (by simp)) ?_
  refine Ev.bind (detect_ev hw hl) ?_
  refine Ev.bind (refDetect_ev _ (by omega)) ?_
  refine Ev.bind (refDetect_ev l hl) ?_
  simp only [if_true]
  refine Ev.bind (samePlaces_ev _ (detV_len _)) ?_
  simp only [if_true]
  refine Ev.bind (samePlaces_ev _ (detV_len _)) ?_
  exact Ev.now true
end Go.Proofs.Ytkecgjmbamaejaa.P
namespace Go.Proofs.Ytkecgjmbamaejaa.P
open Go.RowKit Go.Proofs.YtkecgjmbamaejaaW.PrintWords Go.Proofs.YtkecgjmbamaejaaW.PrintLast Go.Proofs.YtkecgjmbamaejaaW.PrintMore
set_option linter.unusedVariables false
set_option linter.unusedSimpArgs false
def RP (b : Nat) (W : World) (u : Value) (l : List Int) : Prop := Kd.R (Kd.int .i64) 2 W b (fun k => some k = u.ownBlock) u l
theorem RP.below {b : Nat} {W W' : World} {u : Value} {l : List Int} (h : RP b W u l) (hb : Below W.heap.size W W') : RP b W' u l := Kd.R_below h hb
theorem RP.cell {b : Nat} {W : World} {g n c : Nat} {l : List Int} (h : RP b W (.slice (some ⟨g, 0, none⟩) n c) l) (hn : l.length = n) {i : Nat} (hi : i < n) : W.cell? ⟨g, i, none⟩ = some (.int .i64 (l.getD i 0)) ∧ W.frozen? ⟨g, i, none⟩ = false := by
  have h1 := Kd.R_celln (0 : Int) h (i : Int) (by omega) (by omega)
  rw [Int.toNat_natCast] at h1
  refine ⟨h1.1.trans ?_, h1.2⟩
  unfold rdOf
  rw [Int.toNat_natCast]
/-- the rows held: what is wanted, and the two answers -/
structure DZ (w w1 W : World) (vw v1 v2 : Value) (lw l1 l2 : List Int) : Prop where
  W1 : Below w.heap.size w w1
  B : Below w1.heap.size w1 W
  hw : RP w.heap.size w1 vw lw
  h1 : RP w1.heap.size W v1 l1
  h2 : RP w1.heap.size W v2 l2
  n : NE v1 v2
section
variable {w w1 W W' : World} {vw v1 v2 : Value} {lw l1 l2 : List Int}
theorem DZ.step (h : DZ w w1 W vw v1 v2 lw l1 l2) (hb : Below W.heap.size W W') : DZ w w1 W' vw v1 v2 lw l1 l2 := ⟨h.W1, below_step h.B hb, h.hw, h.h1.below hb, h.h2.below hb, h.n⟩
theorem DZ.drew (h : DZ w w1 W vw v1 v2 lw l1 l2) : DZ w w1 W.drew vw v1 v2 lw l1 l2 := h.step (below_drew (Below.refl _ _))
theorem DZ.drewN (h : DZ w w1 W vw v1 v2 lw l1 l2) (n : Nat) : DZ w w1 (W.drewN n) vw v1 v2 lw l1 l2 := h.step (pw_below_drewN (Below.refl _ _) n)
theorem DZ.want (h : DZ w w1 W vw v1 v2 lw l1 l2) : RP w.heap.size W vw lw := h.hw.below h.B
/-- the first answer is written over -/
theorem DZ.put {g n c : Nat} (h : DZ w w1 W vw (.slice (some ⟨g, 0, none⟩) n c) v2 lw l1 l2) (i : Nat) (x : Int) : DZ w w1 (W.setCell ⟨g, i, none⟩ (.int .i64 x)) vw (.slice (some ⟨g, 0, none⟩) n c) v2 lw (l1.set i x) l2 := by
  have hb := Kd.R_base h.h1 g rfl
  have h1 := Kd.R_putn h.h1 (i : Int) x
  rw [Int.toNat_natCast] at h1
  refine ⟨h.W1, below_set h.B hb, h.hw, h1, ?_, h.n⟩
  exact Kd.R_far (p := ⟨g, i, none⟩) h.h2 (fun k hk e => h.n k (by rw [e]; rfl) hk) _
end
section
variable {ops : Array Oper} {rest : List Oper} {o : Oper} {a : Act} {Q : Exit → Act → World → Prop}
theorem dt_app {w w1 W : World} {vw v1 v2 : Value} {lw l1 l2 : List Int} (h : DZ w w1 W vw v1 v2 lw l1 l2) (hgd : o.guard = none) (s x : Operand) (ho : o.op = .call { callee := .builtin .append, args := #[s, x], argTypes := #[40, 40] }) (hs : a.eval s = v1) (y : Int)
    (hx : a.eval x = .slice (some ⟨W.heap.size, 0, none⟩) 1 1) (hl : l1.length ≤ 8388608)
    (hK : ∀ A1 c1 W', DZ w w1 W' vw (.slice A1 (l1.length + 1) c1) v2 lw (l1 ++ [y]) l2 → wpList Try.prog ops Q rest (a.put o.dst (.slice A1 (l1.length + 1) c1)) W') :
    wpList Try.prog ops Q (o :: rest) a (W.alloc (.cells #[.int .i64 y] 2)) := by
  refine Kd.R_append (Kd.int .i64) (w0 := w1) w1.heap.size hgd s x 40 2 (.int .i64 0) 8 ho Try.underlying40 info2 rfl (by decide) (by omega) v1 l1 y [.int .i64 y] (fun _ => True) (fun _ => False) hs hx rfl (fun _ h => h.elim) (fun _ _ => trivial) (Kd.R_mono h.h1 (fun _ _ => trivial)) h.B h.B.size (by omega) ?_
  intro u W1 hR hb hg hat
  have h2 : RP w1.heap.size W1 v2 l2 := Kd.R_grown h.h2 hg (fun k hk e => h.n k e hk)
  have hn : NE u v2 := fun k hk e => by
    have hlt := Kd.R_lt h.h2 k e.symm
    rcases hat with he | ⟨b, he, hge⟩
    · exact h.n k (by rw [← he]; exact hk) e
    · rw [he] at hk
      injection hk with hk
      omega
  have hD : DZ w w1 W1 vw u v2 lw (l1 ++ [y]) l2 := ⟨h.W1, hb, h.hw, Kd.R_tight rfl hR, h2, hn⟩
  obtain ⟨A1, c1, rfl⟩ := Kd.R_slice hR
  rw [List.length_append, List.length_singleton] at hD ⊢
  exact hK A1 c1 W1 hD
end
def plunderlaw19_RacesDetect.f (k : Nat) (l0 : List S52) : Option Bool := if l0.length ≤ 1048576 ∧ wfB l0 = true then some true else none
set_option maxHeartbeats 4000000 in
set_option maxRecDepth 100000 in
theorem plunderlaw19_RacesDetect.calls (k : Nat) (A0 : Option Addr) (c0 : Nat) (l0 : List S52) (r : Bool) (w : World) (hr0 : Kd.C k52 w A0 l0.length l0) (hc0 : l0.length ≤ c0) (h : plunderlaw19_RacesDetect.f k l0 = some r) :
    Calls Try.prog 6 #[.slice A0 l0.length c0] w fun e w' => e = .returned (.bool r) ∧ Below w.heap.size w w' := by
  unfold plunderlaw19_RacesDetect.f at h
  by_cases hl : l0.length ≤ 1048576 ∧ wfB l0 = true
  case neg => rw [if_neg hl] at h; cases h
  rw [if_pos hl] at h
  obtain rfl := Option.some.inj h
  clear h
  have hl2 : l0.length < 1099511627776 := by omega
  obtain ⟨g, hg⟩ : ∃ g : List S52, g = l0 ++ odd := ⟨_, rfl⟩
  have HGT : Aside0 (g.take l0.length = l0) := ⟨by rw [hg, List.take_left' rfl]⟩
  have HLE : Aside0 (l0.length ≤ g.length) := ⟨by rw [hg, List.length_append]; omega⟩
  obtain ⟨k1, F1⟩ := Ev.rounds (spare_ev l0 hl2)
  obtain ⟨k2, F2⟩ := Ev.rounds (refDetect_ev l0 hl2)
  obtain ⟨k3, F3⟩ := Ev.rounds (untouched_ev l0 hl2)
  obtain ⟨k4, F4⟩ := Ev.rounds (detectPlaced_ev l0 hl2 hl.2)
  have hdl := detV_len l0
  obtain ⟨⟨dl, de⟩, hv⟩ : ∃ v, detV l0 = v := ⟨_, rfl⟩
  rw [← hg] at F1 F3
  rw [hv] at F2 hdl
  have HFF : Aside0 (∀ (A : Option Addr) (c : Nat) (W : World), Kd.C k52 W A l0.length l0 → l0.length ≤ c → Calls Try.prog 27 #[.slice A l0.length c] W fun e w' => ∃ v0_ : Value, e = .returned (.tuple #[v0_, .int .i64 de]) ∧ Kd.R (Kd.int .i64) 2 w' W.heap.size (fun _ => True) v0_ dl ∧ Below W.heap.size W w') := ⟨fun A c W h1 h2 => by
    have hh := detect_calls A c l0 W h1 h2 hl.2 hl2
    unfold DetPost at hh
    rw [hv] at hh
    exact hh⟩
  have G1 := Aside0.mk F1
  have G2 := Aside0.mk F2
  have G3 := Aside0.mk F3
  have G4 := Aside0.mk F4
  have HD := Aside0.mk hr0
  have HC := Aside0.mk hc0
  have HDL : Aside0 (dl.length ≤ 4096) := ⟨hdl⟩
  clear hr0 hc0 hg hl hl2 F1 F2 F3 F4 hv hdl
  go_enter Try.func6, Try.ntmps6
  go_upto_region 2 with (first | (go_at_call 26; have hcall := plunderref19_Detect.calls k2 A0 c0 l0 dl de _ HD.out HC.out G2.out; (with_reducible refine hcall.mono ?_); clear hcall; rintro e_ w2 ⟨vw, rfl, hR, hb_⟩; have HB := Aside0.mk hb_; have HW := Aside0.mk (Kd.R_tight rfl hR); clear hb_ hR))
  obtain ⟨Aw, cw, hvw⟩ := Kd.R_slice HW.out
  subst hvw
  go_upto_region 3 with (first | (go_at_call 12; have hcall := plunderlaw19_spare.calls k1 A0 c0 l0 g _ (Kd.C_below HD.out HB.out) HC.out G1.out; (with_reducible refine hcall.mono ?_); clear hcall; rintro e_ w1 ⟨v3, rfl, hr, hb2⟩; obtain ⟨A3, c3, rfl⟩ := Kd.R_slice hr; have hc3 := (Kd.R_reads' hr).2.1; have HW1 := Aside0.mk (RP.below HW.out hb2); have HS : Aside0 (S1 w w1 w1 A0 l0 A3 g) := ⟨⟨below_step HB.out hb2, Below.refl _ _, HD.out, (Kd.R_reads' hr).2.2⟩⟩; have HC3 := Aside0.mk hc3; have HC3' := Aside0.mk (Nat.le_trans HLE.out hc3); have hcut := cut_g (A3 := A3) HGT.out hc3; have HL := Aside0.mk (Below.refl w1.heap.size w1); clear hr hb2 hc3 HW HB))
  go_upto_region 4 with (first | (go_at_call 27; have hcall := HFF.out A3 c3 _ (cut_c HGT.out (Kd.C_below HS.out.G HL.out)) HC3'.out; (with_reducible refine hcall.mono ?_); clear hcall; rintro e_ w4 ⟨v1, rfl, hR, hb_⟩; have HR1 := Aside0.mk (Kd.R_tight rfl (Kd.R_lower hR (below_size HL.out))); have HLn := Aside0.mk (below_step HL.out hb_); clear HL hb_ hR; have HL := HLn; clear HLn))
  go_upto_region 5 with (first | (go_at_call 27; have hcall := HFF.out A3 c3 _ (cut_c HGT.out (Kd.C_below HS.out.G HL.out)) HC3'.out; (with_reducible refine hcall.mono ?_); clear hcall; rintro e_ w5 ⟨v2, rfl, hR, hb_⟩; have HT : Aside0 (DZ w w1 w5 (.slice Aw dl.length cw) v1 v2 dl dl dl) := ⟨⟨HS.out.W1, below_step HL.out hb_, HW1.out, RP.below HR1.out hb_, Kd.R_tight rfl (Kd.R_lower hR (below_size HL.out)), fun k hk e => by have h3 := Kd.R_lt HR1.out k hk.symm; have h4 := Kd.R_base hR k e.symm; omega⟩⟩; clear HR1 HL hb_ hR HW1))
  obtain ⟨B1, b1, hv1⟩ := Kd.R_slice HT.out.h1
  subst hv1
  obtain ⟨B2, b2, hv2⟩ := Kd.R_slice HT.out.h2
  subst hv2
  obtain ⟨n, hn⟩ : ∃ n, dl.length = n := ⟨_, rfl⟩
  rw [hn] at HT HDL ⊢
  have HN := Aside0.mk hn
  clear hn
  go_wp2_with (first | fail)
  go_loopg [10] (n + 1) (fun kq v w' => ∃ i : Nat, v = .int .i64 (i : Int) ∧ Aside0 (n - i < kq ∧ i ≤ n) ∧ Aside0 (DZ w w1 w' (.slice Aw n cw) (.slice B1 n b1) (.slice B2 n b2) dl dl dl))
  case atStart => exact ⟨0, rfl, ⟨by omega, by omega⟩, HT⟩
  case round =>
    clear HT
    obtain ⟨i, rfl, HI, HT⟩ := hrel
    by_cases hi : i < n
    · have hi2 : (i : Int) < (n : Int) := by omega
      have HIN := Aside0.mk hi
      have hi4 : (i : Int) ≤ 4096 := by have := HDL.out; omega
      obtain ⟨gw, c3_, e_, -⟩ := Kd.R_form HT.out.hw (by have := HN.out; omega)
      obtain ⟨rfl, rfl⟩ : Aw = some ⟨gw, 0, none⟩ ∧ cw = c3_ := by injection e_ with e1 e2 e3; exact ⟨e1, e3⟩
      clear e_
      obtain ⟨gb, c4_, e_, -⟩ := Kd.R_form HT.out.h1 (by have := HN.out; omega)
      obtain ⟨rfl, rfl⟩ : B1 = some ⟨gb, 0, none⟩ ∧ b1 = c4_ := by injection e_ with e1 e2 e3; exact ⟨e1, e3⟩
      clear e_
      have hx1 := (RP.cell HT.out.h1 HN.out hi).1
      have hx2 := (RP.cell HT.out.want HN.out hi).1
      generalize dl.getD i 0 = x at hx1 hx2
      clear hi
      go_upto_region 10 with (first | fail)
      go_quiet (fail)
      have HTn := Aside0.mk (HT.out.drewN nq)
      clear HT hx1 hx2; have HT := HTn; clear HTn
      go_wp2_with (first | fail)
      go_roundg (n - (i + 1) + 1)
      case measure => have := HI.out.1; have := HIN.out; omega
      case rel => exact ⟨i + 1, (by first | rfl | rw [wrap_ix (by have := HIN.out; have := HDL.out; omega)] | simp), ⟨by omega, by have := HIN.out; omega⟩, HT⟩
    · have hlt : ¬ ((i : Int) < (n : Int)) := by omega
      clear hi
      have HTL : Aside0 (∃ L1 : List Int, L1.length = n ∧ DZ w w1 _ (.slice Aw n cw) (.slice B1 n b1) (.slice B2 n b2) dl L1 dl) := ⟨dl, HN.out, HT.out⟩
      go_wp2_with (first | fail)
      go_loopg [11] (n + 1) (fun kq v w' => ∃ i : Nat, v = .int .i64 (i : Int) ∧ Aside0 (n - i < kq ∧ i ≤ n) ∧ Aside0 (∃ L1 : List Int, L1.length = n ∧ DZ w w1 w' (.slice Aw n cw) (.slice B1 n b1) (.slice B2 n b2) dl L1 dl))
      case atStart => exact ⟨0, rfl, ⟨by omega, by omega⟩, HTL⟩
      case round =>
        clear HT HTL
        obtain ⟨i, rfl, HI, HT⟩ := hrel
        obtain ⟨L1, hL1, hT⟩ := HT.out
        have HL1 := Aside0.mk hL1
        clear HT
        have HT := Aside0.mk hT
        clear hT hL1
        by_cases hi : i < n
        · have hi2 : (i : Int) < (n : Int) := by omega
          have HIN := Aside0.mk hi
          have hi4 : (i : Int) ≤ 4096 := by have := HDL.out; omega
          obtain ⟨gb, c4_, e_, -⟩ := Kd.R_form HT.out.h1 (by have := HL1.out; omega)
          obtain ⟨rfl, rfl⟩ : B1 = some ⟨gb, 0, none⟩ ∧ b1 = c4_ := by injection e_ with e1 e2 e3; exact ⟨e1, e3⟩
          clear e_
          have hx1 := RP.cell HT.out.h1 HL1.out hi
          clear hi
          go_wp2_with (first | fail)
          generalize hwt : World.setCell _ _ _ = w7
          have HTn : Aside0 (DZ w w1 w7 (.slice Aw n cw) (.slice (some ⟨gb, 0, none⟩) n b1) (.slice B2 n b2) dl (L1.set i (-99)) dl) := ⟨by rw [← hwt]; exact HT.out.put i (-99)⟩
          clear HT hx1 hwt; have HT := HTn; clear HTn
          go_roundg (n - (i + 1) + 1)
          case measure => have := HI.out.1; have := HIN.out; omega
          case rel => exact ⟨i + 1, (by first | rfl | rw [wrap_ix (by have := HIN.out; have := HDL.out; omega)] | simp), ⟨by omega, by have := HIN.out; omega⟩, ⟨⟨_, by rw [List.length_set]; exact HL1.out, HT.out⟩⟩⟩
        · have hlt : ¬ ((i : Int) < (n : Int)) := by omega
          clear hi
          go_wp2_with (first | fail)
          go_loopg [6, 12] 65 (fun kq v6 v12 w' => ∃ (i m c : Nat) (A : Option Addr) (L1 : List Int), v6 = .slice A m c ∧ v12 = .int .i64 (i : Int) ∧ Aside0 (64 - i < kq ∧ i ≤ 64) ∧ Aside0 (L1.length = m ∧ m ≤ 4096 + i) ∧ Aside0 (DZ w w1 w' (.slice Aw n cw) (.slice A m c) (.slice B2 n b2) dl L1 dl))
          case atStart => exact ⟨0, n, b1, B1, L1, rfl, rfl, ⟨by omega, by omega⟩, ⟨HL1.out, by have := HDL.out; omega⟩, HT⟩
          case round =>
            clear HT HL1 L1
            obtain ⟨i, m, c, A, L1, rfl, rfl, HI, HM, HT⟩ := hrel
            by_cases hi : i < 64
            · have hi2 : (i : Int) < 64 := by omega
              have HIN := Aside0.mk hi
              clear hi
              go_wp2_with (first | ((with_reducible refine gate_builtin (b := .append) (xs := #[.tmp 87, .tmp 88]) rfl ?_); at_builtin; refine dt_app HT.out rfl (.tmp 87) (.tmp 88) rfl rfl (-98) rfl (by have := HM.out; have := HIN.out; omega) ?_; intro A1 c5 w8 HTn_; clear HT; have HT := Aside0.mk HTn_; clear HTn_))
              go_roundg (64 - (i + 1) + 1)
              case measure => have := HI.out.1; have := HIN.out; omega
              case rel => exact ⟨i + 1, L1.length + 1, c5, A1, L1 ++ [-98], rfl, (by first | rfl | rw [wrap_ix (by have := HIN.out; omega)] | simp), ⟨by omega, by have := HIN.out; omega⟩, ⟨by rw [List.length_append, List.length_singleton], by have := HM.out; omega⟩, HT⟩
            · have hlt : ¬ ((i : Int) < 64) := by omega
              clear hi
              obtain ⟨n3, hn3⟩ : ∃ x, i = x := ⟨_, rfl⟩
              go_wp2_with (first | fail)
              go_loopg [13] (n + 1) (fun kq v w' => ∃ i : Nat, v = .int .i64 (i : Int) ∧ Aside0 (n - i < kq ∧ i ≤ n) ∧ Aside0 (DZ w w1 w' (.slice Aw n cw) (.slice A m c) (.slice B2 n b2) dl L1 dl))
              case atStart => exact ⟨0, rfl, ⟨by omega, by omega⟩, HT⟩
              case round =>
                clear HT
                obtain ⟨i, rfl, HI, HT⟩ := hrel
                by_cases hi : i < n
                · have hi2 : (i : Int) < (n : Int) := by omega
                  have HIN := Aside0.mk hi
                  have hi4 : (i : Int) ≤ 4096 := by have := HDL.out; omega
                  obtain ⟨gw, c3_, e_, -⟩ := Kd.R_form HT.out.hw (by have := HN.out; omega)
                  obtain ⟨rfl, rfl⟩ : Aw = some ⟨gw, 0, none⟩ ∧ cw = c3_ := by injection e_ with e1 e2 e3; exact ⟨e1, e3⟩
                  clear e_
                  obtain ⟨gb, c4_, e_, -⟩ := Kd.R_form HT.out.h2 (by have := HN.out; omega)
                  obtain ⟨rfl, rfl⟩ : B2 = some ⟨gb, 0, none⟩ ∧ b2 = c4_ := by injection e_ with e1 e2 e3; exact ⟨e1, e3⟩
                  clear e_
                  have hx1 := (RP.cell HT.out.h2 HN.out hi).1
                  have hx2 := (RP.cell HT.out.want HN.out hi).1
                  generalize dl.getD i 0 = x at hx1 hx2
                  clear hi
                  go_upto_region 23 with (first | fail)
                  go_quiet (fail)
                  have HTn := Aside0.mk (HT.out.drewN nq)
                  clear HT hx1 hx2; have HT := HTn; clear HTn
                  go_wp2_with (first | fail)
                  go_roundg (n - (i + 1) + 1)
                  case measure => have := HI.out.1; have := HIN.out; omega
                  case rel => exact ⟨i + 1, (by first | rfl | rw [wrap_ix (by have := HIN.out; have := HDL.out; omega)] | simp), ⟨by omega, by have := HIN.out; omega⟩, HT⟩
                · have hlt : ¬ ((i : Int) < (n : Int)) := by omega
                  clear hi
                  go_wp2_with (first | (go_at_call 18; have hcall := plunderlaw19_untouched.calls k3 A3 c3 g A0 c0 l0 true _ (Kd.C_below HS.out.G HT.out.B) HC3.out (Kd.C_below HS.out.D (below_step HS.out.W1 HT.out.B)) HC.out G3.out; (with_reducible refine hcall.mono ?_); clear hcall; rintro e_ w6 ⟨rfl, ⟨nd, rfl⟩⟩; have HTn := Aside0.mk (HT.out.drewN nd); clear HT; have HT := HTn; clear HTn) | (go_at_call 28; have hcall := plunderlaw19_detectPlaced.calls k4 A0 c0 l0 true _ (Kd.C_below HS.out.D (below_step HS.out.W1 HT.out.B)) HC.out G4.out; (with_reducible refine hcall.mono ?_); clear hcall; rintro e_ w7 ⟨rfl, hb_⟩; have HTn := Aside0.mk (HT.out.step hb_); clear HT hb_; have HT := HTn; clear HTn))
                  go_ret
                  exact ⟨rfl, below_step HS.out.W1 HT.out.B⟩
end Go.Proofs.Ytkecgjmbamaejaa.P
