/- Plain law of serial runs, part H: the nodes of a run are one tree, each ahead of its children. -/
import Derived.Test.YtcioegimmjppcaaDoorZJA
set_option linter.unusedVariables false
set_option linter.unusedSimpArgs false
/-! Plain law of serial runs, part E: one instruction of a run. -/
namespace Go.Proofs.YtcioegimmjppcaaDoor.P

theorem loop_empty (pd : Int → Int → Int) (ap : Int → Int → Int → Int) (P : List Fn) (n : Nat) (rs : RS) (t : TS) (at_ : Int) (self : Nat) (h : rs.left = 0) : loop pd ap P n rs t at_ self = .stop 62 := by
  cases n with
  | zero => rfl
  | succ n => simp only [loop]; rw [if_pos h]

theorem loop_go (pd : Int → Int → Int) (ap : Int → Int → Int → Int) (P : List Fn) (n : Nat) (rs : RS) (t : TS) (at_ : Int) (self : Nat) (h : rs.left ≠ 0) (i : Ins) (hi : insOf P t.f at_ = i) (h9 : i.kind ≠ 9) (h5 : i.kind ≠ 5) :
    loop pd ap P (n + 1) rs t at_ self = loop pd ap P n { rs with left := rs.left - 1 } (plainT ap (tick t i) i) (plainAt (tick t i) i at_) self := by
  subst hi
  simp only [loop]
  rw [if_neg h, if_neg h9, if_neg h5]

theorem loop_ret (pd : Int → Int → Int) (ap : Int → Int → Int → Int) (P : List Fn) (n : Nat) (rs : RS) (t : TS) (at_ : Int) (self : Nat) (h : rs.left ≠ 0) (i : Ins) (hi : insOf P t.f at_ = i) (h9 : i.kind = 9) :
    loop pd ap P (n + 1) rs t at_ self = .done (leave { rs with left := rs.left - 1 } self (gi t.regs i.a) (t.work + 1)) (gi t.regs i.a) (t.c + 1) := by
  subst hi
  simp only [loop]
  rw [if_neg h, if_pos h9]
  have hc : (tick t (insOf P t.f at_)).c = t.c + 1 := by
    simp only [tick]
    rw [if_neg (by omega)]
  rw [hc]
  rfl

theorem loop_deep63 (pd : Int → Int → Int) (ap : Int → Int → Int → Int) (P : List Fn) (n : Nat) (rs : RS) (t : TS) (at_ : Int) (self : Nat) (h : rs.left ≠ 0) (i : Ins) (hi : insOf P t.f at_ = i) (h5 : i.kind = 5) (hd : t.depth = 4096) :
    loop pd ap P (n + 1) rs t at_ self = .stop 63 := by
  subst hi
  simp only [loop]
  rw [if_neg h, if_neg (by omega), if_pos h5, if_pos (show (tick t (insOf P t.f at_)).depth = 4096 from hd)]

theorem loop_spawn_stop (pd : Int → Int → Int) (ap : Int → Int → Int → Int) (P : List Fn) (n : Nat) (rs : RS) (t : TS) (at_ : Int) (self : Nat) (h : rs.left ≠ 0) (i : Ins) (hi : insOf P t.f at_ = i) (h5 : i.kind = 5) (hd : t.depth ≠ 4096) (w : Int)
    (hk : loop pd ap P n (enter P { rs with left := rs.left - 1 } (kidOf pd P (tick t i) i) self t.kids) (kidOf pd P (tick t i) i) 0 rs.nodes.length = .stop w) :
    loop pd ap P (n + 1) rs t at_ self = .stop w := by
  subst hi
  simp only [loop]
  rw [if_neg h, if_neg (by omega), if_pos h5, if_neg (show ¬ (tick t (insOf P t.f at_)).depth = 4096 from hd)]
  have hk2 : loop pd ap P n (enter P { rs with left := rs.left - 1 } (kidOf pd P (tick t (insOf P t.f at_)) (insOf P t.f at_)) self (tick t (insOf P t.f at_)).kids) (kidOf pd P (tick t (insOf P t.f at_)) (insOf P t.f at_)) 0 rs.nodes.length = .stop w := hk
  rw [hk2]

theorem loop_spawn_done (pd : Int → Int → Int) (ap : Int → Int → Int → Int) (P : List Fn) (n : Nat) (rs : RS) (t : TS) (at_ : Int) (self : Nat) (h : rs.left ≠ 0) (i : Ins) (hi : insOf P t.f at_ = i) (h5 : i.kind = 5) (hd : t.depth ≠ 4096) (rs2 : RS) (v s : Int)
    (hk : loop pd ap P n (enter P { rs with left := rs.left - 1 } (kidOf pd P (tick t i) i) self t.kids) (kidOf pd P (tick t i) i) 0 rs.nodes.length = .done rs2 v s) :
    loop pd ap P (n + 1) rs t at_ self = loop pd ap P n rs2 { tick t i with kids := t.kids + 1, slots := si t.slots i.a v, ends := t.ends ++ [(tick t i).c + s] } (at_ + 1) self := by
  subst hi
  simp only [loop]
  rw [if_neg h, if_neg (by omega), if_pos h5, if_neg (show ¬ (tick t (insOf P t.f at_)).depth = 4096 from hd)]
  have hk2 : loop pd ap P n (enter P { rs with left := rs.left - 1 } (kidOf pd P (tick t (insOf P t.f at_)) (insOf P t.f at_)) self (tick t (insOf P t.f at_)).kids) (kidOf pd P (tick t (insOf P t.f at_)) (insOf P t.f at_)) 0 rs.nodes.length = .done rs2 v s := hk
  rw [hk2]
  rfl

end Go.Proofs.YtcioegimmjppcaaDoor.P
/-! Plain law of serial runs, part H: the nodes of a run are one tree, each ahead of its children. -/
namespace Go.Proofs.YtcioegimmjppcaaDoor.P
set_option linter.unusedVariables false

structure Core where
  parent : Int
  index : Int
  func : Int
  ped : Int
deriving DecidableEq

def core (n : Nd) : Core := ⟨n.parent, n.index, n.func, n.ped⟩
def cores (l : List Nd) : List Core := l.map core

/-- going up from node k one comes to node p -/
inductive Up (l : List Core) : Nat → Nat → Prop
  | refl (k : Nat) : Up l k k
  | step {k p : Nat} (q : Nat) (c : Core) : l[k]? = some c → c.parent = (q : Int) → q < k → Up l q p → Up l k p

def kidsAt (l : List Core) (p : Nat) : Nat := l.countP (fun c => decide (c.parent = (p : Int)))

/-- one tree, each node ahead of its children; d: the depths -/
inductive Shp (pd : Int → Int → Int) (P : List Fn) : List Core → List Int → Prop
  | root : Shp pd P [⟨-1, 0, 0, 1⟩] [1]
  | snoc {l : List Core} {d : List Int} (p : Nat) (c q : Core) (e : Int) : Shp pd P l d → l[p]? = some q → d[p]? = some e → Up l (l.length - 1) p → c.parent = (p : Int) → c.index = (kidsAt l p : Int) → c.ped = pd q.ped c.index →
      inR q.func (P.length : Int) → (∃ i ∈ (fnOf P q.func).code, i.kind = 5 ∧ i.b = c.func) → Shp pd P (l ++ [c]) (d ++ [e + 1])

theorem Up.app {l : List Core} {k p : Nat} (h : Up l k p) (m : List Core) : Up (l ++ m) k p := by
  induction h with
  | refl k => exact .refl k
  | step q c h1 h2 h3 _ ih =>
    refine .step q c ?_ h2 h3 ih
    rw [List.getElem?_append_left (List.getElem?_eq_some_iff.1 h1).1]
    exact h1
theorem Up.trans {l : List Core} {k p q : Nat} (h : Up l k p) (h2 : Up l p q) : Up l k q := by
  induction h with
  | refl k => exact h2
  | step q c h1 h3 h4 _ ih => exact .step q c h1 h3 h4 (ih h2)
theorem Up.le {l : List Core} {k p : Nat} (h : Up l k p) : p ≤ k := by
  induction h with
  | refl k => exact Nat.le_refl _
  | step q c h1 h2 h3 _ ih => omega

theorem Shp.pos {pd : Int → Int → Int} {P : List Fn} {l : List Core} {d : List Int} (h : Shp pd P l d) : 1 ≤ l.length := by
  cases h <;> simp
theorem Shp.len {pd : Int → Int → Int} {P : List Fn} {l : List Core} {d : List Int} (h : Shp pd P l d) : d.length = l.length := by
  induction h with
  | root => rfl
  | snoc p c q e _ _ _ _ _ _ _ _ _ ih => simp [ih]
theorem Shp.bound {pd : Int → Int → Int} {P : List Fn} {l : List Core} {d : List Int} (h : Shp pd P l d) : ∀ c ∈ l, c.parent < (l.length : Int) - 1 + (if l.length = 1 then 1 else 0) := by
  induction h with
  | root => intro c hc; simp only [List.mem_singleton] at hc; subst hc; decide
  | @snoc l d p c q e hs hp hd hu hc _ _ _ _ ih =>
    have hlt := (List.getElem?_eq_some_iff.1 hp).1
    have h1 := hs.pos
    intro x hx
    rw [List.length_append, List.length_singleton]
    rcases List.mem_append.1 hx with hx | hx
    · have := ih x hx
      split at this <;> split <;> omega
    · simp only [List.mem_singleton] at hx
      subst hx
      rw [hc]
      split <;> omega
theorem Shp.parent_lt {pd : Int → Int → Int} {P : List Fn} {l : List Core} {d : List Int} (h : Shp pd P l d) : ∀ c ∈ l, c.parent < (l.length : Int) := fun c hc => by
  have := h.bound c hc
  split at this <;> omega
theorem Shp.depth {pd : Int → Int → Int} {P : List Fn} {l : List Core} {d : List Int} (h : Shp pd P l d) : ∀ (j : Nat) (e : Int), d[j]? = some e → 1 ≤ e ∧ e ≤ (j : Int) + 1 := by
  induction h with
  | root =>
    intro j e hj
    cases j with
    | zero => simp at hj; omega
    | succ j => simp at hj
  | @snoc l d p c q e hs hp hd hu hc _ _ _ _ ih =>
    intro j x hj
    by_cases h1 : j < d.length
    · rw [List.getElem?_append_left h1] at hj
      exact ih j x hj
    · rw [List.getElem?_append_right (by omega)] at hj
      have h2 : j - d.length = 0 := by
        have := (List.getElem?_eq_some_iff.1 hj).1
        simp at this
        omega
      rw [h2] at hj
      simp at hj
      subst hj
      have := ih p e hd
      have hlt := (List.getElem?_eq_some_iff.1 hd).1
      omega

theorem kidsAt_app (l m : List Core) (p : Nat) : kidsAt (l ++ m) p = kidsAt l p + kidsAt m p := by
  unfold kidsAt
  rw [List.countP_append]
theorem kidsAt_zero {m : List Core} {p : Nat} (h : ∀ c ∈ m, c.parent ≠ (p : Int)) : kidsAt m p = 0 := by
  unfold kidsAt
  rw [List.countP_eq_zero]
  intro c hc
  simp [h c hc]
theorem kidsAt_one (c : Core) (p : Nat) : kidsAt [c] p = if c.parent = (p : Int) then 1 else 0 := by
  unfold kidsAt
  by_cases h : c.parent = (p : Int) <;> simp [h]

theorem cores_len (l : List Nd) : (cores l).length = l.length := by simp [cores]
theorem cores_app (l m : List Nd) : cores (l ++ m) = cores l ++ cores m := by simp [cores]
theorem cores_modify (l : List Nd) (i : Nat) (v work : Int) : cores (l.modify i (fun nd => ({ nd with v := v, work := work } : Nd))) = cores l := by
  apply List.ext_getElem?
  intro j
  unfold cores
  rw [List.getElem?_map, List.getElem?_map, List.getElem?_modify]
  cases l[j]? with
  | none => rfl
  | some x =>
    by_cases h : i = j
    · simp [h, core]
    · simp [h]

/-- a task on its way in the tree -/
structure InT (pd : Int → Int → Int) (P : List Fn) (rs : RS) (t : TS) (sf : Nat) (d : List Int) : Prop where
  shp : Shp pd P (cores rs.nodes) d
  me : ∃ c, (cores rs.nodes)[sf]? = some c ∧ c.ped = t.ped ∧ c.func = t.f
  dep : d[sf]? = some t.depth
  up : Up (cores rs.nodes) (rs.nodes.length - 1) sf
  kids : (kidsAt (cores rs.nodes) sf : Int) = t.kids

/-- and when it has returned -/
def OutT (pd : Int → Int → Int) (P : List Fn) (rs rs' : RS) (self : Nat) (d : List Int) : Prop :=
  ∃ (m : List Core) (e : List Int), Shp pd P (cores rs'.nodes) (d ++ e) ∧ cores rs'.nodes = cores rs.nodes ++ m ∧ (∀ c ∈ m, (self : Int) ≤ c.parent) ∧ Up (cores rs'.nodes) (rs'.nodes.length - 1) self ∧ rs'.deepest = e.foldl max rs.deepest

theorem loop_tree (pd : Int → Int → Int) (ap : Int → Int → Int → Int) {P : List Fn} (hv : Valid P) : ∀ (n : Nat) (rs : RS) (t : TS) (at_ : Int) (self : Nat) (rs' : RS) (v s : Int), loop pd ap P n rs t at_ self = .done rs' v s →
    At P t at_ → ∀ d, InT pd P rs t self d → OutT pd P rs rs' self d := by
  refine loop_done_ind pd ap P (fun rs t at_ self rs' v s => At P t at_ → ∀ d, InT pd P rs t self d → OutT pd P rs rs' self d) ?_ ?_ ?_
  · intro rs t at_ self hl hk ha d hi
    refine ⟨[], [], ?_, ?_, (fun c hc => by cases hc), ?_, rfl⟩
    · show Shp pd P (cores (leave { rs with left := rs.left - 1 } self _ _).nodes) (d ++ [])
      simp only [leave, cores_modify, List.append_nil]
      exact hi.shp
    · show cores (leave { rs with left := rs.left - 1 } self _ _).nodes = _
      simp only [leave, cores_modify, List.append_nil]
    · show Up (cores (leave { rs with left := rs.left - 1 } self _ _).nodes) _ self
      simp only [leave, cores_modify, List.length_modify]
      exact hi.up
  · intro rs t at_ self rs' v s hl hk hk5 h ha d hi
    obtain ⟨k1, k2, k3, k4, k5⟩ := plainT_keeps ap (tick t (insOf P t.f at_)) (insOf P t.f at_)
    exact h (ha.go hv ap hk hk5) d ⟨hi.shp, by rw [k1, k3]; exact hi.me, by rw [k2]; exact hi.dep, hi.up, by rw [k4]; exact hi.kids⟩
  · intro rs t at_ self rs2 v2 s2 rs' v s hl hk hd h2 h ha d hi
    obtain ⟨c0, hc0, hp0, hf0⟩ := hi.me
    have hself : self < rs.nodes.length := by
      have := (List.getElem?_eq_some_iff.1 hc0).1
      rw [cores_len] at this
      exact this
    have hlen := hi.shp.len
    rw [cores_len] at hlen
    have hf := hv.each _ (fnOf_mem ha.f)
    have hmem := insOf_mem ha.place
    have ekid : (kidOf pd P (tick t (insOf P t.f at_)) (insOf P t.f at_)).ped = pd t.ped t.kids := rfl
    have edep : (kidOf pd P (tick t (insOf P t.f at_)) (insOf P t.f at_)).depth = t.depth + 1 := rfl
    have efun : (kidOf pd P (tick t (insOf P t.f at_)) (insOf P t.f at_)).f = (insOf P t.f at_).b := rfl
    have ekk : (kidOf pd P (tick t (insOf P t.f at_)) (insOf P t.f at_)).kids = 0 := rfl
    have hak := ha.kid hv pd hk
    generalize kidOf pd P (tick t (insOf P t.f at_)) (insOf P t.f at_) = kid at h2 ekid edep efun ekk hak
    obtain ⟨nd, hnd, hcd⟩ : ∃ nd : Nd, (enter P { rs with left := rs.left - 1 } kid self t.kids).nodes = rs.nodes ++ [nd] ∧ core nd = ⟨(self : Int), t.kids, (insOf P t.f at_).b, pd t.ped t.kids⟩ := by
      refine ⟨_, rfl, ?_⟩
      show (⟨_, _, _, _⟩ : Core) = _
      rw [efun, ekid]
    have hcn : cores (rs.nodes ++ [nd]) = cores rs.nodes ++ [core nd] := by rw [cores_app]; rfl
    have hs1 : Shp pd P (cores rs.nodes ++ [core nd]) (d ++ [t.depth + 1]) := by
      refine .snoc self (core nd) c0 t.depth hi.shp hc0 hi.dep ?_ ?_ ?_ ?_ ?_ ?_
      · rw [cores_len]; exact hi.up
      · rw [hcd]
      · rw [hcd]; exact hi.kids.symm
      · rw [hcd, hp0]
      · rw [hf0]; exact ha.f
      · rw [hf0, hcd]
        exact ⟨_, hmem, hk, rfl⟩
    have hin : InT pd P (enter P { rs with left := rs.left - 1 } kid self t.kids) kid rs.nodes.length (d ++ [t.depth + 1]) := by
      refine ⟨by rw [hnd, hcn]; exact hs1, ⟨core nd, ?_, by rw [hcd, ekid], by rw [hcd, efun]⟩, ?_, ?_, ?_⟩
      · rw [hnd, hcn, List.getElem?_append_right (by rw [cores_len]; exact Nat.le_refl _), cores_len, Nat.sub_self]
        rfl
      · rw [List.getElem?_append_right (by omega), hlen, Nat.sub_self, edep]
        rfl
      · rw [hnd, List.length_append, List.length_singleton]
        exact .refl _
      · rw [hnd, hcn, ekk, kidsAt_app, kidsAt_zero (m := cores rs.nodes) (fun c hc => by
          have := hi.shp.parent_lt c hc
          rw [cores_len] at this
          omega), kidsAt_one, hcd, if_neg (by simp only; omega)]
        rfl
    obtain ⟨m2, e2, a1, a2, a3, a4, a5⟩ := h2 hak _ hin
    rw [hnd, hcn] at a2
    have hl2 : rs2.nodes.length = rs.nodes.length + 1 + m2.length := by
      have := congrArg List.length a2
      rw [cores_len, List.length_append, List.length_append, cores_len, List.length_singleton] at this
      exact this
    have hup : Up (cores rs2.nodes) rs.nodes.length self := by
      refine .step self (core nd) ?_ (by rw [hcd]) hself (.refl self)
      rw [a2, List.append_assoc, List.getElem?_append_right (by rw [cores_len]; exact Nat.le_refl _), cores_len, Nat.sub_self]
      rfl
    have hin2 : InT pd P rs2 { tick t (insOf P t.f at_) with c := t.c + 1, kids := t.kids + 1, slots := si t.slots (insOf P t.f at_).a v2, ends := t.ends ++ [t.c + 1 + s2] } self (d ++ [t.depth + 1] ++ e2) := by
      refine ⟨a1, ⟨c0, ?_, hp0, hf0⟩, ?_, a4.trans hup, ?_⟩
      · rw [a2, List.append_assoc, List.getElem?_append_left (by rw [cores_len]; exact hself)]
        exact hc0
      · rw [List.append_assoc, List.getElem?_append_left (by omega)]
        exact hi.dep
      · rw [a2, kidsAt_app, kidsAt_app, kidsAt_one, hcd, if_pos rfl, kidsAt_zero (m := m2) (fun c hc => by
          have := a3 c hc
          omega)]
        have := hi.kids
        show ((kidsAt (cores rs.nodes) self + 1 + 0 : Nat) : Int) = t.kids + 1
        omega
    obtain ⟨m3, e3, b1, b2, b3, b4, b5⟩ := h (ha.spawned hv hk _ _ _ _) _ hin2
    refine ⟨[core nd] ++ m2 ++ m3, [t.depth + 1] ++ e2 ++ e3, ?_, ?_, ?_, b4, ?_⟩
    · rw [← List.append_assoc, ← List.append_assoc]
      exact b1
    · rw [b2, a2, ← List.append_assoc, ← List.append_assoc]
    · intro c hc
      rcases List.mem_append.1 hc with hc | hc
      · rcases List.mem_append.1 hc with hc | hc
        · simp only [List.mem_singleton] at hc
          rw [hc, hcd]
          exact Int.le_refl _
        · have := a3 c hc
          omega
      · exact b3 c hc
    · rw [b5, a5, List.foldl_append, List.foldl_append]
      show e3.foldl max (e2.foldl max (max rs.deepest kid.depth)) = _
      rw [edep]
      rfl

def sumW (l : List Nd) : Int := (l.map (·.work)).foldr (· + ·) 0
theorem sumW_app (l m : List Nd) : sumW (l ++ m) = sumW l + sumW m := by
  induction l with
  | nil => simp [sumW]
  | cons a l ih =>
    have e1 : sumW (a :: l ++ m) = a.work + sumW (l ++ m) := rfl
    have e2 : sumW (a :: l) = a.work + sumW l := rfl
    omega
theorem sumW_modify : ∀ (l : List Nd) (i : Nat) (nd : Nd) (v work : Int), l[i]? = some nd → sumW (l.modify i (fun nd => ({ nd with v := v, work := work } : Nd))) = sumW l - nd.work + work := by
  intro l
  induction l with
  | nil => intro i nd v work h; simp at h
  | cons a l ih =>
    intro i nd v work h
    cases i with
    | zero =>
      simp at h
      subst h
      have e1 : sumW (List.modify (a :: l) 0 (fun nd => ({ nd with v := v, work := work } : Nd))) = work + sumW l := rfl
      have e2 : sumW (a :: l) = a.work + sumW l := rfl
      omega
    | succ i =>
      have h2 : l[i]? = some nd := by simpa using h
      have e1 : sumW (List.modify (a :: l) (i + 1) (fun nd => ({ nd with v := v, work := work } : Nd))) = a.work + sumW (l.modify i (fun nd => ({ nd with v := v, work := work } : Nd))) := rfl
      have e2 : sumW (a :: l) = a.work + sumW l := rfl
      have := ih i nd v work h2
      omega

/-- the works, and the values: what a run writes into the nodes -/
theorem loop_works (pd : Int → Int → Int) (ap : Int → Int → Int → Int) (P : List Fn) : ∀ (n : Nat) (rs : RS) (t : TS) (at_ : Int) (self : Nat) (rs' : RS) (v s : Int), loop pd ap P n rs t at_ self = .done rs' v s →
    0 ≤ t.work → ∀ nd, rs.nodes[self]? = some nd → nd.work = 0 → sumW rs'.nodes = sumW rs.nodes + t.work + ((rs.left : Int) - rs'.left) ∧
      (∃ nd', rs'.nodes[self]? = some nd' ∧ nd'.v = v ∧ 1 ≤ nd'.work) ∧ (∀ j, j < rs.nodes.length → j ≠ self → rs'.nodes[j]? = rs.nodes[j]?) ∧ (∀ j x, rs.nodes.length ≤ j → rs'.nodes[j]? = some x → 1 ≤ x.work) ∧ rs.nodes.length ≤ rs'.nodes.length := by
  refine loop_done_ind pd ap P (fun rs t at_ self rs' v s => 0 ≤ t.work → ∀ nd, rs.nodes[self]? = some nd → nd.work = 0 → sumW rs'.nodes = sumW rs.nodes + t.work + ((rs.left : Int) - rs'.left) ∧
      (∃ nd', rs'.nodes[self]? = some nd' ∧ nd'.v = v ∧ 1 ≤ nd'.work) ∧ (∀ j, j < rs.nodes.length → j ≠ self → rs'.nodes[j]? = rs.nodes[j]?) ∧ (∀ j x, rs.nodes.length ≤ j → rs'.nodes[j]? = some x → 1 ≤ x.work) ∧ rs.nodes.length ≤ rs'.nodes.length) ?_ ?_ ?_
  · intro rs t at_ self hl hk h0 nd hnd hw
    simp only [leave]
    refine ⟨?_, ⟨{ nd with v := gi t.regs (insOf P t.f at_).a, work := t.work + 1 }, ?_, rfl, ?_⟩, fun j hj hne => ?_, fun j x hj hx => ?_, by simp⟩
    · rw [sumW_modify _ _ nd _ _ hnd, hw]
      omega
    · rw [List.getElem?_modify, hnd]
      simp
    · simp only
      omega
    · rw [List.getElem?_modify]
      cases rs.nodes[j]? <;> simp [Ne.symm hne]
    · have := (List.getElem?_eq_some_iff.1 hx).1
      simp at this
      omega
  · intro rs t at_ self rs' v s hl hk hk5 h h0 nd hnd hw
    have hkp := (plainT_keeps ap (tick t (insOf P t.f at_)) (insOf P t.f at_)).2.2.2.2
    have ht : (tick t (insOf P t.f at_)).work = t.work + 1 := rfl
    rw [hkp, ht] at h
    obtain ⟨a1, a2⟩ := h (by omega) nd hnd hw
    refine ⟨?_, a2⟩
    simp only at a1
    omega
  · intro rs t at_ self rs2 v2 s2 rs' v s hl hk hd h2 h h0 nd hnd hw
    have hself := (List.getElem?_eq_some_iff.1 hnd).1
    have hk0 : (kidOf pd P (tick t (insOf P t.f at_)) (insOf P t.f at_)).work = 0 := rfl
    generalize kidOf pd P (tick t (insOf P t.f at_)) (insOf P t.f at_) = kid at h2 hk0
    obtain ⟨nk, hnk, hwk⟩ : ∃ nk : Nd, (enter P { rs with left := rs.left - 1 } kid self t.kids).nodes = rs.nodes ++ [nk] ∧ nk.work = 0 := ⟨_, rfl, rfl⟩
    rw [hnk] at h2
    obtain ⟨a1, ⟨n2, a2, a3, a4⟩, a5, a6, a7⟩ := h2 (by omega) nk (by rw [List.getElem?_append_right (Nat.le_refl _), Nat.sub_self]; rfl) hwk
    rw [List.length_append, List.length_singleton] at a5 a6 a7
    have e1 : sumW (rs.nodes ++ [nk]) = sumW rs.nodes := by
      rw [sumW_app]
      have : sumW [nk] = nk.work + 0 := rfl
      omega
    rw [e1] at a1
    obtain ⟨b1, b2, b3, b4, b5⟩ := h (by show 0 ≤ t.work + 1; omega) nd (by
      rw [a5 self (by omega) (by omega), List.getElem?_append_left hself]
      exact hnd) hw
    refine ⟨?_, b2, fun j hj hne => ?_, fun j x hj hx => ?_, by omega⟩
    · have b1' : sumW rs'.nodes = sumW rs2.nodes + (t.work + 1) + ((rs2.left : Int) - rs'.left) := b1
      have hkl : (enter P { rs with left := rs.left - 1 } kid self t.kids).left = rs.left - 1 := rfl
      rw [hkl] at a1
      omega
    · rw [b3 j (by omega) hne, a5 j (by omega) (by omega), List.getElem?_append_left hj]
    · by_cases h3 : j < rs2.nodes.length
      · rw [b3 j h3 (by omega)] at hx
        by_cases h4 : j = rs.nodes.length
        · subst h4
          rw [a2] at hx
          injection hx with hx
          rw [← hx]
          exact a4
        · exact a6 j x (by omega) hx
      · exact b4 j x (by omega) hx

end Go.Proofs.YtcioegimmjppcaaDoor.P
