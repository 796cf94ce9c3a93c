/- plunderlaw6.swapped: its answer as a plain function. -/
import Derived.Test.YtcioegimmjppcaaDoorZJC
import Derived.Test.YtcioegimmjppcaaDoorZJX
set_option linter.unusedVariables false
set_option linter.unusedSimpArgs false
/-! Plain law of serial runs, part K: each node of a run is a run of its own. -/
namespace Go.Proofs.YtcioegimmjppcaaDoor.P
set_option linter.unusedVariables false

/-- as loop_done_ind, with the runs themselves -/
theorem loop_done_ind2 (pd : Int → Int → Int) (ap : Int → Int → Int → Int) (P : List Fn) (M : RS → TS → Int → Nat → RS → Int → Int → Prop)
    (ret : ∀ (rs : RS) (t : TS) (at_ : Int) (self : Nat), rs.left ≠ 0 → (insOf P t.f at_).kind = 9 →
      M rs t at_ self (leave { rs with left := rs.left - 1 } self (gi t.regs (insOf P t.f at_).a) (t.work + 1)) (gi t.regs (insOf P t.f at_).a) (t.c + 1))
    (go : ∀ (n : Nat) (rs : RS) (t : TS) (at_ : Int) (self : Nat) (rs' : RS) (v s : Int), rs.left ≠ 0 → (insOf P t.f at_).kind ≠ 9 → (insOf P t.f at_).kind ≠ 5 →
      loop pd ap P n { rs with left := rs.left - 1 } (plainT ap (tick t (insOf P t.f at_)) (insOf P t.f at_)) (plainAt (tick t (insOf P t.f at_)) (insOf P t.f at_) at_) self = .done rs' v s →
      M { rs with left := rs.left - 1 } (plainT ap (tick t (insOf P t.f at_)) (insOf P t.f at_)) (plainAt (tick t (insOf P t.f at_)) (insOf P t.f at_) at_) self rs' v s →
      M rs t at_ self rs' v s)
    (spawn : ∀ (n : Nat) (rs : RS) (t : TS) (at_ : Int) (self : Nat) (rs2 : RS) (v2 s2 : Int) (rs' : RS) (v s : Int), rs.left ≠ 0 → (insOf P t.f at_).kind = 5 → t.depth ≠ 4096 →
      loop pd ap P n (enter P { rs with left := rs.left - 1 } (kidOf pd P (tick t (insOf P t.f at_)) (insOf P t.f at_)) self t.kids) (kidOf pd P (tick t (insOf P t.f at_)) (insOf P t.f at_)) 0 rs.nodes.length = .done rs2 v2 s2 →
      loop pd ap P n rs2 { tick t (insOf P t.f at_) with c := t.c + 1, kids := t.kids + 1, slots := si t.slots (insOf P t.f at_).a v2, ends := t.ends ++ [t.c + 1 + s2] } (at_ + 1) self = .done rs' v s →
      M (enter P { rs with left := rs.left - 1 } (kidOf pd P (tick t (insOf P t.f at_)) (insOf P t.f at_)) self t.kids) (kidOf pd P (tick t (insOf P t.f at_)) (insOf P t.f at_)) 0 rs.nodes.length rs2 v2 s2 →
      M rs2 { tick t (insOf P t.f at_) with c := t.c + 1, kids := t.kids + 1, slots := si t.slots (insOf P t.f at_).a v2, ends := t.ends ++ [t.c + 1 + s2] } (at_ + 1) self rs' v s →
      M rs t at_ self rs' v s) :
    ∀ (n : Nat) (rs : RS) (t : TS) (at_ : Int) (self : Nat) (rs' : RS) (v s : Int), loop pd ap P n rs t at_ self = .done rs' v s → M rs t at_ self rs' v s := by
  intro n
  induction n with
  | zero => intro rs t at_ self rs' v s h; simp [loop] at h
  | succ n ih =>
    intro rs t at_ self rs' v s h
    simp only [loop] at h
    split at h
    · cases h
    · rename_i hl
      split at h
      · rename_i hk
        have hc : (tick t (insOf P t.f at_)).c = t.c + 1 := by
          simp only [tick]
          rw [if_neg (by omega)]
        injection h with h1 h2 h3
        subst h1 h2 h3
        rw [hc]
        exact ret rs t at_ self hl hk
      · rename_i hk
        split at h
        · rename_i hk5
          have hc : (tick t (insOf P t.f at_)).c = t.c + 1 := by
            simp only [tick]
            rw [if_neg (by omega)]
          split at h
          · cases h
          · rename_i hd
            split at h
            · cases h
            · rename_i rs2 v2 s2 h2
              have b := ih _ _ _ _ _ _ _ h
              rw [hc] at b h
              exact spawn n rs t at_ self rs2 v2 s2 rs' v s hl hk5 hd h2 h (ih _ _ _ _ _ _ _ h2) b
        · rename_i hk5
          exact go n rs t at_ self rs' v s hl hk hk5 h (ih _ _ _ _ _ _ _ h)

/-- a task at its beginning, of a function with its parameters -/
structure Fresh (P : List Fn) (t : TS) : Prop where
  kids : t.kids = 0
  work : t.work = 0
  c : t.c = 0
  ends : t.ends = []
  slots : t.slots = List.replicate 8 0
  regs : ∃ l : List Int, t.regs = fill 16 (l.take (fnOf P t.f).params.toNat)

/-- node i of the nodes is a run of its own; it ends ahead of node e -/
def SubRun (pd : Int → Int → Int) (ap : Int → Int → Int → Int) (P : List Fn) (nodes : List Nd) (i : Nat) : Prop :=
  ∃ (n : Nat) (rs0 : RS) (kid : TS) (rs1 : RS) (v1 s1 : Int) (x : Nd), loop pd ap P n rs0 kid 0 i = .done rs1 v1 s1 ∧ rs0.nodes.length = i + 1 ∧ Fresh P kid ∧ At P kid 0 ∧ (1 ≤ kid.depth ∧ kid.depth ≤ 4096) ∧
    nodes[i]? = some x ∧ x.v = v1 ∧ x.func = kid.f ∧ x.arg = (if (fnOf P kid.f).params > 0 then gi kid.regs 0 else 0) ∧
    i < rs1.nodes.length ∧ rs1.nodes.length ≤ nodes.length ∧ (∀ j y, i < j → j < rs1.nodes.length → nodes[j]? = some y → (i : Int) ≤ y.parent) ∧ (∀ y, nodes[rs1.nodes.length]? = some y → y.parent < (i : Int)) ∧
    sumW ((nodes.take rs1.nodes.length).drop i) = (rs0.left : Int) - rs1.left ∧ rs1.tasks - rs0.tasks = (rs1.nodes.length : Int) - (i + 1)

/-- as many nodes come as tasks -/
theorem loop_lens (pd : Int → Int → Int) (ap : Int → Int → Int → Int) (P : List Fn) : ∀ (n : Nat) (rs : RS) (t : TS) (at_ : Int) (self : Nat) (rs' : RS) (v s : Int), loop pd ap P n rs t at_ self = .done rs' v s →
    (rs'.nodes.length : Int) - rs'.tasks = (rs.nodes.length : Int) - rs.tasks := by
  refine loop_done_ind pd ap P (fun rs t at_ self rs' v s => (rs'.nodes.length : Int) - rs'.tasks = (rs.nodes.length : Int) - rs.tasks) ?_ ?_ ?_
  · intro rs t at_ self hl hk
    simp [leave]
  · intro rs t at_ self rs' v s hl hk hk5 h
    exact h
  · intro rs t at_ self rs2 v2 s2 rs' v s hl hk hd h2 h
    simp only [enter, List.length_append, List.length_singleton] at h2
    omega

/-- a run leaves the arguments noted as they were -/
theorem loop_args (pd : Int → Int → Int) (ap : Int → Int → Int → Int) (P : List Fn) : ∀ (n : Nat) (rs : RS) (t : TS) (at_ : Int) (self : Nat) (rs' : RS) (v s : Int), loop pd ap P n rs t at_ self = .done rs' v s →
    ∀ (i : Nat) (x : Nd), rs.nodes[i]? = some x → ∃ y : Nd, rs'.nodes[i]? = some y ∧ y.arg = x.arg := by
  refine loop_done_ind pd ap P (fun rs t at_ self rs' v s => ∀ (i : Nat) (x : Nd), rs.nodes[i]? = some x → ∃ y : Nd, rs'.nodes[i]? = some y ∧ y.arg = x.arg) ?_ ?_ ?_
  · intro rs t at_ self hl hk i x hx
    simp only [leave]
    rw [List.getElem?_modify, hx]
    by_cases e : self = i
    · exact ⟨{ x with v := gi t.regs (insOf P t.f at_).a, work := t.work + 1 }, by simp [e], rfl⟩
    · exact ⟨x, by simp [e], rfl⟩
  · intro rs t at_ self rs' v s hl hk hk5 h i x hx
    exact h i x hx
  · intro rs t at_ self rs2 v2 s2 rs' v s hl hk hd h2 h i x hx
    obtain ⟨y, hy, e1⟩ := h2 i x (by
      simp only [enter]
      rw [List.getElem?_append_left (List.getElem?_eq_some_iff.1 hx).1]
      exact hx)
    obtain ⟨z, hz, e2⟩ := h i y hy
    exact ⟨z, hz, e2.trans e1⟩

/-- the child's state in the tree -/
theorem InT.kid {pd : Int → Int → Int} {P : List Fn} {rs : RS} {t : TS} {at_ : Int} {self : Nat} {d : List Int} (ha : At P t at_) (hk : (insOf P t.f at_).kind = 5) (hi : InT pd P rs t self d) :
    InT pd P (enter P { rs with left := rs.left - 1 } (kidOf pd P (tick t (insOf P t.f at_)) (insOf P t.f at_)) self t.kids) (kidOf pd P (tick t (insOf P t.f at_)) (insOf P t.f at_)) rs.nodes.length (d ++ [t.depth + 1]) ∧ self < rs.nodes.length ∧
      ∃ nd : Nd, (enter P { rs with left := rs.left - 1 } (kidOf pd P (tick t (insOf P t.f at_)) (insOf P t.f at_)) self t.kids).nodes = rs.nodes ++ [nd] ∧ core nd = ⟨(self : Int), t.kids, (insOf P t.f at_).b, pd t.ped t.kids⟩ ∧ nd.work = 0 ∧
        nd.arg = (if (fnOf P (insOf P t.f at_).b).params > 0 then gi (kidOf pd P (tick t (insOf P t.f at_)) (insOf P t.f at_)).regs 0 else 0) := by
  obtain ⟨c0, hc0, hp0, hf0⟩ := hi.me
  have hself : self < rs.nodes.length := by
    have := (List.getElem?_eq_some_iff.1 hc0).1
    rw [cores_len] at this
    exact this
  have hlen := hi.shp.len
  rw [cores_len] at hlen
  have hmem := insOf_mem ha.place
  have ekid : (kidOf pd P (tick t (insOf P t.f at_)) (insOf P t.f at_)).ped = pd t.ped t.kids := rfl
  have edep : (kidOf pd P (tick t (insOf P t.f at_)) (insOf P t.f at_)).depth = t.depth + 1 := rfl
  have efun : (kidOf pd P (tick t (insOf P t.f at_)) (insOf P t.f at_)).f = (insOf P t.f at_).b := rfl
  have ekk : (kidOf pd P (tick t (insOf P t.f at_)) (insOf P t.f at_)).kids = 0 := rfl
  generalize kidOf pd P (tick t (insOf P t.f at_)) (insOf P t.f at_) = kid at ekid edep efun ekk ⊢
  obtain ⟨nd, hnd, hcd, hw0, harg⟩ : ∃ nd : Nd, (enter P { rs with left := rs.left - 1 } kid self t.kids).nodes = rs.nodes ++ [nd] ∧ core nd = ⟨(self : Int), t.kids, (insOf P t.f at_).b, pd t.ped t.kids⟩ ∧ nd.work = 0 ∧ nd.arg = (if (fnOf P (insOf P t.f at_).b).params > 0 then gi kid.regs 0 else 0) := by
    refine ⟨_, rfl, ?_, rfl, ?_⟩
    · show (⟨_, _, _, _⟩ : Core) = _
      rw [efun, ekid]
    · show (if (fnOf P kid.f).params > 0 then gi kid.regs 0 else 0) = _
      rw [efun]
  have hcn : cores (rs.nodes ++ [nd]) = cores rs.nodes ++ [core nd] := by rw [cores_app]; rfl
  refine ⟨⟨?_, ⟨core nd, ?_, by rw [hcd, ekid], by rw [hcd, efun]⟩, ?_, ?_, ?_⟩, hself, nd, hnd, hcd, hw0, harg⟩
  · rw [hnd, hcn]
    refine .snoc self (core nd) c0 t.depth hi.shp hc0 hi.dep ?_ ?_ ?_ ?_ ?_ ?_
    · rw [cores_len]; exact hi.up
    · rw [hcd]
    · rw [hcd]; exact hi.kids.symm
    · rw [hcd, hp0]
    · rw [hf0]; exact ha.f
    · rw [hf0, hcd]
      exact ⟨_, hmem, hk, rfl⟩
  · rw [hnd, hcn, List.getElem?_append_right (by rw [cores_len]; exact Nat.le_refl _), cores_len, Nat.sub_self]
    rfl
  · rw [List.getElem?_append_right (by omega), hlen, Nat.sub_self, edep]
    rfl
  · rw [hnd, List.length_append, List.length_singleton]
    exact .refl _
  · rw [hnd, hcn, ekk, kidsAt_app, kidsAt_zero (m := cores rs.nodes) (fun c hc => by
      have := hi.shp.parent_lt c hc
      rw [cores_len] at this
      omega), kidsAt_one, hcd, if_neg (by simp only; omega)]
    rfl

/-- and the task's own behind the child's return -/
theorem InT.next {pd : Int → Int → Int} {P : List Fn} {rs rs2 : RS} {t t2 : TS} {self : Nat} {d : List Int} {nd : Nd} {e1 : RS} (hi : InT pd P rs t self d) (hself : self < rs.nodes.length) (hnd : e1.nodes = rs.nodes ++ [nd]) (hcd : ∃ b p, core nd = ⟨(self : Int), t.kids, b, p⟩)
    (ho : OutT pd P e1 rs2 rs.nodes.length (d ++ [t.depth + 1])) (hf : t2.f = t.f) (hp : t2.ped = t.ped) (hd : t2.depth = t.depth) (hk : t2.kids = t.kids + 1) : ∃ d2, InT pd P rs2 t2 self d2 := by
  obtain ⟨b, p, hcd⟩ := hcd
  obtain ⟨c0, hc0, hp0, hf0⟩ := hi.me
  have hlen := hi.shp.len
  rw [cores_len] at hlen
  have hcn : cores (rs.nodes ++ [nd]) = cores rs.nodes ++ [core nd] := by rw [cores_app]; rfl
  obtain ⟨m2, e2, a1, a2, a3, a4, a5⟩ := ho
  rw [hnd, hcn] at a2
  have hup : Up (cores rs2.nodes) rs.nodes.length self := by
    refine .step self (core nd) ?_ (by rw [hcd]) hself (.refl self)
    rw [a2, List.append_assoc, List.getElem?_append_right (by rw [cores_len]; exact Nat.le_refl _), cores_len, Nat.sub_self]
    rfl
  refine ⟨_, a1, ⟨c0, ?_, by rw [hp]; exact hp0, by rw [hf]; exact hf0⟩, ?_, a4.trans hup, ?_⟩
  · rw [a2, List.append_assoc, List.getElem?_append_left (by rw [cores_len]; exact hself)]
    exact hc0
  · have hlt : self < d.length := by omega
    rw [hd, List.append_assoc, List.getElem?_append_left hlt]
    exact hi.dep
  · rw [a2, kidsAt_app, kidsAt_app, kidsAt_one, hcd, if_pos rfl, kidsAt_zero (m := m2) (fun c hc => by
      have := a3 c hc
      omega), hk]
    have := hi.kids
    show ((kidsAt (cores rs.nodes) self + 1 + 0 : Nat) : Int) = t.kids + 1
    omega

theorem SubRun.ext {pd : Int → Int → Int} {ap : Int → Int → Int → Int} {P : List Fn} {l m : List Nd} {i self : Nat} (h : SubRun pd ap P l i) (hs : self < i) (hle : l.length ≤ m.length) (hsame : ∀ j, j < l.length → j ≠ self → m[j]? = l[j]?) (hnext : ∀ y, m[l.length]? = some y → y.parent = (self : Int)) : SubRun pd ap P m i := by
  obtain ⟨n, rs0, kid, rs1, v1, s1, x, a1, a2, a3, a4, a5, a6, a7, a8, a9, a10, a11, a12, a13, a14, a15⟩ := h
  have hil := (List.getElem?_eq_some_iff.1 a6).1
  refine ⟨n, rs0, kid, rs1, v1, s1, x, a1, a2, a3, a4, a5, ?_, a7, a8, a9, a10, by omega, fun j y h1 h2 hy => ?_, fun y hy => ?_, ?_, a15⟩
  · rw [hsame i hil (by omega)]
    exact a6
  · rw [hsame j (by omega) (by omega)] at hy
    exact a12 j y h1 h2 hy
  · by_cases e : rs1.nodes.length = l.length
    · rw [e] at hy
      have := hnext y hy
      omega
    · rw [hsame _ (by omega) (by omega)] at hy
      exact a13 y hy
  · have e : (m.take rs1.nodes.length).drop i = (l.take rs1.nodes.length).drop i := by
      apply List.ext_getElem?
      intro j
      rw [List.getElem?_drop, List.getElem?_drop, List.getElem?_take, List.getElem?_take]
      split
      · exact hsame _ (by omega) (by omega)
      · rfl
    rw [e]
    exact a14

theorem loop_sub (pd : Int → Int → Int) (ap : Int → Int → Int → Int) {P : List Fn} (hv : Valid P) : ∀ (n : Nat) (rs : RS) (t : TS) (at_ : Int) (self : Nat) (rs' : RS) (v s : Int), loop pd ap P n rs t at_ self = .done rs' v s →
    At P t at_ → ∀ d, InT pd P rs t self d → 0 ≤ t.work → 1 ≤ t.depth ∧ t.depth ≤ 4096 → (∀ nd, rs.nodes[self]? = some nd → nd.work = 0) →
      (∀ i, rs.nodes.length ≤ i → i < rs'.nodes.length → SubRun pd ap P rs'.nodes i) ∧ (∀ y, rs'.nodes[rs.nodes.length]? = some y → y.parent = (self : Int)) := by
  refine loop_done_ind2 pd ap P (fun rs t at_ self rs' v s => At P t at_ → ∀ d, InT pd P rs t self d → 0 ≤ t.work → 1 ≤ t.depth ∧ t.depth ≤ 4096 → (∀ nd, rs.nodes[self]? = some nd → nd.work = 0) →
      (∀ i, rs.nodes.length ≤ i → i < rs'.nodes.length → SubRun pd ap P rs'.nodes i) ∧ (∀ y, rs'.nodes[rs.nodes.length]? = some y → y.parent = (self : Int))) ?_ ?_ ?_
  · intro rs t at_ self hl hk ha d hi hw hdp hz
    have e : (leave { rs with left := rs.left - 1 } self (gi t.regs (insOf P t.f at_).a) (t.work + 1)).nodes.length = rs.nodes.length := by simp [leave]
    refine ⟨fun i h1 h2 => by omega, fun y hy => ?_⟩
    have := (List.getElem?_eq_some_iff.1 hy).1
    omega
  · intro n rs t at_ self rs' v s hl hk hk5 he h ha d hi hw hdp hz
    obtain ⟨k1, k2, k3, k4, k5⟩ := plainT_keeps ap (tick t (insOf P t.f at_)) (insOf P t.f at_)
    exact h (ha.go hv ap hk hk5) d ⟨hi.shp, by rw [k1, k3]; exact hi.me, by rw [k2]; exact hi.dep, hi.up, by rw [k4]; exact hi.kids⟩ (by rw [k5]; show 0 ≤ t.work + 1; omega) (by rw [k2]; exact hdp) hz
  · intro n rs t at_ self rs2 v2 s2 rs' v s hl hk hd he2 he h2 h ha d hi hw hdp hz
    obtain ⟨hin, hself, nd, hnd, hcd, hw0, harg⟩ := hi.kid ha hk
    have hak := ha.kid hv pd hk
    have hfr : Fresh P (kidOf pd P (tick t (insOf P t.f at_)) (insOf P t.f at_)) := ⟨rfl, rfl, rfl, rfl, rfl, _, rfl⟩
    have efun : (kidOf pd P (tick t (insOf P t.f at_)) (insOf P t.f at_)).f = (insOf P t.f at_).b := rfl
    have edep : (kidOf pd P (tick t (insOf P t.f at_)) (insOf P t.f at_)).depth = t.depth + 1 := rfl
    have ewk : (kidOf pd P (tick t (insOf P t.f at_)) (insOf P t.f at_)).work = 0 := rfl
    generalize kidOf pd P (tick t (insOf P t.f at_)) (insOf P t.f at_) = kid at he2 h2 hin hnd harg hak hfr efun edep ewk
    have hkz : ∀ x, (enter P { rs with left := rs.left - 1 } kid self t.kids).nodes[rs.nodes.length]? = some x → x.work = 0 := fun x hx => by
      rw [hnd, List.getElem?_append_right (Nat.le_refl _), Nat.sub_self] at hx
      injection hx with hx
      rw [← hx]
      exact hw0
    have hk0 : (enter P { rs with left := rs.left - 1 } kid self t.kids).nodes[rs.nodes.length]? = some nd := by
      rw [hnd, List.getElem?_append_right (Nat.le_refl _), Nat.sub_self]
      rfl
    obtain ⟨c1, c2⟩ := h2 hak _ hin (by omega) ⟨by omega, by omega⟩ hkz
    have hout := loop_tree pd ap hv _ _ _ _ _ _ _ _ he2 hak _ hin
    obtain ⟨w1, ⟨x2, w2, w3, w4⟩, w5, w6, w7⟩ := loop_works pd ap P _ _ _ _ _ _ _ _ he2 (by omega) nd hk0 hw0
    have hlen2 := loop_lens pd ap P _ _ _ _ _ _ _ _ he2
    have el1 : (enter P { rs with left := rs.left - 1 } kid self t.kids).nodes.length = rs.nodes.length + 1 := by rw [hnd, List.length_append, List.length_singleton]
    rw [el1] at c1 c2 w5 w6 w7 hlen2
    obtain ⟨d2, hin2⟩ := InT.next (t2 := { tick t (insOf P t.f at_) with c := t.c + 1, kids := t.kids + 1, slots := si t.slots (insOf P t.f at_).a v2, ends := t.ends ++ [t.c + 1 + s2] }) hi hself hnd ⟨_, _, hcd⟩ hout rfl rfl rfl rfl
    have hz2 : ∀ y, rs2.nodes[self]? = some y → y.work = 0 := fun y hy => by
      rw [w5 self (by omega) (by omega), hnd, List.getElem?_append_left hself] at hy
      exact hz y hy
    obtain ⟨b1, b2⟩ := h (ha.spawned hv hk _ _ _ _) _ hin2 (by show 0 ≤ t.work + 1; omega) hdp hz2
    have hs0 : ∃ nd0, rs.nodes[self]? = some nd0 := ⟨_, List.getElem?_eq_getElem hself⟩
    obtain ⟨nd0, hnd0⟩ := hs0
    have hn2 : rs2.nodes[self]? = some nd0 := by
      rw [w5 self (by omega) (by omega), hnd, List.getElem?_append_left hself]
      exact hnd0
    obtain ⟨q1, q2, q3, q4, q5⟩ := loop_works pd ap P _ _ _ _ _ _ _ _ he (by show 0 ≤ t.work + 1; omega) nd0 hn2 (hz nd0 hnd0)
    -- the child's own run
    have hx2c : core x2 = core nd := by
      obtain ⟨m2, e2, a1, a2, a3, a4, a5⟩ := hout
      have e5 : (cores rs2.nodes)[rs.nodes.length]? = some (core nd) := by
        rw [a2, hnd, cores_app, List.append_assoc, List.getElem?_append_right (by rw [cores_len]; exact Nat.le_refl _), cores_len, Nat.sub_self]
        rfl
      unfold cores at e5
      rw [List.getElem?_map, w2] at e5
      injection e5
    have hsub2 : SubRun pd ap P rs2.nodes rs.nodes.length := by
      obtain ⟨m2, e2, a1, a2, a3, a4, a5⟩ := hout
      refine ⟨n, _, kid, rs2, v2, s2, x2, he2, by rw [el1], hfr, hak, ⟨by omega, by omega⟩, w2, w3, ?_, ?_, by omega, Nat.le_refl _, fun j y h1 h2 hy => ?_, fun y hy => ?_, ?_, ?_⟩
      · have : x2.func = (core x2).func := rfl
        rw [this, hx2c, hcd, efun]
      · have harg2 := loop_args pd ap P _ _ _ _ _ _ _ _ he2 rs.nodes.length nd hk0
        obtain ⟨x3, hx3, hx4⟩ := harg2
        rw [w2] at hx3
        injection hx3 with hx3
        rw [hx3, hx4, harg, efun]
      · have hy2 : (cores rs2.nodes)[j]? = some (core y) := by
          unfold cores
          rw [List.getElem?_map, hy]
          rfl
        rw [a2, hnd, cores_app, List.getElem?_append_right (by rw [List.length_append, cores_len, cores_len, List.length_singleton]; omega)] at hy2
        exact a3 _ (List.mem_of_getElem? hy2)
      · have := (List.getElem?_eq_some_iff.1 hy).1
        omega
      · rw [List.take_length]
        have e6 : sumW rs2.nodes = sumW (rs2.nodes.take rs.nodes.length) + sumW (rs2.nodes.drop rs.nodes.length) := by rw [← sumW_app, List.take_append_drop]
        have e7 : rs2.nodes.take rs.nodes.length = rs.nodes := by
          apply List.ext_getElem?
          intro j
          rw [List.getElem?_take]
          split
          · rename_i hj
            rw [w5 j (by omega) (by omega), hnd, List.getElem?_append_left hj]
          · rename_i hj
            rw [List.getElem?_eq_none (by omega)]
        have e8 : sumW (enter P { rs with left := rs.left - 1 } kid self t.kids).nodes = sumW rs.nodes := by
          rw [hnd, sumW_app]
          have : sumW [nd] = nd.work + 0 := rfl
          omega
        rw [e7] at e6
        rw [e8, ewk] at w1
        omega
      · omega
    refine ⟨fun i h1 h3 => ?_, fun y hy => ?_⟩
    · by_cases hi2 : rs2.nodes.length ≤ i
      · exact b1 i hi2 h3
      · by_cases hi1 : i = rs.nodes.length
        · subst hi1
          exact hsub2.ext hself q5 q3 b2
        · exact (c1 i (by omega) (by omega)).ext (by omega) q5 q3 b2
    · rw [q3 _ (by omega) (by omega), w2] at hy
      injection hy with hy
      rw [← hy]
      have : x2.parent = (core x2).parent := rfl
      rw [this, hx2c, hcd]

/-- each node of a whole run -/
theorem whole_sub (pd : Int → Int → Int) (ap : Int → Int → Int → Int) {P : List Fn} (hv : Valid P) (args : List Int) (fuel : Nat) (rs : RS) (v s : Int) (h : whole pd ap P args fuel = .done rs v s) (hargs : (args.length : Int) = (fnOf P 0).params) : ∀ i, i < rs.nodes.length → SubRun pd ap P rs.nodes i := by
  unfold whole at h
  have ha := At.root hv args
  obtain ⟨n0, hn0, hc0, hw0, har0⟩ : ∃ n0 : Nd, (enter P ⟨fuel, 0, 0, []⟩ (root args) (-1) 0).nodes = [n0] ∧ core n0 = ⟨-1, 0, 0, 1⟩ ∧ n0.work = 0 ∧ n0.arg = (if (fnOf P (root args).f).params > 0 then gi (root args).regs 0 else 0) := ⟨_, rfl, rfl, rfl, rfl⟩
  have hin : InT pd P (enter P ⟨fuel, 0, 0, []⟩ (root args) (-1) 0) (root args) 0 [1] := by
    have e : cores [n0] = [⟨-1, 0, 0, 1⟩] := by show [core n0] = _; rw [hc0]
    refine ⟨by rw [hn0, e]; exact .root, ⟨⟨-1, 0, 0, 1⟩, by rw [hn0, e]; rfl, rfl, rfl⟩, rfl, by rw [hn0]; exact .refl _, ?_⟩
    rw [hn0, e, kidsAt_one, if_neg (by decide)]
    rfl
  have hz : ∀ nd, (enter P ⟨fuel, 0, 0, []⟩ (root args) (-1) 0).nodes[0]? = some nd → nd.work = 0 := fun nd hnd => by
    rw [hn0] at hnd
    injection hnd with hnd
    rw [← hnd]
    exact hw0
  have hwk : (root args).work = 0 := rfl
  have hdp : (root args).depth = 1 := rfl
  obtain ⟨c1, c2⟩ := loop_sub pd ap hv _ _ _ _ _ _ _ _ h ha _ hin (by omega) ⟨by omega, by omega⟩ hz
  have hout := loop_tree pd ap hv _ _ _ _ _ _ _ _ h ha _ hin
  obtain ⟨w1, ⟨x2, w2, w3, w4⟩, w5, w6, w7⟩ := loop_works pd ap P _ _ _ _ _ _ _ _ h (by omega) n0 (by rw [hn0]; rfl) hw0
  have hlen2 := loop_lens pd ap P _ _ _ _ _ _ _ _ h
  have e1 : (enter P ⟨fuel, 0, 0, []⟩ (root args) (-1) 0).nodes.length = 1 := by rw [hn0]; rfl
  have e2 : (enter P ⟨fuel, 0, 0, []⟩ (root args) (-1) 0).tasks = 1 := rfl
  rw [e1] at c1 c2 w6 w7 hlen2
  rw [e2] at hlen2
  intro i hi
  by_cases h0 : i = 0
  · subst h0
    obtain ⟨x3, hx3, hx4⟩ := loop_args pd ap P _ _ _ _ _ _ _ _ h 0 n0 (by rw [hn0]; rfl)
    rw [w2] at hx3
    injection hx3 with hx3
    obtain ⟨m2, d2, a1, a2, a3, a4, a5⟩ := hout
    have hx2c : core x2 = core n0 := by
      have e5 : (cores rs.nodes)[0]? = some (core n0) := by
        rw [a2, hn0]
        rfl
      unfold cores at e5
      rw [List.getElem?_map, w2] at e5
      injection e5
    have hfr : Fresh P (root args) := by
      refine ⟨rfl, rfl, rfl, rfl, rfl, args, ?_⟩
      have : (fnOf P (root args).f).params.toNat = args.length := by
        show (fnOf P 0).params.toNat = _
        omega
      rw [this, List.take_length]
      rfl
    refine ⟨_, _, root args, rs, v, s, x2, h, e1, hfr, ha, ⟨by omega, by omega⟩, w2, w3, ?_, ?_, hi, Nat.le_refl _, fun j y h1 h2 hy => ?_, fun y hy => ?_, ?_, ?_⟩
    · have : x2.func = (core x2).func := rfl
      rw [this, hx2c, hc0]
      rfl
    · rw [hx3, hx4, har0]
    · have hy2 : (cores rs.nodes)[j]? = some (core y) := by
        unfold cores
        rw [List.getElem?_map, hy]
        rfl
      rw [a2, List.getElem?_append_right (by rw [cores_len, e1]; omega)] at hy2
      exact a3 _ (List.mem_of_getElem? hy2)
    · have := (List.getElem?_eq_some_iff.1 hy).1
      omega
    · rw [List.take_length, List.drop_zero, w1, hn0, hwk]
      have : sumW [n0] = n0.work + 0 := rfl
      omega
    · rw [e2]
      omega
  · exact c1 i (by omega) hi

end Go.Proofs.YtcioegimmjppcaaDoor.P
/-! Plain law of serial runs, part M: a program with another function as its entry: its runs. -/
namespace Go.Proofs.YtcioegimmjppcaaDoor.P
set_option linter.unusedVariables false

/-- functions 0 and g change places -/
def sg (g x : Int) : Int := if x = 0 then g else if x = g then 0 else x
def swI (g : Int) (i : Ins) : Ins := if i.kind = 5 then { i with b := sg g i.b } else i
def swF (g : Int) (f : Fn) : Fn := { f with code := f.code.map (swI g) }

/-- P2 is P with functions 0 and g in each other's place -/
structure Swap (P P2 : List Fn) (g : Int) : Prop where
  len : P2.length = P.length
  at_ : ∀ x, inR x (P.length : Int) → fnOf P2 (sg g x) = swF g (fnOf P x)
  g : inR g (P.length : Int)

theorem sg_sg (g x : Int) : sg g (sg g x) = x := by
  unfold sg
  split <;> split <;> (try split) <;> omega
theorem sg_in {g x n : Int} (hg : inR g n) (hx : inR x n) : inR (sg g x) n := by
  unfold sg inR at *
  split
  · exact hg
  · split
    · omega
    · exact hx

theorem swI_kind (g : Int) (i : Ins) : (swI g i).kind = i.kind ∧ (swI g i).a = i.a ∧ (swI g i).c = i.c ∧ (swI g i).k = i.k ∧ (i.kind ≠ 5 → swI g i = i) := by
  unfold swI
  by_cases h : i.kind = 5
  · rw [if_pos h]
    exact ⟨rfl, rfl, rfl, rfl, fun h2 => absurd h h2⟩
  · rw [if_neg h]
    exact ⟨rfl, rfl, rfl, rfl, fun _ => rfl⟩

theorem sw_ins {P P2 : List Fn} {g : Int} (h : Swap P P2 g) {f at_ : Int} (hf : inR f (P.length : Int)) (ha : inR at_ ((fnOf P f).code.length : Int)) : insOf P2 (sg g f) at_ = swI g (insOf P f at_) := by
  unfold insOf
  rw [h.at_ f hf]
  have hlt : at_.toNat < (fnOf P f).code.length := by have := ha.1; have := ha.2; omega
  show ((fnOf P f).code.map (swI g)).getD at_.toNat default = _
  rw [List.getD_eq_getElem?_getD, List.getD_eq_getElem?_getD, List.getElem?_map, List.getElem?_eq_getElem hlt]
  rfl

/-- the same place in the other program: the same registers, slots, counts; not deeper -/
structure Alike (g : Int) (t u : TS) : Prop where
  f : u.f = sg g t.f
  depth : u.depth ≤ t.depth
  regs : u.regs = t.regs
  slots : u.slots = t.slots
  work : u.work = t.work
  c : u.c = t.c
  ends : u.ends = t.ends

theorem Alike.plain {g : Int} {t u : TS} (h : Alike g t u) (ap : Int → Int → Int → Int) (i : Ins) (h8 : i.kind ≠ 8) : Alike g (plainT ap (tick t i) i) (plainT ap (tick u i) i) ∧ ∀ at_, plainAt (tick u i) i at_ = plainAt (tick t i) i at_ := by
  obtain ⟨h1, h2, h3, h4, h5, h6, h7⟩ := h
  have t1 : (tick t i).regs = t.regs := rfl
  have t2 : (tick u i).regs = u.regs := rfl
  have hc : (tick u i).c = (tick t i).c := by simp only [tick]; rw [h6]
  refine ⟨?_, fun at_ => ?_⟩
  · have k1 := plainT_keeps ap (tick t i) i
    have k2 := plainT_keeps ap (tick u i) i
    have c1 := plainT_chain ap t i
    have c2 := plainT_chain ap u i
    refine ⟨by rw [k2.1, k1.1]; exact h1, by rw [k2.2.1, k1.2.1]; exact h2, ?_, ?_, by rw [k2.2.2.2.2, k1.2.2.2.2]; show u.work + 1 = t.work + 1; rw [h5], by rw [c2.1, c1.1, h6, h7], by rw [c2.2, c1.2, h7]⟩
    · unfold plainT
      have e1 : (tick u i).slots = (tick t i).slots := h4
      have e2 : (tick u i).regs = (tick t i).regs := h3
      repeat' split
      all_goals first | exact absurd ‹i.kind = 8› h8 | (simp only [e1, e2])
    · unfold plainT
      have e1 : (tick u i).slots = (tick t i).slots := h4
      repeat' split
      all_goals exact e1
  · unfold plainAt
    have e2 : (tick u i).regs = (tick t i).regs := h3
    rw [e2]

theorem ar1 {a b d e : Nat} (h1 : a ≤ b + e) (h2 : e < d) : a - 1 ≤ b - 1 + d := by omega
theorem ar2 {a b d e n : Nat} (h1 : a ≤ b + e) (h2 : e < d) (h3 : d < a - 1) (h4 : b < n + 1) : b - 1 < n := by omega
theorem ar3 {a b d e : Nat} (h1 : a ≤ b + e) (h2 : e < d) (h3 : d < a - 1) : b ≠ 0 := by omega
theorem ar4 {a b d r : Nat} (h0 : a ≠ 0) (hb : b ≠ 0) (h : ((b - 1 : Nat) : Int) - r = ((a - 1 : Nat) : Int) - d) : (b : Int) - r = (a : Int) - d := by omega
theorem ar5 {a b d e r : Nat} (h1 : a ≤ b + e) (h : (b : Int) - r = (a : Int) - d) : d ≤ r + e := by omega
theorem ar6 {a b d r n : Nat} (h4 : b < n + 1) (h3 : d < a - 1) (h : (b : Int) - r = (a : Int) - d) : r < n := by omega
theorem ar7 {a b d e r q : Nat} (h : (b : Int) - r = (a : Int) - d) (k : (r : Int) - q = (d : Int) - e) : (b : Int) - q = (a : Int) - e := by omega
theorem ar8 {a b c d : Int} (h : a - (b + 1) = c - (d + 1)) {e f : Int} (k : e - a = f - c) : e - b = f - d := by omega

theorem loop_sim (pd : Int → Int → Int) (ap : Int → Int → Int → Int) {P P2 : List Fn} {g : Int} (hv : Valid P) (hs : Swap P P2 g) (h8 : ∀ f ∈ P, ∀ i ∈ f.code, i.kind ≠ 8) : ∀ (n : Nat) (rs : RS) (t : TS) (at_ : Int) (self : Nat) (rs1 : RS) (v s : Int), loop pd ap P n rs t at_ self = .done rs1 v s →
    At P t at_ → t.depth ≤ 4096 → ∀ (rs2 : RS) (u : TS) (self2 n2 : Nat), Alike g t u → rs.left ≤ rs2.left + rs1.left → rs2.left < n2 → ∃ rs3, loop pd ap P2 n2 rs2 u at_ self2 = .done rs3 v s ∧ (rs2.left : Int) - rs3.left = (rs.left : Int) - rs1.left ∧ rs3.tasks - rs2.tasks = rs1.tasks - rs.tasks := by
  refine loop_done_ind2 pd ap P (fun rs t at_ self rs1 v s => At P t at_ → t.depth ≤ 4096 → ∀ (rs2 : RS) (u : TS) (self2 n2 : Nat), Alike g t u → rs.left ≤ rs2.left + rs1.left → rs2.left < n2 → ∃ rs3, loop pd ap P2 n2 rs2 u at_ self2 = .done rs3 v s ∧ (rs2.left : Int) - rs3.left = (rs.left : Int) - rs1.left ∧ rs3.tasks - rs2.tasks = rs1.tasks - rs.tasks) ?_ ?_ ?_
  · intro rs t at_ self hl hk ha hdp rs2 u self2 n2 hal hle hn
    obtain ⟨n2, rfl⟩ : ∃ m, n2 = m + 1 := ⟨n2 - 1, by omega⟩
    have hi := sw_ins hs ha.f ha.place
    rw [← hal.f] at hi
    obtain ⟨k1, k2, k3, k4, k5⟩ := swI_kind g (insOf P t.f at_)
    have hleft : (leave { rs with left := rs.left - 1 } self (gi t.regs (insOf P t.f at_).a) (t.work + 1)).left = rs.left - 1 := rfl
    have htasks : (leave { rs with left := rs.left - 1 } self (gi t.regs (insOf P t.f at_).a) (t.work + 1)).tasks = rs.tasks := rfl
    rw [hleft] at hle ⊢
    rw [htasks]
    rw [loop_ret pd ap P2 n2 rs2 u at_ self2 (by omega) _ hi (by rw [k1]; exact hk), k2, hal.regs, hal.work, hal.c]
    exact ⟨_, rfl, by simp only [leave]; omega, by simp only [leave]; omega⟩
  · intro n rs t at_ self rs' v s hl hk hk5 he h ha hdp rs2 u self2 n2 hal hle hn
    have hlt := loop_left pd ap P _ _ _ _ _ _ _ _ he
    simp only at hlt
    obtain ⟨n2, rfl⟩ : ∃ m, n2 = m + 1 := ⟨n2 - 1, by omega⟩
    have hi := sw_ins hs ha.f ha.place
    rw [← hal.f] at hi
    obtain ⟨k1, k2, k3, k4, k5⟩ := swI_kind g (insOf P t.f at_)
    rw [k5 hk5] at hi
    have hne8 := h8 _ (fnOf_mem ha.f) _ (insOf_mem ha.place)
    obtain ⟨p1, p2⟩ := hal.plain ap (insOf P t.f at_) hne8
    rw [loop_go pd ap P2 n2 rs2 u at_ self2 (by omega) _ hi hk hk5, p2 at_]
    obtain ⟨rs3, e1, e2, e3⟩ := h (ha.go hv ap hk hk5) (by rw [(plainT_keeps ap (tick t (insOf P t.f at_)) (insOf P t.f at_)).2.1]; exact hdp) { rs2 with left := rs2.left - 1 } _ self2 n2 p1 (by simp only; omega) (by simp only; omega)
    refine ⟨rs3, e1, ?_, e3⟩
    simp only at e2
    omega
  · intro n rs t at_ self rs2a v2 s2 rs' v s hl hk hd he2 he h2 h ha hdp rs2 u self2 n2 hal hle hn
    have hlt1 : rs2a.left < rs.left - 1 := loop_left pd ap P _ _ _ _ _ _ _ _ he2
    have hlt2 := loop_left pd ap P _ _ _ _ _ _ _ _ he
    have hb0 : rs2.left ≠ 0 := ar3 hle hlt2 hlt1
    obtain ⟨n2, rfl⟩ : ∃ m, n2 = m + 1 := ⟨n2 - 1, (Nat.succ_pred_eq_of_pos (Nat.lt_of_le_of_lt (Nat.zero_le _) hn)).symm⟩
    have hi := sw_ins hs ha.f ha.place
    rw [← hal.f] at hi
    obtain ⟨k1, k2, k3, k4, k5⟩ := swI_kind g (insOf P t.f at_)
    have hb : inR (insOf P t.f at_).b (P.length : Int) := by
      obtain ⟨o0, o9, _, _, _, _, _, o5, _⟩ := (hv.each _ (fnOf_mem ha.f)).ins _ (insOf_mem ha.place)
      exact (o5 hk).2.1
    have hb2 : (swI g (insOf P t.f at_)).b = sg g (insOf P t.f at_).b := by unfold swI; rw [if_pos hk]
    have hpar : (fnOf P2 (sg g (insOf P t.f at_).b)).params = (fnOf P (insOf P t.f at_).b).params := by rw [hs.at_ _ hb]; rfl
    have hkal : Alike g (kidOf pd P (tick t (insOf P t.f at_)) (insOf P t.f at_)) (kidOf pd P2 (tick u (swI g (insOf P t.f at_))) (swI g (insOf P t.f at_))) := by
      refine ⟨hb2, ?_, ?_, rfl, rfl, rfl, rfl⟩
      · show u.depth + 1 ≤ t.depth + 1
        have := hal.depth
        omega
      · show fill 16 ((u.regs.drop (swI g (insOf P t.f at_)).c.toNat).take (fnOf P2 (swI g (insOf P t.f at_)).b).params.toNat) = fill 16 ((t.regs.drop (insOf P t.f at_).c.toNat).take (fnOf P (insOf P t.f at_).b).params.toNat)
        rw [hal.regs, k3, hb2, hpar]
    have hud : u.depth ≠ 4096 := by
      have := hal.depth
      omega
    have hkd : (kidOf pd P (tick t (insOf P t.f at_)) (insOf P t.f at_)).depth ≤ 4096 := by
      show t.depth + 1 ≤ 4096
      omega
    have hak := ha.kid hv pd hk
    generalize hK : kidOf pd P (tick t (insOf P t.f at_)) (insOf P t.f at_) = kid at he2 h2 hkal hkd hak
    have q1 : (enter P { rs with left := rs.left - 1 } kid self t.kids).left ≤ (enter P2 { rs2 with left := rs2.left - 1 } (kidOf pd P2 (tick u (swI g (insOf P t.f at_))) (swI g (insOf P t.f at_))) self2 u.kids).left + rs2a.left := by
      exact ar1 (a := rs.left) (b := rs2.left) hle hlt2
    have q2 : (enter P2 { rs2 with left := rs2.left - 1 } (kidOf pd P2 (tick u (swI g (insOf P t.f at_))) (swI g (insOf P t.f at_))) self2 u.kids).left < n2 := by
      exact ar2 (a := rs.left) (b := rs2.left) hle hlt2 hlt1 hn
    obtain ⟨rs3, e1, e2, e3⟩ := h2 hak hkd _ _ rs2.nodes.length n2 hkal q1 q2
    have e2' : ((rs2.left - 1 : Nat) : Int) - rs3.left = ((rs.left - 1 : Nat) : Int) - rs2a.left := e2
    have e3' : rs3.tasks - (rs2.tasks + 1) = rs2a.tasks - (rs.tasks + 1) := e3
    clear e2 e3 q1 q2 h2
    have e4 := ar4 hl hb0 e2'
    rw [loop_spawn_done pd ap P2 n2 rs2 u at_ self2 hb0 _ hi (by rw [k1]; exact hk) hud rs3 v2 s2 e1]
    have hal2 : Alike g { tick t (insOf P t.f at_) with c := t.c + 1, kids := t.kids + 1, slots := si t.slots (insOf P t.f at_).a v2, ends := t.ends ++ [t.c + 1 + s2] } { tick u (swI g (insOf P t.f at_)) with kids := u.kids + 1, slots := si u.slots (swI g (insOf P t.f at_)).a v2, ends := u.ends ++ [(tick u (swI g (insOf P t.f at_))).c + s2] } := by
      have hcu : (tick u (swI g (insOf P t.f at_))).c = t.c + 1 := by
        simp only [tick]
        rw [if_neg (by rw [k1]; omega), hal.c]
      refine ⟨hal.f, hal.depth, hal.regs, by rw [hal.slots, k2], ?_, hcu, by rw [hcu, hal.ends]⟩
      show u.work + 1 = t.work + 1
      rw [hal.work]
    obtain ⟨rs4, f1, f2, f3⟩ := h (ha.spawned hv hk _ _ _ _) hdp rs3 _ self2 n2 hal2 (ar5 hle e4) (ar6 hn hlt1 e4)
    exact ⟨rs4, f1, ar7 e4 f2, ar8 e3' f3⟩

end Go.Proofs.YtcioegimmjppcaaDoor.P
/-! Plain law of serial runs, part N: a program with another function as its entry may be, if the program may be; a part of the tree is what its function comes to. -/
namespace Go.Proofs.YtcioegimmjppcaaDoor.P
set_option linter.unusedVariables false

theorem sw_getD (g : Int) (code : List Ins) (j : Nat) : (code.map (swI g)).getD j default = swI g (code.getD j default) := by
  rw [List.getD_eq_getElem?_getD, List.getD_eq_getElem?_getD, List.getElem?_map]
  cases code[j]? with
  | none => rfl
  | some x => rfl

theorem sw_nexts (g : Int) (code : List Ins) (at_ : Int) : nexts (code.map (swI g)) at_ = nexts code at_ := by
  unfold nexts
  rw [sw_getD, List.length_map]
  obtain ⟨k1, k2, k3, k4, k5⟩ := swI_kind g (code.getD at_.toNat default)
  simp only [k1, k2]
  by_cases h : (code.getD at_.toNat default).kind = 4
  · rw [k5 (by omega)]
  · rw [if_neg h, if_neg h]
theorem sw_behind (g : Int) (c : Ins) (slot s : Int) : behind (swI g c) slot s = behind c slot s := by
  obtain ⟨k1, k2, k3, k4, k5⟩ := swI_kind g c
  unfold behind
  rw [k1, k2]
theorem sw_nbrs (g : Int) (code : List Ins) (slot : Int) (x : Int × Int) : nbrs (code.map (swI g)) slot x = nbrs code slot x := by
  unfold nbrs
  rw [sw_nexts, sw_getD]
  simp only [sw_behind]
theorem sw_reach {g : Int} {code : List Ins} {slot : Int} {x : Int × Int} (h : Reach (code.map (swI g)) slot x) : Reach code slot x := by
  induction h with
  | start => exact .start
  | step h1 h2 ih =>
    rw [sw_nbrs] at h2
    exact .step ih h2

theorem Swap.valid {P P2 : List Fn} {g : Int} (hs : Swap P P2 g) (hv : Valid P) : Valid P2 := by
  refine ⟨by rw [hs.len]; exact hv.some, by rw [hs.len]; exact hv.few, fun f hf => ?_⟩
  obtain ⟨j, hj, rfl⟩ := List.getElem_of_mem hf
  have hjr : inR (j : Int) (P.length : Int) := ⟨by omega, by rw [hs.len] at hj; omega⟩
  have hsr := sg_in hs.g hjr
  have e : P2[j] = swF g (fnOf P (sg g j)) := by
    rw [← hs.at_ _ hsr, sg_sg]
    unfold fnOf
    rw [Int.toNat_natCast, List.getD_eq_getElem?_getD, List.getElem?_eq_getElem hj]
    rfl
  rw [e]
  have hok := hv.each _ (fnOf_mem hsr)
  generalize fnOf P (sg g j) = fn at hok
  obtain ⟨h1, h2, h3, h4⟩ := hok
  refine ⟨?_, fun i hi => ?_, ?_, fun slot hsl x hx => ?_⟩
  · unfold shapeOK at h1 ⊢
    have el : (swF g fn).code.length = fn.code.length := List.length_map _
    rw [el]
    exact h1
  · obtain ⟨i0, hi0, rfl⟩ := List.mem_map.1 (show i ∈ fn.code.map (swI g) from hi)
    have ho := h2 i0 hi0
    have el : (swF g fn).code.length = fn.code.length := List.length_map _
    obtain ⟨k1, k2, k3, k4, k5⟩ := swI_kind g i0
    by_cases hk : i0.kind = 5
    · obtain ⟨o0, o9, _, _, _, _, _, o5, _, _, _⟩ := ho
      obtain ⟨p1, p2, p3⟩ := o5 hk
      have eb : (swI g i0).b = sg g i0.b := by unfold swI; rw [if_pos hk]
      have ep : (fnOf P2 (sg g i0.b)).params = (fnOf P i0.b).params := by rw [hs.at_ _ p2]; rfl
      unfold insOK
      rw [k1, k2, k3, eb, ep, hs.len, hk]
      refine ⟨by decide, by decide, fun h => absurd h (by decide), fun h => absurd h (by decide), fun h => absurd h (by decide), fun h => absurd h (by decide), fun h => absurd h (by decide), fun _ => ⟨p1, sg_in hs.g p2, p3⟩, fun h => absurd h (by decide), fun h => absurd h (by decide), fun h => absurd h (by decide)⟩
    · rw [k5 hk]
      obtain ⟨o0, o9, q0, q1, q2, q3, q4, o5, q7, q8, q9⟩ := ho
      refine ⟨o0, o9, q0, q1, q2, ?_, ?_, fun h => absurd h hk, q7, q8, q9⟩
      · rw [el]; exact q3
      · rw [el]; exact q4
  · unfold lastOK at h3 ⊢
    have el : (swF g fn).code.length = fn.code.length := List.length_map _
    have e2 : (swF g fn).code.getD (fn.code.length - 1) default = swI g (fn.code.getD (fn.code.length - 1) default) := sw_getD g fn.code _
    rw [el, e2, (swI_kind g _).1]
    exact h3
  · have hx2 := sw_reach (show Reach (fn.code.map (swI g)) slot x from hx)
    have ho := h4 slot hsl x hx2
    have e2 : (swF g fn).code.getD x.1.toNat default = swI g (fn.code.getD x.1.toNat default) := sw_getD g fn.code _
    rw [e2]
    obtain ⟨k1, k2, k3, k4, k5⟩ := swI_kind g (fn.code.getD x.1.toNat default)
    unfold flowAt at ho ⊢
    rw [k1, k2]
    refine ⟨ho.1, fun h7 => ?_, ho.2.2⟩
    rw [k5 (by omega)]
    exact ho.2.1 h7

theorem fill_one (l : List Int) : fill 16 (l.take 1) = fill 16 [gi (fill 16 (l.take 1)) 0] := by
  cases l with
  | nil => rfl
  | cons a l => rfl

theorem fill_zero (l : List Int) : fill 16 (l.take 0) = fill 16 [] := by
  rw [List.take_zero]

/-- the nodes below a node are those of its function's run as the entry -/
theorem part_whole (pd : Int → Int → Int) (ap : Int → Int → Int → Int) {P P2 : List Fn} (hv : Valid P) (h8 : ∀ f ∈ P, ∀ i ∈ f.code, i.kind ≠ 8) {nodes : List Nd} {i : Nat} {fuel : Nat} (h : SubRun pd ap P nodes i)
    {x : Nd} (hx : nodes[i]? = some x) (hs : Swap P P2 x.func) (hpar : (fnOf P x.func).params ≤ 1) (args : List Int) (hargs : args = if (fnOf P x.func).params = 1 then [x.arg] else [])
    (hw : ∀ e, i < e → e ≤ nodes.length → sumW ((nodes.take e).drop i) ≤ fuel) :
    ∃ (e : Nat) (rs3 : RS) (s : Int), i < e ∧ e ≤ nodes.length ∧ (∀ j y, i < j → j < e → nodes[j]? = some y → (i : Int) ≤ y.parent) ∧ (∀ y, nodes[e]? = some y → y.parent < (i : Int)) ∧
      whole pd ap P2 args fuel = .done rs3 x.v s ∧ (fuel : Int) - rs3.left = sumW ((nodes.take e).drop i) ∧ rs3.tasks = (e : Int) - i := by
  obtain ⟨n, rs0, kid, rs1, v1, s1, x', a1, a2, a3, a4, a5, a6, a7, a8, a9, a10, a11, a12, a13, a14, a15⟩ := h
  rw [hx] at a6
  injection a6 with a6
  subst a6
  have hlt := loop_left pd ap P _ _ _ _ _ _ _ _ a1
  have hwf := hw rs1.nodes.length a10 a11
  have hp0 := (hv.each _ (fnOf_mem a4.f)).shape
  unfold shapeOK at hp0
  have hreg : kid.regs = fill 16 args := by
    obtain ⟨l, hl⟩ := a3.regs
    rw [hargs]
    by_cases hp1 : (fnOf P x.func).params = 1
    · rw [if_pos hp1]
      rw [a8] at hp1
      rw [a9, if_pos (by omega)]
      rw [hp1] at hl
      rw [hl]
      exact fill_one l
    · rw [if_neg hp1]
      rw [a8] at hp1 hpar
      have : (fnOf P kid.f).params = 0 := by omega
      rw [this] at hl
      rw [hl]
      exact fill_zero l
  have hal : Alike x.func kid (root args) := by
    refine ⟨?_, by show (1 : Int) ≤ kid.depth; exact a5.1, hreg.symm, a3.slots.symm, a3.work.symm, a3.c.symm, a3.ends.symm⟩
    show (0 : Int) = sg x.func kid.f
    rw [a8]
    unfold sg
    split
    · omega
    · rw [if_pos rfl]
  have hdp : kid.depth ≤ 4096 := a5.2
  · have hle : (enter P2 ⟨fuel, 0, 0, []⟩ (root args) (-1) 0).left = fuel := rfl
    obtain ⟨rs3, b1, b2, b3⟩ := loop_sim pd ap hv hs h8 _ _ _ _ _ _ _ _ a1 a4 hdp (enter P2 ⟨fuel, 0, 0, []⟩ (root args) (-1) 0) (root args) 0 (fuel + 1) hal (by rw [hle]; omega) (by rw [hle]; omega)
    refine ⟨rs1.nodes.length, rs3, s1, a10, a11, a12, a13, ?_, ?_, ?_⟩
    · rw [a7]
      exact b1
    · rw [hle] at b2
      rw [a14]
      exact b2
    · have ht : (enter P2 ⟨fuel, 0, 0, []⟩ (root args) (-1) 0).tasks = 1 := rfl
      rw [ht] at b3
      omega

end Go.Proofs.YtcioegimmjppcaaDoor.P
/-! plunderlaw6.swapped: its answer as a plain function. -/
namespace Go.Proofs.YtcioegimmjppcaaDoor.P
open Go.RowKit Go.Proofs.YtcioegimmjppcaaDoorW.PrintWords Go.Proofs.YtcioegimmjppcaaDoorW.PrintLast Go.Proofs.YtcioegimmjppcaaDoorW.PrintMore
set_option linter.unusedVariables false

def swIS (g : Int) (i : S36) : S36 := if i.f0 = 5 then { i with f2 := sg g i.f2 } else i
def swFS (g : Int) (f : S39) : S39 := { f with f3 := f.f3.map (swIS g) }
def swL (g : Int) (L : List S39) : List S39 := ((L.set 0 (rd_T39 L g)).set g.toNat (rd_T39 L 0)).map (swFS g)
def swOK (g : Int) (L : List S39) : Prop := 0 ≤ g ∧ g < (L.length : Int) ∧ L.length ≤ 32 ∧ ∀ f ∈ L, f.f3.length ≤ 512
instance (g : Int) (L : List S39) : Decidable (swOK g L) := by unfold swOK; infer_instance

def plunderlaw6_swapped.f (k : Nat) (l0 : List S39) (a1 : Int) : Option (List S39) := if swOK a1 l0 then some (swL a1 l0) else none
theorem plunderlaw6_swapped.mono (a0 : List S39) (a1 : Int) (k : Nat) : LeO (plunderlaw6_swapped.f k a0 a1) (plunderlaw6_swapped.f (k + 1) a0 a1) := fun r h => h

theorem swIS_ins (g : Int) (i : S36) : insS (swIS g i) = swI g (insS i) := by
  unfold swIS swI
  show insS (if i.f0 = 5 then _ else i) = if i.f0 = 5 then _ else insS i
  by_cases h : i.f0 = 5
  · rw [if_pos h, if_pos h]; rfl
  · rw [if_neg h, if_neg h]
theorem swFS_fn (g : Int) (f : S39) : fnS (swFS g f) = swF g (fnS f) := by
  unfold swFS swF fnS
  simp only [List.map_map]
  congr 1
  apply List.map_congr_left
  intro i _
  exact swIS_ins g i

theorem fnOf_maps (L : List S39) (x : Int) (hx : inR x (L.length : Int)) : fnOf (L.map fnS) x = fnS (rd_T39 L x) := by
  have hlt : x.toNat < L.length := by have := hx.1; have := hx.2; omega
  unfold fnOf rd_T39
  rw [List.getD_eq_getElem?_getD, List.getD_eq_getElem?_getD, List.getElem?_map, List.getElem?_eq_getElem hlt]
  rfl

theorem getD_map_lt {M : List S39} {k : Nat} (h : k < M.length) (f : S39 → S39) : (M.map f).getD k z39 = f (M.getD k z39) := by
  rw [List.getD_eq_getElem?_getD, List.getD_eq_getElem?_getD, List.getElem?_map, List.getElem?_eq_getElem h]
  rfl

theorem swL_swap (g : Int) (L : List S39) (h : swOK g L) : Swap (L.map fnS) ((swL g L).map fnS) g := by
  obtain ⟨h0, h1, h2, h3⟩ := h
  have hl : (swL g L).length = L.length := by simp [swL]
  refine ⟨by rw [List.length_map, List.length_map, hl], fun x hx => ?_, by rw [List.length_map]; exact ⟨h0, h1⟩⟩
  rw [List.length_map] at hx
  have hg : inR g (L.length : Int) := ⟨h0, h1⟩
  have hsx := sg_in hg hx
  rw [fnOf_maps L x hx, fnOf_maps (swL g L) _ (by rw [hl]; exact hsx), ← swFS_fn]
  congr 1
  have hlt : (sg g x).toNat < L.length := by have := hsx.1; have := hsx.2; omega
  have e : rd_T39 (swL g L) (sg g x) = swFS g (rd_T39 ((L.set 0 (rd_T39 L g)).set g.toNat (rd_T39 L 0)) (sg g x)) := by
    exact getD_map_lt (by simpa using hlt) _
  rw [e]
  congr 1
  have hx0 := hx.1
  have hx1 := hx.2
  by_cases e1 : x = 0
  · subst e1
    have e2 : sg g 0 = g := by unfold sg; rw [if_pos rfl]
    rw [e2]
    show ((L.set 0 (rd_T39 L g)).set g.toNat (rd_T39 L 0)).getD g.toNat z39 = _
    rw [List.getD_eq_getElem?_getD, List.getElem?_set_self (by simp; omega)]
    rfl
  · by_cases e3 : x = g
    · subst e3
      have e2 : sg x x = 0 := by unfold sg; rw [if_neg e1, if_pos rfl]
      rw [e2]
      show ((L.set 0 (rd_T39 L x)).set x.toNat (rd_T39 L 0)).getD (0 : Int).toNat z39 = _
      rw [List.getD_eq_getElem?_getD, List.getElem?_set_ne (by omega)]
      have : (L.set 0 (rd_T39 L x))[(0 : Int).toNat]? = some (rd_T39 L x) := List.getElem?_set_self (by omega)
      rw [this]
      rfl
    · have e2 : sg g x = x := by unfold sg; rw [if_neg e1, if_neg e3]
      rw [e2]
      show ((L.set 0 (rd_T39 L g)).set g.toNat (rd_T39 L 0)).getD x.toNat z39 = L.getD x.toNat z39
      rw [List.getD_eq_getElem?_getD, List.getD_eq_getElem?_getD, List.getElem?_set_ne (by omega), List.getElem?_set_ne (by omega)]

theorem swOK_valid {L : List S39} {g : Int} (hv : Valid (L.map fnS)) (hg : inR g (L.length : Int)) : swOK g L := by
  refine ⟨hg.1, hg.2, by have := hv.few; rw [List.length_map] at this; exact this, fun f hf => ?_⟩
  have := (hv.each (fnS f) (List.mem_map.2 ⟨f, hf, rfl⟩)).shape
  unfold shapeOK at this
  have e : (fnS f).code.length = f.f3.length := List.length_map _
  omega

end Go.Proofs.YtcioegimmjppcaaDoor.P
