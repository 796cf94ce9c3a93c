/- Plain law of the check of programs, part B: that a program may be is decided by the search. -/

set_option linter.unusedVariables false
set_option linter.unusedSimpArgs false
/-! Plain law of serial runs, part A: what a run comes to, in plain Lean; pd tells pedigrees, ap operations. -/
namespace Go.Proofs.YtcioegimmjppcaaDoor.P

structure Ins where
  kind : Int
  a : Int
  b : Int
  c : Int
  k : Int
deriving Inhabited, DecidableEq

structure Fn where
  params : Int
  regs : Int
  slots : Int
  code : List Ins
deriving Inhabited, DecidableEq

structure Nd where
  parent : Int
  index : Int
  func : Int
  work : Int
  ped : Int
  arg : Int
  v : Int
deriving Inhabited, DecidableEq

structure RS where
  left : Nat
  tasks : Int
  deepest : Int
  nodes : List Nd

structure TS where
  f : Int
  depth : Int
  ped : Int
  regs : List Int
  slots : List Int
  kids : Int
  work : Int
  c : Int
  ends : List Int

inductive Res where
  | done (rs : RS) (v span : Int)
  | stop (why : Int)

def gi (l : List Int) (i : Int) : Int := l.getD i.toNat 0
def si (l : List Int) (i v : Int) : List Int := l.set i.toNat v
def fnOf (P : List Fn) (f : Int) : Fn := P.getD f.toNat default
def insOf (P : List Fn) (f : Int) (at_ : Int) : Ins := (fnOf P f).code.getD at_.toNat default
def maxL (c : Int) (l : List Int) : Int := l.foldl max c

/-- the words first in a list of length n -/
def fill (n : Nat) (l : List Int) : List Int := (l ++ List.replicate n 0).take n

/-- a task at its beginning notes itself -/
def enter (P : List Fn) (rs : RS) (t : TS) (parent index : Int) : RS :=
  { left := rs.left, tasks := rs.tasks + 1, deepest := max rs.deepest t.depth,
    nodes := rs.nodes ++ [{ parent := parent, index := index, func := t.f, work := 0, ped := t.ped, arg := if (fnOf P t.f).params > 0 then gi t.regs 0 else 0, v := 0 }] }

/-- a child at its beginning -/
def kidOf (pd : Int → Int → Int) (P : List Fn) (t : TS) (i : Ins) : TS :=
  { f := i.b, depth := t.depth + 1, ped := pd t.ped t.kids,
    regs := fill 16 ((t.regs.drop i.c.toNat).take (fnOf P i.b).params.toNat),
    slots := List.replicate 8 0, kids := 0, work := 0, c := 0, ends := [] }

/-- an instruction that is neither a spawn nor a return: the task behind it -/
def plainT (ap : Int → Int → Int → Int) (t : TS) (i : Ins) : TS :=
  if i.kind = 0 then { t with regs := si t.regs i.a i.k }
  else if i.kind = 1 then { t with regs := si t.regs i.a (gi t.regs i.b) }
  else if i.kind = 2 then { t with regs := si t.regs i.a (ap i.k (gi t.regs i.b) (gi t.regs i.c)) }
  else if i.kind = 6 then { t with c := maxL t.c t.ends + 1, ends := [] }
  else if i.kind = 7 then { t with regs := si t.regs i.a (gi t.slots i.b) }
  else if i.kind = 8 then { t with regs := si t.regs i.a t.ped }
  else t

/-- and the place where it goes on -/
def plainAt (t : TS) (i : Ins) (at_ : Int) : Int :=
  if i.kind = 3 then i.a
  else if i.kind = 4 then (if gi t.regs i.a ≠ 0 then i.b else at_ + 1)
  else at_ + 1

/-- an instruction is counted -/
def tick (t : TS) (i : Ins) : TS := { t with work := t.work + 1, c := if i.kind = 6 then t.c else t.c + 1 }

/-- the node at the return -/
def leave (rs : RS) (self : Nat) (v work : Int) : RS :=
  { rs with nodes := rs.nodes.modify self (fun nd => ({ nd with v := v, work := work } : Nd)) }

def loop (pd : Int → Int → Int) (ap : Int → Int → Int → Int) (P : List Fn) : Nat → RS → TS → Int → Nat → Res
  | 0, _, _, _, _ => .stop 62
  | n + 1, rs, t, at_, self =>
    if rs.left = 0 then .stop 62 else
    let i := insOf P t.f at_
    let rs1 : RS := { rs with left := rs.left - 1 }
    let t1 := tick t i
    if i.kind = 9 then .done (leave rs1 self (gi t1.regs i.a) t1.work) (gi t1.regs i.a) t1.c
    else if i.kind = 5 then
      if t1.depth = 4096 then .stop 63 else
      let kid := kidOf pd P t1 i
      match loop pd ap P n (enter P rs1 kid self t1.kids) kid 0 rs1.nodes.length with
      | .stop w => .stop w
      | .done rs2 v span =>
        loop pd ap P n rs2 { t1 with kids := t1.kids + 1, slots := si t1.slots i.a v, ends := t1.ends ++ [t1.c + span] } (at_ + 1) self
    else loop pd ap P n rs1 (plainT ap t1 i) (plainAt t1 i at_) self

def root (args : List Int) : TS :=
  { f := 0, depth := 1, ped := 1, regs := fill 16 args, slots := List.replicate 8 0, kids := 0, work := 0, c := 0, ends := [] }

def whole (pd : Int → Int → Int) (ap : Int → Int → Int → Int) (P : List Fn) (args : List Int) (fuel : Nat) : Res :=
  loop pd ap P (fuel + 1) (enter P ⟨fuel, 0, 0, []⟩ (root args) (-1) 0) (root args) 0 0

/-- fuel laid on a state -/
def RS.more (rs : RS) (d : Nat) : RS := { rs with left := rs.left + d }
def Res.more (r : Res) (d : Nat) : Res := match r with
  | .done rs v s => .done (rs.more d) v s
  | .stop w => .stop w

/-- a run that ends leaves less fuel than it had -/
theorem loop_left (pd : Int → Int → Int) (ap : Int → Int → Int → Int) (P : List Fn) : ∀ (n : Nat) (rs : RS) (t : TS) (at_ : Int) (self : Nat) (rs' : RS) (v s : Int),
    loop pd ap P n rs t at_ self = .done rs' v s → rs'.left < rs.left := by
  intro n
  induction n with
  | zero => intro rs t at_ self rs' v s h; simp [loop] at h
  | succ n ih =>
    intro rs t at_ self rs' v s h
    simp only [loop] at h
    split at h
    · cases h
    · rename_i hl
      split at h
      · cases h; simp only [leave]; omega
      · split at h
        · split at h
          · cases h
          · split at h
            · cases h
            · rename_i rs2 v2 s2 h2
              have a := ih _ _ _ _ _ _ _ h2
              have b := ih _ _ _ _ _ _ _ h
              simp only [enter] at a
              omega
        · have b := ih _ _ _ _ _ _ _ h
          simp only at b
          omega

/-- the bound n is of no matter once it is above the fuel, and more fuel changes nothing in a run that does not run out -/
theorem loop_more (pd : Int → Int → Int) (ap : Int → Int → Int → Int) (P : List Fn) (d : Nat) : ∀ (n m : Nat) (rs : RS) (t : TS) (at_ : Int) (self : Nat),
    rs.left < n → rs.left + d < m → loop pd ap P n rs t at_ self ≠ .stop 62 →
    loop pd ap P m (rs.more d) t at_ self = (loop pd ap P n rs t at_ self).more d := by
  intro n
  induction n with
  | zero => intro m rs t at_ self h; omega
  | succ n ih =>
    intro m rs t at_ self hn hm h
    cases m with
    | zero => omega
    | succ m =>
      simp only [loop] at h ⊢
      by_cases hl : rs.left = 0
      · rw [if_pos hl] at h; exact absurd rfl h
      rw [if_neg hl] at h ⊢
      rw [if_neg (show ¬ (rs.more d).left = 0 by simp only [RS.more]; omega)]
      have e1 : ({ rs.more d with left := (rs.more d).left - 1 } : RS) = ({ rs with left := rs.left - 1 } : RS).more d := by
        simp only [RS.more]
        rw [show rs.left + d - 1 = rs.left - 1 + d by omega]
      by_cases hr : (insOf P t.f at_).kind = 9
      · rw [if_pos hr, if_pos hr, e1]; rfl
      rw [if_neg hr] at h ⊢
      rw [if_neg hr]
      by_cases hs : (insOf P t.f at_).kind = 5
      · rw [if_pos hs] at h ⊢
        rw [if_pos hs]
        by_cases hd : (tick t (insOf P t.f at_)).depth = 4096
        · rw [if_pos hd, if_pos hd]; rfl
        rw [if_neg hd] at h ⊢
        rw [if_neg hd, e1]
        generalize hk : kidOf pd P (tick t (insOf P t.f at_)) (insOf P t.f at_) = kid at h ⊢
        have e2 : enter P (({ rs with left := rs.left - 1 } : RS).more d) kid self (tick t (insOf P t.f at_)).kids
            = (enter P ({ rs with left := rs.left - 1 } : RS) kid self (tick t (insOf P t.f at_)).kids).more d := rfl
        rw [e2]
        generalize hR : enter P ({ rs with left := rs.left - 1 } : RS) kid self (tick t (insOf P t.f at_)).kids = R at h ⊢
        have hRl : R.left = rs.left - 1 := by rw [← hR]; rfl
        have en : (rs.more d).nodes = rs.nodes := rfl
        rw [en]
        cases hc : loop pd ap P n R kid 0 rs.nodes.length with
        | stop w =>
          have hw : w ≠ 62 := by
            intro e
            simp only [hc, e] at h
            exact h rfl
          rw [ih m R kid 0 _ (by omega) (by omega) (by rw [hc]; intro e; cases e; exact hw rfl), hc]
          rfl
        | done rs2 v2 s2 =>
          simp only [hc] at h
          rw [ih m R kid 0 _ (by omega) (by omega) (by rw [hc]; intro e; cases e), hc]
          have hl2 := loop_left pd ap P _ _ _ _ _ _ _ _ hc
          exact ih m rs2 _ _ _ (by omega) (by omega) h
      · rw [if_neg hs] at h ⊢
        rw [if_neg hs, e1]
        exact ih m _ _ _ _ (by simp only; omega) (by simp only; omega) h

end Go.Proofs.YtcioegimmjppcaaDoor.P
/-! Plain law of serial runs, part B: induction over a run that ends; fuel; sizes. -/
namespace Go.Proofs.YtcioegimmjppcaaDoor.P

theorem loop_done_ind (pd : Int → Int → Int) (ap : Int → Int → Int → Int) (P : List Fn) (M : RS → TS → Int → Nat → RS → Int → Int → Prop)
    (ret : ∀ (rs : RS) (t : TS) (at_ : Int) (self : Nat), rs.left ≠ 0 → (insOf P t.f at_).kind = 9 →
      M rs t at_ self (leave { rs with left := rs.left - 1 } self (gi t.regs (insOf P t.f at_).a) (t.work + 1)) (gi t.regs (insOf P t.f at_).a) (t.c + 1))
    (go : ∀ (rs : RS) (t : TS) (at_ : Int) (self : Nat) (rs' : RS) (v s : Int), rs.left ≠ 0 → (insOf P t.f at_).kind ≠ 9 → (insOf P t.f at_).kind ≠ 5 →
      M { rs with left := rs.left - 1 } (plainT ap (tick t (insOf P t.f at_)) (insOf P t.f at_)) (plainAt (tick t (insOf P t.f at_)) (insOf P t.f at_) at_) self rs' v s →
      M rs t at_ self rs' v s)
    (spawn : ∀ (rs : RS) (t : TS) (at_ : Int) (self : Nat) (rs2 : RS) (v2 s2 : Int) (rs' : RS) (v s : Int), rs.left ≠ 0 → (insOf P t.f at_).kind = 5 → t.depth ≠ 4096 →
      M (enter P { rs with left := rs.left - 1 } (kidOf pd P (tick t (insOf P t.f at_)) (insOf P t.f at_)) self t.kids) (kidOf pd P (tick t (insOf P t.f at_)) (insOf P t.f at_)) 0 rs.nodes.length rs2 v2 s2 →
      M rs2 { tick t (insOf P t.f at_) with c := t.c + 1, kids := t.kids + 1, slots := si t.slots (insOf P t.f at_).a v2, ends := t.ends ++ [t.c + 1 + s2] } (at_ + 1) self rs' v s →
      M rs t at_ self rs' v s) :
    ∀ (n : Nat) (rs : RS) (t : TS) (at_ : Int) (self : Nat) (rs' : RS) (v s : Int), loop pd ap P n rs t at_ self = .done rs' v s → M rs t at_ self rs' v s := by
  intro n
  induction n with
  | zero => intro rs t at_ self rs' v s h; simp [loop] at h
  | succ n ih =>
    intro rs t at_ self rs' v s h
    simp only [loop] at h
    split at h
    · cases h
    · rename_i hl
      split at h
      · rename_i hk
        have hc : (tick t (insOf P t.f at_)).c = t.c + 1 := by
          simp only [tick]
          rw [if_neg (by omega)]
        injection h with h1 h2 h3
        subst h1 h2 h3
        rw [hc]
        exact ret rs t at_ self hl hk
      · rename_i hk
        split at h
        · rename_i hk5
          have hc : (tick t (insOf P t.f at_)).c = t.c + 1 := by
            simp only [tick]
            rw [if_neg (by omega)]
          split at h
          · cases h
          · rename_i hd
            split at h
            · cases h
            · rename_i rs2 v2 s2 h2
              have b := ih _ _ _ _ _ _ _ h
              rw [hc] at b
              exact spawn rs t at_ self rs2 v2 s2 rs' v s hl hk5 hd (ih _ _ _ _ _ _ _ h2) b
        · rename_i hk5
          exact go rs t at_ self rs' v s hl hk hk5 (ih _ _ _ _ _ _ _ h)

/-- a run that runs out: with more fuel it leaves less than what was laid on -/
theorem loop_out (pd : Int → Int → Int) (ap : Int → Int → Int → Int) (P : List Fn) (d : Nat) : ∀ (n m : Nat) (rs : RS) (t : TS) (at_ : Int) (self : Nat) (rs' : RS) (v s : Int),
    rs.left < n → rs.left + d < m → loop pd ap P n rs t at_ self = .stop 62 → loop pd ap P m (rs.more d) t at_ self = .done rs' v s → rs'.left < d := by
  intro n
  induction n with
  | zero => intro m rs t at_ self rs' v s h; omega
  | succ n ih =>
    intro m rs t at_ self rs' v s hn hm h h'
    by_cases hl : rs.left = 0
    · have := loop_left pd ap P _ _ _ _ _ _ _ _ h'
      simp only [RS.more] at this
      omega
    cases m with
    | zero => omega
    | succ m =>
      simp only [loop] at h h'
      rw [if_neg hl] at h
      rw [if_neg (show ¬ (rs.more d).left = 0 by simp only [RS.more]; omega)] at h'
      have e1 : ({ rs.more d with left := (rs.more d).left - 1 } : RS) = ({ rs with left := rs.left - 1 } : RS).more d := by
        simp only [RS.more]
        rw [show rs.left + d - 1 = rs.left - 1 + d by omega]
      rw [e1] at h'
      by_cases hr : (insOf P t.f at_).kind = 9
      · rw [if_pos hr] at h; cases h
      rw [if_neg hr] at h h'
      by_cases hs : (insOf P t.f at_).kind = 5
      · rw [if_pos hs] at h h'
        by_cases hd : (tick t (insOf P t.f at_)).depth = 4096
        · rw [if_pos hd] at h'; cases h'
        rw [if_neg hd] at h h'
        generalize hk : kidOf pd P (tick t (insOf P t.f at_)) (insOf P t.f at_) = kid at h h'
        have e2 : enter P (({ rs with left := rs.left - 1 } : RS).more d) kid self (tick t (insOf P t.f at_)).kids
            = (enter P ({ rs with left := rs.left - 1 } : RS) kid self (tick t (insOf P t.f at_)).kids).more d := rfl
        rw [e2] at h'
        generalize hR : enter P ({ rs with left := rs.left - 1 } : RS) kid self (tick t (insOf P t.f at_)).kids = R at h h'
        have hRl : R.left = rs.left - 1 := by rw [← hR]; rfl
        have en : (rs.more d).nodes = rs.nodes := rfl
        rw [en] at h'
        cases hc : loop pd ap P n R kid 0 rs.nodes.length with
        | stop w =>
          simp only [hc] at h
          injection h with hw
          subst hw
          cases hc' : loop pd ap P m (R.more d) kid 0 rs.nodes.length with
          | stop w' => simp only [hc'] at h'; cases h'
          | done rs2 v2 s2 =>
            simp only [hc'] at h'
            have a := ih m R kid 0 _ _ _ _ (by omega) (by omega) hc hc'
            have b := loop_left pd ap P _ _ _ _ _ _ _ _ h'
            omega
        | done rs2 v2 s2 =>
          have hm2 := loop_more pd ap P d n m R kid 0 rs.nodes.length (by omega) (by omega) (by rw [hc]; intro e; cases e)
          rw [hc] at hm2
          simp only [hc] at h
          simp only [hm2, Res.more] at h'
          have hl2 := loop_left pd ap P _ _ _ _ _ _ _ _ hc
          exact ih m rs2 _ _ _ _ _ _ (by omega) (by omega) h h'
      · rw [if_neg hs] at h h'
        exact ih m _ _ _ _ _ _ _ (by simp only; omega) (by simp only; omega) h h'

theorem whole_more (pd : Int → Int → Int) (ap : Int → Int → Int → Int) (P : List Fn) (args : List Int) (fuel d : Nat) (h : whole pd ap P args fuel ≠ .stop 62) :
    whole pd ap P args (fuel + d) = (whole pd ap P args fuel).more d := by
  unfold whole at h ⊢
  exact loop_more pd ap P d (fuel + 1) (fuel + d + 1) _ _ _ _ (by simp [enter]) (by simp [enter]) h

theorem whole_out (pd : Int → Int → Int) (ap : Int → Int → Int → Int) (P : List Fn) (args : List Int) (fuel d : Nat) (rs : RS) (v s : Int) (h : whole pd ap P args fuel = .stop 62)
    (h' : whole pd ap P args (fuel + d) = .done rs v s) : rs.left < d := by
  unfold whole at h h'
  exact loop_out pd ap P d (fuel + 1) (fuel + d + 1) _ _ _ _ _ _ _ (by simp [enter]) (by simp [enter]) h h'

/-- with less, as long as it is enough: the same, and less is left -/
theorem whole_less (pd : Int → Int → Int) (ap : Int → Int → Int → Int) (P : List Fn) (args : List Int) (fuel d : Nat) (rs : RS) (v s : Int)
    (h : whole pd ap P args (fuel + d) = .done rs v s) (hd : d ≤ rs.left) : whole pd ap P args fuel = .done { rs with left := rs.left - d } v s := by
  cases hc : whole pd ap P args fuel with
  | stop w =>
    by_cases hw : w = 62
    · subst hw
      have := whole_out pd ap P args fuel d rs v s hc h
      omega
    · have := whole_more pd ap P args fuel d (by rw [hc]; intro e; cases e; exact hw rfl)
      rw [h, hc] at this
      cases this
  | done rs2 v2 s2 =>
    have := whole_more pd ap P args fuel d (by rw [hc]; intro e; cases e)
    rw [h, hc] at this
    simp only [Res.more, RS.more] at this
    injection this with a b c
    subst a b c
    simp only [Nat.add_sub_cancel]

/-- with too little it runs out -/
theorem whole_short (pd : Int → Int → Int) (ap : Int → Int → Int → Int) (P : List Fn) (args : List Int) (fuel d : Nat) (rs : RS) (v s : Int)
    (h : whole pd ap P args (fuel + d) = .done rs v s) (hd : rs.left < d) : whole pd ap P args fuel = .stop 62 := by
  by_cases hc : whole pd ap P args fuel = .stop 62
  · exact hc
  have := whole_more pd ap P args fuel d hc
  rw [h] at this
  cases hr : whole pd ap P args fuel with
  | stop w => rw [hr] at this; cases this
  | done rs2 v2 s2 =>
    rw [hr] at this
    simp only [Res.more, RS.more] at this
    injection this with a b c
    subst a
    simp only at hd
    omega

/-- the errors of a run: 62 and 63 -/
theorem loop_stop (pd : Int → Int → Int) (ap : Int → Int → Int → Int) (P : List Fn) : ∀ (n : Nat) (rs : RS) (t : TS) (at_ : Int) (self : Nat) (w : Int),
    loop pd ap P n rs t at_ self = .stop w → w = 62 ∨ w = 63 := by
  intro n
  induction n with
  | zero => intro rs t at_ self w h; simp [loop] at h; exact Or.inl h.symm
  | succ n ih =>
    intro rs t at_ self w h
    simp only [loop] at h
    split at h
    · injection h with h; exact Or.inl h.symm
    · split at h
      · cases h
      · split at h
        · split at h
          · injection h with h; exact Or.inr h.symm
          · split at h
            · rename_i w2 h2
              injection h with h
              subst h
              exact ih _ _ _ _ _ h2
            · exact ih _ _ _ _ _ h
        · exact ih _ _ _ _ _ h

end Go.Proofs.YtcioegimmjppcaaDoor.P
/-! Plain law of serial runs, part C: depth, tasks, work and span of a run that ends. -/
namespace Go.Proofs.YtcioegimmjppcaaDoor.P

theorem maxL_le {U : Int} : ∀ (l : List Int) (c : Int), c ≤ U → (∀ e ∈ l, e ≤ U) → maxL c l ≤ U := by
  intro l
  induction l with
  | nil => intro c hc _; exact hc
  | cons a l ih =>
    intro c hc hl
    have ha := hl a List.mem_cons_self
    exact ih (max c a) (by omega) (fun e he => hl e (List.mem_cons_of_mem _ he))
theorem le_maxL : ∀ (l : List Int) (c : Int), c ≤ maxL c l := by
  intro l
  induction l with
  | nil => intro c; exact Int.le_refl c
  | cons a l ih =>
    intro c
    have := ih (max c a)
    show c ≤ maxL (max c a) l
    omega
theorem maxL_app (l : List Int) (c e : Int) : maxL c (l ++ [e]) = max (maxL c l) e := by
  unfold maxL
  rw [List.foldl_append]
  rfl
theorem maxL_mono (l : List Int) : ∀ (c d : Int), c ≤ d → maxL c l ≤ maxL d l := by
  induction l with
  | nil => intro c d h; exact h
  | cons a l ih =>
    intro c d h
    exact ih (max c a) (max d a) (by omega)
theorem maxL_add (l : List Int) : ∀ (c : Int), maxL (c + 1) l ≤ maxL c l + 1 := by
  induction l with
  | nil => intro c; exact Int.le_refl _
  | cons a l ih =>
    intro c
    have h1 : maxL (max (c + 1) a) l ≤ maxL (max c a + 1) l := maxL_mono l _ _ (by omega)
    have h2 := ih (max c a)
    show maxL (max (c + 1) a) l ≤ maxL (max c a) l + 1
    omega

theorem plainT_keeps (ap : Int → Int → Int → Int) (t : TS) (i : Ins) : (plainT ap t i).f = t.f ∧ (plainT ap t i).depth = t.depth ∧ (plainT ap t i).ped = t.ped ∧ (plainT ap t i).kids = t.kids ∧ (plainT ap t i).work = t.work := by
  unfold plainT
  repeat' split
  all_goals exact ⟨rfl, rfl, rfl, rfl, rfl⟩

/-- the chain behind an instruction that is neither spawn nor return -/
theorem plainT_chain (ap : Int → Int → Int → Int) (t : TS) (i : Ins) : (plainT ap (tick t i) i).c = (if i.kind = 6 then maxL t.c t.ends + 1 else t.c + 1) ∧ (plainT ap (tick t i) i).ends = (if i.kind = 6 then [] else t.ends) := by
  by_cases h : i.kind = 6
  · have e : plainT ap (tick t i) i = { tick t i with c := maxL (tick t i).c (tick t i).ends + 1, ends := [] } := by
      unfold plainT
      rw [if_neg (by omega), if_neg (by omega), if_neg (by omega), if_pos h]
    rw [e, if_pos h, if_pos h]
    have e2 : (tick t i).c = t.c := by simp only [tick]; rw [if_pos h]
    exact ⟨congrArg (· + 1) (congrFun (congrArg maxL e2) _), rfl⟩
  · rw [if_neg h, if_neg h]
    have e : (tick t i).c = t.c + 1 := by simp only [tick]; rw [if_neg h]
    unfold plainT
    repeat' split
    all_goals first | exact absurd ‹_› h | exact ⟨e, rfl⟩

theorem loop_sizes (pd : Int → Int → Int) (ap : Int → Int → Int → Int) (P : List Fn) : ∀ (n : Nat) (rs : RS) (t : TS) (at_ : Int) (self : Nat) (rs' : RS) (v s : Int), loop pd ap P n rs t at_ self = .done rs' v s →
    rs'.left < rs.left ∧ rs.tasks ≤ rs'.tasks ∧ rs'.tasks - rs.tasks + 1 ≤ (rs.left : Int) - rs'.left ∧ rs.deepest ≤ rs'.deepest ∧
    rs'.deepest ≤ max rs.deepest (t.depth + (rs'.tasks - rs.tasks)) ∧ (rs.tasks < rs'.tasks → t.depth + 1 ≤ rs'.deepest) ∧ t.c < s ∧
    (∀ U : Int, t.c ≤ U → (∀ e ∈ t.ends, e ≤ U) → s ≤ U + ((rs.left : Int) - rs'.left)) ∧
    (t.ends = [] → rs'.tasks = rs.tasks → s = t.c + ((rs.left : Int) - rs'.left)) := by
  refine loop_done_ind pd ap P (fun rs t at_ self rs' v s => rs'.left < rs.left ∧ rs.tasks ≤ rs'.tasks ∧ rs'.tasks - rs.tasks + 1 ≤ (rs.left : Int) - rs'.left ∧ rs.deepest ≤ rs'.deepest ∧
    rs'.deepest ≤ max rs.deepest (t.depth + (rs'.tasks - rs.tasks)) ∧ (rs.tasks < rs'.tasks → t.depth + 1 ≤ rs'.deepest) ∧ t.c < s ∧
    (∀ U : Int, t.c ≤ U → (∀ e ∈ t.ends, e ≤ U) → s ≤ U + ((rs.left : Int) - rs'.left)) ∧
    (t.ends = [] → rs'.tasks = rs.tasks → s = t.c + ((rs.left : Int) - rs'.left))) ?_ ?_ ?_
  · intro rs t at_ self hl hk
    simp only [leave]
    refine ⟨by omega, by omega, by omega, by omega, by omega, by omega, by omega, fun U h1 h2 => by omega, fun _ _ => by omega⟩
  · intro rs t at_ self rs' v s hl hk hk5 h
    obtain ⟨a1, a2, a3, a4, a5, a6, a7, a8, a9⟩ := h
    obtain ⟨c1, c2⟩ := plainT_chain ap t (insOf P t.f at_)
    have d1 := (plainT_keeps ap (tick t (insOf P t.f at_)) (insOf P t.f at_)).2.1
    have d2 : (tick t (insOf P t.f at_)).depth = t.depth := rfl
    rw [d1, d2] at a5 a6
    rw [c1] at a7
    simp only at a1 a2 a3 a4 a5 a6 a8 a9
    have hm := le_maxL t.ends t.c
    refine ⟨by omega, by omega, by omega, by omega, by omega, by omega, ?_, fun U h1 h2 => ?_, fun h1 h2 => ?_⟩
    · split at a7 <;> omega
    · have hb := maxL_le t.ends t.c h1 h2
      have := a8 (U + 1) (by rw [c1]; split <;> omega) (fun e he => by
        rw [c2] at he
        split at he
        · cases he
        · have := h2 e he
          omega)
      omega
    · have := a9 (by rw [c2]; split; rfl; exact h1) h2
      rw [c1, h1] at this
      have e : maxL t.c [] = t.c := rfl
      rw [e] at this
      split at this <;> omega
  · intro rs t at_ self rs2 v2 s2 rs' v s hl hk hd h2 h
    obtain ⟨a1, a2, a3, a4, a5, a6, a7, a8, a9⟩ := h2
    obtain ⟨b1, b2, b3, b4, b5, b6, b7, b8, b9⟩ := h
    have d1 : (kidOf pd P (tick t (insOf P t.f at_)) (insOf P t.f at_)).depth = t.depth + 1 := rfl
    have d2 : (kidOf pd P (tick t (insOf P t.f at_)) (insOf P t.f at_)).c = 0 := rfl
    have d3 : (kidOf pd P (tick t (insOf P t.f at_)) (insOf P t.f at_)).ends = [] := rfl
    simp only [enter] at a1 a2 a3 a4 a5 a6 a7 a8 a9
    rw [d1] at a4 a5 a6
    have d4 : (tick t (insOf P t.f at_)).depth = t.depth := rfl
    simp only [d4] at b5 b6
    simp only at b7
    have a8' := a8 0 (by rw [d2]; omega) (by rw [d3]; intro e he; cases he)
    rw [d2] at a7
    refine ⟨by omega, by omega, by omega, by omega, by omega, by omega, by omega, fun U h1 h3 => ?_, fun h1 h3 => by omega⟩
    have := b8 (U + 1 + ((rs.left : Int) - 1 - rs2.left)) (by simp only; omega) (fun e he => by
      simp only at he
      rcases List.mem_append.1 he with h4 | h4
      · have := h3 e h4
        omega
      · simp only [List.mem_singleton] at h4
        omega)
    omega

/-- sizes of a run from its beginning -/
theorem whole_sizes (pd : Int → Int → Int) (ap : Int → Int → Int → Int) (P : List Fn) (args : List Int) (fuel : Nat) (rs : RS) (v s : Int) (h : whole pd ap P args fuel = .done rs v s) :
    1 ≤ rs.deepest ∧ rs.deepest ≤ rs.tasks ∧ rs.tasks ≤ (fuel : Int) - rs.left ∧ 1 ≤ s ∧ s ≤ (fuel : Int) - rs.left ∧ (rs.tasks = 1 ↔ rs.deepest = 1) ∧ (rs.tasks = 1 → s = (fuel : Int) - rs.left) := by
  unfold whole at h
  obtain ⟨a1, a2, a3, a4, a5, a6, a7, a8, a9⟩ := loop_sizes pd ap P _ _ _ _ _ _ _ _ h
  simp only [enter, root] at a1 a2 a3 a4 a5 a6 a7 a8 a9
  have a8' := a8 0 (by omega) (by intro e he; cases he)
  have hm : max (0 : Int) 1 = 1 := by decide
  simp only [hm] at a4 a5
  refine ⟨by omega, by omega, by omega, by omega, by omega, ⟨fun h1 => by omega, fun h1 => ?_⟩, fun h1 => ?_⟩
  · by_cases h2 : rs.tasks = 1
    · exact h2
    · have := a6 (by omega)
      omega
  · have := a9 trivial (by omega)
    omega

end Go.Proofs.YtcioegimmjppcaaDoor.P
/-! Plain law of the check of programs, part A: the search over a function's places with a slot's states finds just what paths lead to. -/
namespace Go.Proofs.YtcioegimmjppcaaDoor.P

def goesOn (k : Int) : Bool := decide (0 ≤ k ∧ k ≤ 8 ∧ k ≠ 3)

/-- where the instruction at a place may go on -/
def nexts (code : List Ins) (at_ : Int) : List Int :=
  let i := code.getD at_.toNat default
  (if goesOn i.kind = true ∧ at_ + 1 < (code.length : Int) then [at_ + 1] else []) ++
    (if i.kind = 3 then [i.a] else if i.kind = 4 then [i.b] else [])

/-- a slot's state behind an instruction: 1 empty, 2 pending, 4 full -/
def behind (c : Ins) (slot state : Int) : Int :=
  if c.kind = 5 ∧ c.a = slot then 2 else if c.kind = 6 ∧ state = 2 then 4 else state

def nbrs (code : List Ins) (slot : Int) (x : Int × Int) : List (Int × Int) :=
  (nexts code x.1).map fun n => (n, behind (code.getD x.1.toNat default) slot x.2)

def push1 (st : List (Int × Int) × List (Int × Int)) (y : Int × Int) : List (Int × Int) × List (Int × Int) :=
  if y ∈ st.1 then st else (st.1 ++ [y], st.2 ++ [y])

def srch (code : List Ins) (slot : Int) : Nat → List (Int × Int) → List (Int × Int) → List (Int × Int)
  | 0, seen, _ => seen
  | _ + 1, seen, [] => seen
  | n + 1, seen, x :: work =>
    srch code slot n ((nbrs code slot x).foldl push1 (seen, work)).1 ((nbrs code slot x).foldl push1 (seen, work)).2

inductive Reach (code : List Ins) (slot : Int) : Int × Int → Prop
  | start : Reach code slot (0, 1)
  | step {x y : Int × Int} : Reach code slot x → y ∈ nbrs code slot x → Reach code slot y

/-- all places that are gone to are in the code -/
def placed (code : List Ins) : Prop := 0 < code.length ∧ ∀ i ∈ code, (i.kind = 3 → 0 ≤ i.a ∧ i.a < (code.length : Int)) ∧ (i.kind = 4 → 0 ≤ i.b ∧ i.b < (code.length : Int))

theorem nodup_sub_len {α : Type} [DecidableEq α] : ∀ (l m : List α), l.Nodup → (∀ x ∈ l, x ∈ m) → l.length ≤ m.length := by
  intro l
  induction l with
  | nil => intro m _ _; exact Nat.zero_le _
  | cons a l ih =>
    intro m hn hs
    have ha : a ∈ m := hs a (List.mem_cons_self)
    have hn' := List.nodup_cons.1 hn
    have h1 := ih (m.erase a) hn'.2 (fun x hx => by
      have hne : x ≠ a := fun e => hn'.1 (e ▸ hx)
      exact (List.mem_erase_of_ne hne).2 (hs x (List.mem_cons_of_mem _ hx)))
    rw [List.length_erase_of_mem ha] at h1
    have hp : 0 < m.length := List.length_pos_of_mem ha
    simp only [List.length_cons]
    omega

theorem push1_fold (l : List (Int × Int)) : ∀ (seen work : List (Int × Int)), seen.Nodup → (∀ x ∈ work, x ∈ seen) →
    (l.foldl push1 (seen, work)).1.Nodup ∧ (∀ x ∈ (l.foldl push1 (seen, work)).2, x ∈ (l.foldl push1 (seen, work)).1) ∧
    (∀ x, x ∈ (l.foldl push1 (seen, work)).1 ↔ x ∈ seen ∨ x ∈ l) ∧
    (∀ x, x ∈ (l.foldl push1 (seen, work)).1 → x ∈ seen ∨ x ∈ (l.foldl push1 (seen, work)).2) ∧
    (∀ x ∈ work, x ∈ (l.foldl push1 (seen, work)).2) ∧
    (l.foldl push1 (seen, work)).1.length + work.length = seen.length + (l.foldl push1 (seen, work)).2.length := by
  induction l with
  | nil => intro seen work hn hw; exact ⟨hn, hw, by simp, fun x hx => Or.inl hx, fun x hx => hx, by simp⟩
  | cons y l ih =>
    intro seen work hn hw
    simp only [List.foldl_cons]
    by_cases hy : y ∈ seen
    · have e : push1 (seen, work) y = (seen, work) := by simp [push1, hy]
      rw [e]
      obtain ⟨a, b, c, d, f, g⟩ := ih seen work hn hw
      refine ⟨a, b, fun x => ?_, d, f, g⟩
      rw [c x, List.mem_cons]
      constructor
      · rintro (h | h)
        · exact Or.inl h
        · exact Or.inr (Or.inr h)
      · rintro (h | h | h)
        · exact Or.inl h
        · exact Or.inl (h ▸ hy)
        · exact Or.inr h
    · have e : push1 (seen, work) y = (seen ++ [y], work ++ [y]) := by simp [push1, hy]
      rw [e]
      have hn2 : (seen ++ [y]).Nodup := by
        rw [List.nodup_append]
        refine ⟨hn, by simp, ?_⟩
        intro a ha b hb e1
        simp only [List.mem_singleton] at hb
        exact hy (by rw [← hb, ← e1]; exact ha)
      have hw2 : ∀ x ∈ work ++ [y], x ∈ seen ++ [y] := by
        intro x hx
        rcases List.mem_append.1 hx with h | h
        · exact List.mem_append.2 (Or.inl (hw x h))
        · exact List.mem_append.2 (Or.inr h)
      obtain ⟨a, b, c, d, f, g⟩ := ih (seen ++ [y]) (work ++ [y]) hn2 hw2
      refine ⟨a, b, fun x => ?_, fun x hx => ?_, fun x hx => f x (List.mem_append.2 (Or.inl hx)), ?_⟩
      · rw [c x, List.mem_append, List.mem_singleton, List.mem_cons]
        constructor
        · rintro ((h | h) | h)
          · exact Or.inl h
          · exact Or.inr (Or.inl h)
          · exact Or.inr (Or.inr h)
        · rintro (h | h | h)
          · exact Or.inl (Or.inl h)
          · exact Or.inl (Or.inr h)
          · exact Or.inr h
      · rcases d x hx with h | h
        · rcases List.mem_append.1 h with h1 | h1
          · exact Or.inl h1
          · exact Or.inr (f x (List.mem_append.2 (Or.inr h1)))
        · exact Or.inr h
      · simp only [List.length_append, List.length_singleton] at g
        omega

/-- the box of all points -/
def box (n : Nat) : List (Int × Int) := (List.range n).flatMap fun (k : Nat) => [((k : Int), (1 : Int)), ((k : Int), 2), ((k : Int), 4)]

theorem box_len (n : Nat) : (box n).length = 3 * n := by
  unfold box
  induction n with
  | zero => rfl
  | succ n ih => rw [List.range_succ, List.flatMap_append, List.length_append, ih]; simp; omega

def inBox (n : Nat) (x : Int × Int) : Prop := 0 ≤ x.1 ∧ x.1 < (n : Int) ∧ (x.2 = 1 ∨ x.2 = 2 ∨ x.2 = 4)

theorem mem_box {n : Nat} {x : Int × Int} (h : inBox n x) : x ∈ box n := by
  obtain ⟨h0, h1, h2⟩ := h
  unfold box
  rw [List.mem_flatMap]
  refine ⟨x.1.toNat, List.mem_range.2 (by omega), ?_⟩
  have e : ((x.1.toNat : Nat) : Int) = x.1 := by omega
  rw [e]
  obtain ⟨a, b⟩ := x
  rcases h2 with h | h | h <;> simp only at h <;> subst h <;> simp

theorem nexts_box {code : List Ins} (hp : placed code) {at_ : Int} (h0 : 0 ≤ at_) (h1 : at_ < (code.length : Int)) : ∀ n ∈ nexts code at_, 0 ≤ n ∧ n < (code.length : Int) := by
  intro n hn
  have hlt : at_.toNat < code.length := by omega
  have hget : code.getD at_.toNat default = code[at_.toNat] := by
    simp [List.getD_eq_getElem?_getD, List.getElem?_eq_getElem hlt]
  have hm : code.getD at_.toNat default ∈ code := by rw [hget]; exact List.getElem_mem hlt
  have hq := hp.2 _ hm
  simp only [nexts] at hn
  rcases List.mem_append.1 hn with h | h
  · split at h
    · rename_i hc
      simp only [List.mem_singleton] at h
      subst h
      exact ⟨by omega, hc.2⟩
    · cases h
  · split at h
    · rename_i hc
      simp only [List.mem_singleton] at h
      subst h
      exact hq.1 hc
    · split at h
      · rename_i hc
        simp only [List.mem_singleton] at h
        subst h
        exact hq.2 hc
      · cases h

theorem behind_box (c : Ins) (slot : Int) {s : Int} (h : s = 1 ∨ s = 2 ∨ s = 4) : behind c slot s = 1 ∨ behind c slot s = 2 ∨ behind c slot s = 4 := by
  unfold behind
  split
  · exact Or.inr (Or.inl rfl)
  · split
    · exact Or.inr (Or.inr rfl)
    · exact h

theorem nbrs_box {code : List Ins} (hp : placed code) (slot : Int) {x : Int × Int} (h : inBox code.length x) : ∀ y ∈ nbrs code slot x, inBox code.length y := by
  intro y hy
  unfold nbrs at hy
  obtain ⟨n, hn, rfl⟩ := List.mem_map.1 hy
  have a := nexts_box hp h.1 h.2.1 n hn
  exact ⟨a.1, a.2, behind_box _ _ h.2.2⟩

theorem reach_box {code : List Ins} (hp : placed code) {slot : Int} {x : Int × Int} (h : Reach code slot x) : inBox code.length x := by
  induction h with
  | start => exact ⟨by simp, by have := hp.1; simp only; omega, Or.inl rfl⟩
  | step _ hy ih => exact nbrs_box hp slot ih _ hy

/-- the search, from a state that is on its way -/
theorem srch_spec {code : List Ins} (hp : placed code) (slot : Int) : ∀ (n : Nat) (seen work : List (Int × Int)), seen.Nodup → (∀ x ∈ work, x ∈ seen) →
    (∀ x ∈ seen, Reach code slot x) → (0, 1) ∈ seen → (∀ x ∈ seen, x ∈ work ∨ ∀ y ∈ nbrs code slot x, y ∈ seen) →
    3 * code.length + work.length ≤ n + seen.length →
    ∀ x, x ∈ srch code slot n seen work ↔ Reach code slot x := by
  intro n
  induction n with
  | zero =>
    intro seen work hn hw hr h0 hc hm
    have hl := nodup_sub_len seen (box code.length) hn (fun x hx => mem_box (reach_box hp (hr x hx)))
    rw [box_len] at hl
    have hwn : work = [] := by cases work with
      | nil => rfl
      | cons a b => simp only [List.length_cons] at hm; omega
    subst hwn
    intro x
    refine ⟨fun h => hr x h, fun h => ?_⟩
    show x ∈ seen
    induction h with
    | start => exact h0
    | step _ hy ih => exact (hc _ ih).elim (fun h => by cases h) (fun h => h _ hy)
  | succ n ih =>
    intro seen work hn hw hr h0 hc hm
    cases work with
    | nil =>
      intro x
      refine ⟨fun h => hr x h, fun h => ?_⟩
      show x ∈ seen
      induction h with
      | start => exact h0
      | step _ hy ih2 => exact (hc _ ih2).elim (fun h => by cases h) (fun h => h _ hy)
    | cons a work =>
      obtain ⟨p1, p2, p3, p4, p5, p6⟩ := push1_fold (nbrs code slot a) seen work hn (fun x hx => hw x (List.mem_cons_of_mem _ hx))
      have hra : Reach code slot a := hr a (hw a List.mem_cons_self)
      simp only [srch]
      refine ih _ _ p1 p2 (fun x hx => ?_) ((p3 _).2 (Or.inl h0)) (fun x hx => ?_) ?_
      · rcases (p3 x).1 hx with h | h
        · exact hr x h
        · exact .step hra h
      · rcases p4 x hx with h | h
        · by_cases hxa : x = a
          · subst hxa
            exact Or.inr fun y hy => (p3 y).2 (Or.inr hy)
          · rcases hc x h with h2 | h2
            · rcases List.mem_cons.1 h2 with h3 | h3
              · exact absurd h3 hxa
              · exact Or.inl (p5 x h3)
            · exact Or.inr fun y hy => (p3 y).2 (Or.inl (h2 y hy))
        · exact Or.inl h
      · simp only [List.length_cons] at hm
        omega

theorem srch_reach {code : List Ins} (hp : placed code) (slot : Int) {n : Nat} (hn : 3 * code.length ≤ n) (x : Int × Int) :
    x ∈ srch code slot n [(0, 1)] [(0, 1)] ↔ Reach code slot x :=
  srch_spec hp slot n _ _ (by simp) (fun x hx => hx) (fun x hx => by rw [List.mem_singleton.1 hx]; exact .start) (by simp) (fun x hx => Or.inl hx) (by simp; omega) x

end Go.Proofs.YtcioegimmjppcaaDoor.P
/-! Plain law of serial runs, part D: programs that may be; a run of one keeps its place, and returns with no child that was not waited for; so the span is at least the depth. -/
namespace Go.Proofs.YtcioegimmjppcaaDoor.P

def inR (n bound : Int) : Prop := 0 ≤ n ∧ n < bound

/-- an instruction that may be -/
def insOK (P : List Fn) (f : Fn) (i : Ins) : Prop :=
  0 ≤ i.kind ∧ i.kind ≤ 9 ∧
  (i.kind = 0 → inR i.a f.regs) ∧
  (i.kind = 1 → inR i.a f.regs ∧ inR i.b f.regs) ∧
  (i.kind = 2 → inR i.a f.regs ∧ inR i.b f.regs ∧ inR i.c f.regs ∧ inR i.k 16) ∧
  (i.kind = 3 → inR i.a (f.code.length : Int)) ∧
  (i.kind = 4 → inR i.a f.regs ∧ inR i.b (f.code.length : Int)) ∧
  (i.kind = 5 → inR i.a f.slots ∧ inR i.b (P.length : Int) ∧ ((fnOf P i.b).params = 0 ∨ 0 ≤ i.c ∧ i.c ≤ f.regs - (fnOf P i.b).params)) ∧
  (i.kind = 7 → inR i.a f.regs ∧ inR i.b f.slots) ∧
  (i.kind = 8 → inR i.a f.regs) ∧
  (i.kind = 9 → inR i.a f.regs)

def shapeOK (f : Fn) : Prop := 0 ≤ f.params ∧ f.params ≤ 8 ∧ 1 ≤ f.regs ∧ f.params ≤ f.regs ∧ f.regs ≤ 16 ∧ 0 ≤ f.slots ∧ f.slots ≤ 8 ∧ 1 ≤ f.code.length ∧ f.code.length ≤ 512

def lastOK (f : Fn) : Prop := (f.code.getD (f.code.length - 1) default).kind = 3 ∨ (f.code.getD (f.code.length - 1) default).kind = 9

def flowAt (c : Ins) (slot s : Int) : Prop := (c.kind = 5 → c.a = slot → s ≠ 2) ∧ (c.kind = 7 → c.b = slot → s = 4) ∧ (c.kind = 9 → s ≠ 2)
def flowOK (f : Fn) : Prop := ∀ slot, inR slot f.slots → ∀ x, Reach f.code slot x → flowAt (f.code.getD x.1.toNat default) slot x.2

structure FnOK (P : List Fn) (f : Fn) : Prop where
  shape : shapeOK f
  ins : ∀ i ∈ f.code, insOK P f i
  last : lastOK f
  flow : flowOK f

structure Valid (P : List Fn) : Prop where
  some : 1 ≤ P.length
  few : P.length ≤ 32
  each : ∀ f ∈ P, FnOK P f

theorem fnOf_mem {P : List Fn} {f : Int} (h : inR f (P.length : Int)) : fnOf P f ∈ P := by
  have hlt : f.toNat < P.length := by have := h.1; have := h.2; omega
  unfold fnOf
  rw [List.getD_eq_getElem?_getD, List.getElem?_eq_getElem hlt]
  exact List.getElem_mem hlt

theorem insOf_mem {P : List Fn} {f at_ : Int} (h : inR at_ ((fnOf P f).code.length : Int)) : insOf P f at_ ∈ (fnOf P f).code := by
  have hlt : at_.toNat < (fnOf P f).code.length := by have := h.1; have := h.2; omega
  unfold insOf
  rw [List.getD_eq_getElem?_getD, List.getElem?_eq_getElem hlt]
  exact List.getElem_mem hlt

/-- a task on its way, where it may be -/
structure At (P : List Fn) (t : TS) (at_ : Int) : Prop where
  f : inR t.f (P.length : Int)
  place : inR at_ ((fnOf P t.f).code.length : Int)
  regs : t.regs.length = 16
  slots : t.slots.length = 8
  pend : ∃ σ : Int → Int, (∀ slot, inR slot (fnOf P t.f).slots → Reach (fnOf P t.f).code slot (at_, σ slot)) ∧ (t.ends ≠ [] → ∃ slot, inR slot (fnOf P t.f).slots ∧ σ slot = 2)

theorem next_in {P : List Fn} {f at_ : Int} (hv : FnOK P (fnOf P f)) (h : inR at_ ((fnOf P f).code.length : Int)) (h3 : (insOf P f at_).kind ≠ 3) (h9 : (insOf P f at_).kind ≠ 9) :
    inR (at_ + 1) ((fnOf P f).code.length : Int) ∧ at_ + 1 ∈ nexts (fnOf P f).code at_ := by
  have hok := hv.ins _ (insOf_mem h)
  have hlt : at_ + 1 < ((fnOf P f).code.length : Int) := by
    rcases Int.lt_or_le (at_ + 1) ((fnOf P f).code.length : Int) with h1 | h1
    · exact h1
    · exfalso
      have e : at_.toNat = (fnOf P f).code.length - 1 := by have := h.1; have := h.2; omega
      have hl := hv.last
      unfold lastOK at hl
      rw [← e] at hl
      exact hl.elim h3 h9
  refine ⟨⟨by have := h.1; omega, hlt⟩, ?_⟩
  unfold nexts
  refine List.mem_append.2 (Or.inl ?_)
  have hk : goesOn ((fnOf P f).code.getD at_.toNat default).kind = true := by
    unfold goesOn
    have h1 := hok.1
    have h2 := hok.2.1
    refine decide_eq_true ⟨h1, ?_, h3⟩
    have h9' : ((fnOf P f).code.getD at_.toNat default).kind ≠ 9 := h9
    have h2' : ((fnOf P f).code.getD at_.toNat default).kind ≤ 9 := h2
    omega
  rw [if_pos ⟨hk, hlt⟩]
  exact List.mem_singleton.2 rfl

theorem reach_next {code : List Ins} {slot at_ n s : Int} (h : Reach code slot (at_, s)) (hn : n ∈ nexts code at_) : Reach code slot (n, behind (code.getD at_.toNat default) slot s) :=
  .step h (List.mem_map.2 ⟨n, hn, rfl⟩)

theorem plainAt_next {P : List Fn} {t : TS} {at_ : Int} (hv : FnOK P (fnOf P t.f)) (h : inR at_ ((fnOf P t.f).code.length : Int)) (h9 : (insOf P t.f at_).kind ≠ 9) (u : TS) :
    inR (plainAt u (insOf P t.f at_) at_) ((fnOf P t.f).code.length : Int) ∧ plainAt u (insOf P t.f at_) at_ ∈ nexts (fnOf P t.f).code at_ := by
  have hok := hv.ins _ (insOf_mem h)
  obtain ⟨k0, k9, o0, o1, o2, o3, o4, o5, o7, o8, o9⟩ := hok
  unfold plainAt
  by_cases h3 : (insOf P t.f at_).kind = 3
  · rw [if_pos h3]
    refine ⟨o3 h3, ?_⟩
    unfold nexts
    refine List.mem_append.2 (Or.inr ?_)
    show (insOf P t.f at_).a ∈ (if (insOf P t.f at_).kind = 3 then [(insOf P t.f at_).a] else if (insOf P t.f at_).kind = 4 then [(insOf P t.f at_).b] else [])
    rw [if_pos h3]
    exact List.mem_singleton.2 rfl
  · rw [if_neg h3]
    have hn := next_in hv h h3 h9
    by_cases h4 : (insOf P t.f at_).kind = 4
    · rw [if_pos h4]
      split
      · refine ⟨(o4 h4).2, ?_⟩
        unfold nexts
        refine List.mem_append.2 (Or.inr ?_)
        show (insOf P t.f at_).b ∈ (if (insOf P t.f at_).kind = 3 then [(insOf P t.f at_).a] else if (insOf P t.f at_).kind = 4 then [(insOf P t.f at_).b] else [])
        rw [if_neg h3, if_pos h4]
        exact List.mem_singleton.2 rfl
      · exact hn
    · rw [if_neg h4]
      exact hn

theorem si_len (l : List Int) (i v : Int) : (si l i v).length = l.length := by simp [si]

theorem plainT_lens (ap : Int → Int → Int → Int) (t : TS) (i : Ins) : (plainT ap t i).regs.length = t.regs.length ∧ (plainT ap t i).slots.length = t.slots.length := by
  unfold plainT
  repeat' split
  all_goals simp [si_len]

theorem At.go {P : List Fn} (hv : Valid P) (ap : Int → Int → Int → Int) {t : TS} {at_ : Int} (h : At P t at_) (h9 : (insOf P t.f at_).kind ≠ 9) (h5 : (insOf P t.f at_).kind ≠ 5) :
    At P (plainT ap (tick t (insOf P t.f at_)) (insOf P t.f at_)) (plainAt (tick t (insOf P t.f at_)) (insOf P t.f at_) at_) := by
  have hf := hv.each _ (fnOf_mem h.f)
  have hk := plainT_keeps ap (tick t (insOf P t.f at_)) (insOf P t.f at_)
  have ef : (plainT ap (tick t (insOf P t.f at_)) (insOf P t.f at_)).f = t.f := hk.1
  have hl := plainT_lens ap (tick t (insOf P t.f at_)) (insOf P t.f at_)
  have hn := plainAt_next hf h.place h9 (tick t (insOf P t.f at_))
  have hc := (plainT_chain ap t (insOf P t.f at_)).2
  obtain ⟨σ, s1, s2⟩ := h.pend
  refine ⟨by rw [ef]; exact h.f, by rw [ef]; exact hn.1, hl.1.trans h.regs, hl.2.trans h.slots, ?_⟩
  rw [ef, hc]
  refine ⟨fun slot => behind (insOf P t.f at_) slot (σ slot), fun slot hs => reach_next (s1 slot hs) hn.2, ?_⟩
  intro hne
  by_cases h6 : (insOf P t.f at_).kind = 6
  · rw [if_pos h6] at hne
    exact absurd rfl hne
  · rw [if_neg h6] at hne
    obtain ⟨slot, q1, q2⟩ := s2 hne
    refine ⟨slot, q1, ?_⟩
    show behind (insOf P t.f at_) slot (σ slot) = 2
    unfold behind
    rw [if_neg (fun e => h5 e.1), if_neg (fun e => h6 e.1)]
    exact q2

theorem At.spawned {P : List Fn} (hv : Valid P) {t : TS} {at_ : Int} (h : At P t at_) (h5 : (insOf P t.f at_).kind = 5) (c k v e : Int) :
    At P { tick t (insOf P t.f at_) with c := c, kids := k, slots := si t.slots (insOf P t.f at_).a v, ends := t.ends ++ [e] } (at_ + 1) := by
  have hf := hv.each _ (fnOf_mem h.f)
  have hn := next_in hf h.place (by omega) (by omega)
  have hok := hf.ins _ (insOf_mem h.place)
  obtain ⟨k0, k9, o0, o1, o2, o3, o4, o5, o7, o8, o9⟩ := hok
  obtain ⟨σ, s1, s2⟩ := h.pend
  refine ⟨h.f, hn.1, h.regs, (si_len _ _ _).trans h.slots, ?_⟩
  refine ⟨fun slot => behind (insOf P t.f at_) slot (σ slot), fun slot hs => reach_next (s1 slot hs) hn.2, fun _ => ⟨(insOf P t.f at_).a, (o5 h5).1, ?_⟩⟩
  show behind (insOf P t.f at_) (insOf P t.f at_).a (σ (insOf P t.f at_).a) = 2
  unfold behind
  rw [if_pos ⟨h5, rfl⟩]

theorem fill_len (l : List Int) (n : Nat) : (fill n l).length = n := by
  unfold fill
  rw [List.length_take, List.length_append, List.length_replicate]
  omega

theorem At.kid {P : List Fn} (hv : Valid P) (pd : Int → Int → Int) {t : TS} {at_ : Int} (h : At P t at_) (h5 : (insOf P t.f at_).kind = 5) :
    At P (kidOf pd P (tick t (insOf P t.f at_)) (insOf P t.f at_)) 0 := by
  have hf := hv.each _ (fnOf_mem h.f)
  have hok := hf.ins _ (insOf_mem h.place)
  obtain ⟨k0, k9, o0, o1, o2, o3, o4, o5, o7, o8, o9⟩ := hok
  have hb := (o5 h5).2.1
  have hf2 := hv.each _ (fnOf_mem hb)
  have hs := hf2.shape
  unfold shapeOK at hs
  refine ⟨hb, ⟨by omega, ?_⟩, fill_len _ _, by simp [kidOf], fun _ => 1, fun slot _ => .start, fun hne => absurd rfl hne⟩
  show (0 : Int) < ((fnOf P (insOf P t.f at_).b).code.length : Int)
  omega

theorem At.root {P : List Fn} (hv : Valid P) (args : List Int) : At P (root args) 0 := by
  have hb : inR 0 (P.length : Int) := ⟨by omega, by have := hv.some; omega⟩
  have hf2 := hv.each _ (fnOf_mem hb)
  have hs := hf2.shape
  unfold shapeOK at hs
  refine ⟨hb, ⟨by omega, ?_⟩, fill_len _ _, by simp [Go.Proofs.YtcioegimmjppcaaDoor.P.root], fun _ => 1, fun slot _ => .start, fun hne => absurd rfl hne⟩
  show (0 : Int) < ((fnOf P 0).code.length : Int)
  omega

/-- at a return nothing is open -/
theorem At.closed {P : List Fn} (hv : Valid P) {t : TS} {at_ : Int} (h : At P t at_) (h9 : (insOf P t.f at_).kind = 9) : t.ends = [] := by
  have hf := hv.each _ (fnOf_mem h.f)
  obtain ⟨σ, s1, s2⟩ := h.pend
  cases he : t.ends with
  | nil => rfl
  | cons a l =>
    obtain ⟨slot, q1, q2⟩ := s2 (by rw [he]; exact List.cons_ne_nil _ _)
    exact absurd q2 ((hf.flow slot q1 _ (s1 slot q1)).2.2 h9)

theorem loop_deep (pd : Int → Int → Int) (ap : Int → Int → Int → Int) {P : List Fn} (hv : Valid P) : ∀ (n : Nat) (rs : RS) (t : TS) (at_ : Int) (self : Nat) (rs' : RS) (v s : Int), loop pd ap P n rs t at_ self = .done rs' v s →
    At P t at_ → 0 ≤ t.c → t.c < s ∧ ∀ B : Int, rs.deepest ≤ max B (t.depth - 1 + maxL t.c t.ends) → rs'.deepest ≤ max B (t.depth - 1 + s) := by
  refine loop_done_ind pd ap P (fun rs t at_ self rs' v s => At P t at_ → 0 ≤ t.c → t.c < s ∧ ∀ B : Int, rs.deepest ≤ max B (t.depth - 1 + maxL t.c t.ends) → rs'.deepest ≤ max B (t.depth - 1 + s)) ?_ ?_ ?_
  · intro rs t at_ self hl hk ha hc
    refine ⟨by omega, fun B hB => ?_⟩
    rw [ha.closed hv hk] at hB
    have e : maxL t.c [] = t.c := rfl
    rw [e] at hB
    simp only [leave]
    omega
  · intro rs t at_ self rs' v s hl hk hk5 h ha hc
    obtain ⟨c1, c2⟩ := plainT_chain ap t (insOf P t.f at_)
    have hm := le_maxL t.ends t.c
    have hcn : t.c + 1 ≤ (plainT ap (tick t (insOf P t.f at_)) (insOf P t.f at_)).c := by rw [c1]; split <;> omega
    obtain ⟨g1, g2⟩ := h (ha.go hv ap hk hk5) (by omega)
    have d1 : (plainT ap (tick t (insOf P t.f at_)) (insOf P t.f at_)).depth = t.depth := (plainT_keeps ap (tick t (insOf P t.f at_)) (insOf P t.f at_)).2.1
    rw [d1] at g2
    refine ⟨by omega, fun B hB => g2 B ?_⟩
    show rs.deepest ≤ _
    have : maxL t.c t.ends ≤ maxL (plainT ap (tick t (insOf P t.f at_)) (insOf P t.f at_)).c (plainT ap (tick t (insOf P t.f at_)) (insOf P t.f at_)).ends := by
      rw [c1, c2]
      split
      · show _ ≤ maxL t.c t.ends + 1
        omega
      · exact maxL_mono _ _ _ (by omega)
    omega
  · intro rs t at_ self rs2 v2 s2 rs' v s hl hk hd h2 h ha hc
    obtain ⟨g1, g2⟩ := h2 (ha.kid hv pd hk) (by show (0 : Int) ≤ 0; omega)
    obtain ⟨b1, b2⟩ := h (ha.spawned hv hk _ _ _ _) (by show (0 : Int) ≤ t.c + 1; omega)
    have g1' : (0 : Int) < s2 := g1
    have b1' : t.c + 1 < s := b1
    refine ⟨by omega, fun B hB => b2 B ?_⟩
    have d1 : (kidOf pd P (tick t (insOf P t.f at_)) (insOf P t.f at_)).depth = t.depth + 1 := rfl
    have d2 : maxL (kidOf pd P (tick t (insOf P t.f at_)) (insOf P t.f at_)).c (kidOf pd P (tick t (insOf P t.f at_)) (insOf P t.f at_)).ends = 0 := rfl
    have g3 := g2 (max rs.deepest (t.depth + 1)) (by
      show max rs.deepest (t.depth + 1) ≤ _
      omega)
    rw [d1] at g3
    show rs2.deepest ≤ max B (t.depth - 1 + maxL (t.c + 1) (t.ends ++ [t.c + 1 + s2]))
    rw [maxL_app]
    have hm : maxL t.c t.ends ≤ maxL (t.c + 1) t.ends := maxL_mono _ _ _ (by omega)
    omega

theorem whole_deep (pd : Int → Int → Int) (ap : Int → Int → Int → Int) {P : List Fn} (hv : Valid P) (args : List Int) (fuel : Nat) (rs : RS) (v s : Int) (h : whole pd ap P args fuel = .done rs v s) : rs.deepest ≤ s := by
  unfold whole at h
  obtain ⟨h1, h2⟩ := loop_deep pd ap hv _ _ _ _ _ _ _ _ h (At.root hv args) (by show (0 : Int) ≤ 0; omega)
  have h1' : (0 : Int) < s := h1
  have := h2 1 (by show max (0 : Int) 1 ≤ _; omega)
  have e : (root args).depth = 1 := rfl
  rw [e] at this
  omega

end Go.Proofs.YtcioegimmjppcaaDoor.P
/-! Plain law of the check of programs, part B: that a program may be is decided by the search. -/
namespace Go.Proofs.YtcioegimmjppcaaDoor.P

instance (n b : Int) : Decidable (inR n b) := by unfold inR; infer_instance
instance (P : List Fn) (f : Fn) (i : Ins) : Decidable (insOK P f i) := by unfold insOK; infer_instance
instance (f : Fn) : Decidable (shapeOK f) := by unfold shapeOK; infer_instance
instance (f : Fn) : Decidable (lastOK f) := by unfold lastOK; infer_instance
instance (c : Ins) (slot s : Int) : Decidable (flowAt c slot s) := by unfold flowAt; infer_instance

def flowB (f : Fn) : Bool := (List.range f.slots.toNat).all fun (s : Nat) => (srch f.code (s : Int) (3 * f.code.length) [(0, 1)] [(0, 1)]).all fun x => decide (flowAt (f.code.getD x.1.toNat default) (s : Int) x.2)

def fnB (P : List Fn) (f : Fn) : Bool := decide (shapeOK f) && (f.code.all (fun i => decide (insOK P f i)) && (decide (lastOK f) && flowB f))

def validB (P : List Fn) : Bool := decide (1 ≤ P.length ∧ P.length ≤ 32) && P.all (fnB P)

theorem placed_of {P : List Fn} {f : Fn} (hs : shapeOK f) (hi : ∀ i ∈ f.code, insOK P f i) : placed f.code := by
  refine ⟨by unfold shapeOK at hs; omega, fun i h => ?_⟩
  obtain ⟨k0, k9, o0, o1, o2, o3, o4, o5, o7, o8, o9⟩ := hi i h
  exact ⟨fun e => o3 e, fun e => (o4 e).2⟩

theorem flowB_iff {f : Fn} (hp : placed f.code) : flowB f = true ↔ flowOK f := by
  unfold flowB flowOK
  rw [List.all_eq_true]
  constructor
  · intro h slot hs x hx
    have h1 := h slot.toNat (List.mem_range.2 (by have := hs.1; have := hs.2; omega))
    have e : ((slot.toNat : Nat) : Int) = slot := by have := hs.1; omega
    rw [e, List.all_eq_true] at h1
    exact of_decide_eq_true (h1 x ((srch_reach hp slot (Nat.le_refl _) x).2 hx))
  · intro h s hs
    rw [List.all_eq_true]
    intro x hx
    have hlt := List.mem_range.1 hs
    exact decide_eq_true (h (s : Int) ⟨by omega, by omega⟩ x ((srch_reach hp (s : Int) (Nat.le_refl _) x).1 hx))

theorem fnB_iff (P : List Fn) (f : Fn) : fnB P f = true ↔ FnOK P f := by
  unfold fnB
  rw [Bool.and_eq_true, Bool.and_eq_true, Bool.and_eq_true, List.all_eq_true]
  constructor
  · rintro ⟨h1, h2, h3, h4⟩
    have h1' := of_decide_eq_true h1
    have h2' : ∀ i ∈ f.code, insOK P f i := fun i hi => of_decide_eq_true (h2 i hi)
    exact ⟨h1', h2', of_decide_eq_true h3, (flowB_iff (placed_of h1' h2')).1 h4⟩
  · intro h
    exact ⟨decide_eq_true h.shape, fun i hi => decide_eq_true (h.ins i hi), decide_eq_true h.last, (flowB_iff (placed_of h.shape h.ins)).2 h.flow⟩

theorem validB_iff (P : List Fn) : validB P = true ↔ Valid P := by
  unfold validB
  rw [Bool.and_eq_true, List.all_eq_true]
  constructor
  · rintro ⟨h1, h2⟩
    have h1' := of_decide_eq_true h1
    exact ⟨h1'.1, h1'.2, fun f hf => (fnB_iff P f).1 (h2 f hf)⟩
  · intro h
    exact ⟨decide_eq_true ⟨h.some, h.few⟩, fun f hf => (fnB_iff P f).2 (h.each f hf)⟩

/-- what a serial run answers: value, work, tasks, depth, span, error -/
def evalOf (pd : Int → Int → Int) (ap : Int → Int → Int → Int) (P : List Fn) (args : List Int) (fuel : Int) : Int × Int × Int × Int × Int × Int :=
  if validB P = false then (0, 0, 0, 0, 0, 60)
  else if (args.length : Int) ≠ (fnOf P 0).params then (0, 0, 0, 0, 0, 61)
  else if fuel < 0 ∨ fuel > 4194304 then (0, 0, 0, 0, 0, 3)
  else match whole pd ap P args fuel.toNat with
    | .stop w => (0, 0, 0, 0, 0, w)
    | .done rs v s => (v, fuel - (rs.left : Int), rs.tasks, rs.deepest, s, 0)

/-- the nodes of a serial run, and its error -/
def treeOf (pd : Int → Int → Int) (ap : Int → Int → Int → Int) (P : List Fn) (args : List Int) (fuel : Int) : List Nd × Int :=
  if validB P = false then ([], 60)
  else if (args.length : Int) ≠ (fnOf P 0).params then ([], 61)
  else if fuel < 0 ∨ fuel > 4194304 then ([], 3)
  else match whole pd ap P args fuel.toNat with
    | .stop w => ([], w)
    | .done rs v s => (rs.nodes, 0)

/-- the program of one constant comes to it -/
theorem lives_valid (c : Int) : validB [⟨0, 1, 0, [⟨0, 0, 0, 0, c⟩, ⟨9, 0, 0, 0, 0⟩]⟩] = true := by
  rfl

end Go.Proofs.YtcioegimmjppcaaDoor.P
