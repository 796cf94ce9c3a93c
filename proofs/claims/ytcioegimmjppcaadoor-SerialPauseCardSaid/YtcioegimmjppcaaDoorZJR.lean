/- SerialPause: the plain side of its walk. -/
import Derived.IntWalk
import Derived.Test.YtcioegimmjppcaaDoorZJK
import Derived.Test.YtcioegimmjppcaaDoorZJL
import Derived.Test.YtcioegimmjppcaaDoorZJX
import Derived.Test.YtcioegimmjppcaaDoorZPx5
set_option linter.unusedVariables false
set_option linter.unusedSimpArgs false
/-! Plain law, part L: the program of one constant; the answers of a run. -/
namespace Go.Proofs.YtcioegimmjppcaaDoor.P
open Go.RowKit Go.Proofs.YtcioegimmjppcaaDoorW.PrintWords Go.Proofs.YtcioegimmjppcaaDoorW.PrintLast Go.Proofs.YtcioegimmjppcaaDoorW.PrintMore
set_option linter.unusedVariables false

theorem eval_one (c : Int) (k : Nat) : serial_Eval.f k [(⟨0, 1, 0, [(⟨0, 0, 0, 0, c⟩ : S36), (⟨9, 0, 0, 0, 0⟩ : S36)]⟩ : S39)] [] 2 = some (c, 2, 1, 1, 2, 0) := rfl
theorem tree_one (c : Int) (k : Nat) : serial_Tree.f k [(⟨0, 1, 0, [(⟨0, 0, 0, 0, c⟩ : S36), (⟨9, 0, 0, 0, 0⟩ : S36)]⟩ : S39)] [] 2 = some ([(⟨-1, 0, 0, 2, 1, 0, c⟩ : S49)], 0) := rfl

theorem lives_true (c : Int) (k : Nat) : plunderlaw6_lives.f k c = some true := by
  unfold plunderlaw6_lives.f
  rw [Option.bind_some, eval_one, Option.bind_some, tree_one, Option.bind_some]
  simp [rd_T49]

/-- the answer of a run: either an error and nothing, or a run that ended -/
theorem evalOf_cases (pd : Int → Int → Int) (ap : Int → Int → Int → Int) (P : List Fn) (args : List Int) (fuel : Int) :
    (∃ e, e ≠ 0 ∧ evalOf pd ap P args fuel = (0, 0, 0, 0, 0, e)) ∨
    (Valid P ∧ 0 ≤ fuel ∧ fuel ≤ 4194304 ∧ ∃ rs v s, whole pd ap P args fuel.toNat = .done rs v s ∧ evalOf pd ap P args fuel = (v, fuel - (rs.left : Int), rs.tasks, rs.deepest, s, 0)) := by
  unfold evalOf
  by_cases h1 : validB P = false
  · rw [if_pos h1]; exact Or.inl ⟨60, by decide, rfl⟩
  rw [if_neg h1]
  by_cases h2 : (args.length : Int) ≠ (fnOf P 0).params
  · rw [if_pos h2]; exact Or.inl ⟨61, by decide, rfl⟩
  rw [if_neg h2]
  by_cases h3 : fuel < 0 ∨ fuel > 4194304
  · rw [if_pos h3]; exact Or.inl ⟨3, by decide, rfl⟩
  rw [if_neg h3]
  cases hw : whole pd ap P args fuel.toNat with
  | stop w =>
    refine Or.inl ⟨w, ?_, rfl⟩
    unfold whole at hw
    rcases loop_stop pd ap P _ _ _ _ _ _ hw with h | h <;> rw [h] <;> decide
  | done rs v s =>
    refine Or.inr ⟨(validB_iff P).1 (by cases hb : validB P with
      | true => rfl
      | false => exact absurd hb h1), by omega, by omega, rs, v, s, rfl, rfl⟩

end Go.Proofs.YtcioegimmjppcaaDoor.P
/-! What the laws over a whole run share: SerialShape, SerialPart. -/
namespace Go.Proofs.YtcioegimmjppcaaDoor.P
open Go.RowKit Go.Proofs.YtcioegimmjppcaaDoorW.PrintWords Go.Proofs.YtcioegimmjppcaaDoorW.PrintLast Go.Proofs.YtcioegimmjppcaaDoorW.PrintMore
set_option linter.unusedVariables false

theorem whole_tree (pd : Int → Int → Int) (ap : Int → Int → Int → Int) {P : List Fn} (hv : Valid P) (args : List Int) (fuel : Nat) (rs : RS) (v s : Int) (h : whole pd ap P args fuel = .done rs v s) :
    (∃ d, Shp pd P (cores rs.nodes) d ∧ rs.deepest = d.foldl max 0) ∧ sumW rs.nodes = (fuel : Int) - rs.left ∧ (∃ n0, rs.nodes[0]? = some n0 ∧ n0.v = v) ∧ (∀ x ∈ rs.nodes, 1 ≤ x.work) ∧ (rs.nodes.length : Int) = rs.tasks := by
  unfold whole at h
  have ha := At.root hv args
  obtain ⟨n0, hn0, hc0, hw0⟩ : ∃ n0, (enter P ⟨fuel, 0, 0, []⟩ (root args) (-1) 0).nodes = [n0] ∧ core n0 = ⟨-1, 0, 0, 1⟩ ∧ n0.work = 0 := ⟨_, rfl, rfl, rfl⟩
  have hin : InT pd P (enter P ⟨fuel, 0, 0, []⟩ (root args) (-1) 0) (root args) 0 [1] := by
    have e : cores [n0] = [⟨-1, 0, 0, 1⟩] := by show [core n0] = _; rw [hc0]
    refine ⟨by rw [hn0, e]; exact .root, ⟨⟨-1, 0, 0, 1⟩, by rw [hn0, e]; rfl, rfl, rfl⟩, rfl, by rw [hn0]; exact .refl _, ?_⟩
    rw [hn0, e, kidsAt_one, if_neg (by decide)]
    rfl
  obtain ⟨m, e, a1, a2, a3, a4, a5⟩ := loop_tree pd ap hv _ _ _ _ _ _ _ _ h ha _ hin
  have ht0 : (root args).work = 0 := rfl
  obtain ⟨b1, ⟨n1, b2, b3, b4⟩, b5, b6, b7⟩ := loop_works pd ap P _ _ _ _ _ _ _ _ h (by omega) n0 (by rw [hn0]; rfl) hw0
  have hl := loop_len pd ap P _ _ _ _ _ _ _ _ h
  refine ⟨⟨[1] ++ e, a1, ?_⟩, ?_, ⟨n1, b2, b3⟩, fun x hx => ?_, ?_⟩
  · rw [a5, List.foldl_append]
    rfl
  · rw [b1, hn0, ht0]
    have : sumW [n0] = n0.work + 0 := rfl
    have hle : (enter P ⟨fuel, 0, 0, []⟩ (root args) (-1) 0).left = fuel := rfl
    rw [hle]
    omega
  · obtain ⟨j, hj, rfl⟩ := List.getElem_of_mem hx
    by_cases h0 : j = 0
    · subst h0
      have : rs.nodes[0] = n1 := by
        have := List.getElem?_eq_getElem hj
        rw [b2] at this
        injection this with this
        exact this.symm
      rw [this]
      exact b4
    · refine b6 j _ ?_ (List.getElem?_eq_getElem hj)
      rw [hn0]
      simp
      omega
  · have h1 : (enter P ⟨fuel, 0, 0, []⟩ (root args) (-1) 0).tasks = 1 := rfl
    rw [hn0, h1] at hl
    simp at hl
    omega
theorem rd49_map (l : List Nd) (j : Nat) (x : Nd) (h : l[j]? = some x) : rd_T49 (l.map ndS) (j : Int) = ndS x := by
  unfold rd_T49
  rw [Int.toNat_natCast, List.getD_eq_getElem?_getD, List.getElem?_map, h]
  rfl
theorem wrap_nat1 (i : Nat) (h : i ≤ 4194304) : wrap64 ((i : Int) + 1) = ((i + 1 : Nat) : Int) := by
  rw [Go.IntWalk.wrap64_in _ (by omega)]
  omega
theorem wrap_int1 (z : Int) (h1 : 0 ≤ z) (h2 : z ≤ 4194304) : wrap64 (z + 1) = z + 1 := Go.IntWalk.wrap64_in _ (by omega)
theorem both_cases (pd : Int → Int → Int) (ap : Int → Int → Int → Int) (P : List Fn) (args : List Int) (fuel : Int) :
    (∃ e, e ≠ 0 ∧ evalOf pd ap P args fuel = (0, 0, 0, 0, 0, e) ∧ treeOf pd ap P args fuel = ([], e)) ∨
    (Valid P ∧ 0 ≤ fuel ∧ fuel ≤ 4194304 ∧ (args.length : Int) = (fnOf P 0).params ∧ ∃ rs v s, whole pd ap P args fuel.toNat = .done rs v s ∧ evalOf pd ap P args fuel = (v, fuel - (rs.left : Int), rs.tasks, rs.deepest, s, 0) ∧ treeOf pd ap P args fuel = (rs.nodes, 0)) := by
  unfold evalOf treeOf
  by_cases h1 : validB P = false
  · rw [if_pos h1, if_pos h1]; exact Or.inl ⟨60, by decide, rfl, rfl⟩
  rw [if_neg h1, if_neg h1]
  by_cases h2 : (args.length : Int) ≠ (fnOf P 0).params
  · rw [if_pos h2, if_pos h2]; exact Or.inl ⟨61, by decide, rfl, rfl⟩
  rw [if_neg h2, if_neg h2]
  by_cases h3 : fuel < 0 ∨ fuel > 4194304
  · rw [if_pos h3, if_pos h3]; exact Or.inl ⟨3, by decide, rfl, rfl⟩
  rw [if_neg h3, if_neg h3]
  cases hw : whole pd ap P args fuel.toNat with
  | stop w =>
    refine Or.inl ⟨w, ?_, rfl, rfl⟩
    unfold whole at hw
    rcases loop_stop pd ap P _ _ _ _ _ _ hw with h | h <;> rw [h] <;> decide
  | done rs v s =>
    refine Or.inr ⟨(validB_iff P).1 (by cases hb : validB P with
      | true => rfl
      | false => exact absurd hb h1), by omega, by omega, ?_, rs, v, s, rfl, rfl, rfl⟩
    by_cases h4 : (args.length : Int) = (fnOf P 0).params
    · exact h4
    · exact absurd h4 h2

theorem sumW_take (l : List Nd) (i : Nat) (x : Nd) (h : l[i]? = some x) : sumW (l.take (i + 1)) = sumW (l.take i) + x.work := by
  rw [List.take_add_one, h, sumW_app]
  have : sumW (some x).toList = x.work + 0 := rfl
  omega
theorem sumW_pos (l : List Nd) (h : ∀ x ∈ l, 1 ≤ x.work) : 0 ≤ sumW l := by
  induction l with
  | nil => simp [sumW]
  | cons a l ih =>
    have e2 : sumW (a :: l) = a.work + sumW l := rfl
    have := h a List.mem_cons_self
    have := ih (fun x hx => h x (List.mem_cons_of_mem _ hx))
    omega
theorem mx_max (a b : Int) : mx a b = max a b := by
  unfold mx
  split <;> omega
theorem wrap_sum (a b : Int) (h0 : 0 ≤ a) (h1 : 0 ≤ b) (h2 : a + b ≤ 4194304) : wrap64 (a + b) = a + b := Go.IntWalk.wrap64_in _ (by omega)

end Go.Proofs.YtcioegimmjppcaaDoor.P
/-! Plain law of serial runs, part R: a sync more at every function's beginning. -/
namespace Go.Proofs.YtcioegimmjppcaaDoor.P
set_option linter.unusedVariables false

def shI (i : Ins) : Ins := if i.kind = 3 then { i with a := i.a + 1 } else if i.kind = 4 then { i with b := i.b + 1 } else i
def psF (f : Fn) : Fn := { f with code := (⟨6, 0, 0, 0, 0⟩ : Ins) :: f.code.map shI }

theorem shI_kind (i : Ins) : (shI i).kind = i.kind ∧ (i.kind ≠ 3 → i.kind ≠ 4 → shI i = i) ∧ (i.kind = 3 → (shI i).a = i.a + 1) ∧ (i.kind = 4 → (shI i).a = i.a ∧ (shI i).b = i.b + 1) := by
  unfold shI
  by_cases h3 : i.kind = 3
  · rw [if_pos h3]
    exact ⟨rfl, fun h => absurd h3 h, fun _ => rfl, fun h => by omega⟩
  · rw [if_neg h3]
    by_cases h4 : i.kind = 4
    · rw [if_pos h4]
      exact ⟨rfl, fun _ h => absurd h4 h, fun h => absurd h h3, fun _ => ⟨rfl, rfl⟩⟩
    · rw [if_neg h4]
      exact ⟨rfl, fun _ _ => rfl, fun h => absurd h h3, fun h => absurd h h4⟩

/-- P2 is P, each function with a sync ahead -/
structure Paus (P P2 : List Fn) : Prop where
  len : P2.length = P.length
  at_ : ∀ x, inR x (P.length : Int) → fnOf P2 x = psF (fnOf P x)

theorem ps_first {P P2 : List Fn} (h : Paus P P2) {f : Int} (hf : inR f (P.length : Int)) : insOf P2 f 0 = ⟨6, 0, 0, 0, 0⟩ := by
  unfold insOf
  rw [h.at_ f hf]
  rfl
theorem ps_ins {P P2 : List Fn} (h : Paus P P2) {f at_ : Int} (hf : inR f (P.length : Int)) (ha : inR at_ ((fnOf P f).code.length : Int)) : insOf P2 f (at_ + 1) = shI (insOf P f at_) := by
  unfold insOf
  rw [h.at_ f hf]
  have h0 := ha.1
  have hlt : at_.toNat < (fnOf P f).code.length := by have := ha.2; omega
  have e : (at_ + 1).toNat = at_.toNat + 1 := by omega
  show ((⟨6, 0, 0, 0, 0⟩ : Ins) :: (fnOf P f).code.map shI).getD (at_ + 1).toNat default = _
  rw [e, List.getD_eq_getElem?_getD, List.getD_eq_getElem?_getD, List.getElem?_cons_succ, List.getElem?_map, List.getElem?_eq_getElem hlt]
  rfl

/-- the same place behind the sync -/
structure Paused (t u : TS) : Prop where
  f : u.f = t.f
  depth : u.depth = t.depth
  ped : u.ped = t.ped
  regs : u.regs = t.regs
  slots : u.slots = t.slots
  kids : u.kids = t.kids
  c : t.c + 1 ≤ u.c
  m : maxL t.c t.ends + 1 ≤ maxL u.c u.ends

theorem maxL_plus (l : List Int) : ∀ c : Int, maxL (c + 1) l = max (c + 1) (maxL c l) := by
  induction l with
  | nil => intro c; show c + 1 = max (c + 1) c; omega
  | cons a l ih =>
    intro c
    have h1 : maxL (c + 1) (a :: l) = maxL (max (c + 1) a) l := rfl
    have h2 : maxL c (a :: l) = maxL (max c a) l := rfl
    rw [h1, h2]
    by_cases h : a ≤ c
    · rw [show max (c + 1) a = c + 1 by omega, show max c a = c by omega]
      exact ih c
    · rw [show max (c + 1) a = a by omega, show max c a = a by omega]
      have := le_maxL l a
      omega

theorem Paused.plain {t u : TS} (h : Paused t u) (ap : Int → Int → Int → Int) (i : Ins) (h9 : i.kind ≠ 9) (h5 : i.kind ≠ 5) : Paused (plainT ap (tick t i) i) (plainT ap (tick u (shI i)) (shI i)) ∧ ∀ at_, plainAt (tick u (shI i)) (shI i) (at_ + 1) = plainAt (tick t i) i at_ + 1 := by
  obtain ⟨h1, h2, h3, h4, h5', h6, h7, h8⟩ := h
  obtain ⟨s1, s2, s3, s4⟩ := shI_kind i
  have e2 : (tick u (shI i)).regs = (tick t i).regs := h4
  have e1 : (tick u (shI i)).slots = (tick t i).slots := h5'
  have e3 : (tick u (shI i)).ped = (tick t i).ped := h3
  refine ⟨?_, fun at_ => ?_⟩
  · have k1 := plainT_keeps ap (tick t i) i
    have k2 := plainT_keeps ap (tick u (shI i)) (shI i)
    have c1 := plainT_chain ap t i
    have c2 := plainT_chain ap u (shI i)
    refine ⟨by rw [k2.1, k1.1]; exact h1, by rw [k2.2.1, k1.2.1]; exact h2, by rw [k2.2.2.1, k1.2.2.1]; exact h3, ?_, ?_, by rw [k2.2.2.2.1, k1.2.2.2.1]; exact h6, ?_, ?_⟩
    · by_cases q3 : i.kind = 3
      · unfold plainT
        rw [s1, q3]
        exact e2
      · by_cases q4 : i.kind = 4
        · unfold plainT
          rw [s1, q4]
          exact e2
        · rw [s2 q3 q4] at e1 e2 e3 ⊢
          unfold plainT
          repeat' split
          all_goals simp only [e1, e2, e3]
    · unfold plainT
      repeat' split
      all_goals exact e1
    · rw [c1.1, c2.1, s1]
      split <;> omega
    · rw [c1.1, c2.1, c1.2, c2.2, s1]
      by_cases q6 : i.kind = 6
      · simp only [if_pos q6]
        show maxL t.c t.ends + 1 + 1 ≤ maxL u.c u.ends + 1
        omega
      · simp only [if_neg q6]
        rw [maxL_plus, maxL_plus]
        omega
  · unfold plainAt
    rw [s1]
    by_cases q3 : i.kind = 3
    · rw [if_pos q3, if_pos q3, s3 q3]
    · rw [if_neg q3, if_neg q3]
      by_cases q4 : i.kind = 4
      · rw [if_pos q4, if_pos q4, (s4 q4).1, (s4 q4).2, e2]
        split <;> rfl
      · rw [if_neg q4, if_neg q4]

theorem as1 {a b d x : Nat} {y : Int} (h : (a : Int) - d + y ≤ b) (hy : 0 ≤ y) (hd : d < a) : b ≠ 0 := by omega

theorem loop_pause (pd : Int → Int → Int) (ap : Int → Int → Int → Int) {P P2 : List Fn} (hv : Valid P) (hs : Paus P P2) : ∀ (n : Nat) (rs : RS) (t : TS) (at_ : Int) (self : Nat) (rs1 : RS) (v s : Int), loop pd ap P n rs t at_ self = .done rs1 v s →
    At P t at_ → rs.tasks ≤ rs1.tasks ∧ ∀ (rs2 : RS) (u : TS) (self2 n2 : Nat), Paused t u → (rs.left : Int) - rs1.left + (rs1.tasks - rs.tasks) ≤ rs2.left → rs2.left < n2 → rs2.deepest = rs.deepest →
      ∃ rs3 s3, loop pd ap P2 n2 rs2 u (at_ + 1) self2 = .done rs3 v s3 ∧ s + 1 ≤ s3 ∧ (rs2.left : Int) - rs3.left = (rs.left : Int) - rs1.left + (rs1.tasks - rs.tasks) ∧ rs3.tasks - rs2.tasks = rs1.tasks - rs.tasks ∧ rs3.deepest = rs1.deepest := by
  refine loop_done_ind2 pd ap P (fun rs t at_ self rs1 v s => At P t at_ → rs.tasks ≤ rs1.tasks ∧ ∀ (rs2 : RS) (u : TS) (self2 n2 : Nat), Paused t u → (rs.left : Int) - rs1.left + (rs1.tasks - rs.tasks) ≤ rs2.left → rs2.left < n2 → rs2.deepest = rs.deepest →
      ∃ rs3 s3, loop pd ap P2 n2 rs2 u (at_ + 1) self2 = .done rs3 v s3 ∧ s + 1 ≤ s3 ∧ (rs2.left : Int) - rs3.left = (rs.left : Int) - rs1.left + (rs1.tasks - rs.tasks) ∧ rs3.tasks - rs2.tasks = rs1.tasks - rs.tasks ∧ rs3.deepest = rs1.deepest) ?_ ?_ ?_
  · intro rs t at_ self hl hk ha
    refine ⟨Int.le_refl _, fun rs2 u self2 n2 hal hle hn hde => ?_⟩
    have hleft : (leave { rs with left := rs.left - 1 } self (gi t.regs (insOf P t.f at_).a) (t.work + 1)).left = rs.left - 1 := rfl
    have htasks : (leave { rs with left := rs.left - 1 } self (gi t.regs (insOf P t.f at_).a) (t.work + 1)).tasks = rs.tasks := rfl
    have hdeep : (leave { rs with left := rs.left - 1 } self (gi t.regs (insOf P t.f at_).a) (t.work + 1)).deepest = rs.deepest := rfl
    rw [hleft, htasks] at hle ⊢
    rw [hdeep]
    obtain ⟨n2, rfl⟩ : ∃ m, n2 = m + 1 := ⟨n2 - 1, by omega⟩
    have hi : insOf P2 u.f (at_ + 1) = shI (insOf P t.f at_) := by rw [hal.f]; exact ps_ins hs ha.f ha.place
    obtain ⟨s1, s2, s3, s4⟩ := shI_kind (insOf P t.f at_)
    rw [s2 (by omega) (by omega)] at hi
    rw [loop_ret pd ap P2 n2 rs2 u (at_ + 1) self2 (by omega) _ hi hk, hal.regs]
    exact ⟨_, _, rfl, by have := hal.c; omega, by simp only [leave]; omega, by simp only [leave]; omega, by simp only [leave]; exact hde⟩
  · intro n rs t at_ self rs' v s hl hk hk5 he h ha
    obtain ⟨ht, h⟩ := h (ha.go hv ap hk hk5)
    refine ⟨ht, fun rs2 u self2 n2 hal hle hn hde => ?_⟩
    have hlt := loop_left pd ap P _ _ _ _ _ _ _ _ he
    simp only at hlt ht
    obtain ⟨n2, rfl⟩ : ∃ m, n2 = m + 1 := ⟨n2 - 1, by omega⟩
    have hi : insOf P2 u.f (at_ + 1) = shI (insOf P t.f at_) := by rw [hal.f]; exact ps_ins hs ha.f ha.place
    obtain ⟨s1, s2, s3, s4⟩ := shI_kind (insOf P t.f at_)
    obtain ⟨p1, p2⟩ := hal.plain ap (insOf P t.f at_) hk hk5
    rw [loop_go pd ap P2 n2 rs2 u (at_ + 1) self2 (by omega) _ hi (by rw [s1]; exact hk) (by rw [s1]; exact hk5), p2 at_]
    obtain ⟨rs3, s3', e1, e2, e3, e4, e5⟩ := h { rs2 with left := rs2.left - 1 } _ self2 n2 p1 (by simp only; omega) (by simp only; omega) hde
    refine ⟨rs3, s3', e1, e2, ?_, e4, e5⟩
    simp only at e3
    omega
  · intro n rs t at_ self rs2a v2 s2 rs' v s hl hk hd he2 he h2 h ha
    obtain ⟨ht2, h2⟩ := h2 (ha.kid hv pd hk)
    obtain ⟨ht1, h⟩ := h (ha.spawned hv hk _ _ _ _)
    have ht2' : rs.tasks + 1 ≤ rs2a.tasks := ht2
    refine ⟨by omega, fun rs2 u self2 n2 hal hle hn hde => ?_⟩
    have hlt1 : rs2a.left < rs.left - 1 := loop_left pd ap P _ _ _ _ _ _ _ _ he2
    have hlt2 := loop_left pd ap P _ _ _ _ _ _ _ _ he
    obtain ⟨n2, rfl⟩ : ∃ m, n2 = m + 2 := ⟨n2 - 2, by omega⟩
    have hi : insOf P2 u.f (at_ + 1) = shI (insOf P t.f at_) := by rw [hal.f]; exact ps_ins hs ha.f ha.place
    obtain ⟨s1, q2, q3, q4⟩ := shI_kind (insOf P t.f at_)
    rw [q2 (by omega) (by omega)] at hi
    have hb : inR (insOf P t.f at_).b (P.length : Int) := by
      obtain ⟨o0, o9, _, _, _, _, _, o5, _⟩ := (hv.each _ (fnOf_mem ha.f)).ins _ (insOf_mem ha.place)
      exact (o5 hk).2.1
    have hpar : (fnOf P2 (insOf P t.f at_).b).params = (fnOf P (insOf P t.f at_).b).params := by rw [hs.at_ _ hb]; rfl
    have hke : kidOf pd P2 (tick u (insOf P t.f at_)) (insOf P t.f at_) = kidOf pd P (tick t (insOf P t.f at_)) (insOf P t.f at_) := by
      have r1 : (tick u (insOf P t.f at_)).regs = (tick t (insOf P t.f at_)).regs := hal.regs
      have r2 : (tick u (insOf P t.f at_)).depth = (tick t (insOf P t.f at_)).depth := hal.depth
      have r3 : (tick u (insOf P t.f at_)).ped = (tick t (insOf P t.f at_)).ped := hal.ped
      have r4 : (tick u (insOf P t.f at_)).kids = (tick t (insOf P t.f at_)).kids := hal.kids
      unfold kidOf
      rw [hpar, r1, r2, r3, r4]
    have hkf : (kidOf pd P (tick t (insOf P t.f at_)) (insOf P t.f at_)).f = (insOf P t.f at_).b := rfl
    have hkc : (kidOf pd P (tick t (insOf P t.f at_)) (insOf P t.f at_)).c = 0 := rfl
    have hkn : (kidOf pd P (tick t (insOf P t.f at_)) (insOf P t.f at_)).ends = [] := rfl
    generalize hK : kidOf pd P (tick t (insOf P t.f at_)) (insOf P t.f at_) = kid at he2 h2 hke hkf hkc hkn
    -- the child's own sync
    have hpk : Paused kid (plainT ap (tick kid ⟨6, 0, 0, 0, 0⟩) ⟨6, 0, 0, 0, 0⟩) := by
      have k2 := plainT_keeps ap (tick kid ⟨6, 0, 0, 0, 0⟩) ⟨6, 0, 0, 0, 0⟩
      have c2 := plainT_chain ap kid ⟨6, 0, 0, 0, 0⟩
      refine ⟨k2.1, k2.2.1, k2.2.2.1, rfl, rfl, k2.2.2.2.1, ?_, ?_⟩
      · rw [c2.1, hkc, hkn]
        decide
      · rw [c2.1, c2.2, hkc, hkn]
        decide
    have g1 : ∀ x y : Int, (enter P2 { rs2 with left := rs2.left - 1 } kid x y).left = rs2.left - 1 := fun _ _ => rfl
    have g2 : ∀ x y : Int, (enter P2 { rs2 with left := rs2.left - 1 } kid x y).tasks = rs2.tasks + 1 := fun _ _ => rfl
    have g3 : ∀ x y : Int, (enter P2 { rs2 with left := rs2.left - 1 } kid x y).deepest = max rs2.deepest kid.depth := fun _ _ => rfl
    have f1 : ∀ x y : Int, (enter P { rs with left := rs.left - 1 } kid x y).left = rs.left - 1 := fun _ _ => rfl
    have f2 : ∀ x y : Int, (enter P { rs with left := rs.left - 1 } kid x y).tasks = rs.tasks + 1 := fun _ _ => rfl
    have f3 : ∀ x y : Int, (enter P { rs with left := rs.left - 1 } kid x y).deepest = max rs.deepest kid.depth := fun _ _ => rfl
    rw [f1, f2, f3] at h2
    have hi0 : insOf P2 kid.f 0 = ⟨6, 0, 0, 0, 0⟩ := by rw [hkf]; exact ps_first hs hb
    obtain ⟨E, hE⟩ : ∃ E, enter P2 { rs2 with left := rs2.left - 1 } kid self2 u.kids = E := ⟨_, rfl⟩
    have g1' : E.left = rs2.left - 1 := by rw [← hE]; rfl
    have g2' : E.tasks = rs2.tasks + 1 := by rw [← hE]; rfl
    have g3' : E.deepest = max rs2.deepest kid.depth := by rw [← hE]; rfl
    obtain ⟨rs3, s3, e1, e2, e3, e4, e5⟩ := h2 { E with left := E.left - 1 } _ rs2.nodes.length n2 hpk (by simp only; omega) (by simp only; omega) (by simp only; rw [g3', hde])
    have hkrun : loop pd ap P2 (n2 + 1) E kid 0 rs2.nodes.length = .done rs3 v2 s3 := by
      rw [loop_go pd ap P2 n2 E kid 0 _ (by omega) ⟨6, 0, 0, 0, 0⟩ hi0 (by decide) (by decide)]
      exact e1
    have hud : u.depth ≠ 4096 := by rw [hal.depth]; exact hd
    have hsp := loop_spawn_done pd ap P2 (n2 + 1) rs2 u (at_ + 1) self2 (by omega) _ hi hk hud rs3 v2 s3 (by rw [hke, hE]; exact hkrun)
    rw [hsp]
    simp only at e3 e4
    have hcu : (tick u (insOf P t.f at_)).c = u.c + 1 := by
      simp only [tick]
      rw [if_neg (by omega)]
    have hp2 : Paused { tick t (insOf P t.f at_) with c := t.c + 1, kids := t.kids + 1, slots := si t.slots (insOf P t.f at_).a v2, ends := t.ends ++ [t.c + 1 + s2] } { tick u (insOf P t.f at_) with kids := u.kids + 1, slots := si u.slots (insOf P t.f at_).a v2, ends := u.ends ++ [(tick u (insOf P t.f at_)).c + s3] } := by
      obtain ⟨a1, a2, a3, a4, a5, a6, a7, a8⟩ := hal
      refine ⟨a1, a2, a3, a4, by rw [a5], by rw [a6], ?_, ?_⟩
      · show t.c + 1 + 1 ≤ (tick u (insOf P t.f at_)).c
        omega
      · show maxL (t.c + 1) (t.ends ++ [t.c + 1 + s2]) + 1 ≤ maxL (tick u (insOf P t.f at_)).c (u.ends ++ [(tick u (insOf P t.f at_)).c + s3])
        rw [hcu, maxL_app, maxL_app, maxL_plus, maxL_plus]
        omega
    obtain ⟨rs4, s4, i1, i2, i3, i4, i5⟩ := h rs3 _ self2 (n2 + 1) hp2 (by omega) (by omega) e5
    exact ⟨rs4, s4, i1, i2, by omega, by omega, i5⟩

end Go.Proofs.YtcioegimmjppcaaDoor.P
/-! Plain law of serial runs, part Y: the program with the pauses may be; what it comes to. -/
namespace Go.Proofs.YtcioegimmjppcaaDoor.P
set_option linter.unusedVariables false

theorem ps_getD (code : List Ins) (j : Nat) : ((⟨6, 0, 0, 0, 0⟩ : Ins) :: code.map shI).getD (j + 1) default = shI (code.getD j default) := by
  rw [List.getD_eq_getElem?_getD, List.getD_eq_getElem?_getD, List.getElem?_cons_succ, List.getElem?_map]
  cases code[j]? with
  | none => rfl
  | some x => rfl

theorem ps_nexts (code : List Ins) (at_ : Int) (h0 : 0 ≤ at_) : nexts ((⟨6, 0, 0, 0, 0⟩ : Ins) :: code.map shI) (at_ + 1) = (nexts code at_).map (· + 1) := by
  have e : (at_ + 1).toNat = at_.toNat + 1 := by omega
  unfold nexts
  rw [e, ps_getD]
  obtain ⟨s1, s2, s3, s4⟩ := shI_kind (code.getD at_.toNat default)
  simp only [s1, List.length_cons, List.length_map]
  rw [List.map_append]
  congr 1
  · have : (goesOn (code.getD at_.toNat default).kind = true ∧ at_ + 1 + 1 < ((code.length + 1 : Nat) : Int)) ↔ (goesOn (code.getD at_.toNat default).kind = true ∧ at_ + 1 < (code.length : Int)) := by
      constructor
      · rintro ⟨a, b⟩
        exact ⟨a, by omega⟩
      · rintro ⟨a, b⟩
        exact ⟨a, by omega⟩
    by_cases h : goesOn (code.getD at_.toNat default).kind = true ∧ at_ + 1 < (code.length : Int)
    · rw [if_pos (this.2 h), if_pos h]
      rfl
    · rw [if_neg (fun h2 => h (this.1 h2)), if_neg h]
      rfl
  · by_cases q3 : (code.getD at_.toNat default).kind = 3
    · rw [if_pos q3, if_pos q3, s3 q3]
      rfl
    · rw [if_neg q3, if_neg q3]
      by_cases q4 : (code.getD at_.toNat default).kind = 4
      · rw [if_pos q4, if_pos q4, (s4 q4).2]
        rfl
      · rw [if_neg q4, if_neg q4]
        rfl
theorem ps_behind (c : Ins) (slot s : Int) : behind (shI c) slot s = behind c slot s := by
  obtain ⟨s1, s2, s3, s4⟩ := shI_kind c
  unfold behind
  rw [s1]
  by_cases h : c.kind = 5
  · rw [s2 (by omega) (by omega)]
  · have e1 : ¬ (c.kind = 5 ∧ (shI c).a = slot) := fun h2 => h h2.1
    have e2 : ¬ (c.kind = 5 ∧ c.a = slot) := fun h2 => h h2.1
    rw [if_neg e1, if_neg e2]

theorem ps_reach {code : List Ins} (hp : placed code) {slot : Int} {x : Int × Int} (h : Reach ((⟨6, 0, 0, 0, 0⟩ : Ins) :: code.map shI) slot x) : x = (0, 1) ∨ (0 ≤ x.1 - 1 ∧ Reach code slot (x.1 - 1, x.2)) := by
  induction h with
  | start => exact Or.inl rfl
  | @step x y h1 h2 ih =>
    right
    rcases ih with rfl | ⟨h3, h4⟩
    · unfold nbrs at h2
      have e : nexts ((⟨6, 0, 0, 0, 0⟩ : Ins) :: code.map shI) 0 = [1] := by
        have hl := hp.1
        unfold nexts
        have e1 : ((⟨6, 0, 0, 0, 0⟩ : Ins) :: code.map shI).getD (0 : Int).toNat default = ⟨6, 0, 0, 0, 0⟩ := rfl
        rw [e1]
        simp only [List.length_cons, List.length_map]
        have hg : goesOn 6 = true ∧ (0 : Int) + 1 < ((code.length + 1 : Nat) : Int) := ⟨by decide, by omega⟩
        rw [if_pos hg]
        rfl
      rw [e] at h2
      simp only [List.map_cons, List.map_nil, List.mem_singleton] at h2
      subst h2
      exact ⟨Int.le_refl 0, .start⟩
    · unfold nbrs at h2
      have e2 : x.1 = (x.1 - 1) + 1 := by omega
      have e3 : x.1.toNat = (x.1 - 1).toNat + 1 := by omega
      have hn : nexts ((⟨6, 0, 0, 0, 0⟩ : Ins) :: code.map shI) x.1 = (nexts code (x.1 - 1)).map (· + 1) := by
        have := ps_nexts code (x.1 - 1) h3
        rw [← e2] at this
        exact this
      rw [hn, e3, ps_getD, ps_behind, List.map_map] at h2
      obtain ⟨m, hm, rfl⟩ := List.mem_map.1 h2
      have hst : Reach code slot (m, behind (code.getD (x.1 - 1).toNat default) slot x.2) := .step h4 (List.mem_map.2 ⟨m, hm, rfl⟩)
      show 0 ≤ m + 1 - 1 ∧ Reach code slot (m + 1 - 1, behind (code.getD (x.1 - 1).toNat default) slot x.2)
      rw [show m + 1 - 1 = m by omega]
      exact ⟨(reach_box hp hst).1, hst⟩


theorem Paus.valid {P P2 : List Fn} (hs : Paus P P2) (hv : Valid P) (hl : ∀ f ∈ P, f.code.length < 512) : Valid P2 := by
  refine ⟨by rw [hs.len]; exact hv.some, by rw [hs.len]; exact hv.few, fun f hf => ?_⟩
  obtain ⟨j, hj, rfl⟩ := List.getElem_of_mem hf
  have hjr : inR (j : Int) (P.length : Int) := ⟨by omega, by rw [hs.len] at hj; omega⟩
  have e : P2[j] = psF (fnOf P (j : Int)) := by
    rw [← hs.at_ _ hjr]
    unfold fnOf
    rw [Int.toNat_natCast, List.getD_eq_getElem?_getD, List.getElem?_eq_getElem hj]
    rfl
  rw [e]
  have hok := hv.each _ (fnOf_mem hjr)
  have hll := hl _ (fnOf_mem hjr)
  generalize fnOf P (j : Int) = fn at hok hll
  obtain ⟨h1, h2, h3, h4⟩ := hok
  have hp := placed_of h1 h2
  have el : (psF fn).code.length = fn.code.length + 1 := by
    show ((⟨6, 0, 0, 0, 0⟩ : Ins) :: fn.code.map shI).length = _
    simp
  have eg : ∀ k, (psF fn).code.getD (k + 1) default = shI (fn.code.getD k default) := fun k => ps_getD fn.code k
  refine ⟨?_, fun i hi => ?_, ?_, fun slot hsl x hx => ?_⟩
  · unfold shapeOK at h1 ⊢
    rw [el]
    show 0 ≤ fn.params ∧ fn.params ≤ 8 ∧ 1 ≤ fn.regs ∧ fn.params ≤ fn.regs ∧ fn.regs ≤ 16 ∧ 0 ≤ fn.slots ∧ fn.slots ≤ 8 ∧ 1 ≤ fn.code.length + 1 ∧ fn.code.length + 1 ≤ 512
    omega
  · rcases List.mem_cons.1 (show i ∈ (⟨6, 0, 0, 0, 0⟩ : Ins) :: fn.code.map shI from hi) with rfl | hi
    · unfold insOK
      refine ⟨by decide, by decide, fun h => absurd h (by decide), fun h => absurd h (by decide), fun h => absurd h (by decide), fun h => absurd h (by decide), fun h => absurd h (by decide), fun h => absurd h (by decide), fun h => absurd h (by decide), fun h => absurd h (by decide), fun h => absurd h (by decide)⟩
    · obtain ⟨i0, hi0, rfl⟩ := List.mem_map.1 hi
      obtain ⟨o0, o9, q0, q1, q2, q3, q4, q5, q7, q8, q9⟩ := h2 i0 hi0
      obtain ⟨s1, s2, s3, s4⟩ := shI_kind i0
      have hpar : ∀ b, inR b (P.length : Int) → (fnOf P2 b).params = (fnOf P b).params := fun b hb => by rw [hs.at_ b hb]; rfl
      by_cases k3 : i0.kind = 3
      · unfold insOK
        rw [s1, s3 k3, k3, el]
        have := q3 k3
        refine ⟨by decide, by decide, fun h => absurd h (by decide), fun h => absurd h (by decide), fun h => absurd h (by decide), fun _ => ⟨by have := this.1; omega, by have := this.2; omega⟩, fun h => absurd h (by decide), fun h => absurd h (by decide), fun h => absurd h (by decide), fun h => absurd h (by decide), fun h => absurd h (by decide)⟩
      · by_cases k4 : i0.kind = 4
        · unfold insOK
          rw [s1, (s4 k4).1, (s4 k4).2, k4, el]
          have := q4 k4
          refine ⟨by decide, by decide, fun h => absurd h (by decide), fun h => absurd h (by decide), fun h => absurd h (by decide), fun h => absurd h (by decide), fun _ => ⟨this.1, by have := this.2.1; omega, by have := this.2.2; omega⟩, fun h => absurd h (by decide), fun h => absurd h (by decide), fun h => absurd h (by decide), fun h => absurd h (by decide)⟩
        · rw [s2 k3 k4]
          refine ⟨o0, o9, q0, q1, q2, fun h => absurd h k3, fun h => absurd h k4, fun h => ?_, q7, q8, q9⟩
          obtain ⟨a1, a2, a3⟩ := q5 h
          rw [hs.len, hpar _ a2]
          exact ⟨a1, a2, a3⟩
  · unfold lastOK at h3 ⊢
    have hp1 := hp.1
    have e2 : (psF fn).code.length - 1 = (fn.code.length - 1) + 1 := by rw [el]; omega
    rw [e2, eg, (shI_kind _).1]
    exact h3
  · rcases ps_reach hp (show Reach ((⟨6, 0, 0, 0, 0⟩ : Ins) :: fn.code.map shI) slot x from hx) with rfl | ⟨g1, g2⟩
    · have e2 : (psF fn).code.getD (0 : Int).toNat default = ⟨6, 0, 0, 0, 0⟩ := rfl
      show flowAt ((psF fn).code.getD (0 : Int).toNat default) slot 1
      rw [e2]
      exact ⟨fun h => absurd h (by decide), fun h => absurd h (by decide), fun h => absurd h (by decide)⟩
    · have ho := h4 slot hsl _ g2
      have e3 : x.1.toNat = (x.1 - 1).toNat + 1 := by omega
      rw [e3, eg]
      obtain ⟨s1, s2, s3, s4⟩ := shI_kind (fn.code.getD (x.1 - 1).toNat default)
      unfold flowAt at ho ⊢
      rw [s1]
      refine ⟨fun h => ?_, fun h => ?_, ho.2.2⟩
      · rw [s2 (by omega) (by omega)]
        exact ho.1 h
      · rw [s2 (by omega) (by omega)]
        exact ho.2.1 h

/-- the whole of it -/
theorem pause_whole (pd : Int → Int → Int) (ap : Int → Int → Int → Int) {P P2 : List Fn} (hv : Valid P) (hs : Paus P P2) (args : List Int) (fuel g : Nat) (rs : RS) (v s : Int) (h : whole pd ap P args fuel = .done rs v s) (hg : (g : Int) = (fuel : Int) - rs.left + rs.tasks) :
    ∃ rs3 s3, whole pd ap P2 args g = .done rs3 v s3 ∧ s + 1 ≤ s3 ∧ rs3.left = 0 ∧ rs3.tasks = rs.tasks ∧ rs3.deepest = rs.deepest := by
  unfold whole at h ⊢
  have ha := At.root hv args
  obtain ⟨ht, hp⟩ := loop_pause pd ap hv hs _ _ _ _ _ _ _ _ h ha
  have hlt := loop_left pd ap P _ _ _ _ _ _ _ _ h
  have e1 : (enter P ⟨fuel, 0, 0, []⟩ (root args) (-1) 0).left = fuel := rfl
  have e2 : (enter P ⟨fuel, 0, 0, []⟩ (root args) (-1) 0).tasks = 1 := rfl
  have e3 : (enter P ⟨fuel, 0, 0, []⟩ (root args) (-1) 0).deepest = 1 := rfl
  rw [e1] at hp hlt
  rw [e2] at hp ht
  rw [e3] at hp
  have hi0 : insOf P2 (root args).f 0 = ⟨6, 0, 0, 0, 0⟩ := ps_first hs ha.f
  have hpk : Paused (root args) (plainT ap (tick (root args) ⟨6, 0, 0, 0, 0⟩) ⟨6, 0, 0, 0, 0⟩) := by
    have k2 := plainT_keeps ap (tick (root args) ⟨6, 0, 0, 0, 0⟩) ⟨6, 0, 0, 0, 0⟩
    have c2 := plainT_chain ap (root args) ⟨6, 0, 0, 0, 0⟩
    refine ⟨k2.1, k2.2.1, k2.2.2.1, rfl, rfl, k2.2.2.2.1, ?_, ?_⟩
    · rw [c2.1]
      exact Int.le_refl 1
    · rw [c2.1, c2.2]
      exact Int.le_refl 1
  obtain ⟨E, hE⟩ : ∃ E, enter P2 ⟨g, 0, 0, []⟩ (root args) (-1) 0 = E := ⟨_, rfl⟩
  have g1 : E.left = g := by rw [← hE]; rfl
  have g2 : E.tasks = 1 := by rw [← hE]; rfl
  have g3 : E.deepest = 1 := by rw [← hE]; rfl
  obtain ⟨rs3, s3, b1, b2, b3, b4, b5⟩ := hp { E with left := E.left - 1 } _ 0 g hpk (by simp only; omega) (by simp only; omega) g3
  rw [hE, loop_go pd ap P2 g E (root args) 0 0 (by omega) ⟨6, 0, 0, 0, 0⟩ hi0 (by decide) (by decide)]
  refine ⟨rs3, s3, b1, b2, ?_, ?_, b5⟩
  · simp only at b3
    omega
  · simp only at b4
    omega

end Go.Proofs.YtcioegimmjppcaaDoor.P
/-! SerialPause: the plain side of its walk. -/
namespace Go.Proofs.YtcioegimmjppcaaDoor.P
open Go.RowKit
set_option linter.unusedVariables false

def shS (i : S36) : S36 := if i.f0 = 3 then ⟨i.f0, i.f1 + 1, i.f2, i.f3, i.f4⟩ else if i.f0 = 4 then ⟨i.f0, i.f1, i.f2 + 1, i.f3, i.f4⟩ else i
def psS (f : S39) : S39 := { f with f3 := (⟨6, 0, 0, 0, 0⟩ : S36) :: f.f3.map shS }
theorem insS_shS (i : S36) : insS (shS i) = shI (insS i) := by
  unfold shS shI
  show insS (if i.f0 = 3 then _ else if i.f0 = 4 then _ else i) = if i.f0 = 3 then _ else if i.f0 = 4 then _ else insS i
  by_cases h3 : i.f0 = 3
  · rw [if_pos h3, if_pos h3]; rfl
  · rw [if_neg h3, if_neg h3]
    by_cases h4 : i.f0 = 4
    · rw [if_pos h4, if_pos h4]; rfl
    · rw [if_neg h4, if_neg h4]
theorem fnS_psS (f : S39) : fnS (psS f) = psF (fnS f) := by
  show (⟨f.f0, f.f1, f.f2, ((⟨6, 0, 0, 0, 0⟩ : S36) :: f.f3.map shS).map insS⟩ : Fn) = ⟨f.f0, f.f1, f.f2, (⟨6, 0, 0, 0, 0⟩ : Ins) :: (f.f3.map insS).map shI⟩
  rw [List.map_cons, List.map_map, List.map_map]
  congr 2
  exact List.map_congr_left (fun i _ => insS_shS i)
theorem paus_map (L : List S39) : Paus (L.map fnS) ((L.map psS).map fnS) := by
  refine ⟨by rw [List.length_map, List.length_map, List.length_map], fun x hx => ?_⟩
  have h0 := hx.1
  have hlt : x.toNat < L.length := by have := hx.2; rw [List.length_map] at this; omega
  unfold fnOf
  rw [List.getD_eq_getElem?_getD, List.getD_eq_getElem?_getD, List.getElem?_map, List.getElem?_map, List.getElem?_map, List.getElem?_eq_getElem hlt]
  exact fnS_psS _
theorem fn_mem {L : List S39} {i : Nat} (h : i < L.length) : fnS (rd_T39 L (i : Int)) ∈ L.map fnS := List.mem_map.2 ⟨_, rd39_mem h, rfl⟩
theorem shS_bd {L : List S39} (hv : Valid (L.map fnS)) {i k : Nat} (hi : i < L.length) (hk : k < (rd_T39 L (i : Int)).f3.length) :
    ((rd_T36 (rd_T39 L (i : Int)).f3 (k : Int)).f0 = 3 → 0 ≤ (rd_T36 (rd_T39 L (i : Int)).f3 (k : Int)).f1 ∧ (rd_T36 (rd_T39 L (i : Int)).f3 (k : Int)).f1 ≤ 512) ∧
    ((rd_T36 (rd_T39 L (i : Int)).f3 (k : Int)).f0 = 4 → 0 ≤ (rd_T36 (rd_T39 L (i : Int)).f3 (k : Int)).f2 ∧ (rd_T36 (rd_T39 L (i : Int)).f3 (k : Int)).f2 ≤ 512) ∧ (rd_T39 L (i : Int)).f3.length ≤ 512 := by
  have hf := hv.each _ (fn_mem hi)
  have hp := placed_of hf.shape hf.ins
  have hsh := hf.shape
  unfold shapeOK at hsh
  have hl : ((fnS (rd_T39 L (i : Int))).code.length : Int) = ((rd_T39 L (i : Int)).f3.length : Int) := by show (((rd_T39 L (i : Int)).f3.map insS).length : Int) = _; rw [List.length_map]
  have hm : insS (rd_T36 (rd_T39 L (i : Int)).f3 (k : Int)) ∈ (fnS (rd_T39 L (i : Int))).code := by
    refine List.mem_map.2 ⟨_, ?_, rfl⟩
    rw [rd36_nat hk]
    exact List.getElem_mem hk
  have h2 := hp.2 _ hm
  rw [hl] at h2
  have hle : ((rd_T39 L (i : Int)).f3.length : Int) ≤ 512 := by rw [← hl]; omega
  exact ⟨fun h => by have := h2.1 h; have e : (insS (rd_T36 (rd_T39 L (i : Int)).f3 (k : Int))).a = (rd_T36 (rd_T39 L (i : Int)).f3 (k : Int)).f1 := rfl; omega, fun h => by have := h2.2 h; have e : (insS (rd_T36 (rd_T39 L (i : Int)).f3 (k : Int))).b = (rd_T36 (rd_T39 L (i : Int)).f3 (k : Int)).f2 := rfl; omega, by omega⟩
theorem code_pos {L : List S39} (hv : Valid (L.map fnS)) {i : Nat} (hi : i < L.length) : 0 < (rd_T39 L (i : Int)).f3.length := by
  have hf := hv.each _ (fn_mem hi)
  have hp := (placed_of hf.shape hf.ins).1
  have e : (fnS (rd_T39 L (i : Int))).code.length = (rd_T39 L (i : Int)).f3.length := by show ((rd_T39 L (i : Int)).f3.map insS).length = _; rw [List.length_map]
  omega
theorem part_rd (F : S39 → S39) {i : Nat} {L : List S39} (h : i < L.length) : rd_T39 (part F i L) (i : Int) = rd_T39 L (i : Int) := by
  have hl : i < (part F i L).length := by rw [part_len]; exact h
  rw [rd39_nat hl, rd39_nat h]
  have := part_at F h
  rw [List.getElem?_eq_getElem hl] at this
  exact Option.some.inj this
theorem part_put {i : Nat} {L : List S39} (h : i < L.length) (c : List S36) (hc : c = (⟨6, 0, 0, 0, 0⟩ : S36) :: (rd_T39 L (i : Int)).f3.map shS) :
    (part psS i L).set i { rd_T39 (part psS i L) (i : Int) with f3 := c } = part psS (i + 1) L := by
  rw [part_rd psS h, ← part_set psS h, hc, ← rd39_nat h]
  rfl
/-- the code so far -/
def lng (k : Nat) (c : List S36) : List S36 := (⟨6, 0, 0, 0, 0⟩ : S36) :: (c.take k).map shS
theorem lng_len {k : Nat} {c : List S36} (h : k ≤ c.length) : (lng k c).length = k + 1 := by unfold lng; rw [List.length_cons, List.length_map, List.length_take]; omega
theorem lng_succ {k : Nat} {c : List S36} (h : k < c.length) : lng k c ++ [shS (rd_T36 c (k : Int))] = lng (k + 1) c := by
  unfold lng
  rw [List.take_succ_eq_append_getElem h, List.map_append, rd36_nat h]
  rfl
theorem shS_three {y : S36} (h : y.f0 = 3) : (⟨y.f0, y.f1 + 1, y.f2, y.f3, y.f4⟩ : S36) = shS y := by unfold shS; rw [if_pos h]
theorem shS_four {y : S36} (h3 : y.f0 ≠ 3) (h : y.f0 = 4) : (⟨y.f0, y.f1, y.f2 + 1, y.f3, y.f4⟩ : S36) = shS y := by unfold shS; rw [if_neg h3, if_pos h]
theorem shS_other {y : S36} (h3 : y.f0 ≠ 3) (h : y.f0 ≠ 4) : (⟨y.f0, y.f1, y.f2, y.f3, y.f4⟩ : S36) = shS y := by unfold shS; rw [if_neg h3, if_neg h]
theorem lng_step {k : Nat} {c : List S36} {y X : S36} (h : k < c.length) (hy : rd_T36 c (k : Int) = y) (hX : X = shS y) : lng k c ++ [X] = lng (k + 1) c := by rw [hX, ← hy]; exact lng_succ h
theorem int_succ (k : Nat) : Value.int .i64 ((k : Int) + 1) = Value.int .i64 ((k + 1 : Nat) : Int) := by rw [Int.natCast_add]; rfl
theorem lng_full {k : Nat} {c : List S36} (h : c.length ≤ k) : lng k c = (⟨6, 0, 0, 0, 0⟩ : S36) :: c.map shS := by unfold lng; rw [List.take_of_length_le h]

/-- what the first run comes to, by numbers of one's own -/
theorem pause_first {L : List S39} {l1 : List Int} {a2 : Int} (hv : Valid (L.map fnS)) (hf0 : 0 ≤ a2) (hf1 : a2 ≤ 4194304) (harg : (l1.length : Int) = (fnOf (L.map fnS) 0).params) {rs : RS} {v s : Int} (hw : whole pdS apS (L.map fnS) l1 a2.toNat = .done rs v s) :
    ∃ wk tk : Int, 0 ≤ wk ∧ wk ≤ 4194304 ∧ 0 ≤ tk ∧ tk ≤ 4194304 ∧ a2 - (rs.left : Int) = wk ∧ rs.tasks = tk ∧
      (wk + tk ≤ 4194304 → (∀ f ∈ L, f.f3.length < 512) → ∃ s3, s < s3 ∧ evalOf pdS apS ((L.map psS).map fnS) l1 (wk + tk) = (v, wk + tk, tk, rs.deepest, s3, 0)) := by
  obtain ⟨a1, a3, a4, a5, a6, a7⟩ := whole_sizes pdS apS _ _ _ _ _ _ hw
  have ef : ((a2.toNat : Nat) : Int) = a2 := by omega
  rw [ef] at *
  refine ⟨a2 - (rs.left : Int), rs.tasks, by omega, by omega, by omega, by omega, rfl, rfl, fun hle hl => ?_⟩
  obtain ⟨rs3, s3, b1, b2, b3, b4, b5⟩ := pause_whole pdS apS hv (paus_map L) l1 a2.toNat (a2 - (rs.left : Int) + rs.tasks).toNat rs v s hw (by omega)
  have hv2 := (paus_map L).valid hv (fun f hf => by
    obtain ⟨x, hx, rfl⟩ := List.mem_map.1 hf
    show (x.f3.map insS).length < 512
    rw [List.length_map]
    exact hl x hx)
  have hp0 : (fnOf ((L.map psS).map fnS) 0).params = (fnOf (L.map fnS) 0).params := by
    rw [(paus_map L).at_ 0 ⟨by omega, by have := hv.some; omega⟩]
    rfl
  refine ⟨s3, by omega, ?_⟩
  unfold evalOf
  rw [if_neg (by rw [(validB_iff _).2 hv2]; decide), if_neg (by rw [hp0]; intro h; exact h harg), if_neg (by omega), b1]
  simp only
  rw [b3, b4, b5]
  simp
end Go.Proofs.YtcioegimmjppcaaDoor.P
