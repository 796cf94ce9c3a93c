/- What the laws over a whole run share: SerialShape, SerialPart. -/
import Derived.Test.YtcioegimmjppcaaDoorZSerH
import Derived.Test.YtcioegimmjppcaaDoorZSerL
import Derived.Test.YtcioegimmjppcaaDoorZPx5
import Derived.IntWalk
namespace Go.Proofs.YtcioegimmjppcaaDoor.P
open Go.RowKit Go.Proofs.YtcioegimmjppcaaDoorW.PrintWords Go.Proofs.YtcioegimmjppcaaDoorW.PrintLast Go.Proofs.YtcioegimmjppcaaDoorW.PrintMore
set_option linter.unusedVariables false

theorem whole_tree (pd : Int → Int → Int) (ap : Int → Int → Int → Int) {P : List Fn} (hv : Valid P) (args : List Int) (fuel : Nat) (rs : RS) (v s : Int) (h : whole pd ap P args fuel = .done rs v s) :
    (∃ d, Shp pd P (cores rs.nodes) d ∧ rs.deepest = d.foldl max 0) ∧ sumW rs.nodes = (fuel : Int) - rs.left ∧ (∃ n0, rs.nodes[0]? = some n0 ∧ n0.v = v) ∧ (∀ x ∈ rs.nodes, 1 ≤ x.work) ∧ (rs.nodes.length : Int) = rs.tasks := by
  unfold whole at h
  have ha := At.root hv args
  obtain ⟨n0, hn0, hc0, hw0⟩ : ∃ n0, (enter P ⟨fuel, 0, 0, []⟩ (root args) (-1) 0).nodes = [n0] ∧ core n0 = ⟨-1, 0, 0, 1⟩ ∧ n0.work = 0 := ⟨_, rfl, rfl, rfl⟩
  have hin : InT pd P (enter P ⟨fuel, 0, 0, []⟩ (root args) (-1) 0) (root args) 0 [1] := by
    have e : cores [n0] = [⟨-1, 0, 0, 1⟩] := by show [core n0] = _; rw [hc0]
    refine ⟨by rw [hn0, e]; exact .root, ⟨⟨-1, 0, 0, 1⟩, by rw [hn0, e]; rfl, rfl, rfl⟩, rfl, by rw [hn0]; exact .refl _, ?_⟩
    rw [hn0, e, kidsAt_one, if_neg (by decide)]
    rfl
  obtain ⟨m, e, a1, a2, a3, a4, a5⟩ := loop_tree pd ap hv _ _ _ _ _ _ _ _ h ha _ hin
  have ht0 : (root args).work = 0 := rfl
  obtain ⟨b1, ⟨n1, b2, b3, b4⟩, b5, b6, b7⟩ := loop_works pd ap P _ _ _ _ _ _ _ _ h (by omega) n0 (by rw [hn0]; rfl) hw0
  have hl := loop_len pd ap P _ _ _ _ _ _ _ _ h
  refine ⟨⟨[1] ++ e, a1, ?_⟩, ?_, ⟨n1, b2, b3⟩, fun x hx => ?_, ?_⟩
  · rw [a5, List.foldl_append]
    rfl
  · rw [b1, hn0, ht0]
    have : sumW [n0] = n0.work + 0 := rfl
    have hle : (enter P ⟨fuel, 0, 0, []⟩ (root args) (-1) 0).left = fuel := rfl
    rw [hle]
    omega
  · obtain ⟨j, hj, rfl⟩ := List.getElem_of_mem hx
    by_cases h0 : j = 0
    · subst h0
      have : rs.nodes[0] = n1 := by
        have := List.getElem?_eq_getElem hj
        rw [b2] at this
        injection this with this
        exact this.symm
      rw [this]
      exact b4
    · refine b6 j _ ?_ (List.getElem?_eq_getElem hj)
      rw [hn0]
      simp
      omega
  · have h1 : (enter P ⟨fuel, 0, 0, []⟩ (root args) (-1) 0).tasks = 1 := rfl
    rw [hn0, h1] at hl
    simp at hl
    omega
theorem rd49_map (l : List Nd) (j : Nat) (x : Nd) (h : l[j]? = some x) : rd_T49 (l.map ndS) (j : Int) = ndS x := by
  unfold rd_T49
  rw [Int.toNat_natCast, List.getD_eq_getElem?_getD, List.getElem?_map, h]
  rfl
theorem wrap_nat1 (i : Nat) (h : i ≤ 4194304) : wrap64 ((i : Int) + 1) = ((i + 1 : Nat) : Int) := by
  rw [Go.IntWalk.wrap64_in _ (by omega)]
  omega
theorem wrap_int1 (z : Int) (h1 : 0 ≤ z) (h2 : z ≤ 4194304) : wrap64 (z + 1) = z + 1 := Go.IntWalk.wrap64_in _ (by omega)
theorem both_cases (pd : Int → Int → Int) (ap : Int → Int → Int → Int) (P : List Fn) (args : List Int) (fuel : Int) :
    (∃ e, e ≠ 0 ∧ evalOf pd ap P args fuel = (0, 0, 0, 0, 0, e) ∧ treeOf pd ap P args fuel = ([], e)) ∨
    (Valid P ∧ 0 ≤ fuel ∧ fuel ≤ 4194304 ∧ (args.length : Int) = (fnOf P 0).params ∧ ∃ rs v s, whole pd ap P args fuel.toNat = .done rs v s ∧ evalOf pd ap P args fuel = (v, fuel - (rs.left : Int), rs.tasks, rs.deepest, s, 0) ∧ treeOf pd ap P args fuel = (rs.nodes, 0)) := by
  unfold evalOf treeOf
  by_cases h1 : validB P = false
  · rw [if_pos h1, if_pos h1]; exact Or.inl ⟨60, by decide, rfl, rfl⟩
  rw [if_neg h1, if_neg h1]
  by_cases h2 : (args.length : Int) ≠ (fnOf P 0).params
  · rw [if_pos h2, if_pos h2]; exact Or.inl ⟨61, by decide, rfl, rfl⟩
  rw [if_neg h2, if_neg h2]
  by_cases h3 : fuel < 0 ∨ fuel > 4194304
  · rw [if_pos h3, if_pos h3]; exact Or.inl ⟨3, by decide, rfl, rfl⟩
  rw [if_neg h3, if_neg h3]
  cases hw : whole pd ap P args fuel.toNat with
  | stop w =>
    refine Or.inl ⟨w, ?_, rfl, rfl⟩
    unfold whole at hw
    rcases loop_stop pd ap P _ _ _ _ _ _ hw with h | h <;> rw [h] <;> decide
  | done rs v s =>
    refine Or.inr ⟨(validB_iff P).1 (by cases hb : validB P with
      | true => rfl
      | false => exact absurd hb h1), by omega, by omega, ?_, rs, v, s, rfl, rfl, rfl⟩
    by_cases h4 : (args.length : Int) = (fnOf P 0).params
    · exact h4
    · exact absurd h4 h2

theorem sumW_take (l : List Nd) (i : Nat) (x : Nd) (h : l[i]? = some x) : sumW (l.take (i + 1)) = sumW (l.take i) + x.work := by
  rw [List.take_add_one, h, sumW_app]
  have : sumW (some x).toList = x.work + 0 := rfl
  omega
theorem sumW_pos (l : List Nd) (h : ∀ x ∈ l, 1 ≤ x.work) : 0 ≤ sumW l := by
  induction l with
  | nil => simp [sumW]
  | cons a l ih =>
    have e2 : sumW (a :: l) = a.work + sumW l := rfl
    have := h a List.mem_cons_self
    have := ih (fun x hx => h x (List.mem_cons_of_mem _ hx))
    omega
theorem mx_max (a b : Int) : mx a b = max a b := by
  unfold mx
  split <;> omega
theorem wrap_sum (a b : Int) (h0 : 0 ≤ a) (h1 : 0 ≤ b) (h2 : a + b ≤ 4194304) : wrap64 (a + b) = a + b := Go.IntWalk.wrap64_in _ (by omega)

end Go.Proofs.YtcioegimmjppcaaDoor.P
