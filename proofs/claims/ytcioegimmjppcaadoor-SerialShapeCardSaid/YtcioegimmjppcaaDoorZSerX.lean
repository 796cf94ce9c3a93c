/- Plain law, part X: SerialShape. -/
import Derived.Test.YtcioegimmjppcaaDoorZSerW
import Derived.Test.YtcioegimmjppcaaDoorZPxSh
namespace Go.Proofs.YtcioegimmjppcaaDoor.P
open Go.RowKit Go.Proofs.YtcioegimmjppcaaDoorW.PrintWords Go.Proofs.YtcioegimmjppcaaDoorW.PrintLast Go.Proofs.YtcioegimmjppcaaDoorW.PrintMore
set_option linter.unusedVariables false

theorem both_cases (pd : Int → Int → Int) (ap : Int → Int → Int → Int) (P : List Fn) (args : List Int) (fuel : Int) :
    (∃ e, e ≠ 0 ∧ evalOf pd ap P args fuel = (0, 0, 0, 0, 0, e) ∧ treeOf pd ap P args fuel = ([], e)) ∨
    (Valid P ∧ 0 ≤ fuel ∧ fuel ≤ 4194304 ∧ (args.length : Int) = (fnOf P 0).params ∧ ∃ rs v s, whole pd ap P args fuel.toNat = .done rs v s ∧ evalOf pd ap P args fuel = (v, fuel - (rs.left : Int), rs.tasks, rs.deepest, s, 0) ∧ treeOf pd ap P args fuel = (rs.nodes, 0)) := by
  unfold evalOf treeOf
  by_cases h1 : validB P = false
  · rw [if_pos h1, if_pos h1]; exact Or.inl ⟨60, by decide, rfl, rfl⟩
  rw [if_neg h1, if_neg h1]
  by_cases h2 : (args.length : Int) ≠ (fnOf P 0).params
  · rw [if_pos h2, if_pos h2]; exact Or.inl ⟨61, by decide, rfl, rfl⟩
  rw [if_neg h2, if_neg h2]
  by_cases h3 : fuel < 0 ∨ fuel > 4194304
  · rw [if_pos h3, if_pos h3]; exact Or.inl ⟨3, by decide, rfl, rfl⟩
  rw [if_neg h3, if_neg h3]
  cases hw : whole pd ap P args fuel.toNat with
  | stop w =>
    refine Or.inl ⟨w, ?_, rfl, rfl⟩
    unfold whole at hw
    rcases loop_stop pd ap P _ _ _ _ _ _ hw with h | h <;> rw [h] <;> decide
  | done rs v s =>
    refine Or.inr ⟨(validB_iff P).1 (by cases hb : validB P with
      | true => rfl
      | false => exact absurd hb h1), by omega, by omega, ?_, rs, v, s, rfl, rfl, rfl⟩
    by_cases h4 : (args.length : Int) = (fnOf P 0).params
    · exact h4
    · exact absurd h4 h2

theorem sumW_take (l : List Nd) (i : Nat) (x : Nd) (h : l[i]? = some x) : sumW (l.take (i + 1)) = sumW (l.take i) + x.work := by
  rw [List.take_add_one, h, sumW_app]
  have : sumW (some x).toList = x.work + 0 := rfl
  omega
theorem sumW_pos (l : List Nd) (h : ∀ x ∈ l, 1 ≤ x.work) : 0 ≤ sumW l := by
  induction l with
  | nil => simp [sumW]
  | cons a l ih =>
    have e2 : sumW (a :: l) = a.work + sumW l := rfl
    have := h a List.mem_cons_self
    have := ih (fun x hx => h x (List.mem_cons_of_mem _ hx))
    omega
theorem mx_max (a b : Int) : mx a b = max a b := by
  unfold mx
  split <;> omega
theorem wrap_sum (a b : Int) (h0 : 0 ≤ a) (h1 : 0 ≤ b) (h2 : a + b ≤ 4194304) : wrap64 (a + b) = a + b := Go.IntWalk.wrap64_in _ (by omega)

theorem shape_l0 (L : List S39) (hv : Valid (L.map fnS)) {l : List Nd} {d : List Int} (h : Shp pdS (L.map fnS) (cores l) d) (hn : l.length ≤ 4194304) (hw : ∀ x ∈ l, 1 ≤ x.work) (hs : sumW l ≤ 4194304) (v w t dd s : Int) (e1 : sumW l = w) (e2 : d.foldl max 0 = dd) :
    ∀ (m i : Nat), i + m = l.length → ∃ K, plunderlaw6_SerialShape.l0 K (l.map ndS) d (sumW (l.take i)) ((d.take i).foldl max 0) (i : Int) L v w t dd s = some true := by
  have hdl := h.len
  rw [cores_len] at hdl
  intro m
  induction m with
  | zero =>
    intro i hi
    obtain rfl : i = l.length := by omega
    refine ⟨1, ?_⟩
    simp only [plunderlaw6_SerialShape.l0]
    rw [if_neg (by rw [List.length_map]; omega), List.take_length, if_pos e1, ← hdl, List.take_length, e2]
    simp
  | succ m ih =>
    intro i hi
    have hlt : i < l.length := by omega
    have hx := List.getElem?_eq_getElem hlt
    have hdx := List.getElem?_eq_getElem (show i < d.length by omega)
    obtain ⟨K, hK⟩ := ih (i + 1) (by omega)
    rw [sumW_take l i _ hx] at hK
    have hwi := hw _ (List.getElem_mem hlt)
    have h0 : 0 ≤ sumW (l.take i) := sumW_pos _ (fun x hx => hw x (List.mem_of_mem_take hx))
    have hsplit : sumW l = sumW (l.take (i + 1)) + sumW (l.drop (i + 1)) := by rw [← sumW_app, List.take_append_drop]
    have h2 : 0 ≤ sumW (l.drop (i + 1)) := sumW_pos _ (fun x hx => hw x (List.mem_of_mem_drop hx))
    rw [sumW_take l i _ hx] at hsplit
    have hi4 : i ≤ 4194304 := by omega
    have hws := wrap_sum (sumW (l.take i)) l[i].work h0 (by omega) (by omega)
    have hrd : rd d (i : Int) = d[i] := by
      unfold rd
      rw [Int.toNat_natCast, List.getD_eq_getElem?_getD, hdx]
      rfl
    have hfold : (d.take (i + 1)).foldl max 0 = max ((d.take i).foldl max 0) d[i] := by
      rw [List.take_add_one, hdx, List.foldl_append]
      rfl
    have f3 : (ndS l[i]).f3 = l[i].work := rfl
    rw [hfold] at hK
    have hgo : ∀ K', plunderlaw6_SerialShape.l0 K' (l.map ndS) d (wrap64 (sumW (l.take i) + (ndS l[i]).f3)) (mx ((d.take i).foldl max 0) (rd d (i : Int))) (wrap64 ((i : Int) + 1)) L v w t dd s
        = plunderlaw6_SerialShape.l0 K' (l.map ndS) d (sumW (l.take i) + l[i].work) (max ((d.take i).foldl max 0) d[i]) ((i + 1 : Nat) : Int) L v w t dd s := fun K' => by
      rw [f3, hws, mx_max, hrd, wrap_nat1 i hi4]
    clear hws
    by_cases hz : i = 0
    · subst hz
      refine ⟨K + 1, ?_⟩
      simp only [plunderlaw6_SerialShape.l0]
      rw [rd49_map l 0 _ hx, if_pos (by rw [List.length_map]; omega), if_pos (by omega), if_pos (by omega), if_neg (by rw [f3]; omega), if_neg (by omega), hgo K]
      exact hK
    · obtain ⟨p, c, q, e, a1, a2, a3, a4, a5, a6, a7, a8, a9, a10, a11⟩ := h.at i (by omega) (by rw [cores_len]; omega)
      obtain ⟨x, hx2, hcx⟩ := cores_at a1
      obtain ⟨y, hy, hcy⟩ := cores_at a4
      rw [hx] at hx2
      injection hx2 with hx2
      have f0 : (ndS l[i]).f0 = (p : Int) := by rw [← a7, ← hcx, ← hx2]; rfl
      have f2 : (ndS l[i]).f2 = c.func := by rw [← hcx, ← hx2]; rfl
      have g2 : (ndS y).f2 = q.func := by rw [← hcy]; rfl
      obtain ⟨K2, hK2⟩ := spawns_true L hv q.func c.func a10 a11
      obtain ⟨K3, hK3a, hK3b⟩ : ∃ K3, plunderlaw6_spawns.f K3 L q.func c.func = some true ∧ plunderlaw6_SerialShape.l0 K3 (l.map ndS) d (sumW (l.take i) + l[i].work) (max ((d.take i).foldl max 0) d[i]) ((i + 1 : Nat) : Int) L v w t dd s = some true := by
        have up1 : ∀ n, plunderlaw6_spawns.f (K2 + n) L q.func c.func = some true := fun n => by
          induction n with
          | zero => exact hK2
          | succ n ih => exact plunderlaw6_spawns.mono _ _ _ _ _ ih
        have up2 : ∀ n, plunderlaw6_SerialShape.l0 (K + n) (l.map ndS) d (sumW (l.take i) + l[i].work) (max ((d.take i).foldl max 0) d[i]) ((i + 1 : Nat) : Int) L v w t dd s = some true := fun n => by
          induction n with
          | zero => exact hK
          | succ n ih => exact (plunderlaw6_SerialShape.mono_l _).2.2 _ _ _ _ _ _ _ _ _ _ _ _ ih
        refine ⟨K + K2, ?_, up2 K2⟩
        rw [Nat.add_comm]
        exact up1 K
      refine ⟨K3 + 1, ?_⟩
      simp only [plunderlaw6_SerialShape.l0]
      rw [rd49_map l i _ hx, if_pos (by rw [List.length_map]; omega), if_pos (by omega), if_pos (by omega), if_neg (by rw [f3]; omega), if_pos (by omega), f0, if_pos (by omega), if_pos (by rw [List.length_map]; omega), rd49_map l p y hy, f2, g2, hK3a, Option.bind_some, if_pos rfl, hgo K3]
      exact hK3b

theorem shape_true (L : List S39) (l1 : List Int) (a2 : Int) : ∃ K, plunderlaw6_SerialShape.f K L l1 a2 = some true := by
  rcases both_cases pdS apS (L.map fnS) l1 a2 with ⟨e, he, h1, h2⟩ | ⟨hv, hf0, hf1, _, rs, v, s, hw, h1, h2⟩
  · refine ⟨1, ?_⟩
    unfold plunderlaw6_SerialShape.f serial_Eval.f serial_Tree.f
    rw [Option.bind_some, Option.bind_some, h1, h2]
    simp only [↓reduceIte]
    rw [lives_true, Option.bind_some]
    simp only [plunderlaw6_SerialShape.j0, Bool.not_true, Bool.false_eq_true, ↓reduceIte]
    rw [if_neg he]
    simp
  · obtain ⟨⟨d, t1, t2⟩, t3, ⟨n0, t4, t5⟩, t6, t7⟩ := whole_tree pdS apS hv _ _ _ _ _ hw
    obtain ⟨a1, a2', a3, a4, a5, a6, a7⟩ := whole_sizes pdS apS _ _ _ _ _ _ hw
    have ef : ((a2.toNat : Nat) : Int) = a2 := by omega
    rw [ef] at t3 a3
    have hn : rs.nodes.length ≤ 4194304 := by omega
    have hp := t1.pos
    rw [cores_len] at hp
    obtain ⟨K1, hK1⟩ := shape_l0 L hv t1 hn t6 (by omega) v (a2 - (rs.left : Int)) rs.tasks rs.deepest s t3 t2.symm rs.nodes.length 0 (by omega)
    obtain ⟨K2, hK2⟩ := shaped_true t1 hn
    have up1 : ∀ n, plunderlaw6_shaped.f (K2 + n) (rs.nodes.map ndS) = some d := fun n => by
      induction n with
      | zero => exact hK2
      | succ n ih => exact plunderlaw6_shaped.mono _ _ _ ih
    have up2 : ∀ n, plunderlaw6_SerialShape.l0 (K1 + n) (rs.nodes.map ndS) d 0 0 0 L v (a2 - (rs.left : Int)) rs.tasks rs.deepest s = some true := fun n => by
      induction n with
      | zero => exact hK1
      | succ n ih => exact (plunderlaw6_SerialShape.mono_l _).2.2 _ _ _ _ _ _ _ _ _ _ _ _ ih
    have hd0 : ¬ d.length = 0 := by
      have := t1.len
      rw [cores_len] at this
      omega
    refine ⟨K1 + K2 + 2, ?_⟩
    unfold plunderlaw6_SerialShape.f serial_Eval.f serial_Tree.f
    rw [Option.bind_some, Option.bind_some, h1, h2]
    simp only [↓reduceIte]
    rw [lives_true, Option.bind_some]
    simp only [plunderlaw6_SerialShape.j0, Bool.not_true, Bool.false_eq_true, ↓reduceIte]
    rw [if_neg (by rw [List.length_map]; omega), if_pos (by rw [List.length_map]; exact t7), if_pos (by rw [List.length_map]; omega)]
    have r0 : rd_T49 (rs.nodes.map ndS) 0 = ndS n0 := rd49_map rs.nodes 0 n0 t4
    have hv0 : ((rd_T49 (rs.nodes.map ndS) 0).f6 != v) = false := by
      rw [r0]
      have : (ndS n0).f6 = n0.v := rfl
      rw [this, t5]
      simp
    rw [hv0]
    simp only [plunderlaw6_SerialShape.j1, Bool.false_eq_true, ↓reduceIte]
    have u1 := up1 K1
    rw [Nat.add_comm] at u1
    rw [u1, Option.bind_some, if_neg hd0]
    exact up2 K2

end Go.Proofs.YtcioegimmjppcaaDoor.P
