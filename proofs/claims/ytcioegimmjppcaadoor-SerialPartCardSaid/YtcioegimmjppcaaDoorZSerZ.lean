/- Plain law, part Z: SerialPart. -/
import Derived.Test.YtcioegimmjppcaaDoorZJK
import Derived.Test.YtcioegimmjppcaaDoorZSerG
import Derived.Test.YtcioegimmjppcaaDoorZPxA
import Derived.Test.YtcioegimmjppcaaDoorZPxPtd
namespace Go.Proofs.YtcioegimmjppcaaDoor.P
open Go.RowKit Go.Proofs.YtcioegimmjppcaaDoorW.PrintWords Go.Proofs.YtcioegimmjppcaaDoorW.PrintLast Go.Proofs.YtcioegimmjppcaaDoorW.PrintMore
set_option linter.unusedVariables false

theorem asks_l1 (L : List S39) (hv : Valid (L.map fnS)) (f : Nat) (hf : f < L.length) (c : List S36) (hc : (rd_T39 L (f : Int)).f3 = c) (hl : c.length ≤ 4194304)
    (R : Option Bool) (hR : ∃ K b, plunderlaw6_asksPed.l0 K ((f + 1 : Nat) : Int) L = some b ∧ (b = false → ∀ j, f + 1 ≤ j → j < L.length → ∀ i ∈ (rd_T39 L (j : Int)).f3, i.f0 ≠ 8)) : ∀ (m x : Nat), x + m = c.length → (∀ y, y < x → ∀ i, c[y]? = some i → i.f0 ≠ 8) →
    ∃ K b, plunderlaw6_asksPed.l1 K (f : Int) (x : Int) L = some b ∧ (b = false → ∀ j, f ≤ j → j < L.length → ∀ i ∈ (rd_T39 L (j : Int)).f3, i.f0 ≠ 8) := by
  intro m
  induction m with
  | zero =>
    intro x hx hpre
    obtain ⟨K, b, h1, h2⟩ := hR
    have hf4 : f ≤ 4194304 := by
      have := hv.few
      rw [List.length_map] at this
      omega
    refine ⟨K + 1, b, ?_, fun hb j hj1 hj2 i hi => ?_⟩
    · simp only [plunderlaw6_asksPed.l1]
      rw [hc, if_pos (by omega), if_pos (by omega), if_neg (by omega), wrap_nat1 f hf4]
      exact h1
    · by_cases e : j = f
      · subst e
        rw [hc] at hi
        obtain ⟨y, hy, rfl⟩ := List.getElem_of_mem hi
        exact hpre y (by omega) _ (List.getElem?_eq_getElem hy)
      · exact h2 hb j (by omega) hj2 i hi
  | succ m ih =>
    intro x hx hpre
    have hlt : x < c.length := by omega
    have hx4 : x ≤ 4194304 := by omega
    have hrd : rd_T36 c (x : Int) = c[x] := by
      unfold rd_T36
      rw [Int.toNat_natCast, List.getD_eq_getElem?_getD, List.getElem?_eq_getElem hlt]
      rfl
    by_cases h8 : c[x].f0 = 8
    · refine ⟨1, true, ?_, fun hb => by cases hb⟩
      simp only [plunderlaw6_asksPed.l1]
      rw [hc, if_pos (by omega), if_pos (by omega), if_pos (by omega), if_pos (by omega), hrd, if_pos h8]
    · obtain ⟨K, b, h1, h2⟩ := ih (x + 1) (by omega) (fun y hy i hi => by
        by_cases e : y = x
        · subst e
          rw [List.getElem?_eq_getElem hlt] at hi
          injection hi with hi
          rw [← hi]
          exact h8
        · exact hpre y (by omega) i hi)
      refine ⟨K + 1, b, ?_, h2⟩
      simp only [plunderlaw6_asksPed.l1]
      rw [hc, if_pos (by omega), if_pos (by omega), if_pos (by omega), if_pos (by omega), hrd, if_neg h8, wrap_nat1 x hx4]
      exact h1

theorem asks_l0 (L : List S39) (hv : Valid (L.map fnS)) : ∀ (m f : Nat), f + m = L.length → ∃ K b, plunderlaw6_asksPed.l0 K (f : Int) L = some b ∧ (b = false → ∀ j, f ≤ j → j < L.length → ∀ i ∈ (rd_T39 L (j : Int)).f3, i.f0 ≠ 8) := by
  intro m
  induction m with
  | zero =>
    intro f hf
    refine ⟨1, false, ?_, fun _ j h1 h2 => by omega⟩
    simp only [plunderlaw6_asksPed.l0]
    rw [if_neg (by omega)]
  | succ m ih =>
    intro f hf
    have hfr : inR (f : Int) (L.length : Int) := ⟨by omega, by omega⟩
    have hmem := fnOf_mem (P := L.map fnS) (f := (f : Int)) (by rw [List.length_map]; exact hfr)
    have hsh := (hv.each _ hmem).shape
    unfold shapeOK at hsh
    rw [fnOf_maps L _ hfr] at hsh
    have e : (fnS (rd_T39 L (f : Int))).code.length = (rd_T39 L (f : Int)).f3.length := List.length_map _
    obtain ⟨K, b, h1, h2⟩ := asks_l1 L hv f (by omega) _ rfl (by omega) none (ih (f + 1) (by omega)) (rd_T39 L (f : Int)).f3.length 0 (by omega) (fun y hy => by omega)
    refine ⟨K + 1, b, ?_, h2⟩
    simp only [plunderlaw6_asksPed.l0]
    rw [if_pos (by omega)]
    exact h1

theorem asks_true (L : List S39) (hv : Valid (L.map fnS)) : ∃ K b, plunderlaw6_asksPed.f K L = some b ∧ (b = false → ∀ f ∈ L.map fnS, ∀ i ∈ f.code, i.kind ≠ 8) := by
  obtain ⟨K, b, h1, h2⟩ := asks_l0 L hv L.length 0 (by omega)
  refine ⟨K, b, h1, fun hb f hf i hi => ?_⟩
  obtain ⟨s, hs, rfl⟩ := List.mem_map.1 hf
  obtain ⟨j, hj, rfl⟩ := List.getElem_of_mem hs
  obtain ⟨i0, hi0, rfl⟩ := List.mem_map.1 (show i ∈ L[j].f3.map insS from hi)
  have hrd : rd_T39 L (j : Int) = L[j] := by
    unfold rd_T39
    rw [Int.toNat_natCast, List.getD_eq_getElem?_getD, List.getElem?_eq_getElem hj]
    rfl
  exact h2 hb j (Nat.zero_le _) hj i0 (by rw [hrd]; exact hi0)


theorem sumW_block (l : List Nd) (i k : Nat) (x : Nd) (hik : i ≤ k) (h : l[k]? = some x) : sumW ((l.take (k + 1)).drop i) = sumW ((l.take k).drop i) + x.work := by
  have hk := (List.getElem?_eq_some_iff.1 h).1
  rw [List.take_add_one, h, List.drop_append_of_le_length (by rw [List.length_take]; omega), sumW_app]
  have : sumW (some x).toList = x.work + 0 := rfl
  omega
theorem sumW_le (l : List Nd) (hw : ∀ x ∈ l, 1 ≤ x.work) (i e : Nat) : 0 ≤ sumW ((l.take e).drop i) ∧ sumW ((l.take e).drop i) ≤ sumW l := by
  have h1 : sumW l = sumW (l.take e) + sumW (l.drop e) := by rw [← sumW_app, List.take_append_drop]
  have h2 : sumW (l.take e) = sumW ((l.take e).take i) + sumW ((l.take e).drop i) := by rw [← sumW_app, List.take_append_drop]
  have a1 := sumW_pos (l.drop e) (fun x hx => hw x (List.mem_of_mem_drop hx))
  have a2 := sumW_pos ((l.take e).take i) (fun x hx => hw x (List.mem_of_mem_take (List.mem_of_mem_take hx)))
  have a3 := sumW_pos ((l.take e).drop i) (fun x hx => hw x (List.mem_of_mem_take (List.mem_of_mem_drop hx)))
  omega

/-- the law's loop over the part of the tree, and what stands behind it -/
theorem part_l0 (L : List S39) {l : List Nd} (hn : l.length ≤ 4194304) (hw : ∀ x ∈ l, 1 ≤ x.work) (hs : sumW l ≤ 4194304) (i e : Nat) (x : Nd) (hx : l[i]? = some x) (he : e ≤ l.length) (hpar : ∀ (j : Nat) (y : Nd), i < j → j < e → l[j]? = some y → (i : Int) ≤ y.parent) (hend : ∀ y, l[e]? = some y → y.parent < (i : Int))
    (args : List Int) (fuel : Int) (y0 y1 y3 y4 y5 : Int) (hsw : swOK x.func L) (v t w d s : Int) (hev : evalOf pdS apS ((swL x.func L).map fnS) args fuel = (x.v, w, t, d, s, 0)) (ht : t = (e : Int) - i) (hwk : w = sumW ((l.take e).drop i)) :
    ∀ (m k : Nat), k + m = e → i < k → ∃ K, plunderlaw6_SerialPart.l0 K fuel (l.map ndS) (i : Int) args ((k : Int) - i) (sumW ((l.take k).drop i)) (k : Int) L y0 y1 x.func y3 y4 y5 x.v = some true := by
  have hsome : ∀ K, plunderlaw6_swapped.f K L x.func = some (swL x.func L) := fun K => by
    unfold plunderlaw6_swapped.f
    rw [if_pos hsw]
  intro m
  induction m with
  | zero =>
    intro k hk hik
    obtain rfl : k = e := by omega
    refine ⟨1, ?_⟩
    simp only [plunderlaw6_SerialPart.l0]
    unfold serial_Eval.f
    by_cases hlt : k < l.length
    · have hy := List.getElem?_eq_getElem hlt
      have hp := hend _ hy
      rw [if_pos (by rw [List.length_map]; omega), if_pos (by omega), rd49_map l k _ hy, if_neg (by show ¬ l[k].parent ≥ (i : Int); omega), hsome, Option.bind_some, Option.bind_some, hev]
      simp only [↓reduceIte]
      rw [if_pos ht, hwk]
      simp
    · rw [if_neg (by rw [List.length_map]; omega), hsome, Option.bind_some, Option.bind_some, hev]
      simp only [↓reduceIte]
      rw [if_pos ht, hwk]
      simp
  | succ m ih =>
    intro k hk hik
    have hlt : k < l.length := by omega
    have hy := List.getElem?_eq_getElem hlt
    have hp := hpar k _ hik (by omega) hy
    obtain ⟨K, hK⟩ := ih (k + 1) (by omega) (by omega)
    have hb := sumW_le l hw i k
    have hb2 := sumW_le l hw i (k + 1)
    have hblk := sumW_block l i k _ (by omega) hy
    have hwy := hw _ (List.getElem_mem hlt)
    rw [hblk] at hK hb2
    have hk4 : k ≤ 4194304 := by omega
    have f3 : (ndS l[k]).f3 = l[k].work := rfl
    have f0 : (ndS l[k]).f0 = l[k].parent := rfl
    have e1 : ((k + 1 : Nat) : Int) - i = (k : Int) - i + 1 := by omega
    rw [e1] at hK
    have a0 : 0 ≤ (k : Int) - i := by omega
    have a4 : (k : Int) - i ≤ 4194304 := by omega
    refine ⟨K + 1, ?_⟩
    simp only [plunderlaw6_SerialPart.l0]
    rw [if_pos (by rw [List.length_map]; omega), if_pos (by omega), rd49_map l k _ hy, f0, if_pos hp, f3, wrap_nat1 k hk4, wrap_int1 _ a0 a4, wrap_sum _ _ hb.1 (by omega) (by omega)]
    exact hK

theorem part_true (L : List S39) (l1 : List Int) (a2 a3 : Int) : ∃ K, plunderlaw6_SerialPart.f K L l1 a2 a3 = some true := by
  rcases both_cases pdS apS (L.map fnS) l1 a2 with ⟨e, he, h1, h2⟩ | ⟨hv, hf0, hf1, harg, rs, v, s, hw, h1, h2⟩
  · refine ⟨1, ?_⟩
    unfold plunderlaw6_SerialPart.f serial_Tree.f
    rw [lives_true, Option.bind_some, if_pos rfl, Option.bind_some, h2]
    simp only
    rw [if_neg he]
    simp only [plunderlaw6_SerialPart.j0, ↓reduceIte]
  obtain ⟨K0, b, hb1, hb2⟩ := asks_true L hv
  have upb : ∀ n, plunderlaw6_asksPed.f (K0 + n) L = some b := fun n => by
    induction n with
    | zero => exact hb1
    | succ n ih => exact plunderlaw6_asksPed.mono _ _ _ ih
  cases hb : b with
  | true =>
    refine ⟨K0 + 1, ?_⟩
    unfold plunderlaw6_SerialPart.f serial_Tree.f
    rw [lives_true, Option.bind_some, if_pos rfl, Option.bind_some, h2]
    simp only [↓reduceIte]
    rw [upb 1, Option.bind_some, hb]
    simp only [plunderlaw6_SerialPart.j0, ↓reduceIte]
  | false =>
    obtain ⟨⟨d, t1, t2⟩, t3, ⟨n0, t4, t5⟩, t6, t7⟩ := whole_tree pdS apS hv _ _ _ _ _ hw
    obtain ⟨a1, a2', a3', a4, a5, a6, a7⟩ := whole_sizes pdS apS _ _ _ _ _ _ hw
    have ef : ((a2.toNat : Nat) : Int) = a2 := by omega
    rw [ef] at t3 a3'
    have hn : rs.nodes.length ≤ 4194304 := by omega
    have hp := t1.pos
    rw [cores_len] at hp
    -- the node
    have htm : 0 ≤ (if Int.tmod a3 (rs.nodes.length : Int) < 0 then Int.tmod a3 (rs.nodes.length : Int) + rs.nodes.length else Int.tmod a3 (rs.nodes.length : Int)) ∧ (if Int.tmod a3 (rs.nodes.length : Int) < 0 then Int.tmod a3 (rs.nodes.length : Int) + rs.nodes.length else Int.tmod a3 (rs.nodes.length : Int)) < rs.nodes.length := by
      have h3 := Int.tmod_lt_of_pos a3 (show (0 : Int) < (rs.nodes.length : Int) by omega)
      have h4 : -(rs.nodes.length : Int) < Int.tmod a3 (rs.nodes.length : Int) := by
        have := Int.lt_tmod_of_pos a3 (show (0 : Int) < (rs.nodes.length : Int) by omega)
        exact this
      split <;> omega
    obtain ⟨i, hi⟩ : ∃ i : Nat, (if Int.tmod a3 (rs.nodes.length : Int) < 0 then Int.tmod a3 (rs.nodes.length : Int) + rs.nodes.length else Int.tmod a3 (rs.nodes.length : Int)) = (i : Int) := ⟨_, (Int.toNat_of_nonneg htm.1).symm⟩
    rw [hi] at htm
    have hil : i < rs.nodes.length := by omega
    have hx := List.getElem?_eq_getElem hil
    generalize hxx : rs.nodes[i] = x at hx
    have hsub : SubRun pdS apS (L.map fnS) rs.nodes i := whole_sub pdS apS hv _ _ _ _ _ hw harg i hil
    have hxf : inR x.func (L.length : Int) := by
      obtain ⟨n, rs0, kid, rs1, v1, s1, x', q1, q2, q3, q4, q5, q6, q7, q8, _⟩ := hsub
      rw [hx] at q6
      injection q6 with q6
      rw [q6, q8]
      have := q4.f
      rw [List.length_map] at this
      exact this
    have hpr : (fnOf (L.map fnS) x.func).params = (rd_T39 L x.func).f0 := by rw [fnOf_maps L _ hxf]; rfl
    have hsh := (hv.each _ (fnOf_mem (P := L.map fnS) (by rw [List.length_map]; exact hxf))).shape
    unfold shapeOK at hsh
    have hsw := swOK_valid hv hxf
    have hj1 : ∀ K, plunderlaw6_SerialPart.j1 (K + 1) a2 (rs.nodes.map ndS) (i : Int) L = plunderlaw6_SerialPart.j2 K a2 (rs.nodes.map ndS) (i : Int) false L x.parent x.index x.func x.work x.ped x.arg x.v := fun K => by
      simp only [plunderlaw6_SerialPart.j1]
      have f2 : (ndS x).f2 = x.func := rfl
      have g0 := hxf.1
      have g1 := hxf.2
      rw [if_pos (by omega), if_pos (by rw [List.length_map]; omega), rd49_map rs.nodes i x hx, f2, if_neg (by omega), decide_eq_false (by omega)]
      rfl
    have hfin : ∃ K, plunderlaw6_SerialPart.j2 K a2 (rs.nodes.map ndS) (i : Int) false L x.parent x.index x.func x.work x.ped x.arg x.v = some true := by
      have g0 := hxf.1
      have g1 := hxf.2
      by_cases hp1 : (fnOf (L.map fnS) x.func).params ≤ 1
      · obtain ⟨e, rs3, s3, b1, b2, b3, b4, b5, b6, b7⟩ := part_whole pdS apS (fuel := a2.toNat) hv (hb2 hb) hsub hx (swL_swap x.func L hsw) hp1 _ rfl (fun e _ _ => by
          have := sumW_le rs.nodes t6 i e
          omega)
        generalize hA : (if (fnOf (L.map fnS) x.func).params = 1 then [x.arg] else []) = args at b5
        have hP2v := (swL_swap x.func L hsw).valid hv
        have hen : (fnOf ((swL x.func L).map fnS) 0).params = (fnOf (L.map fnS) x.func).params := by
          have e0 : sg x.func x.func = 0 := by
            unfold sg
            split
            · assumption
            · rw [if_pos rfl]
          have := (swL_swap x.func L hsw).at_ x.func (by rw [List.length_map]; exact hxf)
          rw [e0] at this
          rw [this]
          rfl
        have hal : (args.length : Int) = (fnOf ((swL x.func L).map fnS) 0).params := by
          rw [hen, ← hA]
          by_cases h1p : (fnOf (L.map fnS) x.func).params = 1
          · rw [if_pos h1p, h1p]; rfl
          · rw [if_neg h1p]
            show ((0 : Nat) : Int) = _
            omega
        have hev : evalOf pdS apS ((swL x.func L).map fnS) args a2 = (x.v, a2 - (rs3.left : Int), rs3.tasks, rs3.deepest, s3, 0) := by
          unfold evalOf
          rw [if_neg (by rw [(validB_iff _).2 hP2v]; decide), if_neg (by intro h; exact h hal), if_neg (by omega), b5]
        obtain ⟨K, hK⟩ := part_l0 L hn t6 (by omega) i e x hx b2 b3 b4 args a2 x.parent x.index x.work x.ped x.arg hsw 0 _ _ _ _ hev b7 (by rw [← b6]; omega) (e - (i + 1)) (i + 1) (by omega) (by omega)
        have hw1 : sumW ((rs.nodes.take (i + 1)).drop i) = x.work := by
          rw [sumW_block rs.nodes i i x (Nat.le_refl _) hx]
          have : (rs.nodes.take i).drop i = [] := List.drop_eq_nil_of_le (by rw [List.length_take]; omega)
          rw [this]
          show (0 : Int) + x.work = x.work
          omega
        have hi4 : i ≤ 4194304 := by omega
        rw [hw1, show ((i + 1 : Nat) : Int) - (i : Int) = 1 by omega] at hK
        have hj3 : plunderlaw6_SerialPart.j3 (K + 1) a2 (rs.nodes.map ndS) (i : Int) args L x.parent x.index x.func x.work x.ped x.arg x.v = some true := by
          simp only [plunderlaw6_SerialPart.j3]
          rw [wrap_nat1 i hi4]
          exact hK
        refine ⟨K + 2, ?_⟩
        simp only [plunderlaw6_SerialPart.j2, Bool.false_eq_true, ↓reduceIte]
        rw [if_pos g0, if_pos g1, ← hpr]
        by_cases h1p : (fnOf (L.map fnS) x.func).params = 1
        · rw [if_pos h1p, if_pos (by decide)]
          rw [if_pos h1p] at hA
          rw [List.nil_append, hA]
          exact hj3
        · rw [if_neg h1p, if_neg (by omega)]
          rw [if_neg h1p] at hA
          rw [hA]
          exact hj3
      · refine ⟨1, ?_⟩
        simp only [plunderlaw6_SerialPart.j2, Bool.false_eq_true, ↓reduceIte]
        rw [if_pos g0, if_pos g1, ← hpr, if_neg (by omega), if_pos (by omega)]
    obtain ⟨K1, hK1⟩ := hfin
    have up1 : ∀ n, plunderlaw6_SerialPart.j2 (K1 + n) a2 (rs.nodes.map ndS) (i : Int) false L x.parent x.index x.func x.work x.ped x.arg x.v = some true := fun n => by
      induction n with
      | zero => exact hK1
      | succ n ih => exact (plunderlaw6_SerialPart.mono_l _).2.2.1 _ _ _ _ _ _ _ _ _ _ _ _ _ ih
    refine ⟨K0 + (K1 + 2), ?_⟩
    unfold plunderlaw6_SerialPart.f serial_Tree.f
    rw [lives_true, Option.bind_some, if_pos rfl, Option.bind_some, h2]
    simp only [↓reduceIte]
    rw [upb, Option.bind_some, hb]
    have ek : K0 + (K1 + 2) = (K1 + K0 + 1) + 1 := by omega
    rw [ek]
    simp only [plunderlaw6_SerialPart.j0, Bool.false_eq_true, ↓reduceIte]
    rw [if_neg (by rw [List.length_map]; omega), List.length_map]
    by_cases hneg : Int.tmod a3 (rs.nodes.length : Int) < 0
    · rw [if_pos hneg]
      rw [if_pos hneg] at hi
      have hwr : wrap64 (Int.tmod a3 (rs.nodes.length : Int) + (rs.nodes.length : Int)) = (i : Int) := by
        rw [hi]
        exact Go.IntWalk.wrap64_in _ (by omega)
      rw [hwr, hj1]
      exact up1 K0
    · rw [if_neg hneg]
      rw [if_neg hneg] at hi
      rw [hi, hj1]
      exact up1 K0

end Go.Proofs.YtcioegimmjppcaaDoor.P
