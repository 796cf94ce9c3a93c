/- Plain law of serial runs, part U: the fan. -/
import Derived.Test.YtcioegimmjppcaaDoorZSerE
import Derived.Test.YtcioegimmjppcaaDoorZJA
namespace Go.Proofs.YtcioegimmjppcaaDoor.P
set_option linter.unusedVariables false

def fanRoot (kids : Nat) : List Ins := (List.range kids).map (fun i : Nat => (⟨5, (i : Int), 1, 0, 0⟩ : Ins)) ++ [⟨6, 0, 0, 0, 0⟩, ⟨9, 0, 0, 0, 0⟩]
def fanLeaf (moves : Nat) : List Ins := List.replicate moves ⟨1, 0, 0, 0, 0⟩ ++ [⟨8, 0, 0, 0, 0⟩, ⟨9, 0, 0, 0, 0⟩]
def fanF (kids moves : Nat) : List Fn := [⟨0, 1, (kids : Int), fanRoot kids⟩, ⟨0, 1, 0, fanLeaf moves⟩]

theorem leaf_at (kids moves j : Nat) (h : j < moves) : insOf (fanF kids moves) 1 (j : Int) = ⟨1, 0, 0, 0, 0⟩ := by
  show (fanLeaf moves).getD ((j : Int).toNat) default = _
  unfold fanLeaf
  rw [Int.toNat_natCast, List.getD_eq_getElem?_getD, List.getElem?_append_left (by simpa using h), List.getElem?_replicate, if_pos h]
  rfl
theorem leaf_ped (kids moves : Nat) : insOf (fanF kids moves) 1 (moves : Int) = ⟨8, 0, 0, 0, 0⟩ := by
  show (fanLeaf moves).getD ((moves : Int).toNat) default = _
  unfold fanLeaf
  rw [Int.toNat_natCast, List.getD_eq_getElem?_getD, List.getElem?_append_right (by simp)]
  simp
theorem leaf_ret (kids moves : Nat) : insOf (fanF kids moves) 1 ((moves : Int) + 1) = ⟨9, 0, 0, 0, 0⟩ := by
  show (fanLeaf moves).getD (((moves : Int) + 1).toNat) default = _
  unfold fanLeaf
  rw [show ((moves : Int) + 1).toNat = moves + 1 by omega, List.getD_eq_getElem?_getD, List.getElem?_append_right (by simp)]
  simp
theorem root_at (kids moves j : Nat) (h : j < kids) : insOf (fanF kids moves) 0 (j : Int) = ⟨5, (j : Int), 1, 0, 0⟩ := by
  show (fanRoot kids).getD ((j : Int).toNat) default = _
  unfold fanRoot
  rw [Int.toNat_natCast, List.getD_eq_getElem?_getD, List.getElem?_append_left (by simpa using h), List.getElem?_map, List.getElem?_range h]
  rfl
theorem root_sync (kids moves : Nat) : insOf (fanF kids moves) 0 (kids : Int) = ⟨6, 0, 0, 0, 0⟩ := by
  show (fanRoot kids).getD ((kids : Int).toNat) default = _
  unfold fanRoot
  rw [Int.toNat_natCast, List.getD_eq_getElem?_getD, List.getElem?_append_right (by simp)]
  simp
theorem root_ret (kids moves : Nat) : insOf (fanF kids moves) 0 ((kids : Int) + 1) = ⟨9, 0, 0, 0, 0⟩ := by
  show (fanRoot kids).getD (((kids : Int) + 1).toNat) default = _
  unfold fanRoot
  rw [show ((kids : Int) + 1).toNat = kids + 1 by omega, List.getD_eq_getElem?_getD, List.getElem?_append_right (by simp)]
  simp

/-- a leaf, from a place on -/
theorem leaf_run (pd : Int → Int → Int) (ap : Int → Int → Int → Int) (kids moves : Nat) : ∀ (m k : Nat) (rs : RS) (t : TS) (self j : Nat), j + m = moves → t.f = 1 → t.ends = [] → m + 2 ≤ rs.left → rs.left < k →
    ∃ rs' v, loop pd ap (fanF kids moves) k rs t (j : Int) self = .done rs' v (t.c + m + 2) ∧ rs'.left = rs.left - (m + 2) ∧ rs'.tasks = rs.tasks ∧ rs'.deepest = rs.deepest := by
  intro m
  induction m with
  | zero =>
    intro k rs t self j hj hf he hl hk
    obtain ⟨k, rfl⟩ : ∃ k', k = k' + 2 := ⟨k - 2, by omega⟩
    obtain rfl : j = moves := by omega
    rw [loop_go pd ap _ (k + 1) rs t _ _ (by omega) ⟨8, 0, 0, 0, 0⟩ (by rw [hf]; exact leaf_ped kids j) (by decide) (by decide)]
    have p1 : plainAt (tick t ⟨8, 0, 0, 0, 0⟩) ⟨8, 0, 0, 0, 0⟩ (j : Int) = (j : Int) + 1 := rfl
    rw [p1]
    have f1 : (plainT ap (tick t ⟨8, 0, 0, 0, 0⟩) ⟨8, 0, 0, 0, 0⟩).f = 1 := hf
    have c1 : (plainT ap (tick t ⟨8, 0, 0, 0, 0⟩) ⟨8, 0, 0, 0, 0⟩).c = t.c + 1 := rfl
    rw [loop_ret pd ap _ k _ _ _ _ (by simp only; omega) ⟨9, 0, 0, 0, 0⟩ (by rw [f1]; exact leaf_ret kids j) rfl, c1]
    rw [show t.c + 1 + 1 = t.c + (0 : Nat) + 2 by omega]
    exact ⟨_, _, rfl, by simp only [leave]; omega, rfl, rfl⟩
  | succ m ih =>
    intro k rs t self j hj hf he hl hk
    obtain ⟨k, rfl⟩ : ∃ k', k = k' + 1 := ⟨k - 1, by omega⟩
    rw [loop_go pd ap _ k rs t _ _ (by omega) ⟨1, 0, 0, 0, 0⟩ (by rw [hf]; exact leaf_at kids moves j (by omega)) (by decide) (by decide)]
    have p1 : plainAt (tick t ⟨1, 0, 0, 0, 0⟩) ⟨1, 0, 0, 0, 0⟩ (j : Int) = ((j + 1 : Nat) : Int) := by
      show (j : Int) + 1 = _
      omega
    rw [p1]
    have f1 : (plainT ap (tick t ⟨1, 0, 0, 0, 0⟩) ⟨1, 0, 0, 0, 0⟩).f = 1 := hf
    have c1 : (plainT ap (tick t ⟨1, 0, 0, 0, 0⟩) ⟨1, 0, 0, 0, 0⟩).c = t.c + 1 := rfl
    have d1 : (plainT ap (tick t ⟨1, 0, 0, 0, 0⟩) ⟨1, 0, 0, 0, 0⟩).ends = [] := he
    obtain ⟨rs', v, e1, e2, e3, e4⟩ := ih k { rs with left := rs.left - 1 } _ self (j + 1) (by omega) f1 d1 (by simp only; omega) (by simp only; omega)
    refine ⟨rs', v, ?_, by simp only at e2; omega, e3, e4⟩
    rw [e1, c1, show t.c + 1 + (m : Int) + 2 = t.c + ((m + 1 : Nat) : Int) + 2 by omega]

/-- the root, from a spawn on -/
theorem root_run (pd : Int → Int → Int) (ap : Int → Int → Int → Int) (kids moves : Nat) : ∀ (m k : Nat) (rs : RS) (t : TS) (j : Nat), j + m = kids → 1 ≤ kids → t.f = 0 → t.c = j → t.depth = 1 → t.regs = fill 16 [] → 1 ≤ rs.tasks → 1 ≤ rs.deepest → rs.deepest ≤ 2 →
    (j = 0 → t.ends = [] ∧ rs.deepest = 1) → (1 ≤ j → rs.deepest = 2 ∧ maxL j t.ends = (j : Int) + moves + 2) → m * (moves + 3) + 2 ≤ rs.left → rs.left < k →
    ∃ rs', loop pd ap (fanF kids moves) k rs t (j : Int) 0 = .done rs' 0 ((kids : Int) + moves + 2 + 2) ∧ rs'.left = rs.left - (m * (moves + 3) + 2) ∧ rs'.tasks = rs.tasks + m ∧ rs'.deepest = 2 := by
  intro m
  induction m with
  | zero =>
    intro k rs t j hj h1 hf hc hd hr ht q1 q2 h0 hj1 hl hk
    obtain ⟨k, rfl⟩ : ∃ k', k = k' + 2 := ⟨k - 2, by omega⟩
    obtain rfl : j = kids := by omega
    have hend := hj1 h1
    rw [loop_go pd ap _ (k + 1) rs t _ _ (by omega) ⟨6, 0, 0, 0, 0⟩ (by rw [hf]; exact root_sync j moves) (by decide) (by decide)]
    have p1 : plainAt (tick t ⟨6, 0, 0, 0, 0⟩) ⟨6, 0, 0, 0, 0⟩ (j : Int) = (j : Int) + 1 := rfl
    rw [p1]
    have f1 : (plainT ap (tick t ⟨6, 0, 0, 0, 0⟩) ⟨6, 0, 0, 0, 0⟩).f = 0 := hf
    have c1 : (plainT ap (tick t ⟨6, 0, 0, 0, 0⟩) ⟨6, 0, 0, 0, 0⟩).c = (j : Int) + moves + 2 + 1 := by
      show maxL t.c t.ends + 1 = _
      rw [hc, hend.2]
    have r1 : gi (plainT ap (tick t ⟨6, 0, 0, 0, 0⟩) ⟨6, 0, 0, 0, 0⟩).regs 0 = 0 := by
      show gi t.regs 0 = 0
      rw [hr]
      rfl
    rw [loop_ret pd ap _ k _ _ _ _ (by simp only; omega) ⟨9, 0, 0, 0, 0⟩ (by rw [f1]; exact root_ret j moves) rfl, c1]
    have r2 : gi (plainT ap (tick t ⟨6, 0, 0, 0, 0⟩) ⟨6, 0, 0, 0, 0⟩).regs (⟨9, 0, 0, 0, 0⟩ : Ins).a = 0 := r1
    rw [r2]
    rw [show (j : Int) + moves + 2 + 1 + 1 = j + moves + 2 + 2 by omega]
    exact ⟨_, rfl, by simp only [leave]; omega, by simp [leave], hend.1⟩
  | succ m ih =>
    intro k rs t j hj h1 hf hc hd hr ht q1 q2 h0 hj1 hl hk
    obtain ⟨k, rfl⟩ : ∃ k', k = k' + 1 := ⟨k - 1, by omega⟩
    have hm : (m + 1) * (moves + 3) = m * (moves + 3) + (moves + 3) := by rw [Nat.add_mul, Nat.one_mul]
    have hi : insOf (fanF kids moves) t.f (j : Int) = ⟨5, (j : Int), 1, 0, 0⟩ := by rw [hf]; exact root_at kids moves j (by omega)
    obtain ⟨rs2, v, e1, e2, e3, e4⟩ := leaf_run pd ap kids moves moves k (enter (fanF kids moves) { rs with left := rs.left - 1 } (kidOf pd (fanF kids moves) (tick t ⟨5, (j : Int), 1, 0, 0⟩) ⟨5, (j : Int), 1, 0, 0⟩) (0 : Nat) t.kids)
      (kidOf pd (fanF kids moves) (tick t ⟨5, (j : Int), 1, 0, 0⟩) ⟨5, (j : Int), 1, 0, 0⟩) rs.nodes.length 0 (by omega) rfl rfl (by simp only [enter]; omega) (by simp only [enter]; omega)
    have hks : (kidOf pd (fanF kids moves) (tick t ⟨5, (j : Int), 1, 0, 0⟩) ⟨5, (j : Int), 1, 0, 0⟩).c = 0 := rfl
    have hkd : (kidOf pd (fanF kids moves) (tick t ⟨5, (j : Int), 1, 0, 0⟩) ⟨5, (j : Int), 1, 0, 0⟩).depth = 2 := by
      show t.depth + 1 = 2
      rw [hd]
      rfl
    rw [hks] at e1
    have e1' := loop_spawn_done pd ap (fanF kids moves) k rs t (j : Int) 0 (by omega) ⟨5, (j : Int), 1, 0, 0⟩ hi rfl (by rw [hd]; decide) rs2 v _ e1
    rw [e1']
    simp only [enter, hkd] at e2 e3 e4
    have hcc : (tick t ⟨5, (j : Int), 1, 0, 0⟩).c = (j : Int) + 1 := by
      show t.c + 1 = _
      rw [hc]
    obtain ⟨rs', g1, g2, g3, g4⟩ := ih k rs2 { tick t ⟨5, (j : Int), 1, 0, 0⟩ with kids := t.kids + 1, slots := si t.slots (⟨5, (j : Int), 1, 0, 0⟩ : Ins).a v, ends := t.ends ++ [(tick t ⟨5, (j : Int), 1, 0, 0⟩).c + (0 + (moves : Int) + 2)] } (j + 1)
      (by omega) h1 hf (by show t.c + 1 = _; omega) hd hr (by omega) (by omega) (by omega) (fun h => by omega)
      (fun _ => by
        refine ⟨by omega, ?_⟩
        show maxL ((j + 1 : Nat) : Int) (t.ends ++ [(tick t ⟨5, (j : Int), 1, 0, 0⟩).c + (0 + (moves : Int) + 2)]) = _
        rw [maxL_app, hcc]
        have hle : maxL ((j + 1 : Nat) : Int) t.ends ≤ (j : Int) + 1 + moves + 2 := by
          by_cases hz : j = 0
          · rw [(h0 hz).1]
            show ((j + 1 : Nat) : Int) ≤ _
            omega
          · have := (hj1 (by omega)).2
            have h9 := maxL_add t.ends (j : Int)
            rw [show ((j + 1 : Nat) : Int) = (j : Int) + 1 by omega]
            omega
        omega) (by omega) (by omega)
    refine ⟨rs', ?_, by omega, by omega, g4⟩
    rw [show ((j : Int) + 1) = ((j + 1 : Nat) : Int) by omega]
    exact g1

/-- the leaf may be -/
theorem leaf_ok (kids moves : Nat) (h : moves ≤ 510) : FnOK (fanF kids moves) ⟨0, 1, 0, fanLeaf moves⟩ := by
  have hlen : (fanLeaf moves).length = moves + 2 := by simp [fanLeaf]
  refine ⟨?_, fun i hi => ?_, ?_, fun slot hs => ?_⟩
  · unfold shapeOK
    simp only [hlen]
    omega
  · unfold fanLeaf at hi
    rcases List.mem_append.1 hi with h1 | h1
    · obtain rfl := List.eq_of_mem_replicate h1
      unfold insOK inR
      simp only
      omega
    · simp only [List.mem_cons, List.not_mem_nil, or_false] at h1
      rcases h1 with rfl | rfl <;> (unfold insOK inR; simp only; omega)
  · unfold lastOK
    right
    simp only [hlen]
    have := leaf_ret kids moves
    unfold insOf at this
    rw [show ((moves : Int) + 1).toNat = moves + 2 - 1 by omega] at this
    exact congrArg Ins.kind this
  · exfalso
    have h1 := hs.1
    have h2 := hs.2
    simp only at h2
    omega

theorem root_ok (kids moves : Nat) (h1 : 1 ≤ kids) (h8 : kids ≤ 8) : FnOK (fanF kids moves) ⟨0, 1, (kids : Int), fanRoot kids⟩ := by
  have hc : kids = 1 ∨ kids = 2 ∨ kids = 3 ∨ kids = 4 ∨ kids = 5 ∨ kids = 6 ∨ kids = 7 ∨ kids = 8 := by omega
  have hin : ∀ i ∈ fanRoot kids, insOK (fanF kids moves) ⟨0, 1, (kids : Int), fanRoot kids⟩ i := fun i hi => by
    unfold fanRoot at hi
    rcases List.mem_append.1 hi with h2 | h2
    · obtain ⟨j, hj, rfl⟩ := List.mem_map.1 h2
      have hlt := List.mem_range.1 hj
      have hp : (fnOf (fanF kids moves) 1).params = 0 := rfl
      have hL : (fanF kids moves).length = 2 := rfl
      unfold insOK inR
      simp only [hp, hL]
      omega
    · simp only [List.mem_cons, List.not_mem_nil, or_false] at h2
      rcases h2 with rfl | rfl <;> (unfold insOK inR; simp only; omega)
  have hs : shapeOK ⟨0, 1, (kids : Int), fanRoot kids⟩ := by
    have hlen : (fanRoot kids).length = kids + 2 := by simp [fanRoot]
    unfold shapeOK
    simp only [hlen]
    omega
  refine ⟨hs, hin, ?_, ?_⟩
  · rcases hc with rfl | rfl | rfl | rfl | rfl | rfl | rfl | rfl <;> exact Or.inr rfl
  · refine (flowB_iff (placed_of hs hin)).1 ?_
    rcases hc with rfl | rfl | rfl | rfl | rfl | rfl | rfl | rfl <;> rfl

theorem fan_valid (kids moves : Nat) (h1 : 1 ≤ kids) (h8 : kids ≤ 8) (hm : moves ≤ 510) : validB (fanF kids moves) = true := by
  refine (validB_iff _).2 ⟨by show 1 ≤ 2; decide, by show 2 ≤ 32; decide, fun f hf => ?_⟩
  unfold fanF at hf
  simp only [List.mem_cons, List.not_mem_nil, or_false] at hf
  rcases hf with rfl | rfl
  · exact root_ok kids moves h1 h8
  · exact leaf_ok kids moves hm

theorem fan_whole (pd : Int → Int → Int) (ap : Int → Int → Int → Int) (kids moves : Nat) (h1 : 1 ≤ kids) (h8 : kids ≤ 8) (hm : moves ≤ 510) :
    ∃ rs, whole pd ap (fanF kids moves) [] 4194304 = .done rs 0 ((kids : Int) + moves + 2 + 2) ∧ 4194304 - (rs.left : Int) = kids + 2 + kids * (moves + 2) ∧ rs.tasks = kids + 1 ∧ rs.deepest = 2 := by
  unfold whole
  have hb : kids * (moves + 3) ≤ 8 * 513 := Nat.mul_le_mul h8 (by omega)
  obtain ⟨rs, e1, e2, e3, e4⟩ := root_run pd ap kids moves kids (4194304 + 1) (enter (fanF kids moves) ⟨4194304, 0, 0, []⟩ (root []) (-1) 0) (root []) 0 (by omega) h1 rfl rfl rfl rfl (by simp only [enter]; omega) (by simp only [enter, root]; omega) (by simp only [enter, root]; omega)
    (fun _ => ⟨rfl, rfl⟩) (fun h => by omega) (by simp only [enter]; omega) (by simp only [enter]; omega)
  refine ⟨rs, e1, ?_, by simp only [enter] at e3; omega, e4⟩
  simp only [enter] at e2
  have hx : (kids : Int) * ((moves : Int) + 2) = ((kids * (moves + 2) : Nat) : Int) := by
    rw [Int.natCast_mul]
    rfl
  have hy : kids * (moves + 3) = kids * (moves + 2) + kids := by
    rw [show moves + 3 = (moves + 2) + 1 by omega, Nat.mul_add, Nat.mul_one]
  rw [hx]
  omega

end Go.Proofs.YtcioegimmjppcaaDoor.P
