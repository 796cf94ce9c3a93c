/- Plain law, part H: the greedy times by rounds, and that the document's Greedy comes to them. -/
import Derived.Test.YtbahnialbffkeaaDagG
namespace Go.Proofs.Ytbahnialbffkeaa.P
open Go.RowKit Go.Proofs.YtbahnialbffkeaaW.PrintWords Go.Proofs.YtbahnialbffkeaaW.PrintLast Go.Proofs.YtbahnialbffkeaaW.PrintMore
set_option linter.unusedVariables false
/-- the nodes that are not done -/
def U (n : Nat) (T : List Int) : List Int := (nodes n).filter (fun i => decide (rd T i = 0))
def rnd (n : Nat) (l : List S50) (p : Int) (T : List Int) (t : Int) : List Int := setT T t ((S0 n l T).take p.toNat)
/-- the greedy times, from some time on -/
def gr (n : Nat) (l : List S50) (p : Int) : Nat → List Int → Int → List Int
  | 0, T, _ => T
  | d + 1, T, t => if S0 n l T = [] then T else gr n l p d (rnd n l p T t) (t + 1)
theorem nodes_lt (n : Nat) : (nodes n).Pairwise (· < ·) := by
  unfold nodes
  rw [List.pairwise_map]
  exact List.Pairwise.imp (fun h => by omega) List.pairwise_lt_range
theorem nodup_of_lt {l : List Int} (h : l.Pairwise (· < ·)) : l.Nodup := List.Pairwise.imp (fun h e => by omega) h
theorem S0_lt (n : Nat) (l : List S50) (T : List Int) : (S0 n l T).Pairwise (· < ·) := (nodes_lt n).filter _
theorem mem_U {n : Nat} {T : List Int} {i : Int} : i ∈ U n T ↔ 0 ≤ i ∧ i < (n : Int) ∧ rd T i = 0 := by
  unfold U
  simp only [List.mem_filter, mem_nodes, decide_eq_true_eq, and_assoc]
theorem U_nodup (n : Nat) (T : List Int) : (U n T).Nodup := nodup_of_lt ((nodes_lt n).filter _)
theorem U_len (n : Nat) (T : List Int) : (U n T).length ≤ n := by
  have := List.length_filter_le (fun i => decide (rd T i = 0)) (nodes n)
  simpa [U, nodes] using this
theorem take_mem_S0 {n : Nat} {l : List S50} {T : List Int} {m : Nat} {x : Int} (h : x ∈ (S0 n l T).take m) : x ∈ S0 n l T := List.mem_of_mem_take h
theorem rd_rnd {n : Nat} {l : List S50} {p : Int} {T : List Int} {t : Int} (hT : T.length = n) (k : Int) (h0 : 0 ≤ k) (h1 : k < (n : Int)) :
    rd (rnd n l p T t) k = if k ∈ (S0 n l T).take p.toNat then t else rd T k := by
  unfold rnd
  rw [rd_setT t _ (fun x hx => (mem_S0.mp (take_mem_S0 hx)).1) k h0]
  by_cases h : k ∈ (S0 n l T).take p.toNat
  · rw [if_pos ⟨h, by omega⟩, if_pos h]
  · rw [if_neg (fun h2 => h h2.1), if_neg h]
theorem rnd_length (n : Nat) (l : List S50) (p : Int) (T : List Int) (t : Int) : (rnd n l p T t).length = T.length := setT_length _ _ _
theorem U_rnd (n : Nat) (l : List S50) (p : Int) (T : List Int) (t : Int) (hT : T.length = n) (ht : 1 ≤ t) : (U n T).length = ((S0 n l T).take p.toNat).length + (U n (rnd n l p T t)).length := by
  rw [← List.length_append]
  refine List.Perm.length_eq ((List.perm_ext_iff_of_nodup (U_nodup n T) ?_).mpr ?_)
  · rw [List.nodup_append]
    refine ⟨(nodup_of_lt ((S0_lt n l T).sublist (List.take_sublist _ _))), U_nodup _ _, ?_⟩
    rintro x hx y hy rfl
    have h1 := mem_U.mp hy
    rw [rd_rnd hT x h1.1 h1.2.1, if_pos hx] at h1
    omega
  · intro i
    rw [List.mem_append]
    constructor
    · intro h
      have h1 := mem_U.mp h
      by_cases h2 : i ∈ (S0 n l T).take p.toNat
      · exact .inl h2
      · exact .inr (mem_U.mpr ⟨h1.1, h1.2.1, by rw [rd_rnd hT i h1.1 h1.2.1, if_neg h2]; exact h1.2.2⟩)
    · rintro (h | h)
      · have h1 := mem_S0.mp (take_mem_S0 h)
        exact mem_U.mpr ⟨h1.1, h1.2.1, h1.2.2.1⟩
      · have h1 := mem_U.mp h
        refine mem_U.mpr ⟨h1.1, h1.2.1, ?_⟩
        have h2 := h1.2.2
        rw [rd_rnd hT i h1.1 h1.2.1] at h2
        split at h2
        · omega
        · exact h2
/-- where one is not done, one is ready -/
theorem some_ready (n : Nat) (l : List S50) (hok : ∀ e ∈ l, okE (n : Int) e) (T : List Int) : ∀ i : Nat, i < n → rd T (i : Int) = 0 → S0 n l T ≠ [] := by
  intro i
  induction i using Nat.strongRecOn with
  | _ i ih =>
    intro hi hz
    by_cases hc : cnt l T (i : Int) = 0
    · exact List.ne_nil_of_mem (mem_S0.mpr ⟨by omega, by omega, hz, hc⟩)
    · have h1 : ¬ ∀ k ∈ preds l i, rd T k ≠ 0 := fun h => hc ((cnt_zero l T i).mpr h)
      simp only [Classical.not_forall] at h1
      obtain ⟨k, hk, h2⟩ := h1
      have h3 : rd T k = 0 := Classical.not_not.mp h2
      obtain ⟨e, he, a1, a2⟩ := preds_mem hk
      obtain ⟨b1, b2, b3⟩ := hok e he
      have hk0 : ((k.toNat : Nat) : Int) = k := by omega
      exact ih k.toNat (by omega) (by omega) (by rw [hk0]; exact h3)
theorem S0_nil_iff (n : Nat) (l : List S50) (hok : ∀ e ∈ l, okE (n : Int) e) (T : List Int) : S0 n l T = [] ↔ (U n T).length = 0 := by
  rw [List.length_eq_zero_iff]
  constructor
  · intro h
    rw [List.eq_nil_iff_forall_not_mem]
    intro i hi
    have h1 := mem_U.mp hi
    have hi0 : ((i.toNat : Nat) : Int) = i := by omega
    exact some_ready n l hok T i.toNat (by omega) (by rw [hi0]; exact h1.2.2) h
  · intro h
    rw [List.eq_nil_iff_forall_not_mem]
    intro i hi
    have h1 := mem_S0.mp hi
    have h2 : i ∈ U n T := mem_U.mpr ⟨h1.1, h1.2.1, h1.2.2.1⟩
    rw [h] at h2
    cases h2
theorem rnd_bd {n : Nat} {l : List S50} {p : Int} {T : List Int} {t : Int} (hT : T.length = n) (ht : 1 ≤ t) (hTt : ∀ k, 0 ≤ k → k < (n : Int) → 0 ≤ rd T k ∧ rd T k < t) : ∀ k, 0 ≤ k → k < (n : Int) → 0 ≤ rd (rnd n l p T t) k ∧ rd (rnd n l p T t) k < t + 1 := by
  intro k h0 h1
  have := hTt k h0 h1
  rw [rd_rnd hT k h0 h1]
  split <;> omega
theorem refG_l0 (n : Nat) (l : List S50) (hok : ∀ e ∈ l, okE (n : Int) e) (hl : l.length < 1099511627776) (hn : n ≤ 4096) (p : Int) (hp1 : 1 ≤ p) (hp2 : p ≤ 64) : ∀ (d : Nat) (T : List Int) (t : Int), (U n T).length ≤ d → T.length = n → 1 ≤ t → t + d ≤ 5000 → (∀ k, 0 ≤ k → k < (n : Int) → 0 ≤ rd T k ∧ rd T k < t) →
    Ev (fun k => plunderref7_Greedy.l0 k p (rowsOf n l) T ((n : Int) - ((U n T).length : Int)) t (n : Int) l) (gr n l p d T t, 0) := by
  intro d
  induction d with
  | zero =>
    intro T t hU hT ht htd hTt
    refine Ev.step (f := fun _ => some (T, 0)) (fun k => ?_) (Ev.now _)
    simp only [plunderref7_Greedy.l0]
    rw [if_neg (by omega)]
  | succ d ih =>
    intro T t hU hT ht htd hTt
    have hUn := U_len n T
    by_cases h0 : (U n T).length = 0
    · refine Ev.step (f := fun _ => some (T, 0)) (fun k => ?_) ?_
      · simp only [plunderref7_Greedy.l0]
        rw [if_neg (by omega)]
      · rw [gr, if_pos ((S0_nil_iff n l hok T).mpr h0)]
        exact Ev.now _
    · have hne : S0 n l T ≠ [] := fun h => h0 ((S0_nil_iff n l hok T).mp h)
      have hpos : 1 ≤ ((S0 n l T).take p.toNat).length := by
        rw [List.length_take]
        have := List.length_pos_iff.mpr hne
        omega
      have hUr := U_rnd n l p T t hT ht
      have hih := ih (rnd n l p T t) (t + 1) (by omega) (by rw [rnd_length]; exact hT) (by omega) (by omega) (rnd_bd hT ht hTt)
      refine Ev.step (f := fun k => plunderref7_Greedy.l1 k p (rowsOf n l) T ((n : Int) - ((U n T).length : Int)) t 0 0 (n : Int) l) (fun k => ?_) ?_
      · simp only [plunderref7_Greedy.l0]
        rw [if_pos (by omega)]
      · rw [gr, if_neg hne]
        have hz : S0 0 l T = [] := by simp [S0, nodes]
        have h1 := refG_l1 n l hok hl hn p hp1 hp2 T hT t ht (fun k a b => (hTt k a b).2) ((n : Int) - ((U n T).length : Int)) (gr n l p d (rnd n l p T t) (t + 1), 0) (by
          rw [w64 (x := t + 1) (by omega) (by omega), w64 (by omega) (by omega)]
          have e : (n : Int) - ((U n T).length : Int) + (((S0 n l T).take p.toNat).length : Int) = (n : Int) - ((U n (rnd n l p T t)).length : Int) := by omega
          rw [e]
          exact hih) n 0 (by omega)
        rw [hz] at h1
        simpa [setT] using h1
end Go.Proofs.Ytbahnialbffkeaa.P
