/- Plain law, part V: the measures that the laws take of a schedule, and what Judge says of a greedy one. -/
import Derived.Test.YtbahnialbffkeaaGPx2
import Derived.Test.YtbahnialbffkeaaGPx0
import Derived.Test.YtbahnialbffkeaaGPx1
import Derived.Laws.Slices
import Derived.Lib.Hide
import Derived.Test.YtbahnialbffkeaaGPx7
import Derived.Test.YtbahnialbffkeaaGGreedyF
import Derived.Test.YtbahnialbffkeaaGJA
import Derived.Test.YtbahnialbffkeaaGJudge
import Derived.Test.YtbahnialbffkeaaGPx11
import Derived.Test.YtbahnialbffkeaaGPx6
import Derived.Test.YtbahnialbffkeaaGPx18
import Derived.Test.YtbahnialbffkeaaGPx23
import Derived.Test.YtbahnialbffkeaaGPx24
namespace Go.Proofs.Ytbahnialbffkeaa.P
open Go.RowKit Go.Proofs.YtbahnialbffkeaaW.PrintWords Go.Proofs.YtbahnialbffkeaaW.PrintLast Go.Proofs.YtbahnialbffkeaaW.PrintMore
set_option linter.unusedVariables false

theorem w64 {x : Int} (h0 : -9223372036854775808 ≤ x) (h1 : x ≤ 9223372036854775807) : wrap64 x = x := by
  unfold wrap64; omega
theorem w64s {j : Nat} (h1 : j < 4611686018427387904) : wrap64 ((j : Int) + 1) = ((j + 1 : Nat) : Int) := by
  unfold wrap64; omega
theorem rd50 (l : List S50) (j : Nat) (h : j < l.length) : rd_T50 l (j : Int) = l[j] := by
  unfold rd_T50
  simp [List.getD_eq_getElem?_getD, List.getElem?_eq_getElem h]
theorem rdi (l : List Int) (j : Nat) (h : j < l.length) : rd l (j : Int) = l[j] := by
  unfold rd
  simp [List.getD_eq_getElem?_getD, List.getElem?_eq_getElem h]

/-- an edge by the rule -/
def okE (n : Int) (e : S50) : Prop := 0 ≤ e.f0 ∧ e.f0 < e.f1 ∧ e.f1 < n
instance (n : Int) (e : S50) : Decidable (okE n e) := by unfold okE; infer_instance
/-- the error of edges, from some place on -/
def chkE (n : Int) (l : List S50) : Int := if ∀ e ∈ l, okE n e then 0 else 71
/-- Check's error -/
def chk (n : Int) (l : List S50) : Int := if n < 0 ∨ n > 4096 then 70 else if (l.length : Int) > 16384 then 2 else chkE n l

theorem chkE_nil (n : Int) : chkE n [] = 0 := by simp [chkE]
theorem chkE_ok {n : Int} {e : S50} {l : List S50} (h : okE n e) : chkE n (e :: l) = chkE n l := by simp [chkE, h]
theorem chkE_no {n : Int} {e : S50} {l : List S50} (h : ¬ okE n e) : chkE n (e :: l) = 71 := by simp [chkE, h]
theorem chk_zero {n : Int} {l : List S50} (h : chk n l = 0) : 0 ≤ n ∧ n ≤ 4096 ∧ l.length ≤ 16384 ∧ ∀ e ∈ l, okE n e := by
  unfold chk at h
  split at h
  · cases h
  · split at h
    · cases h
    · unfold chkE at h
      split at h
      · refine ⟨by omega, by omega, by omega, ‹_›⟩
      · cases h

theorem dagCheck_l0 (n : Int) (l : List S50) (hl : l.length < 1099511627776) : ∀ (d j : Nat), j + d = l.length → Ev (fun k => dag_Check.l0 k l (l.length : Int) (j : Int) n l) (chkE n (l.drop j)) := by
  intro d
  induction d with
  | zero =>
    intro j hj
    refine Ev.step (f := fun _ => some (chkE n (l.drop j))) (fun k => ?_) (Ev.now _)
    simp only [dag_Check.l0]
    rw [if_neg (by omega), List.drop_of_length_le (by omega), chkE_nil]
  | succ d ih =>
    intro j hj
    have hlt : j < l.length := by omega
    have hdr : l.drop j = l[j] :: l.drop (j + 1) := List.drop_eq_getElem_cons hlt
    by_cases hk : okE n l[j]
    · refine Ev.step (f := fun k => dag_Check.l0 k l (l.length : Int) ((j + 1 : Nat) : Int) n l) (fun k => ?_) ?_
      · simp only [dag_Check.l0]
        rw [if_pos (by omega), if_pos (by omega), if_pos (by omega), rd50 l j hlt, w64s (by omega)]
        obtain ⟨h0, h1, h2⟩ := hk
        rw [if_neg (by omega), if_neg (by omega), if_neg (by omega)]
      · rw [hdr, chkE_ok hk]
        exact ih (j + 1) (by omega)
    · refine Ev.step (f := fun _ => some (chkE n (l.drop j))) (fun k => ?_) (Ev.now _)
      simp only [dag_Check.l0]
      rw [if_pos (by omega), if_pos (by omega), if_pos (by omega), rd50 l j hlt, hdr, chkE_no hk]
      by_cases h0 : l[j].f0 < 0
      · rw [if_pos h0]
      rw [if_neg h0]
      by_cases h1 : l[j].f0 ≥ l[j].f1
      · rw [if_pos h1]
      rw [if_neg h1]
      by_cases h2 : l[j].f1 ≥ n
      · rw [if_pos h2]
      exact absurd (show okE n l[j] from ⟨by omega, by omega, by omega⟩) hk

theorem dagCheck_j0 (n : Int) (l : List S50) (hl : l.length < 1099511627776) (b : Bool) :
    Ev (fun k => dag_Check.j0 k b n l) (if b = true then 70 else if (l.length : Int) > 16384 then 2 else chkE n l) := by
  cases b with
  | true => exact Ev.step (f := fun _ => some 70) (fun k => by simp [dag_Check.j0]) (Ev.now _)
  | false =>
    by_cases h : (l.length : Int) > 16384
    · exact Ev.step (f := fun _ => some 2) (fun k => by simp only [dag_Check.j0]; rw [if_neg (by decide), if_pos h]) (by rw [if_neg (by decide), if_pos h]; exact Ev.now _)
    · refine Ev.step (f := fun k => dag_Check.l0 k l (l.length : Int) ((0 : Nat) : Int) n l) (fun k => by simp only [dag_Check.j0]; rw [if_neg (by decide), if_neg h]; rfl) ?_
      rw [if_neg (by decide), if_neg h]
      exact dagCheck_l0 n l hl l.length 0 (by omega)
theorem dagCheck_ev (n : Int) (l : List S50) (hl : l.length < 1099511627776) : Ev (fun k => dag_Check.f k n l) (chk n l) := by
  by_cases h : n < 0
  · refine Ev.congr (f := fun k => dag_Check.j0 k true n l) (fun k => by unfold dag_Check.f; rw [if_pos h]) ?_
    have := dagCheck_j0 n l hl true
    rw [if_pos rfl] at this
    rw [chk, if_pos (Or.inl h)]; exact this
  · refine Ev.congr (f := fun k => dag_Check.j0 k (decide (n > 4096)) n l) (fun k => by unfold dag_Check.f; rw [if_neg h]) ?_
    have h2 := dagCheck_j0 n l hl (decide (n > 4096))
    have e : chk n l = if decide (n > 4096) = true then 70 else if (l.length : Int) > 16384 then 2 else chkE n l := by
      unfold chk
      by_cases h3 : n > 4096
      · rw [if_pos (Or.inr h3), if_pos (by simpa using h3)]
      · have hd : decide (n > 4096) = false := by simpa using h3
        rw [hd, if_neg (show ¬ (n < 0 ∨ n > 4096) by omega)]
        simp
    rw [e]; exact h2
end Go.Proofs.Ytbahnialbffkeaa.P
namespace Go.Proofs.Ytbahnialbffkeaa.P
open Go.RowKit Go.Proofs.YtbahnialbffkeaaW.PrintWords Go.Proofs.YtbahnialbffkeaaW.PrintLast Go.Proofs.YtbahnialbffkeaaW.PrintMore
set_option linter.unusedVariables false

/-- the nodes that are ahead of node i by one edge, in the edges' order -/
def preds (l : List S50) (i : Nat) : List Int := (l.filter (fun e => e.f1 = (i : Int))).map (·.f0)
def rowsOf (n : Nat) (l : List S50) : List (List Int) := (List.range n).map (preds l)

theorem preds_snoc (l : List S50) (e : S50) (i : Nat) : preds (l ++ [e]) i = if e.f1 = (i : Int) then preds l i ++ [e.f0] else preds l i := by
  unfold preds
  by_cases h : e.f1 = (i : Int) <;> simp [List.filter_append, h]
theorem rowsOf_length (n : Nat) (l : List S50) : (rowsOf n l).length = n := by simp [rowsOf]
theorem rowsOf_getD (n : Nat) (l : List S50) (i : Nat) (h : i < n) : (rowsOf n l).getD i [] = preds l i := by
  simp [rowsOf, List.getD_eq_getElem?_getD, h]
theorem rowsOf_snoc (n : Nat) (l : List S50) (e : S50) (h0 : 0 ≤ e.f1) (h : e.f1 < (n : Int)) :
    (rowsOf n l).set e.f1.toNat ((rowsOf n l).getD e.f1.toNat [] ++ [e.f0]) = rowsOf n (l ++ [e]) := by
  apply List.ext_getElem?
  intro i
  rw [rowsOf_getD _ _ _ (by omega)]
  by_cases hi : i < n
  · by_cases he : e.f1.toNat = i
    · subst he
      rw [List.getElem?_set_self (by rw [rowsOf_length]; exact hi)]
      simp only [rowsOf, List.getElem?_map, List.getElem?_range hi, Option.map_some]
      rw [preds_snoc, if_pos (by omega)]
    · rw [List.getElem?_set_ne he]
      simp only [rowsOf, List.getElem?_map, List.getElem?_range hi, Option.map_some]
      rw [preds_snoc, if_neg (by omega)]
  · rw [List.getElem?_eq_none (by simp [rowsOf_length]; omega), List.getElem?_eq_none (by simp [rowsOf_length]; omega)]
theorem preds_mem {l : List S50} {i : Nat} {k : Int} (h : k ∈ preds l i) : ∃ e ∈ l, e.f1 = (i : Int) ∧ e.f0 = k := by
  unfold preds at h
  simp only [List.mem_map, List.mem_filter, decide_eq_true_eq] at h
  obtain ⟨e, ⟨he, h1⟩, h2⟩ := h
  exact ⟨e, he, h1, h2⟩
theorem mem_preds {l : List S50} {e : S50} (he : e ∈ l) (h0 : 0 ≤ e.f1) : e.f0 ∈ preds l e.f1.toNat := by
  unfold preds
  simp only [List.mem_map, List.mem_filter, decide_eq_true_eq]
  exact ⟨e, ⟨he, by omega⟩, rfl⟩
theorem rowsOf_nil (n : Nat) : rowsOf n [] = List.replicate n [] := by
  apply List.ext_getElem?
  intro i
  by_cases hi : i < n
  · simp [rowsOf, preds, hi]
  · rw [List.getElem?_eq_none (by simp [rowsOf_length]; omega), List.getElem?_eq_none (by simp; omega)]

theorem preds_len (l : List S50) (i : Nat) : (preds l i).length ≤ l.length := by
  unfold preds
  simp only [List.length_map]
  exact List.length_filter_le _ _

theorem ahead_l0 (n : Nat) (l : List S50) (hl : l.length < 1099511627776) (hok : ∀ e ∈ l, okE (n : Int) e) : ∀ (d j : Nat), j + d = l.length →
    Ev (fun k => dag_ahead.l0 k (rowsOf n (l.take j)) l (l.length : Int) (j : Int)) (rowsOf n l) := by
  intro d
  induction d with
  | zero =>
    intro j hj
    refine Ev.step (f := fun _ => some (rowsOf n l)) (fun k => ?_) (Ev.now _)
    simp only [dag_ahead.l0]
    rw [if_neg (by omega), List.take_of_length_le (by omega)]
  | succ d ih =>
    intro j hj
    have hlt : j < l.length := by omega
    obtain ⟨h0, h1, h2⟩ := hok l[j] (List.getElem_mem hlt)
    refine Ev.step (f := fun k => dag_ahead.l0 k (rowsOf n (l.take (j + 1))) l (l.length : Int) ((j + 1 : Nat) : Int)) (fun k => ?_) (ih (j + 1) (by omega))
    simp only [dag_ahead.l0]
    have hp : ((rowsOf n (l.take j)).getD l[j].f1.toNat []).length ≤ l.length := by
      rw [rowsOf_getD _ _ _ (by omega)]
      have h3 := preds_len (l.take j) l[j].f1.toNat
      have h4 : (l.take j).length ≤ l.length := by simp; omega
      omega
    rw [if_pos (by omega), if_pos (by omega), if_pos (by omega), rd50 l j hlt, if_pos (by omega), if_pos (by rw [rowsOf_length]; omega), w64s (by omega)]
    rw [if_pos (by show ((rowsOf n (l.take j)).getD l[j].f1.toNat []).length < _; omega)]
    congr 1
    show (rowsOf n (l.take j)).set l[j].f1.toNat ((rowsOf n (l.take j)).getD l[j].f1.toNat [] ++ [l[j].f0]) = _
    rw [rowsOf_snoc n _ _ (by omega) h2, List.take_succ_eq_append_getElem hlt]
theorem ahead_ev (n : Nat) (l : List S50) (hn : n ≤ 4096) (hl : l.length < 1099511627776) (hok : ∀ e ∈ l, okE (n : Int) e) : Ev (fun k => dag_ahead.f k (n : Int) l) (rowsOf n l) := by
  refine Ev.congr (f := fun k => dag_ahead.l0 k (rowsOf n (l.take 0)) l (l.length : Int) ((0 : Nat) : Int)) (fun k => ?_) (ahead_l0 n l hl hok l.length 0 (by omega))
  unfold dag_ahead.f
  rw [if_pos (by omega), if_pos (by omega)]
  simp [rowsOf_nil]
theorem gd_l {α : Type} (l m : List α) (i : Nat) (z : α) (h : i < l.length) : (l ++ m).getD i z = l.getD i z := by
  rw [List.getD_eq_getElem?_getD, List.getD_eq_getElem?_getD, List.getElem?_append_left h]
theorem gd_r {α : Type} (l m : List α) (i : Nat) (z : α) (h : l.length ≤ i) : (l ++ m).getD i z = m.getD (i - l.length) z := by
  rw [List.getD_eq_getElem?_getD, List.getD_eq_getElem?_getD, List.getElem?_append_right h]
def mxL (acc : List Int) (row : List Int) : Int := row.foldl (fun a k => mx a (rd acc k)) 0
def ear (rows : List (List Int)) : Nat → List Int
  | 0 => []
  | i + 1 => ear rows i ++ [1 + mxL (ear rows i) (rows.getD i [])]
theorem ear_length (rows : List (List Int)) (i : Nat) : (ear rows i).length = i := by
  induction i with
  | zero => rfl
  | succ i ih => simp [ear, ih]
theorem mxL_snoc (acc row : List Int) (k : Int) : mxL acc (row ++ [k]) = mx (mxL acc row) (rd acc k) := by simp [mxL, List.foldl_append]
theorem mxL_bd (acc row : List Int) (B : Int) (hB : 0 ≤ B) (h : ∀ k ∈ row, rd acc k ≤ B) : 0 ≤ mxL acc row ∧ mxL acc row ≤ B := by
  have key : ∀ (row : List Int) (a : Int), 0 ≤ a → a ≤ B → (∀ k ∈ row, rd acc k ≤ B) → 0 ≤ row.foldl (fun a k => mx a (rd acc k)) a ∧ row.foldl (fun a k => mx a (rd acc k)) a ≤ B := by
    intro row
    induction row with
    | nil => intro a h0 h1 _; exact ⟨h0, h1⟩
    | cons x r ih =>
      intro a h0 h1 hr
      have hx := hr x List.mem_cons_self
      refine ih (mx a (rd acc x)) ?_ ?_ (fun k hk => hr k (List.mem_cons_of_mem _ hk))
      · unfold mx; split <;> omega
      · unfold mx; split <;> omega
  exact key row 0 (Int.le_refl 0) hB h
theorem mxL_ge (acc row : List Int) {k : Int} (hk : k ∈ row) : rd acc k ≤ mxL acc row := by
  have mono : ∀ (row : List Int) (a : Int), a ≤ row.foldl (fun a k => mx a (rd acc k)) a := by
    intro row
    induction row with
    | nil => intro a; exact Int.le_refl a
    | cons x r ih =>
      intro a
      refine Int.le_trans (show a ≤ mx a (rd acc x) from ?_) (ih _)
      unfold mx; split <;> omega
  have key : ∀ (row : List Int) (a : Int), k ∈ row → rd acc k ≤ row.foldl (fun a k => mx a (rd acc k)) a := by
    intro row
    induction row with
    | nil => intro a h; cases h
    | cons x r ih =>
      intro a h
      rcases List.mem_cons.1 h with rfl | h
      · refine Int.le_trans (show rd acc k ≤ mx a (rd acc k) from ?_) (mono r _)
        unfold mx; split <;> omega
      · exact ih _ h
  exact key row 0 hk
/-- what the greatest is: 0, or one of the values -/
theorem mxL_is (acc row : List Int) : mxL acc row = 0 ∨ ∃ k ∈ row, mxL acc row = rd acc k := by
  have key : ∀ (row : List Int) (a : Int), row.foldl (fun a k => mx a (rd acc k)) a = a ∨ ∃ k ∈ row, row.foldl (fun a k => mx a (rd acc k)) a = rd acc k := by
    intro row
    induction row with
    | nil => intro a; exact .inl rfl
    | cons x r ih =>
      intro a
      rcases ih (mx a (rd acc x)) with h | ⟨k, hk, h⟩
      · by_cases hlt : a < rd acc x
        · right
          refine ⟨x, List.mem_cons_self, ?_⟩
          rw [List.foldl_cons, h]
          unfold mx
          rw [if_pos hlt]
        · left
          rw [List.foldl_cons, h]
          unfold mx
          rw [if_neg hlt]
      · exact .inr ⟨k, List.mem_cons_of_mem _ hk, h⟩
  exact key row 0
/-- every row's nodes are below the row's own -/
def low (rows : List (List Int)) : Prop := ∀ i : Nat, ∀ k ∈ rows.getD i [], 0 ≤ k ∧ k < (i : Int)
theorem ear_stays (rows : List (List Int)) {i j : Nat} (h : i ≤ j) {k : Int} (h0 : 0 ≤ k) (hk : k < (i : Int)) : rd (ear rows j) k = rd (ear rows i) k := by
  induction j with
  | zero =>
    obtain rfl : i = 0 := by omega
    rfl
  | succ j ih =>
    by_cases e : i = j + 1
    · subst e; rfl
    · rw [← ih (by omega)]
      unfold rd
      simp only [ear]
      rw [gd_l _ _ _ _ (by rw [ear_length]; omega)]
theorem ear_bd (rows : List (List Int)) (hlow : low rows) (i : Nat) : ∀ k : Int, 0 ≤ k → k < (i : Int) → 1 ≤ rd (ear rows i) k ∧ rd (ear rows i) k ≤ k + 1 := by
  induction i with
  | zero => intro k h0 h1; omega
  | succ i ih =>
    intro k h0 h1
    by_cases e : k = (i : Int)
    · subst e
      have hv : rd (ear rows (i + 1)) (i : Int) = 1 + mxL (ear rows i) (rows.getD i []) := by
        unfold rd
        simp only [ear, Int.toNat_natCast]
        rw [gd_r _ _ _ _ (by rw [ear_length]; omega), ear_length]
        simp
      obtain ⟨ha, hb⟩ := mxL_bd (ear rows i) (rows.getD i []) (i : Int) (by omega) (fun k hk => by
        obtain ⟨h2, h3⟩ := hlow i k hk
        have := (ih k h2 h3).2
        omega)
      rw [hv]
      omega
    · rw [ear_stays rows (Nat.le_succ i) h0 (by omega)]
      exact ih k h0 (by omega)
theorem ear_at (rows : List (List Int)) {i n : Nat} (h : i < n) : rd (ear rows n) (i : Int) = 1 + mxL (ear rows i) (rows.getD i []) := by
  rw [ear_stays rows (show i + 1 ≤ n by omega) (by omega) (by omega)]
  unfold rd
  simp only [ear, Int.toNat_natCast]
  rw [gd_r _ _ _ _ (by rw [ear_length]; omega), ear_length]
  simp
/-- the list on its way: done up to i, m at i, zeros behind -/
def onway (rows : List (List Int)) (n i : Nat) (m : Int) : List Int := ear rows i ++ m :: List.replicate (n - i - 1) 0
theorem onway_length (rows : List (List Int)) (n i : Nat) (m : Int) (h : i < n) : (onway rows n i m).length = n := by
  simp [onway, ear_length]; omega
theorem onway_low (rows : List (List Int)) (n i : Nat) (m k : Int) (h0 : 0 ≤ k) (h : k < (i : Int)) : rd (onway rows n i m) k = rd (ear rows i) k := by
  unfold rd onway
  rw [gd_l _ _ _ _ (by rw [ear_length]; omega)]
theorem onway_at (rows : List (List Int)) (n i : Nat) (m : Int) : rd (onway rows n i m) (i : Int) = m := by
  unfold rd onway
  simp only [Int.toNat_natCast]
  rw [gd_r _ _ _ _ (by rw [ear_length]; omega), ear_length]
  simp
theorem onway_set (rows : List (List Int)) (n i : Nat) (m m' : Int) : (onway rows n i m).set (i : Int).toNat m' = onway rows n i m' := by
  unfold onway
  simp only [Int.toNat_natCast]
  rw [List.set_append_right _ _ (by rw [ear_length]; omega), ear_length]
  simp
theorem onway_next (rows : List (List Int)) (n i : Nat) (h : i < n) : onway rows n i (1 + mxL (ear rows i) (rows.getD i [])) = if i + 1 < n then onway rows n (i + 1) 0 else ear rows n := by
  unfold onway
  by_cases hi : i + 1 < n
  · rw [if_pos hi]
    have e : List.replicate (n - i - 1) (0 : Int) = 0 :: List.replicate (n - (i + 1) - 1) 0 := by
      rw [show n - i - 1 = (n - (i + 1) - 1) + 1 by omega, List.replicate_succ]
    rw [e]
    simp [ear]
  · rw [if_neg hi]
    obtain rfl : n = i + 1 := by omega
    simp [ear]

theorem dagE_l1 (rows : List (List Int)) (n : Nat) (hlen : rows.length = n) (hlow : low rows) (hn : n ≤ 4096) (hrow : ∀ i, (rows.getD i []).length < 1099511627776) (i : Nat) (hi : i < n) (r : List Int × Int)
    (next : Ev (fun k => dag_Earliest.l0 k rows (onway rows n i (1 + mxL (ear rows i) (rows.getD i []))) (n : Int) ((i + 1 : Nat) : Int)) r) :
    ∀ (d j : Nat), j + d = (rows.getD i []).length →
      Ev (fun k => dag_Earliest.l1 k rows (onway rows n i (mxL (ear rows i) ((rows.getD i []).take j))) (i : Int) (n : Int) (i : Int) (rows.getD i []) ((rows.getD i []).length : Int) (j : Int)) r := by
  have hbd : ∀ j, 0 ≤ mxL (ear rows i) ((rows.getD i []).take j) ∧ mxL (ear rows i) ((rows.getD i []).take j) ≤ (i : Int) := fun j =>
    mxL_bd _ _ _ (by omega) (fun k hk => by
      obtain ⟨h2, h3⟩ := hlow i k (List.mem_of_mem_take hk)
      have := (ear_bd rows hlow i k h2 h3).2
      omega)
  have hr := hrow i
  intro d
  induction d with
  | zero =>
    intro j hj
    have hb := hbd j
    refine Ev.step (f := fun k => dag_Earliest.l0 k rows (onway rows n i (1 + mxL (ear rows i) (rows.getD i []))) (n : Int) ((i + 1 : Nat) : Int)) (fun k => ?_) next
    simp only [dag_Earliest.l1]
    rw [if_neg (by omega), if_pos (by omega), if_pos (by rw [onway_length _ _ _ _ hi]; omega), onway_at, onway_set, w64s (by omega), w64 (by omega) (by omega)]
    rw [List.take_of_length_le (by omega), Int.add_comm]
  | succ d ih =>
    intro j hj
    have hlt : j < (rows.getD i []).length := by omega
    have hk := hlow i ((rows.getD i [])[j]) (List.getElem_mem hlt)
    refine Ev.step (f := fun k => dag_Earliest.l1 k rows (onway rows n i (mxL (ear rows i) ((rows.getD i []).take (j + 1)))) (i : Int) (n : Int) (i : Int) (rows.getD i []) ((rows.getD i []).length : Int) ((j + 1 : Nat) : Int)) (fun k => ?_) (ih (j + 1) (by omega))
    simp only [dag_Earliest.l1]
    rw [if_pos (by omega), if_pos (by omega), if_pos (by omega), if_pos (by omega), if_pos (by rw [onway_length _ _ _ _ hi]; omega), rdi _ j hlt, if_pos hk.1, if_pos (by rw [onway_length _ _ _ _ hi]; omega)]
    rw [onway_at, onway_low _ _ _ _ _ hk.1 hk.2, onway_set, w64s (by omega), List.take_succ_eq_append_getElem hlt, mxL_snoc]
theorem dagE_l0 (rows : List (List Int)) (n : Nat) (hlen : rows.length = n) (hlow : low rows) (hn : n ≤ 4096) (hrow : ∀ i, (rows.getD i []).length < 1099511627776) :
    ∀ (d i : Nat), i + d = n → Ev (fun k => dag_Earliest.l0 k rows (if i < n then onway rows n i 0 else ear rows n) (n : Int) (i : Int)) (ear rows n, 0) := by
  intro d
  induction d with
  | zero =>
    intro i hi
    refine Ev.step (f := fun _ => some (ear rows n, 0)) (fun k => ?_) (Ev.now _)
    simp only [dag_Earliest.l0]
    rw [if_neg (by omega), if_neg (by omega)]
  | succ d ih =>
    intro i hi
    have hlt : i < n := by omega
    have h1 := ih (i + 1) (by omega)
    have h2 := dagE_l1 rows n hlen hlow hn hrow i hlt (ear rows n, 0) (by rw [onway_next _ _ _ hlt]; exact h1) (rows.getD i []).length 0 (by omega)
    refine Ev.step (f := fun k => dag_Earliest.l1 k rows (onway rows n i (mxL (ear rows i) ((rows.getD i []).take 0))) (i : Int) (n : Int) (i : Int) (rows.getD i []) ((rows.getD i []).length : Int) ((0 : Nat) : Int)) (fun k => ?_) h2
    have hrd : rd_L5 rows (i : Int) = rows.getD i [] := by unfold rd_L5; simp
    simp only [dag_Earliest.l0, hrd]
    rw [if_pos (by omega), if_pos (by omega), if_pos (by omega), if_pos hlt]
    rfl
theorem low_rowsOf {n : Nat} {l : List S50} (hok : ∀ e ∈ l, okE (n : Int) e) : low (rowsOf n l) := by
  intro i k hk
  by_cases hi : i < n
  · rw [rowsOf_getD _ _ _ hi] at hk
    obtain ⟨e, he, h1, h2⟩ := preds_mem hk
    obtain ⟨h3, h4, h5⟩ := hok e he
    omega
  · rw [List.getD_eq_getElem?_getD, List.getElem?_eq_none (by rw [rowsOf_length]; omega)] at hk
    simp at hk
theorem rowsOf_short {n : Nat} {l : List S50} (hl : l.length < 1099511627776) (i : Nat) : ((rowsOf n l).getD i []).length < 1099511627776 := by
  by_cases hi : i < n
  · rw [rowsOf_getD _ _ _ hi]
    have := preds_len l i
    omega
  · rw [List.getD_eq_getElem?_getD, List.getElem?_eq_none (by rw [rowsOf_length]; omega)]
    simp
theorem onway_start (rows : List (List Int)) (n : Nat) : (if 0 < n then onway rows n 0 0 else ear rows n) = List.replicate n 0 := by
  by_cases h : 0 < n
  · rw [if_pos h]
    obtain ⟨m, rfl⟩ : ∃ m, n = m + 1 := ⟨n - 1, by omega⟩
    simp [onway, ear, List.replicate_succ]
  · obtain rfl : n = 0 := by omega
    simp [ear]

/-- Earliest, of what is a dag and what is none -/
def earl (n : Int) (l : List S50) : List Int × Int := if chk n l = 0 then (ear (rowsOf n.toNat l) n.toNat, 0) else ([], chk n l)
theorem dagEarliest_ev (n : Int) (l : List S50) (hl : l.length < 1099511627776) : Ev (fun k => dag_Earliest.f k n l) (earl n l) := by
  unfold dag_Earliest.f
  refine Ev.bind (dagCheck_ev n l hl) ?_
  by_cases h : chk n l = 0
  · obtain ⟨h0, h1, h2, h3⟩ := chk_zero h
    obtain ⟨m, rfl⟩ : ∃ m : Nat, n = (m : Int) := ⟨n.toNat, by omega⟩
    simp only [if_pos h, earl, Int.toNat_natCast]
    refine Ev.bind (ahead_ev m l (by omega) hl h3) ?_
    have h7 : m ≤ 35184372088832 := by omega
    simp only [if_pos h0, if_pos h7]
    have h4 := dagE_l0 (rowsOf m l) m (rowsOf_length m l) (low_rowsOf h3) (by omega) (rowsOf_short hl) m 0 (by omega)
    rw [onway_start] at h4
    exact h4
  · simp only [if_neg h, earl]
    exact Ev.now _
theorem earl_length (n : Int) (l : List S50) : (earl n l).1.length ≤ 4096 := by
  unfold earl
  split
  · rename_i h
    obtain ⟨h0, h1, _⟩ := chk_zero h
    simp only [ear_length]; omega
  · simp

end Go.Proofs.Ytbahnialbffkeaa.P
namespace Go.Proofs.Ytbahnialbffkeaa.P
open Go.RowKit Go.Proofs.YtbahnialbffkeaaW.PrintWords Go.Proofs.YtbahnialbffkeaaW.PrintLast Go.Proofs.YtbahnialbffkeaaW.PrintMore
set_option linter.unusedVariables false

def succs (l : List S50) (i : Int) : List Int := (l.filter (fun e => decide (e.f0 = i))).map (·.f1)
/-- by how many edges a node waits for nodes that are not done -/
def cnt (l : List S50) (T : List Int) (k : Int) : Nat := (l.filter (fun e => decide (e.f1 = k ∧ rd T e.f0 = 0))).length
def isRdy (l : List S50) (T : List Int) (i : Int) : Bool := decide (rd T i = 0 ∧ cnt l T i = 0)
def nodes (n : Nat) : List Int := (List.range n).map (fun i : Nat => (i : Int))
/-- the ready nodes, the lowest first -/
def S0 (n : Nat) (l : List S50) (T : List Int) : List Int := (nodes n).filter (isRdy l T)
def setT (T : List Int) (t : Int) (N : List Int) : List Int := N.foldl (fun T i => T.set i.toNat t) T

theorem mem_nodes {n : Nat} {i : Int} : i ∈ nodes n ↔ 0 ≤ i ∧ i < (n : Int) := by
  unfold nodes
  simp only [List.mem_map, List.mem_range]
  constructor
  · rintro ⟨j, hj, rfl⟩
    omega
  · rintro ⟨h0, h1⟩
    exact ⟨i.toNat, by omega, by omega⟩
theorem mem_S0 {n : Nat} {l : List S50} {T : List Int} {i : Int} : i ∈ S0 n l T ↔ 0 ≤ i ∧ i < (n : Int) ∧ rd T i = 0 ∧ cnt l T i = 0 := by
  unfold S0 isRdy
  simp only [List.mem_filter, mem_nodes, decide_eq_true_eq, and_assoc]
theorem S0_length (n : Nat) (l : List S50) (T : List Int) : (S0 n l T).length ≤ n := by
  have := List.length_filter_le (isRdy l T) (nodes n)
  simpa [S0, nodes] using this
theorem setT_length (T : List Int) (t : Int) (N : List Int) : (setT T t N).length = T.length := by
  unfold setT
  induction N generalizing T with
  | nil => rfl
  | cons x N ih => rw [List.foldl_cons, ih, List.length_set]
theorem setT_snoc (T : List Int) (t : Int) (N : List Int) (i : Int) : setT T t (N ++ [i]) = (setT T t N).set i.toNat t := by simp [setT, List.foldl_append]
theorem rd_set (T : List Int) (i k t : Int) (h0 : 0 ≤ i) (hk : 0 ≤ k) : rd (T.set i.toNat t) k = if k = i ∧ i < (T.length : Int) then t else rd T k := by
  unfold rd
  rw [List.getD_eq_getElem?_getD, List.getD_eq_getElem?_getD, List.getElem?_set]
  by_cases h1 : k = i
  · subst h1
    by_cases h2 : k < (T.length : Int)
    · rw [if_pos rfl, if_pos (by omega), if_pos ⟨rfl, h2⟩]; rfl
    · rw [if_pos rfl, if_neg (by omega), if_neg (fun h => h2 h.2), List.getElem?_eq_none (by omega)]
  · rw [if_neg (by omega), if_neg (fun h => h1 h.1)]
theorem rd_setT (t : Int) (N : List Int) (hN : ∀ x ∈ N, 0 ≤ x) (k : Int) (hk : 0 ≤ k) (T : List Int) : rd (setT T t N) k = if k ∈ N ∧ k < (T.length : Int) then t else rd T k := by
  induction N generalizing T with
  | nil => simp [setT]
  | cons x N ih =>
    have e : setT T t (x :: N) = setT (T.set x.toNat t) t N := rfl
    rw [e, ih (fun y hy => hN y (List.mem_cons_of_mem _ hy)), rd_set _ _ _ _ (hN x List.mem_cons_self) hk, List.length_set]
    by_cases h1 : k ∈ N ∧ k < (T.length : Int)
    · rw [if_pos h1, if_pos ⟨List.mem_cons_of_mem _ h1.1, h1.2⟩]
    · rw [if_neg h1]
      by_cases h2 : k = x ∧ x < (T.length : Int)
      · rw [if_pos h2, if_pos ⟨by rw [h2.1]; exact List.mem_cons_self, by omega⟩]
      · rw [if_neg h2, if_neg (fun h => by
          rcases List.mem_cons.mp h.1 with h3 | h3
          · exact h2 ⟨h3, by omega⟩
          · exact h1 ⟨h3, h.2⟩)]
theorem cnt_zero (l : List S50) (T : List Int) (i : Nat) : cnt l T (i : Int) = 0 ↔ ∀ k ∈ preds l i, rd T k ≠ 0 := by
  unfold cnt preds
  rw [List.length_eq_zero_iff, List.filter_eq_nil_iff]
  simp only [List.mem_map, List.mem_filter, decide_eq_true_eq]
  constructor
  · rintro h k ⟨e, ⟨he, h1⟩, rfl⟩ h2
    exact h e he ⟨h1, h2⟩
  · rintro h e he ⟨h1, h2⟩
    exact h e.f0 ⟨e, ⟨he, h1⟩, rfl⟩ h2
end Go.Proofs.Ytbahnialbffkeaa.P
namespace Go.Proofs.Ytbahnialbffkeaa.P
open Go.RowKit Go.Proofs.YtbahnialbffkeaaW.PrintWords Go.Proofs.YtbahnialbffkeaaW.PrintLast Go.Proofs.YtbahnialbffkeaaW.PrintMore
set_option linter.unusedVariables false
/-- the nodes that are not done -/
def U (n : Nat) (T : List Int) : List Int := (nodes n).filter (fun i => decide (rd T i = 0))
def rnd (n : Nat) (l : List S50) (p : Int) (T : List Int) (t : Int) : List Int := setT T t ((S0 n l T).take p.toNat)
/-- the greedy times, from some time on -/
def gr (n : Nat) (l : List S50) (p : Int) : Nat → List Int → Int → List Int
  | 0, T, _ => T
  | d + 1, T, t => if S0 n l T = [] then T else gr n l p d (rnd n l p T t) (t + 1)
theorem nodes_lt (n : Nat) : (nodes n).Pairwise (· < ·) := by
  unfold nodes
  rw [List.pairwise_map]
  exact List.Pairwise.imp (fun h => by omega) List.pairwise_lt_range
theorem nodup_of_lt {l : List Int} (h : l.Pairwise (· < ·)) : l.Nodup := List.Pairwise.imp (fun h e => by omega) h
theorem S0_lt (n : Nat) (l : List S50) (T : List Int) : (S0 n l T).Pairwise (· < ·) := (nodes_lt n).filter _
theorem mem_U {n : Nat} {T : List Int} {i : Int} : i ∈ U n T ↔ 0 ≤ i ∧ i < (n : Int) ∧ rd T i = 0 := by
  unfold U
  simp only [List.mem_filter, mem_nodes, decide_eq_true_eq, and_assoc]
theorem U_nodup (n : Nat) (T : List Int) : (U n T).Nodup := nodup_of_lt ((nodes_lt n).filter _)
theorem U_len (n : Nat) (T : List Int) : (U n T).length ≤ n := by
  have := List.length_filter_le (fun i => decide (rd T i = 0)) (nodes n)
  simpa [U, nodes] using this
theorem take_mem_S0 {n : Nat} {l : List S50} {T : List Int} {m : Nat} {x : Int} (h : x ∈ (S0 n l T).take m) : x ∈ S0 n l T := List.mem_of_mem_take h
theorem rd_rnd {n : Nat} {l : List S50} {p : Int} {T : List Int} {t : Int} (hT : T.length = n) (k : Int) (h0 : 0 ≤ k) (h1 : k < (n : Int)) :
    rd (rnd n l p T t) k = if k ∈ (S0 n l T).take p.toNat then t else rd T k := by
  unfold rnd
  rw [rd_setT t _ (fun x hx => (mem_S0.mp (take_mem_S0 hx)).1) k h0]
  by_cases h : k ∈ (S0 n l T).take p.toNat
  · rw [if_pos ⟨h, by omega⟩, if_pos h]
  · rw [if_neg (fun h2 => h h2.1), if_neg h]
theorem rnd_length (n : Nat) (l : List S50) (p : Int) (T : List Int) (t : Int) : (rnd n l p T t).length = T.length := setT_length _ _ _
theorem U_rnd (n : Nat) (l : List S50) (p : Int) (T : List Int) (t : Int) (hT : T.length = n) (ht : 1 ≤ t) : (U n T).length = ((S0 n l T).take p.toNat).length + (U n (rnd n l p T t)).length := by
  rw [← List.length_append]
  refine List.Perm.length_eq ((List.perm_ext_iff_of_nodup (U_nodup n T) ?_).mpr ?_)
  · rw [List.nodup_append]
    refine ⟨(nodup_of_lt ((S0_lt n l T).sublist (List.take_sublist _ _))), U_nodup _ _, ?_⟩
    rintro x hx y hy rfl
    have h1 := mem_U.mp hy
    rw [rd_rnd hT x h1.1 h1.2.1, if_pos hx] at h1
    omega
  · intro i
    rw [List.mem_append]
    constructor
    · intro h
      have h1 := mem_U.mp h
      by_cases h2 : i ∈ (S0 n l T).take p.toNat
      · exact .inl h2
      · exact .inr (mem_U.mpr ⟨h1.1, h1.2.1, by rw [rd_rnd hT i h1.1 h1.2.1, if_neg h2]; exact h1.2.2⟩)
    · rintro (h | h)
      · have h1 := mem_S0.mp (take_mem_S0 h)
        exact mem_U.mpr ⟨h1.1, h1.2.1, h1.2.2.1⟩
      · have h1 := mem_U.mp h
        refine mem_U.mpr ⟨h1.1, h1.2.1, ?_⟩
        have h2 := h1.2.2
        rw [rd_rnd hT i h1.1 h1.2.1] at h2
        split at h2
        · omega
        · exact h2
/-- where one is not done, one is ready -/
theorem some_ready (n : Nat) (l : List S50) (hok : ∀ e ∈ l, okE (n : Int) e) (T : List Int) : ∀ i : Nat, i < n → rd T (i : Int) = 0 → S0 n l T ≠ [] := by
  intro i
  induction i using Nat.strongRecOn with
  | _ i ih =>
    intro hi hz
    by_cases hc : cnt l T (i : Int) = 0
    · exact List.ne_nil_of_mem (mem_S0.mpr ⟨by omega, by omega, hz, hc⟩)
    · have h1 : ¬ ∀ k ∈ preds l i, rd T k ≠ 0 := fun h => hc ((cnt_zero l T i).mpr h)
      simp only [Classical.not_forall] at h1
      obtain ⟨k, hk, h2⟩ := h1
      have h3 : rd T k = 0 := Classical.not_not.mp h2
      obtain ⟨e, he, a1, a2⟩ := preds_mem hk
      obtain ⟨b1, b2, b3⟩ := hok e he
      have hk0 : ((k.toNat : Nat) : Int) = k := by omega
      exact ih k.toNat (by omega) (by omega) (by rw [hk0]; exact h3)
theorem S0_nil_iff (n : Nat) (l : List S50) (hok : ∀ e ∈ l, okE (n : Int) e) (T : List Int) : S0 n l T = [] ↔ (U n T).length = 0 := by
  rw [List.length_eq_zero_iff]
  constructor
  · intro h
    rw [List.eq_nil_iff_forall_not_mem]
    intro i hi
    have h1 := mem_U.mp hi
    have hi0 : ((i.toNat : Nat) : Int) = i := by omega
    exact some_ready n l hok T i.toNat (by omega) (by rw [hi0]; exact h1.2.2) h
  · intro h
    rw [List.eq_nil_iff_forall_not_mem]
    intro i hi
    have h1 := mem_S0.mp hi
    have h2 : i ∈ U n T := mem_U.mpr ⟨h1.1, h1.2.1, h1.2.2.1⟩
    rw [h] at h2
    cases h2
end Go.Proofs.Ytbahnialbffkeaa.P
namespace Go.Proofs.Ytbahnialbffkeaa.P
open Go.RowKit Go.Proofs.YtbahnialbffkeaaW.PrintWords Go.Proofs.YtbahnialbffkeaaW.PrintLast Go.Proofs.YtbahnialbffkeaaW.PrintMore
set_option linter.unusedVariables false
set_option linter.unusedSimpArgs false
def succRows (n : Nat) (l : List S50) : List (List Int) := (List.range n).map (fun i : Nat => succs l (i : Int))
theorem succRows_length (n : Nat) (l : List S50) : (succRows n l).length = n := by simp [succRows]
theorem succRows_at (n : Nat) (l : List S50) (i : Int) (h0 : 0 ≤ i) (h1 : i < (n : Int)) : rd_L5 (succRows n l) i = succs l i := by
  show (succRows n l).getD i.toNat [] = _
  have h2 : i.toNat < n := by omega
  have h3 : ((i.toNat : Nat) : Int) = i := by omega
  simp [succRows, List.getD_eq_getElem?_getD, h2, h3]
theorem mem_succs {l : List S50} {i x : Int} (h : x ∈ succs l i) : ∃ e ∈ l, e.f0 = i ∧ e.f1 = x := by
  unfold succs at h
  simp only [List.mem_map, List.mem_filter, decide_eq_true_eq] at h
  obtain ⟨e, ⟨he, h1⟩, h2⟩ := h
  exact ⟨e, he, h1, h2⟩
theorem succs_len (l : List S50) (i : Int) : (succs l i).length ≤ l.length := by
  unfold succs
  rw [List.length_map]
  exact List.length_filter_le _ _
theorem cnt_le (l : List S50) (T : List Int) (k : Int) : cnt l T k ≤ l.length := List.length_filter_le _ _
/-- a node done: those behind it wait for fewer -/
theorem cnt_set (l : List S50) (T : List Int) (i t k : Int) (hf : ∀ e ∈ l, 0 ≤ e.f0) (h0 : 0 ≤ i) (hi : i < (T.length : Int)) (hz : rd T i = 0) (ht : t ≠ 0) :
    cnt l T k = cnt l (T.set i.toNat t) k + (succs l i).count k := by
  induction l with
  | nil => rfl
  | cons e l ih =>
    have ih := ih (fun e he => hf e (List.mem_cons_of_mem _ he))
    have he0 := hf e List.mem_cons_self
    have hr := rd_set T i e.f0 t h0 he0
    unfold cnt succs at ih ⊢
    by_cases h1 : e.f0 = i
    · have h2 : rd (T.set i.toNat t) e.f0 = t := by rw [hr, if_pos ⟨h1, hi⟩]
      have h3 : rd T e.f0 = 0 := by rw [h1]; exact hz
      by_cases hk : e.f1 = k
      · simp [List.filter_cons, h1, hk, h2, h3, ht, List.count_cons] at ih ⊢
        simp [h1 ▸ h2, hz, ht]
        omega
      · simp [List.filter_cons, h1, hk, h2, h3, ht, List.count_cons] at ih ⊢
        omega
    · have h2 : rd (T.set i.toNat t) e.f0 = rd T e.f0 := by rw [hr, if_neg (fun h => h1 h.1)]
      by_cases hk : e.f1 = k ∧ rd T e.f0 = 0
      · simp [List.filter_cons, h1, hk, h2] at ih ⊢
        omega
      · simp [List.filter_cons, h1, hk, h2] at ih ⊢
        exact ih
/-- what stands in the heap: the nodes that wait for nothing and are not done, nor among N -/
structure HeapIs (n : Nat) (T N W H : List Int) : Prop where
  heap : isHeap H
  nodup : H.Nodup
  mem : ∀ k, k ∈ H ↔ 0 ≤ k ∧ k < (n : Int) ∧ rd T k = 0 ∧ k ∉ N ∧ rd W k = 0
theorem HeapIs.len {n : Nat} {T N W H : List Int} (h : HeapIs n T N W H) : H.length ≤ n := by
  have hp : H.Perm ((nodes n).filter (fun k => decide (k ∈ H))) := by
    refine (List.perm_ext_iff_of_nodup h.nodup (nodup_of_lt ((nodes_lt n).filter _))).mpr ?_
    intro k
    simp only [List.mem_filter, mem_nodes, decide_eq_true_eq]
    constructor
    · intro hk
      have := (h.mem k).mp hk
      exact ⟨⟨this.1, this.2.1⟩, hk⟩
    · exact fun hk => hk.2
  have h2 := List.length_filter_le (fun k => decide (k ∈ H)) (nodes n)
  rw [hp.length_eq]
  simpa [nodes] using h2
theorem dagG_l5 (n : Nat) (l : List S50) (hok : ∀ e ∈ l, okE (n : Int) e) (hl : l.length < 1048576) (hn : n ≤ 4096) (p : Int) (hp1 : 1 ≤ p) (hp2 : p ≤ 64) (T1 N : List Int) (t j i : Int) (h0 : 0 ≤ i) (hi : i < (n : Int)) (hx : ∀ x ∈ succs l i, rd T1 x = 0 ∧ x ∉ N) (r : List Int × Int)
    (hend : ∀ W H, W.length = n → (∀ k, 0 ≤ k → k < (n : Int) → rd W k = (cnt l T1 k : Int)) → HeapIs n T1 N W H → Ev (fun k => dag_Greedy.l4 k p W (succRows n l) H T1 t N (wrap64 (j + 1))) r) :
    ∀ (d q : Nat) (W H : List Int), q + d = (succs l i).length → W.length = n → (∀ k, 0 ≤ k → k < (n : Int) → rd W k = (cnt l T1 k : Int) + (((succs l i).drop q).count k : Int)) → HeapIs n T1 N W H →
      Ev (fun k => dag_Greedy.l5 k p W (succRows n l) H T1 t N j i (q : Int)) r := by
  intro d
  induction d with
  | zero =>
    intro q W H hq hW hc hH
    refine Ev.step (f := fun k => dag_Greedy.l4 k p W (succRows n l) H T1 t N (wrap64 (j + 1))) (fun k => ?_) (hend W H hW ?_ hH)
    · simp only [dag_Greedy.l5]
      rw [succRows_at n l i h0 hi, if_neg (by omega)]
    · intro k a b
      have := hc k a b
      rw [List.drop_of_length_le (by omega)] at this
      simpa using this
  | succ d ih =>
    intro q W H hq hW hc hH
    have hlt : q < (succs l i).length := by omega
    have hsl := succs_len l i
    obtain ⟨x, hxe⟩ : ∃ x, x = (succs l i)[q] := ⟨_, rfl⟩
    have hxm : x ∈ succs l i := by rw [hxe]; exact List.getElem_mem hlt
    obtain ⟨e, he, e1, e2⟩ := mem_succs hxm
    obtain ⟨b1, b2, b3⟩ := hok e he
    have hx0 : 0 ≤ x ∧ x < (n : Int) := by omega
    obtain ⟨hz, hxN⟩ := hx x hxm
    have hdrop : (succs l i).drop q = x :: (succs l i).drop (q + 1) := by rw [hxe]; exact List.drop_eq_getElem_cons hlt
    have hWx := hc x hx0.1 hx0.2
    rw [hdrop, List.count_cons_self] at hWx
    have hcl := cnt_le l T1 x
    have hcc : ((succs l i).drop (q + 1)).count x ≤ l.length := Nat.le_trans (List.count_le_length) (by rw [List.length_drop]; omega)
    have hw : wrap64 (rd W x - 1) = rd W x - 1 := w64 (by omega) (by omega)
    have hset : ∀ k, 0 ≤ k → k < (n : Int) → rd (W.set x.toNat (rd W x - 1)) k = (cnt l T1 k : Int) + (((succs l i).drop (q + 1)).count k : Int) := by
      intro k a b
      rw [rd_set W x k _ hx0.1 a, hW]
      by_cases hk : k = x
      · rw [if_pos ⟨hk, hx0.2⟩, hk]
        omega
      · rw [if_neg (fun h => hk h.1), hc k a b, hdrop, List.count_cons_of_ne (fun h => hk h.symm)]
    by_cases hzero : rd W x - 1 = 0
    · refine Ev.step (f := fun k => dag_Greedy.l5 k p (W.set x.toNat (rd W x - 1)) (succRows n l) (pushL H x) T1 t N j i ((q + 1 : Nat) : Int)) (fun k => ?_) (ih (q + 1) _ _ (by omega) (by rw [List.length_set]; exact hW) hset ?_)
      · simp only [dag_Greedy.l5]
        rw [succRows_at n l i h0 hi, if_pos (by omega), rdi _ q hlt, ← hxe, if_pos ⟨by omega, hx0.1, by omega⟩, hw, if_pos hzero, if_pos (by have := hH.len; omega), w64s (by omega)]
      · have hxH : x ∉ H := fun h => by have := ((hH.mem x).mp h).2.2.2.2; omega
        have hpp := pushL_perm H x
        refine ⟨pushL_heap H x hH.heap, (List.Perm.nodup_iff hpp).mpr (List.nodup_cons.mpr ⟨hxH, hH.nodup⟩), ?_⟩
        intro k
        rw [hpp.mem_iff, List.mem_cons, hH.mem]
        constructor
        · rintro (rfl | ⟨a, b, c, dd, ee⟩)
          · refine ⟨hx0.1, hx0.2, hz, hxN, ?_⟩
            rw [rd_set W k k _ hx0.1 hx0.1, if_pos ⟨rfl, by omega⟩]
            exact hzero
          · refine ⟨a, b, c, dd, ?_⟩
            rw [rd_set W x k _ hx0.1 a, if_neg (fun h => by have h2 := h.1; rw [h2] at ee; omega)]
            exact ee
        · rintro ⟨a, b, c, dd, ee⟩
          by_cases hk : k = x
          · exact .inl hk
          · rw [rd_set W x k _ hx0.1 a, if_neg (fun h => hk h.1)] at ee
            exact .inr ⟨a, b, c, dd, ee⟩
    · refine Ev.step (f := fun k => dag_Greedy.l5 k p (W.set x.toNat (rd W x - 1)) (succRows n l) H T1 t N j i ((q + 1 : Nat) : Int)) (fun k => ?_) (ih (q + 1) _ _ (by omega) (by rw [List.length_set]; exact hW) hset ?_)
      · simp only [dag_Greedy.l5]
        rw [succRows_at n l i h0 hi, if_pos (by omega), rdi _ q hlt, ← hxe, if_pos ⟨by omega, hx0.1, by omega⟩, hw, if_neg hzero, w64s (by omega)]
      · refine ⟨hH.heap, hH.nodup, ?_⟩
        intro k
        rw [hH.mem]
        constructor
        · rintro ⟨a, b, c, dd, ee⟩
          refine ⟨a, b, c, dd, ?_⟩
          rw [rd_set W x k _ hx0.1 a, if_neg (fun h => by have h2 := h.1; rw [h2] at ee; omega)]
          exact ee
        · rintro ⟨a, b, c, dd, ee⟩
          rw [rd_set W x k _ hx0.1 a] at ee
          split at ee
          · exact absurd ee hzero
          · exact ⟨a, b, c, dd, ee⟩
end Go.Proofs.Ytbahnialbffkeaa.P
namespace Go.Proofs.Ytbahnialbffkeaa.P
open Go.RowKit Go.Proofs.YtbahnialbffkeaaW.PrintWords Go.Proofs.YtbahnialbffkeaaW.PrintLast Go.Proofs.YtbahnialbffkeaaW.PrintMore
set_option linter.unusedVariables false
set_option linter.unusedSimpArgs false
/-- what is done has all that is ahead of it done -/
def closed (l : List S50) (T : List Int) : Prop := ∀ e ∈ l, rd T e.f1 ≠ 0 → rd T e.f0 ≠ 0
theorem cnt_pred {l : List S50} {T : List Int} {e : S50} (he : e ∈ l) (h : cnt l T e.f1 = 0) : rd T e.f0 ≠ 0 := by
  unfold cnt at h
  rw [List.length_eq_zero_iff, List.filter_eq_nil_iff] at h
  have := h e he
  simpa using this
theorem drop_not_take {l : List Int} (h : l.Nodup) (m : Nat) (k : Int) : k ∈ l.drop m ↔ k ∈ l ∧ k ∉ l.take m := by
  have h2 : l.take m ++ l.drop m = l := List.take_append_drop m l
  have h3 : (l.take m ++ l.drop m).Nodup := by rw [h2]; exact h
  rw [List.nodup_append] at h3
  constructor
  · intro hk
    exact ⟨List.mem_of_mem_drop hk, fun h4 => h3.2.2 k h4 k hk rfl⟩
  · rintro ⟨a, b⟩
    rw [← h2, List.mem_append] at a
    exact a.elim (fun h => absurd h b) id
theorem dagG_l4 (n : Nat) (l : List S50) (hok : ∀ e ∈ l, okE (n : Int) e) (hl : l.length < 1048576) (hn : n ≤ 4096) (p : Int) (hp1 : 1 ≤ p) (hp2 : p ≤ 64) (T N : List Int) (t : Int) (hT : T.length = n) (ht : 1 ≤ t) (hNn : N.Nodup) (hN : ∀ x ∈ N, x ∈ S0 n l T) (hcl : closed l T) (r : List Int × Int)
    (hend : ∀ W H, W.length = n → (∀ k, 0 ≤ k → k < (n : Int) → rd W k = (cnt l (setT T t N) k : Int)) → HeapIs n (setT T t N) N W H → Ev (fun k => dag_Greedy.l2 k p W (succRows n l) H (setT T t N) (wrap64 (t + 1))) r) :
    ∀ (d j : Nat) (W H : List Int), j + d = N.length → W.length = n → (∀ k, 0 ≤ k → k < (n : Int) → rd W k = (cnt l (setT T t (N.take j)) k : Int)) → HeapIs n (setT T t (N.take j)) N W H →
      Ev (fun k => dag_Greedy.l4 k p W (succRows n l) H (setT T t (N.take j)) t N (j : Int)) r := by
  have hNlen : N.length ≤ n := by
    have h1 : N.Perm ((S0 n l T).filter (fun k => decide (k ∈ N))) := by
      refine (List.perm_ext_iff_of_nodup hNn ((nodup_of_lt (S0_lt n l T)).sublist List.filter_sublist)).mpr ?_
      intro k
      simp only [List.mem_filter, decide_eq_true_eq]
      exact ⟨fun h => ⟨hN k h, h⟩, fun h => h.2⟩
    rw [h1.length_eq]
    exact Nat.le_trans (List.length_filter_le _ _) (S0_length n l T)
  intro d
  induction d with
  | zero =>
    intro j W H hj hW hc hH
    rw [List.take_of_length_le (by omega)] at hc hH ⊢
    refine Ev.step (f := fun k => dag_Greedy.l2 k p W (succRows n l) H (setT T t N) (wrap64 (t + 1))) (fun k => ?_) (hend W H hW hc hH)
    simp only [dag_Greedy.l4]
    rw [if_neg (by omega)]
  | succ d ih =>
    intro j W H hj hW hc hH
    have hlt : j < N.length := by omega
    obtain ⟨i, hie⟩ : ∃ i, i = N[j] := ⟨_, rfl⟩
    have hiN : i ∈ N := by rw [hie]; exact List.getElem_mem hlt
    obtain ⟨h0, h1, hz, hcz⟩ := mem_S0.mp (hN i hiN)
    have hpos : ∀ m, ∀ x ∈ N.take m, 0 ≤ x := fun m x hx => (mem_S0.mp (hN x (List.mem_of_mem_take hx))).1
    have htake : N.take (j + 1) = N.take j ++ [i] := by rw [hie, List.take_succ_eq_append_getElem hlt]
    have hdrop : i ∈ N.drop j := by rw [hie, List.drop_eq_getElem_cons hlt]; exact List.mem_cons_self
    have hinot : i ∉ N.take j := ((drop_not_take hNn j i).mp hdrop).2
    have hT1 : (setT T t (N.take j)).set i.toNat t = setT T t (N.take (j + 1)) := by rw [htake, setT_snoc]
    have hlenT : (setT T t (N.take j)).length = n := by rw [setT_length, hT]
    have hTi : rd (setT T t (N.take j)) i = 0 := by rw [rd_setT t _ (hpos j) i h0, if_neg (fun h => hinot h.1)]; exact hz
    refine Ev.step (f := fun k => dag_Greedy.l5 k p W (succRows n l) H (setT T t (N.take (j + 1))) t N (j : Int) i ((0 : Nat) : Int)) (fun k => ?_) ?_
    · simp only [dag_Greedy.l4]
      rw [if_pos (by omega), rdi N j hlt, ← hie, if_pos ⟨by omega, h0, by rw [hlenT]; exact h1, by rw [succRows_length]; exact h1⟩, hT1]
      rfl
    · refine dagG_l5 n l hok hl hn p hp1 hp2 (setT T t (N.take (j + 1))) N t (j : Int) i h0 h1 ?_ r ?_ (succs l i).length 0 W H (by omega) hW ?_ ?_
      · intro x hx
        obtain ⟨e, he, e1, e2⟩ := mem_succs hx
        have hxN : x ∉ N := fun h => by
          have h3 := (mem_S0.mp (hN x h)).2.2.2
          rw [← e2] at h3
          have h4 := cnt_pred he h3
          rw [e1] at h4
          exact h4 hz
        refine ⟨?_, hxN⟩
        have b := hok e he
        have hx0 : 0 ≤ x := by have := b.1; have := b.2.1; omega
        rw [rd_setT t _ (hpos _) x hx0, if_neg (fun h => hxN (List.mem_of_mem_take h.1))]
        refine Classical.byContradiction fun h => ?_
        have h4 := hcl e he (by rw [e2]; exact h)
        rw [e1] at h4
        exact h4 hz
      · intro W2 H2 hW2 hc2 hH2
        rw [w64s (by omega)]
        exact ih (j + 1) W2 H2 (by omega) hW2 hc2 hH2
      · intro k a b
        rw [List.drop_zero, hc k a b, cnt_set l (setT T t (N.take j)) i t k (fun e he => (hok e he).1) h0 (by rw [hlenT]; exact h1) hTi (by omega), hT1]
        omega
      · refine ⟨hH.heap, hH.nodup, fun k => ?_⟩
        rw [hH.mem]
        have key : ∀ k, 0 ≤ k → k ∉ N → rd (setT T t (N.take (j + 1))) k = rd (setT T t (N.take j)) k := by
          intro k a b
          rw [rd_setT t _ (hpos _) k a, rd_setT t _ (hpos _) k a, if_neg (fun h => b (List.mem_of_mem_take h.1)), if_neg (fun h => b (List.mem_of_mem_take h.1))]
        constructor
        · rintro ⟨a, b, c, dd, ee⟩
          exact ⟨a, b, by rw [key k a dd]; exact c, dd, ee⟩
        · rintro ⟨a, b, c, dd, ee⟩
          exact ⟨a, b, by rw [← key k a dd]; exact c, dd, ee⟩
theorem dagG_l3 (n : Nat) (l : List S50) (hok : ∀ e ∈ l, okE (n : Int) e) (hl : l.length < 1048576) (hn : n ≤ 4096) (p : Int) (hp1 : 1 ≤ p) (hp2 : p ≤ 64) (T W : List Int) (t : Int) (r : List Int × Int)
    (hend : ∀ H, isHeap H → H.Perm ((S0 n l T).drop p.toNat) → Ev (fun k => dag_Greedy.l4 k p W (succRows n l) H T t ((S0 n l T).take p.toNat) 0) r) :
    ∀ (d m : Nat) (H : List Int), m + d = (S0 n l T).length → m ≤ p.toNat → isHeap H → H.Perm ((S0 n l T).drop m) → Ev (fun k => dag_Greedy.l3 k p W (succRows n l) H T t ((S0 n l T).take m)) r := by
  have hSl := S0_length n l T
  intro d
  induction d with
  | zero =>
    intro m H hm hmp hh hp
    have e1 : (S0 n l T).take m = (S0 n l T).take p.toNat := by rw [List.take_of_length_le (by omega), List.take_of_length_le (by omega)]
    have e2 : (S0 n l T).drop m = (S0 n l T).drop p.toNat := by rw [List.drop_of_length_le (by omega), List.drop_of_length_le (by omega)]
    have hlen := hp.length_eq
    rw [List.length_drop] at hlen
    refine Ev.step (f := fun k => dag_Greedy.l4 k p W (succRows n l) H T t ((S0 n l T).take p.toNat) 0) (fun k => ?_) (hend H hh (by rw [← e2]; exact hp))
    simp only [dag_Greedy.l3]
    rw [if_neg (fun h => by omega), e1]
  | succ d ih =>
    intro m H hm hmp hh hp
    have hlt : m < (S0 n l T).length := by omega
    have hlen := hp.length_eq
    rw [List.length_drop] at hlen
    by_cases hmm : m = p.toNat
    · subst hmm
      refine Ev.step (f := fun k => dag_Greedy.l4 k p W (succRows n l) H T t ((S0 n l T).take p.toNat) 0) (fun k => ?_) (hend H hh hp)
      simp only [dag_Greedy.l3]
      rw [if_neg (fun h => by have := h.1; rw [List.length_take] at this; omega)]
    · have hdrop : (S0 n l T).drop m = (S0 n l T)[m] :: (S0 n l T).drop (m + 1) := List.drop_eq_getElem_cons hlt
      have hpp := popL_perm H (by omega)
      have hmin : H.getD 0 0 = (S0 n l T)[m] := by
        have hlt2 : ((S0 n l T).drop m).Pairwise (· < ·) := (S0_lt n l T).sublist (List.drop_sublist _ _)
        have hm1 : H.getD 0 0 ∈ (S0 n l T).drop m := hp.mem_iff.mp (hpp.mem_iff.mpr List.mem_cons_self)
        have hm2 : (S0 n l T)[m] ∈ H := hp.mem_iff.mpr (by rw [hdrop]; exact List.mem_cons_self)
        have h3 := heap_least_mem H hh hm2
        rw [hdrop] at hm1 hlt2
        rcases List.mem_cons.mp hm1 with h4 | h4
        · exact h4
        · have := (List.pairwise_cons.mp hlt2).1 _ h4
          omega
      refine Ev.step (f := fun k => dag_Greedy.l3 k p W (succRows n l) (popL H) T t ((S0 n l T).take (m + 1))) (fun k => ?_) (ih (m + 1) (popL H) (by omega) (by omega) (popL_heap H hh (by omega)) ?_)
      · simp only [dag_Greedy.l3]
        have hml : ((S0 n l T).take m).length = m := by rw [List.length_take]; omega
        rw [if_pos ⟨by rw [hml]; omega, by omega⟩, if_pos ⟨by omega, by rw [hml]; omega⟩, hmin, List.take_succ_eq_append_getElem hlt]
      · have h5 := hpp.symm.trans hp
        rw [hdrop, hmin] at h5
        exact List.Perm.cons_inv h5
theorem dagG_l2 (n : Nat) (l : List S50) (hok : ∀ e ∈ l, okE (n : Int) e) (hl : l.length < 1048576) (hn : n ≤ 4096) (p : Int) (hp1 : 1 ≤ p) (hp2 : p ≤ 64) : ∀ (d : Nat) (T : List Int) (t : Int) (W H : List Int), (U n T).length ≤ d → T.length = n → 1 ≤ t → t + d ≤ 5000 → closed l T → W.length = n → (∀ k, 0 ≤ k → k < (n : Int) → rd W k = (cnt l T k : Int)) → HeapIs n T [] W H →
    Ev (fun k => dag_Greedy.l2 k p W (succRows n l) H T t) (gr n l p d T t, 0) := by
  have perm : ∀ (T W H : List Int), (∀ k, 0 ≤ k → k < (n : Int) → rd W k = (cnt l T k : Int)) → HeapIs n T [] W H → H.Perm (S0 n l T) := by
    intro T W H hc hH
    refine (List.perm_ext_iff_of_nodup hH.nodup (nodup_of_lt (S0_lt n l T))).mpr fun k => ?_
    rw [hH.mem, mem_S0]
    constructor
    · rintro ⟨a, b, c, -, ee⟩
      have := hc k a b
      exact ⟨a, b, c, by omega⟩
    · rintro ⟨a, b, c, ee⟩
      have := hc k a b
      exact ⟨a, b, c, by simp, by omega⟩
  intro d
  induction d with
  | zero =>
    intro T t W H hU hT ht htd hcl hW hc hH
    have h1 := (perm T W H hc hH).length_eq
    have h2 := (S0_nil_iff n l hok T).mpr (by omega)
    rw [h2] at h1
    refine Ev.step (f := fun _ => some (T, 0)) (fun k => ?_) (Ev.now _)
    simp only [dag_Greedy.l2]
    rw [if_neg (by simp at h1; simp [h1])]
  | succ d ih =>
    intro T t W H hU hT ht htd hcl hW hc hH
    have hperm := perm T W H hc hH
    have h1 := hperm.length_eq
    by_cases hne : S0 n l T = []
    · rw [hne] at h1
      refine Ev.step (f := fun _ => some (T, 0)) (fun k => ?_) ?_
      · simp only [dag_Greedy.l2]
        rw [if_neg (by simp at h1; simp [h1])]
      · rw [gr, if_pos hne]
        exact Ev.now _
    · have hpos := List.length_pos_iff.mpr hne
      refine Ev.step (f := fun k => dag_Greedy.l3 k p W (succRows n l) H T t ((S0 n l T).take 0)) (fun k => ?_) ?_
      · simp only [dag_Greedy.l2]
        rw [if_pos (by omega)]
        rfl
      · rw [gr, if_neg hne]
        refine dagG_l3 n l hok hl hn p hp1 hp2 T W t _ ?_ (S0 n l T).length 0 H (by omega) (by omega) hH.heap hperm
        intro H2 hh2 hp2'
        obtain ⟨N, hNe⟩ : ∃ N, N = (S0 n l T).take p.toNat := ⟨_, rfl⟩
        have hnd := nodup_of_lt (S0_lt n l T)
        have hUr := U_rnd n l p T t hT ht
        have hlp : 1 ≤ ((S0 n l T).take p.toNat).length := by rw [List.length_take]; omega
        have hNn : N.Nodup := by rw [hNe]; exact hnd.sublist (List.take_sublist _ _)
        have hNS : ∀ x ∈ N, x ∈ S0 n l T := by rw [hNe]; exact fun x hx => take_mem_S0 hx
        have h4 := dagG_l4 n l hok hl hn p hp1 hp2 T N t hT ht hNn hNS hcl (gr n l p d (rnd n l p T t) (t + 1), 0) ?_ N.length 0 W H2 (by omega) hW (by simpa [setT] using hc) ?_
        · rw [← hNe]
          simpa [setT] using h4
        · intro W3 H3 hW3 hc3 hH3
          rw [w64 (x := t + 1) (by omega) (by omega)]
          have hre : setT T t N = rnd n l p T t := by rw [hNe]; rfl
          rw [hre] at hc3 hH3 ⊢
          refine ih (rnd n l p T t) (t + 1) W3 H3 (by omega) (by rw [rnd_length]; exact hT) (by omega) (by omega) ?_ hW3 hc3 ?_
          · intro e he h5
            obtain ⟨b1, b2, b3⟩ := hok e he
            rw [rd_rnd hT e.f1 (by omega) b3] at h5
            have h6 : rd T e.f0 ≠ 0 := by
              split at h5
              · next hm => exact cnt_pred he (mem_S0.mp (take_mem_S0 hm)).2.2.2
              · exact hcl e he h5
            rw [rd_rnd hT e.f0 b1 (by omega)]
            split
            · omega
            · exact h6
          · refine ⟨hH3.heap, hH3.nodup, fun k => ?_⟩
            rw [hH3.mem]
            constructor
            · rintro ⟨a, b, c, dd, ee⟩
              exact ⟨a, b, c, by simp, ee⟩
            · rintro ⟨a, b, c, -, ee⟩
              refine ⟨a, b, c, fun h => ?_, ee⟩
              rw [rd_rnd hT k a b, if_pos (by rw [← hNe]; exact h)] at c
              omega
        · refine ⟨hh2, (List.Perm.nodup_iff hp2').mpr (hnd.sublist (List.drop_sublist _ _)), fun k => ?_⟩
          rw [hp2'.mem_iff, drop_not_take hnd, mem_S0, ← hNe]
          have e0 : setT T t (N.take 0) = T := rfl
          rw [e0]
          constructor
          · rintro ⟨⟨a, b, c, dd⟩, ee⟩
            have := hc k a b
            exact ⟨a, b, c, ee, by omega⟩
          · rintro ⟨a, b, c, dd, ee⟩
            have := hc k a b
            exact ⟨⟨a, b, c, by omega⟩, dd⟩
end Go.Proofs.Ytbahnialbffkeaa.P
namespace Go.Proofs.Ytbahnialbffkeaa.P
open Go.RowKit Go.Proofs.YtbahnialbffkeaaW.PrintWords Go.Proofs.YtbahnialbffkeaaW.PrintLast Go.Proofs.YtbahnialbffkeaaW.PrintMore
set_option linter.unusedVariables false
set_option linter.unusedSimpArgs false
theorem rd_zeros (n : Nat) (k : Int) : rd (List.replicate n 0) k = 0 := by
  unfold rd
  rw [List.getD_eq_getElem?_getD, List.getElem?_replicate]
  split <;> rfl
theorem closed_zeros (n : Nat) (l : List S50) : closed l (List.replicate n 0) := fun e _ h => absurd (rd_zeros n e.f1) h
theorem succs_snoc (l : List S50) (e : S50) (i : Int) : succs (l ++ [e]) i = if e.f0 = i then succs l i ++ [e.f1] else succs l i := by
  unfold succs
  by_cases h : e.f0 = i <;> simp [List.filter_append, h]
theorem succRows_snoc (n : Nat) (l : List S50) (e : S50) (h0 : 0 ≤ e.f0) (h : e.f0 < (n : Int)) :
    (succRows n l).set e.f0.toNat (succs l e.f0 ++ [e.f1]) = succRows n (l ++ [e]) := by
  apply List.ext_getElem?
  intro i
  by_cases hi : i < n
  · by_cases he : e.f0.toNat = i
    · subst he
      rw [List.getElem?_set_self (by rw [succRows_length]; exact hi)]
      simp only [succRows, List.getElem?_map, List.getElem?_range hi, Option.map_some]
      rw [succs_snoc, if_pos (by omega), show ((e.f0.toNat : Nat) : Int) = e.f0 from by omega]
    · rw [List.getElem?_set_ne he]
      simp only [succRows, List.getElem?_map, List.getElem?_range hi, Option.map_some]
      rw [succs_snoc, if_neg (by omega)]
  · rw [List.getElem?_eq_none (by simp [succRows_length]; omega), List.getElem?_eq_none (by simp [succRows_length]; omega)]
theorem succRows_nil (n : Nat) : succRows n [] = List.replicate n [] := by
  apply List.ext_getElem?
  intro i
  by_cases hi : i < n
  · simp [succRows, succs, hi]
  · rw [List.getElem?_eq_none (by simp [succRows_length]; omega), List.getElem?_eq_none (by simp; omega)]
theorem cnt_snoc (l : List S50) (e : S50) (n : Nat) (k : Int) : cnt (l ++ [e]) (List.replicate n 0) k = cnt l (List.replicate n 0) k + if e.f1 = k then 1 else 0 := by
  unfold cnt
  by_cases h : e.f1 = k <;> simp [List.filter_append, h, rd_zeros]
theorem dagG_l1 (n : Nat) (l : List S50) (hok : ∀ e ∈ l, okE (n : Int) e) (hl : l.length < 1048576) (hn : n ≤ 4096) (p : Int) (hp1 : 1 ≤ p) (hp2 : p ≤ 64) (W : List Int) (hW : W.length = n) (hc : ∀ k, 0 ≤ k → k < (n : Int) → rd W k = (cnt l (List.replicate n 0) k : Int)) : ∀ (d i : Nat) (H : List Int), i + d = n → HeapIs i (List.replicate n 0) [] W H →
    Ev (fun k => dag_Greedy.l1 k p (n : Int) W (succRows n l) H (i : Int)) (gr n l p n (List.replicate n 0) 1, 0) := by
  intro d
  induction d with
  | zero =>
    intro i H hi hH
    obtain rfl : i = n := by omega
    refine Ev.step (f := fun k => dag_Greedy.l2 k p W (succRows i l) H (List.replicate i 0) 1) (fun k => ?_) (dagG_l2 i l hok hl hn p hp1 hp2 i (List.replicate i 0) 1 W H (U_len i _) (by simp) (by omega) (by omega) (closed_zeros i l) hW hc hH)
    simp only [dag_Greedy.l1]
    rw [if_neg (by omega), if_pos ⟨by omega, by omega⟩, Int.toNat_natCast]
  | succ d ih =>
    intro i H hi hH
    have hlen := hH.len
    by_cases hz : rd W (i : Int) = 0
    · refine Ev.step (f := fun k => dag_Greedy.l1 k p (n : Int) W (succRows n l) (pushL H (i : Int)) ((i + 1 : Nat) : Int)) (fun k => ?_) (ih (i + 1) _ (by omega) ?_)
      · simp only [dag_Greedy.l1]
        rw [if_pos (by omega), if_pos ⟨by omega, by omega⟩, if_pos hz, if_pos (by omega), w64s (by omega)]
      · have hpp := pushL_perm H (i : Int)
        refine ⟨pushL_heap H _ hH.heap, (List.Perm.nodup_iff hpp).mpr (List.nodup_cons.mpr ⟨fun h => by have := ((hH.mem _).mp h).2.1; omega, hH.nodup⟩), fun k => ?_⟩
        rw [hpp.mem_iff, List.mem_cons, hH.mem]
        constructor
        · rintro (rfl | ⟨a, b, c, dd, ee⟩)
          · exact ⟨by omega, by omega, rd_zeros _ _, by simp, hz⟩
          · exact ⟨a, by omega, c, dd, ee⟩
        · rintro ⟨a, b, c, dd, ee⟩
          by_cases hk : k = (i : Int)
          · exact .inl hk
          · exact .inr ⟨a, by omega, c, dd, ee⟩
    · refine Ev.step (f := fun k => dag_Greedy.l1 k p (n : Int) W (succRows n l) H ((i + 1 : Nat) : Int)) (fun k => ?_) (ih (i + 1) _ (by omega) ?_)
      · simp only [dag_Greedy.l1]
        rw [if_pos (by omega), if_pos ⟨by omega, by omega⟩, if_neg hz, w64s (by omega)]
      · refine ⟨hH.heap, hH.nodup, fun k => ?_⟩
        rw [hH.mem]
        constructor
        · rintro ⟨a, b, c, dd, ee⟩
          exact ⟨a, by omega, c, dd, ee⟩
        · rintro ⟨a, b, c, dd, ee⟩
          refine ⟨a, ?_, c, dd, ee⟩
          by_cases hk : k = (i : Int)
          · rw [hk] at ee; exact absurd ee hz
          · omega
theorem dagG_l0 (n : Nat) (l : List S50) (hok : ∀ e ∈ l, okE (n : Int) e) (hl : l.length < 1048576) (hn : n ≤ 4096) (p : Int) (hp1 : 1 ≤ p) (hp2 : p ≤ 64) : ∀ (d j : Nat) (W : List Int), j + d = l.length → W.length = n → (∀ k, 0 ≤ k → k < (n : Int) → rd W k = (cnt (l.take j) (List.replicate n 0) k : Int)) →
    Ev (fun k => dag_Greedy.l0 k p W (succRows n (l.take j)) (j : Int) (n : Int) l) (gr n l p n (List.replicate n 0) 1, 0) := by
  intro d
  induction d with
  | zero =>
    intro j W hj hW hc
    rw [List.take_of_length_le (by omega)] at hc ⊢
    refine Ev.step (f := fun k => dag_Greedy.l1 k p (n : Int) W (succRows n l) [] ((0 : Nat) : Int)) (fun k => ?_) (dagG_l1 n l hok hl hn p hp1 hp2 W hW hc n 0 [] (by omega) ⟨fun j hj h => by simp at h, List.nodup_nil, fun k => ?_⟩)
    · simp only [dag_Greedy.l0]
      rw [if_neg (by omega)]
      rfl
    · constructor
      · intro h; cases h
      · rintro ⟨a, b, -⟩; omega
  | succ d ih =>
    intro j W hj hW hc
    have hlt : j < l.length := by omega
    obtain ⟨e, hee⟩ : ∃ e, e = l[j] := ⟨_, rfl⟩
    obtain ⟨b1, b2, b3⟩ := hok e (by rw [hee]; exact List.getElem_mem hlt)
    have hsl := succs_len (l.take j) e.f0
    have htl : (l.take j).length ≤ l.length := by rw [List.length_take]; omega
    have hcl := cnt_le (l.take j) (List.replicate n 0) e.f1
    have hWx := hc e.f1 (by omega) b3
    have htake : l.take (j + 1) = l.take j ++ [e] := by rw [hee, List.take_succ_eq_append_getElem hlt]
    have hw : wrap64 (rd W e.f1 + 1) = rd W e.f1 + 1 := w64 (by omega) (by omega)
    refine Ev.step (f := fun k => dag_Greedy.l0 k p (W.set e.f1.toNat (rd W e.f1 + 1)) (succRows n (l.take (j + 1))) ((j + 1 : Nat) : Int) (n : Int) l) (fun k => ?_) (ih (j + 1) _ (by omega) (by rw [List.length_set]; exact hW) ?_)
    · simp only [dag_Greedy.l0]
      rw [if_pos (by omega), if_pos (by omega), if_pos (by omega), rd50 l j hlt, ← hee, if_pos (by omega), if_pos (by omega), if_pos b1, if_pos (by rw [succRows_length]; omega), succRows_at n _ e.f0 b1 (by omega), if_pos (by omega), hw, w64s (by omega), succRows_snoc n _ e b1 (by omega), htake]
    · intro k a b
      rw [htake, cnt_snoc, rd_set W e.f1 k _ (by omega) a]
      by_cases hk : k = e.f1
      · rw [if_pos ⟨hk, by omega⟩, if_pos hk.symm, hk]
        omega
      · rw [if_neg (fun h => hk h.1), if_neg (fun h => hk h.symm), hc k a b]
        omega
def greedyR (n : Int) (l : List S50) (p : Int) : List Int × Int := if chk n l = 0 then (if p < 1 ∨ p > 64 then ([], 3) else (gr n.toNat l p n.toNat (List.replicate n.toNat 0) 1, 0)) else ([], chk n l)
theorem dagGreedy_ev (n : Int) (l : List S50) (p : Int) (hl : l.length < 1099511627776) : Ev (fun k => dag_Greedy.f k n l p) (greedyR n l p) := by
  unfold dag_Greedy.f greedyR
  refine Ev.bind (dagCheck_ev n l hl) ?_
  by_cases hc : chk n l = 0
  · rw [if_pos hc]
    simp only [hc, if_true]
    obtain ⟨h0, h1, h2, hok⟩ := chk_zero hc
    have bad : ∀ b : Bool, b = true → Ev (fun k => dag_Greedy.j0 k p b n l) (([] : List Int), 3) := by
      rintro b rfl
      refine Ev.step (f := fun _ => some (([] : List Int), 3)) (fun k => ?_) (Ev.now _)
      simp only [dag_Greedy.j0, if_true]
    by_cases hp : p < 1 ∨ p > 64
    · rw [if_pos hp]
      by_cases hp1 : p < 1
      · simp only [if_pos hp1]
        exact bad true rfl
      · simp only [if_neg hp1]
        exact bad _ (decide_eq_true (by omega))
    · rw [if_neg hp]
      have hp1 : ¬ p < 1 := by omega
      simp only [if_neg hp1]
      rw [decide_eq_false (by omega)]
      obtain ⟨m, rfl⟩ : ∃ m : Nat, n = (m : Int) := ⟨n.toNat, by omega⟩
      rw [Int.toNat_natCast]
      refine Ev.step (f := fun k => dag_Greedy.l0 k p (List.replicate m 0) (succRows m (l.take 0)) ((0 : Nat) : Int) (m : Int) l) (fun k => ?_) (dagG_l0 m l hok (by omega) (by omega) p (by omega) (by omega) l.length 0 _ (by omega) (by simp) (fun k a b => ?_))
      · simp only [dag_Greedy.j0, Int.toNat_natCast]
        rw [if_neg (by decide), if_pos (by omega), if_pos (by omega), if_pos (by omega), List.take_zero, succRows_nil]
        rfl
      · rw [rd_zeros]
        simp [cnt]
  · rw [if_neg hc]
    simp only [if_neg hc]
    exact Ev.now _
end Go.Proofs.Ytbahnialbffkeaa.P
namespace Go.Proofs.Ytbahnialbffkeaa.P
open Go.RowKit Go.Proofs.YtbahnialbffkeaaW.PrintWords Go.Proofs.YtbahnialbffkeaaW.PrintLast Go.Proofs.YtbahnialbffkeaaW.PrintMore
set_option linter.unusedVariables false
set_option linter.unusedSimpArgs false
/-- what is handed out, one after the other -/
def popsL : Nat → List Int → List Int
  | 0, _ => []
  | d + 1, H => H.getD 0 0 :: popsL d (popL H)
theorem grpR_pops : ∀ (d : Nat) (H : List Int) (L : List S70), grpR d H L = (popsL d H).foldl addR L := by
  intro d
  induction d with
  | zero => intro H L; rfl
  | succ d ih => intro H L; rw [grpR, ih, popsL, List.foldl_cons]
theorem pops_perm : ∀ (d : Nat) (H : List Int), H.length = d → (popsL d H).Perm H := by
  intro d
  induction d with
  | zero =>
    intro H h
    rw [List.length_eq_zero_iff.mp h, popsL]
  | succ d ih =>
    intro H h
    rw [popsL]
    exact ((ih (popL H) (by rw [popL_length]; omega)).cons _).trans (popL_perm H (by omega)).symm
theorem pops_sorted : ∀ (d : Nat) (H : List Int), H.length = d → isHeap H → (popsL d H).Pairwise (· ≤ ·) := by
  intro d
  induction d with
  | zero => intro H _ _; rw [popsL]; exact List.Pairwise.nil
  | succ d ih =>
    intro H h hh
    rw [popsL, List.pairwise_cons]
    refine ⟨fun x hx => ?_, ih (popL H) (by rw [popL_length]; omega) (popL_heap H hh (by omega))⟩
    have h1 := (pops_perm d (popL H) (by rw [popL_length]; omega)).mem_iff.mp hx
    exact heap_least_mem H hh ((popL_perm H (by omega)).mem_iff.mpr (List.mem_cons_of_mem _ h1))
theorem pushes_heap : ∀ (T H : List Int), isHeap H → isHeap (T.foldl pushL H) ∧ (T.foldl pushL H).Perm (T ++ H) := by
  intro T
  induction T with
  | nil => intro H h; exact ⟨h, List.Perm.refl _⟩
  | cons x T ih =>
    intro H h
    obtain ⟨a, b⟩ := ih (pushL H x) (pushL_heap H x h)
    refine ⟨a, b.trans ?_⟩
    refine ((List.Perm.append_left T (pushL_perm H x)).trans ?_)
    exact (List.perm_middle (a := x) (l₁ := T) (l₂ := H))
/-- the rows of a sorted list -/
structure RowsOK (S : List Int) (L : List S70) : Prop where
  up : L.Pairwise (fun a b => a.f0 < b.f0)
  cnt : ∀ r ∈ L, r.f1 = (S.count r.f0 : Int) ∧ r.f0 ∈ S
  all : ∀ x ∈ S, ∃ r ∈ L, r.f0 = x
theorem rd70_last (L : List S70) (r : S70) : rd_T70 (L ++ [r]) (((L ++ [r]).length : Int) - 1) = r := by
  unfold rd_T70
  rw [show (((L ++ [r]).length : Int) - 1).toNat = L.length from by simp, List.getD_eq_getElem?_getD]
  simp
theorem addR_nil (t : Int) : addR [] t = [⟨t, 1, 0⟩] := by
  unfold addR
  rw [if_neg (by simp)]
  rfl
theorem addR_same (L : List S70) (r : S70) : addR (L ++ [r]) r.f0 = L ++ [⟨r.f0, wrap64 (r.f1 + 1), r.f2⟩] := by
  unfold addR
  rw [rd70_last, if_pos ⟨by simp, rfl⟩, show (((L ++ [r]).length : Int) - 1).toNat = L.length from by simp]
  simp
theorem addR_new (L : List S70) (r : S70) (t : Int) (h : r.f0 ≠ t) : addR (L ++ [r]) t = L ++ [r] ++ [⟨t, 1, 0⟩] := by
  unfold addR
  rw [rd70_last, if_neg (fun h2 => h h2.2)]
theorem rows_step {S : List Int} {L : List S70} (h : RowsOK S L) (hS : S.length ≤ 1000000) (t : Int) (ht : ∀ x ∈ S, x ≤ t) : RowsOK (S ++ [t]) (addR L t) := by
  rcases List.eq_nil_or_concat L with rfl | ⟨L', r, hL⟩
  · have hs : S = [] := by
      rw [List.eq_nil_iff_forall_not_mem]
      intro x hx
      obtain ⟨r, hr, -⟩ := h.all x hx
      cases hr
    subst hs
    rw [addR_nil]
    refine ⟨List.pairwise_singleton _ _, fun r hr => ?_, fun x hx => ?_⟩
    · rw [List.mem_singleton.mp hr]; simp
    · exact ⟨_, List.mem_singleton.mpr rfl, (List.mem_singleton.mp (by simpa using hx)).symm⟩
  · have hL : L = L' ++ [r] := by simpa using hL
    subst hL
    have hup := List.pairwise_append.mp h.up
    have hlow : ∀ q ∈ L', q.f0 < r.f0 := fun q hq => hup.2.2 q hq r (List.mem_singleton.mpr rfl)
    have hr := h.cnt r (List.mem_append_right _ (List.mem_singleton.mpr rfl))
    have hrt := ht _ hr.2
    by_cases he : r.f0 = t
    · subst he
      rw [addR_same]
      refine ⟨?_, fun q hq => ?_, fun x hx => ?_⟩
      · rw [List.pairwise_append]
        refine ⟨hup.1, List.pairwise_singleton _ _, fun a ha b hb => ?_⟩
        rw [List.mem_singleton.mp hb]
        exact hlow a ha
      · rcases List.mem_append.mp hq with hq | hq
        · obtain ⟨h1, h2⟩ := h.cnt q (List.mem_append_left _ hq)
          refine ⟨?_, List.mem_append_left _ h2⟩
          have h3 := hlow q hq
          rw [List.count_append, h1, List.count_singleton]
          rw [if_neg (by simp; omega)]
          simp
        · rw [List.mem_singleton.mp hq]
          refine ⟨?_, List.mem_append_left _ hr.2⟩
          show wrap64 (r.f1 + 1) = _
          have h3 : S.count r.f0 ≤ S.length := List.count_le_length
          rw [List.count_append, List.count_singleton, hr.1]
          simp only [beq_self_eq_true, if_true]
          unfold wrap64
          omega
      · rcases List.mem_append.mp hx with hx | hx
        · obtain ⟨q, hq, rfl⟩ := h.all x hx
          rcases List.mem_append.mp hq with hq | hq
          · exact ⟨q, List.mem_append_left _ hq, rfl⟩
          · rw [List.mem_singleton.mp hq]
            exact ⟨_, List.mem_append_right _ (List.mem_singleton.mpr rfl), rfl⟩
        · rw [List.mem_singleton.mp hx]
          exact ⟨_, List.mem_append_right _ (List.mem_singleton.mpr rfl), rfl⟩
    · rw [addR_new L' r t he]
      have hall : ∀ q ∈ L' ++ [r], q.f0 < t := fun q hq => by
        rcases List.mem_append.mp hq with hq | hq
        · have := hlow q hq
          omega
        · rw [List.mem_singleton.mp hq]; omega
      have hno : t ∉ S := fun hm => by
        obtain ⟨q, hq, h2⟩ := h.all t hm
        have := hall q hq
        omega
      refine ⟨?_, fun q hq => ?_, fun x hx => ?_⟩
      · rw [List.pairwise_append]
        refine ⟨h.up, List.pairwise_singleton _ _, fun a ha b hb => ?_⟩
        rw [List.mem_singleton.mp hb]
        exact hall a ha
      · rcases List.mem_append.mp hq with hq | hq
        · obtain ⟨h1, h2⟩ := h.cnt q hq
          refine ⟨?_, List.mem_append_left _ h2⟩
          have h3 := hall q hq
          rw [List.count_append, h1, List.count_singleton, if_neg (by simp; omega)]
          simp
        · rw [List.mem_singleton.mp hq]
          refine ⟨?_, by simp⟩
          show (1 : Int) = _
          rw [List.count_append, List.count_eq_zero.mpr hno, List.count_singleton]
          simp
      · rcases List.mem_append.mp hx with hx | hx
        · obtain ⟨q, hq, h2⟩ := h.all x hx
          exact ⟨q, List.mem_append_left _ hq, h2⟩
        · rw [List.mem_singleton.mp hx]
          exact ⟨_, List.mem_append_right _ (List.mem_singleton.mpr rfl), rfl⟩
theorem rows_all : ∀ (S2 S1 : List Int) (L : List S70), RowsOK S1 L → (S1 ++ S2).Pairwise (· ≤ ·) → (S1 ++ S2).length ≤ 1000000 → RowsOK (S1 ++ S2) (S2.foldl addR L) := by
  intro S2
  induction S2 with
  | nil => intro S1 L h _ _; rw [List.append_nil]; exact h
  | cons t S2 ih =>
    intro S1 L h hp hl
    have e : S1 ++ t :: S2 = (S1 ++ [t]) ++ S2 := by simp
    rw [List.foldl_cons, e]
    rw [e] at hp hl
    refine ih (S1 ++ [t]) (addR L t) (rows_step h (by simp at hl; omega) t (fun x hx => ?_)) hp hl
    exact (List.pairwise_append.mp (List.pairwise_append.mp hp).1).2.2 x hx t (List.mem_singleton.mpr rfl)
theorem RowsOK.perm {S T : List Int} {L : List S70} (h : RowsOK S L) (hp : S.Perm T) : RowsOK T L :=
  ⟨h.up, fun r hr => ⟨by rw [← hp.count_eq]; exact (h.cnt r hr).1, hp.mem_iff.mp (h.cnt r hr).2⟩, fun x hx => h.all x (hp.mem_iff.mpr hx)⟩
theorem grp_ok (T : List Int) (hT : T.length ≤ 1000000) : RowsOK T (grpR T.length (T.foldl pushL []) []) := by
  have h0 : isHeap [] := fun j _ h => by simp at h
  obtain ⟨hh, hp⟩ := pushes_heap T [] h0
  rw [List.append_nil] at hp
  have hl := hp.length_eq
  rw [grpR_pops]
  have hq := pops_perm T.length _ hl
  have h1 := rows_all (popsL T.length (T.foldl pushL [])) [] [] ⟨List.Pairwise.nil, fun r hr => (by cases hr), fun x hx => (by cases hx)⟩ (by rw [List.nil_append]; exact pops_sorted _ _ hl hh) (by rw [List.nil_append, hq.length_eq, hl]; exact hT)
  rw [List.nil_append] at h1
  exact (h1.perm hq).perm hp
/-- from which time on all up to the time of row k is full, if that row is -/
def sv (L : List S70) (p : Int) : Nat → Int
  | 0 => (rd_T70 L ((0 : Nat) : Int)).f0
  | j + 1 => if (rd_T70 L ((j + 1 : Nat) : Int)).f1 = p ∧ (rd_T70 L (j : Int)).f1 = p ∧ (rd_T70 L (j : Int)).f0 = (rd_T70 L ((j + 1 : Nat) : Int)).f0 - 1 then sv L p j else (rd_T70 L ((j + 1 : Nat) : Int)).f0
theorem rd70_get (L : List S70) (j : Nat) (h : j < L.length) : rd_T70 L (j : Int) = L[j] := by
  unfold rd_T70
  simp [List.getD_eq_getElem?_getD, List.getElem?_eq_getElem h]
theorem rd70_mem (L : List S70) (j : Nat) (h : j < L.length) : rd_T70 L (j : Int) ∈ L := by rw [rd70_get L j h]; exact List.getElem_mem h
theorem RowsOK.lt {S : List Int} {L : List S70} (h : RowsOK S L) {i j : Nat} (hij : i < j) (hj : j < L.length) : (rd_T70 L (i : Int)).f0 < (rd_T70 L (j : Int)).f0 := by
  rw [rd70_get L i (by omega), rd70_get L j hj]
  exact List.pairwise_iff_getElem.mp h.up i j (by omega) hj hij
theorem rd70_set (L : List S70) (i : Int) (h0 : 0 ≤ i) (h : i < (L.length : Int)) (x : S70) (k : Int) (hk : 0 ≤ k) : rd_T70 (L.set i.toNat x) k = if k = i then x else rd_T70 L k := by
  unfold rd_T70
  rw [List.getD_eq_getElem?_getD, List.getD_eq_getElem?_getD, List.getElem?_set]
  by_cases h1 : k = i
  · subst h1
    rw [if_pos rfl, if_pos (by omega), if_pos rfl]
    rfl
  · rw [if_neg (by omega), if_neg h1]
/-- the loop behind the grouping -/
theorem rows_l1 (L : List S70) (p : Int) (hb : ∀ j : Nat, j < L.length → 1 ≤ (rd_T70 L (j : Int)).f0 ∧ (rd_T70 L (j : Int)).f0 ≤ 9223372036854775807) (hn : L.length ≤ 1000000) : ∀ (d i : Nat) (C : List S70), i + d = L.length → C.length = L.length →
    (∀ j : Nat, j < L.length → (rd_T70 C (j : Int)).f0 = (rd_T70 L (j : Int)).f0 ∧ (rd_T70 C (j : Int)).f1 = (rd_T70 L (j : Int)).f1 ∧ (j < i → (rd_T70 C (j : Int)).f2 = sv L p j)) →
    ∃ R : List S70, Ev (fun k => dag_rows.l1 k p C (L.length : Int) (i : Int)) R ∧ R.length = L.length ∧ ∀ j : Nat, j < L.length → (rd_T70 R (j : Int)).f0 = (rd_T70 L (j : Int)).f0 ∧ (rd_T70 R (j : Int)).f1 = (rd_T70 L (j : Int)).f1 ∧ (rd_T70 R (j : Int)).f2 = sv L p j := by
  intro d
  induction d with
  | zero =>
    intro i C hi hC hc
    refine ⟨C, Ev.step (f := fun _ => some C) (fun k => ?_) (Ev.now _), hC, fun j hj => ⟨(hc j hj).1, (hc j hj).2.1, (hc j hj).2.2 (by omega)⟩⟩
    simp only [dag_rows.l1]
    rw [if_neg (by omega)]
  | succ d ih =>
    intro i C hi hC hc
    have hlt : i < L.length := by omega
    obtain ⟨q, hq⟩ : ∃ q, q = C.set (i : Int).toNat (⟨(rd_T70 C (i : Int)).f0, (rd_T70 C (i : Int)).f1, (rd_T70 C (i : Int)).f0⟩ : S70) := ⟨_, rfl⟩
    have hql : q.length = L.length := by rw [hq, List.length_set, hC]
    have hrd : ∀ k : Int, 0 ≤ k → rd_T70 q k = if k = (i : Int) then ⟨(rd_T70 C (i : Int)).f0, (rd_T70 C (i : Int)).f1, (rd_T70 C (i : Int)).f0⟩ else rd_T70 C k := fun k hk => by
      rw [hq]
      exact rd70_set C (i : Int) (by omega) (by omega) _ k hk
    have hci := hc i hlt
    have hqi : rd_T70 q (i : Int) = ⟨(rd_T70 L (i : Int)).f0, (rd_T70 L (i : Int)).f1, (rd_T70 L (i : Int)).f0⟩ := by
      rw [hrd _ (by omega), if_pos rfl, hci.1, hci.2.1]
    have hw : wrap64 ((i : Int) + 1) = ((i + 1 : Nat) : Int) := w64s (by omega)
    -- the row as it stands, when the one ahead does not join
    have plain : sv L p i = (rd_T70 L (i : Int)).f0 → ∀ j : Nat, j < L.length → (rd_T70 q (j : Int)).f0 = (rd_T70 L (j : Int)).f0 ∧ (rd_T70 q (j : Int)).f1 = (rd_T70 L (j : Int)).f1 ∧ (j < i + 1 → (rd_T70 q (j : Int)).f2 = sv L p j) := by
      intro hs j hj
      by_cases e : j = i
      · subst e
        rw [hqi]
        exact ⟨rfl, rfl, fun _ => hs.symm⟩
      · rw [hrd _ (by omega), if_neg (by omega)]
        exact ⟨(hc j hj).1, (hc j hj).2.1, fun h => (hc j hj).2.2 (by omega)⟩
    have head : ∀ r, Ev (fun k => if (i : Int) > 0 then (if ((rd_T70 q (i : Int)).f1) = p then (if 0 ≤ (wrap64 ((i : Int) - 1)) then (if (wrap64 ((i : Int) - 1)) < (C.length : Int) then (if ((rd_T70 q (wrap64 ((i : Int) - 1))).f1) = p then (if ((rd_T70 q (wrap64 ((i : Int) - 1))).f0) = (wrap64 (((rd_T70 q (i : Int)).f0) - 1)) then (dag_rows.l1 k p (q.set (i : Int).toNat (⟨(rd_T70 q (i : Int)).f0, (rd_T70 q (i : Int)).f1, (rd_T70 q (wrap64 ((i : Int) - 1))).f2⟩ : S70)) (L.length : Int) (wrap64 ((i : Int) + 1))) else (dag_rows.l1 k p q (L.length : Int) (wrap64 ((i : Int) + 1)))) else (dag_rows.l1 k p q (L.length : Int) (wrap64 ((i : Int) + 1)))) else (none)) else (none)) else (dag_rows.l1 k p q (L.length : Int) (wrap64 ((i : Int) + 1)))) else (dag_rows.l1 k p q (L.length : Int) (wrap64 ((i : Int) + 1)))) r → Ev (fun k => dag_rows.l1 k p C (L.length : Int) (i : Int)) r := by
      intro r hr
      refine Ev.step (fun k => ?_) hr
      simp only [dag_rows.l1]
      rw [if_pos (by omega), if_pos (by omega), if_pos (by omega), ← hq, Option.bind_some]
    by_cases h0 : i = 0
    · subst h0
      obtain ⟨R, hR, h⟩ := ih 1 q (by omega) hql (plain rfl)
      refine ⟨R, head R ?_, h⟩
      refine Ev.congr (f := fun k => dag_rows.l1 k p q (L.length : Int) ((1 : Nat) : Int)) (fun k => ?_) hR
      rw [if_neg (by omega), hw]
    · obtain ⟨m, rfl⟩ : ∃ m, i = m + 1 := ⟨i - 1, by omega⟩
      have hwm : wrap64 (((m + 1 : Nat) : Int) - 1) = (m : Int) := by rw [w64 (by omega) (by omega)]; omega
      have hqm : rd_T70 q (m : Int) = rd_T70 C (m : Int) := by rw [hrd _ (by omega), if_neg (by omega)]
      have hcm := hc m (by omega)
      have hw2 : wrap64 ((rd_T70 L ((m + 1 : Nat) : Int)).f0 - 1) = (rd_T70 L ((m + 1 : Nat) : Int)).f0 - 1 := by
        have := hb (m + 1) hlt
        exact w64 (by omega) (by omega)
      have joined : ∀ h : (rd_T70 L ((m + 1 : Nat) : Int)).f1 = p ∧ (rd_T70 L (m : Int)).f1 = p ∧ (rd_T70 L (m : Int)).f0 = (rd_T70 L ((m + 1 : Nat) : Int)).f0 - 1, sv L p (m + 1) = sv L p m := fun h => by rw [sv, if_pos h]
      have apart : ∀ h : ¬ ((rd_T70 L ((m + 1 : Nat) : Int)).f1 = p ∧ (rd_T70 L (m : Int)).f1 = p ∧ (rd_T70 L (m : Int)).f0 = (rd_T70 L ((m + 1 : Nat) : Int)).f0 - 1), sv L p (m + 1) = (rd_T70 L ((m + 1 : Nat) : Int)).f0 := fun h => by rw [sv, if_neg h]
      by_cases c1 : (rd_T70 L ((m + 1 : Nat) : Int)).f1 = p
      · by_cases c2 : (rd_T70 L (m : Int)).f1 = p
        · by_cases c3 : (rd_T70 L (m : Int)).f0 = (rd_T70 L ((m + 1 : Nat) : Int)).f0 - 1
          · obtain ⟨q2, hq2⟩ : ∃ q2, q2 = q.set ((m + 1 : Nat) : Int).toNat (⟨(rd_T70 q ((m + 1 : Nat) : Int)).f0, (rd_T70 q ((m + 1 : Nat) : Int)).f1, (rd_T70 q (m : Int)).f2⟩ : S70) := ⟨_, rfl⟩
            have hrd2 : ∀ k : Int, 0 ≤ k → rd_T70 q2 k = if k = ((m + 1 : Nat) : Int) then ⟨(rd_T70 q ((m + 1 : Nat) : Int)).f0, (rd_T70 q ((m + 1 : Nat) : Int)).f1, (rd_T70 q (m : Int)).f2⟩ else rd_T70 q k := fun k hk => by
              rw [hq2]
              exact rd70_set q ((m + 1 : Nat) : Int) (by omega) (by omega) _ k hk
            obtain ⟨R, hR, h⟩ := ih (m + 1 + 1) q2 (by omega) (by rw [hq2, List.length_set, hql]) (fun j hj => by
              by_cases e : j = m + 1
              · subst e
                rw [hrd2 _ (by omega), if_pos rfl, hqi, hqm]
                exact ⟨rfl, rfl, fun _ => by rw [joined ⟨c1, c2, c3⟩]; exact hcm.2.2 (by omega)⟩
              · rw [hrd2 _ (by omega), if_neg (by omega), hrd _ (by omega), if_neg (by omega)]
                exact ⟨(hc j hj).1, (hc j hj).2.1, fun h => (hc j hj).2.2 (by omega)⟩)
            refine ⟨R, head R ?_, h⟩
            refine Ev.congr (f := fun k => dag_rows.l1 k p q2 (L.length : Int) ((m + 1 + 1 : Nat) : Int)) (fun k => ?_) hR
            rw [if_pos (by omega), hqi, if_pos c1, hwm, if_pos (by omega), if_pos (by omega), if_pos (by rw [hqm, hcm.2.1]; exact c2), if_pos (by rw [hqm, hcm.1]; show _ = wrap64 ((rd_T70 L ((m + 1 : Nat) : Int)).f0 - 1); rw [hw2]; exact c3), hw, hq2, hqi]
          · obtain ⟨R, hR, h⟩ := ih (m + 1 + 1) q (by omega) hql (plain (apart (fun h => c3 h.2.2)))
            refine ⟨R, head R ?_, h⟩
            refine Ev.congr (f := fun k => dag_rows.l1 k p q (L.length : Int) ((m + 1 + 1 : Nat) : Int)) (fun k => ?_) hR
            rw [if_pos (by omega), hqi, if_pos c1, hwm, if_pos (by omega), if_pos (by omega), if_pos (by rw [hqm, hcm.2.1]; exact c2), if_neg (by rw [hqm, hcm.1]; show ¬ _ = wrap64 ((rd_T70 L ((m + 1 : Nat) : Int)).f0 - 1); rw [hw2]; exact c3), hw]
        · obtain ⟨R, hR, h⟩ := ih (m + 1 + 1) q (by omega) hql (plain (apart (fun h => c2 h.2.1)))
          refine ⟨R, head R ?_, h⟩
          refine Ev.congr (f := fun k => dag_rows.l1 k p q (L.length : Int) ((m + 1 + 1 : Nat) : Int)) (fun k => ?_) hR
          rw [if_pos (by omega), hqi, if_pos c1, hwm, if_pos (by omega), if_pos (by omega), if_neg (by rw [hqm, hcm.2.1]; exact c2), hw]
      · obtain ⟨R, hR, h⟩ := ih (m + 1 + 1) q (by omega) hql (plain (apart (fun h => c1 h.1)))
        refine ⟨R, head R ?_, h⟩
        refine Ev.congr (f := fun k => dag_rows.l1 k p q (L.length : Int) ((m + 1 + 1 : Nat) : Int)) (fun k => ?_) hR
        rw [if_pos (by omega), hqi, if_neg c1, hw]
end Go.Proofs.Ytbahnialbffkeaa.P
namespace Go.Proofs.Ytbahnialbffkeaa.P
open Go.RowKit Go.Proofs.YtbahnialbffkeaaW.PrintWords Go.Proofs.YtbahnialbffkeaaW.PrintLast Go.Proofs.YtbahnialbffkeaaW.PrintMore
set_option linter.unusedVariables false
set_option linter.unusedSimpArgs false
theorem sv_le {S : List Int} {L : List S70} (h : RowsOK S L) (p : Int) : ∀ k : Nat, k < L.length → sv L p k ≤ (rd_T70 L (k : Int)).f0 := by
  intro k
  induction k with
  | zero => intro _; rw [sv]; exact Int.le_refl _
  | succ k ih =>
    intro hk
    have := ih (by omega)
    have := h.lt (i := k) (j := k + 1) (by omega) hk
    rw [sv]
    split <;> omega
theorem RowsOK.at {S : List Int} {L : List S70} (h : RowsOK S L) {t : Int} (ht : t ∈ S) : ∃ j : Nat, j < L.length ∧ (rd_T70 L (j : Int)).f0 = t := by
  obtain ⟨r, hr, rfl⟩ := h.all t ht
  obtain ⟨j, hj, rfl⟩ := List.mem_iff_getElem.mp hr
  exact ⟨j, hj, by rw [rd70_get L j hj]⟩
theorem RowsOK.f1 {S : List Int} {L : List S70} (h : RowsOK S L) {j : Nat} (hj : j < L.length) : (rd_T70 L (j : Int)).f1 = (S.count (rd_T70 L (j : Int)).f0 : Int) := (h.cnt _ (rd70_mem L j hj)).1
theorem sv_full {S : List Int} {L : List S70} (h : RowsOK S L) (p : Int) (hp : 1 ≤ p) (lo : Int) : ∀ k : Nat, k < L.length → (rd_T70 L (k : Int)).f1 = p → lo ≤ (rd_T70 L (k : Int)).f0 →
    (sv L p k ≤ lo ↔ ∀ t, lo ≤ t → t ≤ (rd_T70 L (k : Int)).f0 → (S.count t : Int) = p) := by
  -- a full time just ahead of row k belongs to the row ahead
  have ahead : ∀ k : Nat, k < L.length → (S.count ((rd_T70 L (k : Int)).f0 - 1) : Int) = p → ∃ m : Nat, k = m + 1 ∧ (rd_T70 L (m : Int)).f1 = p ∧ (rd_T70 L (m : Int)).f0 = (rd_T70 L (k : Int)).f0 - 1 := by
    intro k hk hc
    have hm : (rd_T70 L (k : Int)).f0 - 1 ∈ S := by
      rw [← List.count_pos_iff]
      omega
    obtain ⟨j, hj, he⟩ := h.at hm
    have hjk : j < k := by
      rcases Nat.lt_trichotomy j k with h1 | h1 | h1
      · exact h1
      · subst h1; omega
      · have := h.lt h1 hj; omega
    refine ⟨k - 1, by omega, ?_, ?_⟩
    · by_cases e : j = k - 1
      · rw [← e, h.f1 hj, he]; exact hc
      · have h2 := h.lt (i := j) (j := k - 1) (by omega) (by omega)
        have h3 := h.lt (i := k - 1) (j := k) (by omega) hk
        omega
    · by_cases e : j = k - 1
      · rw [← e]; exact he
      · have h2 := h.lt (i := j) (j := k - 1) (by omega) (by omega)
        have h3 := h.lt (i := k - 1) (j := k) (by omega) hk
        omega
  intro k
  induction k with
  | zero =>
    intro hk h1 hlo
    rw [sv]
    constructor
    · intro h2 t ht1 ht2
      rw [show t = (rd_T70 L ((0 : Nat) : Int)).f0 from by omega, ← h.f1 hk]
      exact h1
    · intro h2
      by_cases e : (rd_T70 L ((0 : Nat) : Int)).f0 = lo
      · omega
      · obtain ⟨m, hm, -⟩ := ahead 0 hk (h2 _ (by omega) (by omega))
        omega
  | succ k ih =>
    intro hk h1 hlo
    have hsv := sv_le h p k (by omega)
    by_cases c : (rd_T70 L ((k + 1 : Nat) : Int)).f1 = p ∧ (rd_T70 L (k : Int)).f1 = p ∧ (rd_T70 L (k : Int)).f0 = (rd_T70 L ((k + 1 : Nat) : Int)).f0 - 1
    · rw [sv, if_pos c]
      by_cases e : lo = (rd_T70 L ((k + 1 : Nat) : Int)).f0
      · constructor
        · intro _ t ht1 ht2
          rw [show t = (rd_T70 L ((k + 1 : Nat) : Int)).f0 from by omega, ← h.f1 hk]
          exact h1
        · intro _; omega
      · rw [ih (by omega) c.2.1 (by omega)]
        constructor
        · intro h2 t ht1 ht2
          by_cases e2 : t = (rd_T70 L ((k + 1 : Nat) : Int)).f0
          · rw [e2, ← h.f1 hk]; exact h1
          · exact h2 t ht1 (by omega)
        · intro h2 t ht1 ht2
          exact h2 t ht1 (by omega)
    · rw [sv, if_neg c]
      constructor
      · intro h2 t ht1 ht2
        rw [show t = (rd_T70 L ((k + 1 : Nat) : Int)).f0 from by omega, ← h.f1 hk]
        exact h1
      · intro h2
        by_cases e : (rd_T70 L ((k + 1 : Nat) : Int)).f0 = lo
        · omega
        · obtain ⟨m, hm, h3, h4⟩ := ahead (k + 1) hk (h2 _ (by omega) (by omega))
          obtain rfl : m = k := by omega
          exact absurd ⟨h1, h3, h4⟩ c
/-- where the bisection ends -/
theorem bisect_is (R : List S70) (t : Int) (hup : ∀ i j : Nat, i < j → j < R.length → (rd_T70 R (i : Int)).f0 < (rd_T70 R (j : Int)).f0) : ∀ (d lo hi : Nat), lo ≤ hi → hi ≤ R.length → hi - lo ≤ d →
    (∀ j : Nat, j < lo → (rd_T70 R (j : Int)).f0 < t) → (hi < R.length → (rd_T70 R (hi : Int)).f0 ≥ t) →
    (∀ j : Nat, j < bisect R t d lo hi → (rd_T70 R (j : Int)).f0 < t) ∧ (bisect R t d lo hi < R.length → (rd_T70 R (bisect R t d lo hi : Nat)).f0 ≥ t) := by
  intro d
  induction d with
  | zero =>
    intro lo hi h1 h2 h3 ha hb
    obtain rfl : lo = hi := by omega
    exact ⟨ha, hb⟩
  | succ d ih =>
    intro lo hi h1 h2 h3 ha hb
    rw [bisect]
    by_cases c : lo < hi
    · rw [if_pos c]
      by_cases c2 : (rd_T70 R ((lo + hi) / 2 : Nat)).f0 ≥ t
      · rw [if_pos c2]
        exact ih lo ((lo + hi) / 2) (by omega) (by omega) (by omega) ha (fun _ => c2)
      · rw [if_neg c2]
        refine ih ((lo + hi) / 2 + 1) hi (by omega) h2 (by omega) (fun j hj => ?_) hb
        by_cases e : j = (lo + hi) / 2
        · rw [e]; omega
        · have := hup j ((lo + hi) / 2) (by omega) (by omega)
          omega
    · rw [if_neg c]
      obtain rfl : lo = hi := by omega
      exact ⟨ha, hb⟩
theorem fullB_is {S : List Int} {L R : List S70} (h : RowsOK S L) (p : Int) (hp : 1 ≤ p) (hR : R.length = L.length) (hr : ∀ j : Nat, j < L.length → (rd_T70 R (j : Int)).f0 = (rd_T70 L (j : Int)).f0 ∧ (rd_T70 R (j : Int)).f1 = (rd_T70 L (j : Int)).f1 ∧ (rd_T70 R (j : Int)).f2 = sv L p j)
    (lo hi : Int) (hlh : lo ≤ hi) : fullB R p lo hi = true ↔ ∀ t, lo ≤ t → t ≤ hi → (S.count t : Int) = p := by
  have hb := bisect_is R hi (fun i j hij hj => by rw [(hr i (by omega)).1, (hr j (by omega)).1]; exact h.lt hij (by omega)) R.length 0 R.length (by omega) (by omega) (by omega) (fun j hj => by omega) (fun hj => by omega)
  unfold fullB
  generalize bisect R hi R.length 0 R.length = K at hb ⊢
  simp only [Bool.and_eq_true, decide_eq_true_eq, beq_iff_eq]
  constructor
  · rintro ⟨⟨⟨h1, h2⟩, h3⟩, h4⟩
    have hk := hr K (by omega)
    have := (sv_full h p hp lo K (by omega) (by rw [← hk.2.1]; exact h3) (by rw [← hk.1, h2]; exact hlh)).mp (by rw [← hk.2.2]; exact h4)
    intro t ht1 ht2
    exact this t ht1 (by rw [← hk.1, h2]; exact ht2)
  · intro h1
    have hm : hi ∈ S := by
      rw [← List.count_pos_iff]
      have := h1 hi hlh (by omega)
      omega
    obtain ⟨j, hj, he⟩ := h.at hm
    have hKj : K = j := by
      rcases Nat.lt_trichotomy K j with h2 | h2 | h2
      · have h3 := hb.2 (by omega)
        have h4 := h.lt h2 hj
        rw [← (hr K (by omega)).1] at h4
        omega
      · exact h2
      · have h3 := hb.1 j h2
        rw [(hr j hj).1] at h3
        omega
    subst hKj
    have hk := hr K hj
    have h2 : (rd_T70 R (K : Int)).f1 = p := by rw [hk.2.1, h.f1 hj, he]; exact h1 hi hlh (by omega)
    refine ⟨⟨⟨by omega, by rw [hk.1]; exact he⟩, h2⟩, ?_⟩
    rw [hk.2.2]
    exact (sv_full h p hp lo K hj (by rw [← hk.2.1]; exact h2) (by rw [he]; exact hlh)).mpr (fun t ht1 ht2 => h1 t ht1 (by rw [he] at ht2; exact ht2))
def posT (T : List Int) : Prop := ∀ x ∈ T, 1 ≤ x
def capT (T : List Int) (p : Int) : Prop := ∀ x ∈ T, (T.count x : Int) ≤ p
def ordT (l : List S50) (T : List Int) : Prop := ∀ e ∈ l, rd T e.f0 < rd T e.f1
/-- no time at which a node waits for nothing but a processor, and one stands idle -/
def busy (n : Nat) (l : List S50) (p : Int) (T : List Int) : Prop := ∀ i : Nat, i < n → ∀ t, 1 ≤ t → t < rd T (i : Int) → (∀ k ∈ preds l i, rd T k < t) → (T.count t : Int) = p
open Classical in
noncomputable def vdt (n : Nat) (l : List S50) (p : Int) (T : List Int) : Int := if posT T ∧ capT T p ∧ ordT l T then (if busy n l p T then 2 else 1) else 0
open Classical in
noncomputable def jdg (n : Int) (l : List S50) (p : Int) (T : List Int) : Int × Int :=
  if chk n l = 0 then (if p < 1 ∨ p > 64 then (0, 3) else if (T.length : Int) = n then (vdt n.toNat l p T, 0) else (0, 72)) else (0, chk n l)
theorem vdt_no {n : Nat} {l : List S50} {p : Int} {T : List Int} (h : ¬ (posT T ∧ capT T p ∧ ordT l T)) : vdt n l p T = 0 := by unfold vdt; rw [if_neg h]
theorem vdt_lazy {n : Nat} {l : List S50} {p : Int} {T : List Int} (h : posT T ∧ capT T p ∧ ordT l T) (h2 : ¬ busy n l p T) : vdt n l p T = 1 := by unfold vdt; rw [if_pos h, if_neg h2]
theorem vdt_busy {n : Nat} {l : List S50} {p : Int} {T : List Int} (h : posT T ∧ capT T p ∧ ordT l T) (h2 : busy n l p T) : vdt n l p T = 2 := by unfold vdt; rw [if_pos h, if_pos h2]
/-- since when a node can be done -/
def snc (l : List S50) (T : List Int) (i : Nat) : Int := (preds l i).foldl (fun a k => mx a (rd T k + 1)) 1
theorem snc_le (l : List S50) (T : List Int) (i : Nat) (t : Int) : snc l T i ≤ t ↔ 1 ≤ t ∧ ∀ k ∈ preds l i, rd T k < t := by
  have key : ∀ (row : List Int) (a : Int), row.foldl (fun a k => mx a (rd T k + 1)) a ≤ t ↔ a ≤ t ∧ ∀ k ∈ row, rd T k < t := by
    intro row
    induction row with
    | nil => intro a; simp
    | cons x row ih =>
      intro a
      rw [List.foldl_cons, ih]
      constructor
      · rintro ⟨h1, h2⟩
        unfold mx at h1
        refine ⟨by omega, fun k hk => ?_⟩
        rcases List.mem_cons.mp hk with rfl | hk
        · omega
        · exact h2 k hk
      · rintro ⟨h1, h2⟩
        have := h2 x List.mem_cons_self
        refine ⟨by unfold mx; omega, fun k hk => h2 k (List.mem_cons_of_mem _ hk)⟩
  exact key _ _
theorem snc_snoc (l : List S50) (T : List Int) (e : S50) (i : Nat) : snc (l ++ [e]) T i = if e.f1 = (i : Int) then mx (snc l T i) (rd T e.f0 + 1) else snc l T i := by
  unfold snc
  rw [preds_snoc]
  split
  · rw [List.foldl_append]; rfl
  · rfl
end Go.Proofs.Ytbahnialbffkeaa.P
namespace Go.Proofs.Ytbahnialbffkeaa.P
open Go.RowKit Go.Proofs.YtbahnialbffkeaaW.PrintWords Go.Proofs.YtbahnialbffkeaaW.PrintLast Go.Proofs.YtbahnialbffkeaaW.PrintMore
set_option linter.unusedVariables false
set_option linter.unusedSimpArgs false
theorem grpR_length : ∀ (d : Nat) (H : List Int) (L : List S70), (grpR d H L).length ≤ L.length + d := by
  intro d
  induction d with
  | zero => intro H L; rw [grpR]; omega
  | succ d ih =>
    intro H L
    rw [grpR]
    have := ih (popL H) (addR L (H.getD 0 0))
    have := addR_length L (H.getD 0 0)
    omega
theorem rd_lt_mem {T : List Int} {i : Nat} (h : i < T.length) : rd T (i : Int) ∈ T := by rw [rdi T i h]; exact List.getElem_mem h
theorem rd_setJ (T : List Int) (i k t : Int) (h0 : 0 ≤ i) (hk : 0 ≤ k) : rd (T.set i.toNat t) k = if k = i ∧ i < (T.length : Int) then t else rd T k := by
  unfold rd
  rw [List.getD_eq_getElem?_getD, List.getD_eq_getElem?_getD, List.getElem?_set]
  by_cases h1 : k = i
  · subst h1
    by_cases h2 : k < (T.length : Int)
    · rw [if_pos rfl, if_pos (by omega), if_pos ⟨rfl, h2⟩]; rfl
    · rw [if_pos rfl, if_neg (by omega), if_neg (fun h => h2 h.2), List.getElem?_eq_none (by omega)]
  · rw [if_neg (by omega), if_neg (fun h => h1 h.1)]
theorem full_f (R : List S70) (hR : R.length ≤ 1000000) (p lo hi : Int) (k : Nat) : dag_full.f k R p lo hi = some (fullB R p lo hi) := by
  unfold dag_full.f
  rw [if_pos hR]
/-- the last loop -/
theorem judge_l4 {L R : List S70} {T : List Int} (h : RowsOK T L) (p : Int) (hp : 1 ≤ p) (hR : R.length = L.length) (hRn : R.length ≤ 1000000) (hr : ∀ j : Nat, j < L.length → (rd_T70 R (j : Int)).f0 = (rd_T70 L (j : Int)).f0 ∧ (rd_T70 R (j : Int)).f1 = (rd_T70 L (j : Int)).f1 ∧ (rd_T70 R (j : Int)).f2 = sv L p j)
    (l : List S50) (X : List Int) (hX : X.length = T.length) (hx : ∀ i : Nat, i < T.length → rd X (i : Int) = snc l T i) (hT : T.length ≤ 4096) (hb : ∀ x ∈ T, 1 ≤ x ∧ x ≤ 9223372036854775807) : ∀ (d i : Nat), i + d = T.length →
    ((∀ j : Nat, i ≤ j → j < T.length → ∀ t, snc l T j ≤ t → t < rd T (j : Int) → (T.count t : Int) = p) → Ev (fun k => dag_Judge.l4 k p R X T (T.length : Int) (i : Int)) (2, 0)) ∧
    (¬ (∀ j : Nat, i ≤ j → j < T.length → ∀ t, snc l T j ≤ t → t < rd T (j : Int) → (T.count t : Int) = p) → Ev (fun k => dag_Judge.l4 k p R X T (T.length : Int) (i : Int)) (1, 0)) := by
  intro d
  induction d with
  | zero =>
    intro i hi
    refine ⟨fun _ => Ev.step (f := fun _ => some (2, 0)) (fun k => ?_) (Ev.now _), fun h2 => absurd (fun j h3 h4 => by omega) h2⟩
    simp only [dag_Judge.l4]
    rw [if_neg (by omega)]
  | succ d ih =>
    intro i hi
    have hlt : i < T.length := by omega
    have hbi := hb _ (rd_lt_mem hlt)
    have hxi := hx i hlt
    have next : ∀ r, Ev (fun k => dag_Judge.l4 k p R X T (T.length : Int) ((i + 1 : Nat) : Int)) r → (snc l T i < rd T (i : Int) → fullB R p (snc l T i) (rd T (i : Int) - 1) = true) → Ev (fun k => dag_Judge.l4 k p R X T (T.length : Int) (i : Int)) r := by
      intro r hr2 hf
      refine Ev.step (fun k => ?_) hr2
      simp only [dag_Judge.l4]
      rw [if_pos (by omega), if_pos (by omega), if_pos (by omega), if_pos (by omega), hxi]
      by_cases c : snc l T i < rd T (i : Int)
      · rw [if_pos c, w64 (x := rd T (i : Int) - 1) (by omega) (by omega), full_f R hRn, Option.bind_some, if_pos (hf c), w64s (by omega)]
      · rw [if_neg c, w64s (by omega)]
    have hfi : snc l T i < rd T (i : Int) → (fullB R p (snc l T i) (rd T (i : Int) - 1) = true ↔ ∀ t, snc l T i ≤ t → t < rd T (i : Int) → (T.count t : Int) = p) := fun c => by
      rw [fullB_is h p hp hR hr _ _ (by omega)]
      constructor
      · intro h2 t h3 h4; exact h2 t h3 (by omega)
      · intro h2 t h3 h4; exact h2 t h3 (by omega)
    constructor
    · intro hall
      exact next _ ((ih (i + 1) (by omega)).1 (fun j h1 h2 => hall j (by omega) h2)) (fun c => (hfi c).mpr (hall i (Nat.le_refl _) hlt))
    · intro hno
      by_cases hi2 : ∀ t, snc l T i ≤ t → t < rd T (i : Int) → (T.count t : Int) = p
      · refine next _ ((ih (i + 1) (by omega)).2 (fun h2 => hno (fun j h3 h4 => ?_))) (fun c => (hfi c).mpr hi2)
        by_cases e : j = i
        · subst e; exact hi2
        · exact h2 j (by omega) h4
      · have c : snc l T i < rd T (i : Int) := by
          refine Classical.byContradiction (fun c => hi2 (fun t h1 h2 => ?_))
          omega
        refine Ev.step (f := fun _ => some (1, 0)) (fun k => ?_) (Ev.now _)
        simp only [dag_Judge.l4]
        rw [if_pos (by omega), if_pos (by omega), if_pos (by omega), if_pos (by omega), hxi, if_pos c, w64 (x := rd T (i : Int) - 1) (by omega) (by omega), full_f R hRn, Option.bind_some, if_neg (fun h2 => hi2 ((hfi c).mp h2))]
/-- the loop over the edges -/
theorem judge_l3 (n : Nat) (l : List S50) (hok : ∀ e ∈ l, okE (n : Int) e) (hl : l.length ≤ 16384) (p : Int) (R : List S70) (T : List Int) (hT : T.length = n) (hn : n ≤ 4096) (hb : ∀ x ∈ T, 1 ≤ x ∧ x ≤ 9223372036854775807) (r : Int × Int)
    (next : ∀ X : List Int, X.length = n → (∀ i : Nat, i < n → rd X (i : Int) = snc l T i) → ordT l T → Ev (fun k => dag_Judge.l4 k p R X T (T.length : Int) 0) r) (hno : ¬ ordT l T → r = (0, 0)) :
    ∀ (d j : Nat) (X : List Int), j + d = l.length → X.length = n → (∀ i : Nat, i < n → rd X (i : Int) = snc (l.take j) T i) → (∀ e ∈ l.take j, rd T e.f0 < rd T e.f1) →
    Ev (fun k => dag_Judge.l3 k p T R X l (l.length : Int) (j : Int)) r := by
  intro d
  induction d with
  | zero =>
    intro j X hj hX hx ho
    rw [List.take_of_length_le (by omega)] at hx ho
    refine Ev.step (fun k => ?_) (next X hX hx ho)
    simp only [dag_Judge.l3]
    rw [if_neg (by omega)]
  | succ d ih =>
    intro j X hj hX hx ho
    have hlt : j < l.length := by omega
    obtain ⟨e, hee⟩ : ∃ e, e = l[j] := ⟨_, rfl⟩
    have hmem : e ∈ l := by rw [hee]; exact List.getElem_mem hlt
    obtain ⟨b1, b2, b3⟩ := hok e hmem
    have htake : l.take (j + 1) = l.take j ++ [e] := by rw [hee, List.take_succ_eq_append_getElem hlt]
    by_cases c : rd T e.f0 ≥ rd T e.f1
    · rw [hno (fun h => by have := h e hmem; omega)]
      refine Ev.step (f := fun _ => some (0, 0)) (fun k => ?_) (Ev.now _)
      simp only [dag_Judge.l3]
      rw [if_pos (by omega), if_pos (by omega), if_pos (by omega), rd50 l j hlt, ← hee, if_pos b1, if_pos (by omega), if_pos (by omega), if_pos (by omega), if_pos c]
    · have e0 : ((e.f0.toNat : Nat) : Int) = e.f0 := by omega
      have e1 : ((e.f1.toNat : Nat) : Int) = e.f1 := by omega
      have hb0 := hb _ (rd_lt_mem (T := T) (i := e.f0.toNat) (by omega))
      have hb1 := hb _ (rd_lt_mem (T := T) (i := e.f1.toNat) (by omega))
      rw [e0] at hb0
      rw [e1] at hb1
      refine Ev.step (f := fun k => dag_Judge.l3 k p T R (X.set e.f1.toNat (mx (rd X e.f1) (rd T e.f0 + 1))) l (l.length : Int) ((j + 1 : Nat) : Int)) (fun k => ?_) (ih (j + 1) _ (by omega) (by rw [List.length_set]; exact hX) (fun i hi => ?_) (fun e' he' => ?_))
      · simp only [dag_Judge.l3]
        rw [if_pos (by omega), if_pos (by omega), if_pos (by omega), rd50 l j hlt, ← hee, if_pos b1, if_pos (by omega), if_pos (by omega), if_pos (by omega), if_neg c, if_pos (by omega), w64 (x := rd T e.f0 + 1) (by omega) (by omega), w64s (by omega)]
      · rw [htake, snc_snoc, rd_setJ X e.f1 (i : Int) _ (by omega) (by omega)]
        by_cases hk : e.f1 = (i : Int)
        · rw [if_pos ⟨hk.symm, by omega⟩, if_pos hk, hk, hx i hi]
        · rw [if_neg (fun h => hk h.1.symm), if_neg hk, hx i hi]
      · rw [htake] at he'
        rcases List.mem_append.mp he' with h | h
        · exact ho e' h
        · rw [List.mem_singleton.mp h]; omega
/-- all from 1 on -/
theorem judge_l2 (n : Nat) (l : List S50) (p : Int) (R : List S70) (T : List Int) (hn : n ≤ 4096) (r : Int × Int)
    (next : ∀ X : List Int, X.length = n → (∀ i : Nat, i < n → rd X (i : Int) = 1) → Ev (fun k => dag_Judge.l3 k p T R X l (l.length : Int) 0) r) :
    ∀ (d i : Nat) (X : List Int), i + d = n → X.length = n → (∀ j : Nat, j < i → rd X (j : Int) = 1) → Ev (fun k => dag_Judge.l2 k p T R X (n : Int) (i : Int) (n : Int) l) r := by
  intro d
  induction d with
  | zero =>
    intro i X hi hX hx
    refine Ev.step (fun k => ?_) (next X hX (fun j hj => hx j (by omega)))
    simp only [dag_Judge.l2]
    rw [if_neg (by omega)]
  | succ d ih =>
    intro i X hi hX hx
    refine Ev.step (f := fun k => dag_Judge.l2 k p T R (X.set (i : Int).toNat 1) (n : Int) ((i + 1 : Nat) : Int) (n : Int) l) (fun k => ?_) (ih (i + 1) _ (by omega) (by rw [List.length_set]; exact hX) (fun j hj => ?_))
    · simp only [dag_Judge.l2]
      rw [if_pos (by omega), if_pos (by omega), if_pos (by omega), w64s (by omega)]
    · rw [rd_setJ X (i : Int) (j : Int) 1 (by omega) (by omega)]
      by_cases e : (j : Int) = (i : Int)
      · rw [if_pos ⟨e, by omega⟩]
      · rw [if_neg (fun h => e h.1), hx j (by omega)]
/-- the loop over the rows -/
theorem judge_l1 (n : Nat) (l : List S50) (p : Int) (R : List S70) (T : List Int) (hn : n ≤ 4096) (hR : R.length ≤ 1000000) (r : Int × Int)
    (next : (∀ j : Nat, j < R.length → (rd_T70 R (j : Int)).f1 ≤ p) → Ev (fun k => dag_Judge.l2 k p T R (List.replicate n 0) (n : Int) 0 (n : Int) l) r) (hno : (∃ j : Nat, j < R.length ∧ (rd_T70 R (j : Int)).f1 > p) → r = (0, 0)) :
    ∀ (d i : Nat), i + d = R.length → (∀ j : Nat, j < i → (rd_T70 R (j : Int)).f1 ≤ p) → Ev (fun k => dag_Judge.l1 k p T R R (R.length : Int) (i : Int) (n : Int) l) r := by
  intro d
  induction d with
  | zero =>
    intro i hi hx
    refine Ev.step (fun k => ?_) (next (fun j hj => hx j (by omega)))
    simp only [dag_Judge.l1]
    rw [if_neg (by omega), if_pos (by omega), if_pos (by omega), Option.bind_some, Int.toNat_natCast, List.length_replicate]
  | succ d ih =>
    intro i hi hx
    by_cases c : (rd_T70 R (i : Int)).f1 > p
    · rw [hno ⟨i, by omega, c⟩]
      refine Ev.step (f := fun _ => some (0, 0)) (fun k => ?_) (Ev.now _)
      simp only [dag_Judge.l1]
      rw [if_pos (by omega), if_pos (by omega), if_pos (by omega), if_pos c]
    · refine Ev.step (f := fun k => dag_Judge.l1 k p T R R (R.length : Int) ((i + 1 : Nat) : Int) (n : Int) l) (fun k => ?_) (ih (i + 1) (by omega) (fun j hj => ?_))
      · simp only [dag_Judge.l1]
        rw [if_pos (by omega), if_pos (by omega), if_pos (by omega), if_neg c, w64s (by omega)]
      · by_cases e : j = i
        · subst e; omega
        · exact hx j (by omega)
/-- the loop over the times -/
theorem judge_l0 (n : Nat) (l : List S50) (p : Int) (T : List Int) (hT : T.length ≤ 4096) (r : Int × Int)
    (next : posT T → Ev (fun k => (dag_rows.f k T p).bind fun t => dag_Judge.l1 k p T t t (t.length : Int) 0 (n : Int) l) r) (hno : ¬ posT T → r = (0, 0)) :
    ∀ (d i : Nat), i + d = T.length → (∀ x ∈ T.take i, 1 ≤ x) → Ev (fun k => dag_Judge.l0 k p T T (T.length : Int) (i : Int) (n : Int) l) r := by
  intro d
  induction d with
  | zero =>
    intro i hi hx
    rw [List.take_of_length_le (by omega)] at hx
    refine Ev.step (fun k => ?_) (next hx)
    simp only [dag_Judge.l0]
    rw [if_neg (by omega)]
  | succ d ih =>
    intro i hi hx
    have hlt : i < T.length := by omega
    by_cases c : rd T (i : Int) < 1
    · rw [hno (fun h => by have := h _ (rd_lt_mem hlt); omega)]
      refine Ev.step (f := fun _ => some (0, 0)) (fun k => ?_) (Ev.now _)
      simp only [dag_Judge.l0]
      rw [if_pos (by omega), if_pos (by omega), if_pos (by omega), if_pos c]
    · refine Ev.step (f := fun k => dag_Judge.l0 k p T T (T.length : Int) ((i + 1 : Nat) : Int) (n : Int) l) (fun k => ?_) (ih (i + 1) (by omega) (fun x h => ?_))
      · simp only [dag_Judge.l0]
        rw [if_pos (by omega), if_pos (by omega), if_pos (by omega), if_neg c, w64s (by omega)]
      · rw [List.take_succ_eq_append_getElem hlt] at h
        rcases List.mem_append.mp h with h | h
        · exact hx x h
        · rw [List.mem_singleton.mp h, ← rdi T i hlt]; omega
theorem judge_go (n : Nat) (l : List S50) (hok : ∀ e ∈ l, okE (n : Int) e) (hl : l.length ≤ 16384) (hn : n ≤ 4096) (p : Int) (hp : 1 ≤ p) (T : List Int) (hT : T.length = n) (hb : ∀ x ∈ T, x ≤ 9223372036854775807) :
    Ev (fun k => dag_Judge.l0 k p T T (T.length : Int) 0 (n : Int) l) (vdt n l p T, 0) := by
  refine judge_l0 n l p T (by omega) _ (fun hpos => ?_) (fun h => by rw [vdt_no (fun h2 => h h2.1)]) T.length 0 (by omega) (by simp)
  have hb2 : ∀ x ∈ T, 1 ≤ x ∧ x ≤ 9223372036854775807 := fun x hx => ⟨hpos x hx, hb x hx⟩
  have hrows := grp_ok T (by omega)
  have hlen := grpR_length T.length (T.foldl pushL []) []
  obtain ⟨L, hL⟩ : ∃ L, L = grpR T.length (T.foldl pushL []) [] := ⟨_, rfl⟩
  rw [← hL] at hrows hlen
  have hLn : L.length ≤ 4096 := by simp at hlen; omega
  obtain ⟨R, hR, hRl, hRr⟩ := rows_l1 L p (fun j hj => by
    have h1 := (hrows.cnt _ (rd70_mem L j hj)).2
    exact hb2 _ h1) (by omega) L.length 0 L (by omega) rfl (fun j hj => ⟨rfl, rfl, fun h => by omega⟩)
  have hrf : Ev (fun k => dag_rows.f k T p) R := by
    refine Ev.congr (f := fun k => dag_rows.l1 k p L (L.length : Int) ((0 : Nat) : Int)) (fun k => ?_) hR
    unfold dag_rows.f
    rw [if_pos (by omega), ← hL]
    rfl
  refine Ev.bind hrf ?_
  have hcap : (∀ j : Nat, j < R.length → (rd_T70 R (j : Int)).f1 ≤ p) ↔ capT T p := by
    constructor
    · intro h x hx
      obtain ⟨j, hj, he⟩ := hrows.at hx
      have h2 := h j (by omega)
      rw [(hRr j hj).2.1, hrows.f1 hj, he] at h2
      exact h2
    · intro h j hj
      have hj2 : j < L.length := by omega
      rw [(hRr j hj2).2.1, hrows.f1 hj2]
      exact h _ (hrows.cnt _ (rd70_mem L j hj2)).2
  refine judge_l1 n l p R T hn (by omega) _ (fun hc => ?_) (fun hc => ?_) R.length 0 (by omega) (fun j hj => by omega)
  · refine judge_l2 n l p R T hn _ (fun X hX hx => ?_) n 0 _ (by omega) (by simp) (fun j hj => by omega)
    refine judge_l3 n l hok hl p R T hT hn hb2 _ (fun X2 hX2 hx2 ho => ?_) (fun h => by rw [vdt_no (fun h2 => h h2.2.2)]) l.length 0 X (by omega) hX (fun i hi => by rw [hx i hi]; simp [snc, preds]) (by simp)
    have hsched : posT T ∧ capT T p ∧ ordT l T := ⟨hpos, hcap.mp hc, ho⟩
    have h4 := judge_l4 hrows p hp hRl (by omega) hRr l X2 (by omega) (by rw [hT]; exact hx2) (by omega) hb2 T.length 0 (by omega)
    have hbusy : (∀ j : Nat, 0 ≤ j → j < T.length → ∀ t, snc l T j ≤ t → t < rd T (j : Int) → (T.count t : Int) = p) ↔ busy n l p T := by
      constructor
      · intro h i hi t h1 h2 h3
        exact h i (Nat.zero_le _) (by omega) t ((snc_le l T i t).mpr ⟨h1, h3⟩) h2
      · intro h j _ hj t h1 h2
        have h3 := (snc_le l T j t).mp h1
        exact h j (by omega) t h3.1 h2 h3.2
    by_cases c : busy n l p T
    · rw [vdt_busy hsched c]
      exact h4.1 (hbusy.mpr c)
    · rw [vdt_lazy hsched c]
      exact h4.2 (fun h => c (hbusy.mp h))
  · obtain ⟨j, hj, h2⟩ := hc
    rw [vdt_no (fun h3 => by have := hcap.mpr h3.2.1 j hj; omega)]
theorem dagJudge_ev (n : Int) (l : List S50) (p : Int) (T : List Int) (hl : l.length < 1099511627776) (hb : ∀ x ∈ T, x ≤ 9223372036854775807) : Ev (fun k => dag_Judge.f k n l p T) (jdg n l p T) := by
  unfold dag_Judge.f jdg
  refine Ev.bind (dagCheck_ev n l hl) ?_
  by_cases hc : chk n l = 0
  · rw [if_pos hc]
    simp only [hc, if_true]
    obtain ⟨h0, h1, h2, hok⟩ := chk_zero hc
    have bad : ∀ b : Bool, b = true → Ev (fun k => dag_Judge.j0 k p T b n l) (0, 3) := by
      rintro b rfl
      refine Ev.step (f := fun _ => some (0, 3)) (fun k => ?_) (Ev.now _)
      simp only [dag_Judge.j0, if_true]
    by_cases hp : p < 1 ∨ p > 64
    · rw [if_pos hp]
      by_cases hp1 : p < 1
      · simp only [if_pos hp1]
        exact bad true rfl
      · simp only [if_neg hp1]
        exact bad _ (decide_eq_true (by omega))
    · rw [if_neg hp]
      have hp1 : ¬ p < 1 := by omega
      simp only [if_neg hp1]
      rw [decide_eq_false (by omega)]
      by_cases hT : (T.length : Int) = n
      · rw [if_pos hT]
        refine Ev.step (f := fun k => dag_Judge.l0 k p T T (T.length : Int) 0 (n.toNat : Int) l) (fun k => ?_) (judge_go n.toNat l (by rw [show ((n.toNat : Nat) : Int) = n from by omega]; exact hok) (by omega) (by omega) p (by omega) T (by omega) hb)
        simp only [dag_Judge.j0]
        rw [if_neg (by decide), if_pos hT, show ((n.toNat : Nat) : Int) = n from by omega]
      · rw [if_neg hT]
        refine Ev.step (f := fun _ => some (0, 72)) (fun k => ?_) (Ev.now _)
        simp only [dag_Judge.j0]
        rw [if_neg (by decide), if_neg hT]
  · rw [if_neg hc]
    simp only [if_neg hc]
    exact Ev.now _
end Go.Proofs.Ytbahnialbffkeaa.P
namespace Go.Proofs.Ytbahnialbffkeaa.P
open Go.RowKit Go.Proofs.YtbahnialbffkeaaW.PrintWords Go.Proofs.YtbahnialbffkeaaW.PrintLast Go.Proofs.YtbahnialbffkeaaW.PrintMore
set_option linter.unusedVariables false

/-- the greatest of a list, 0 if none is above 0 -/
def great (x : List Int) : Int := x.foldl mx 0
def span (n : Int) (l : List S50) : Int × Int := if chk n l = 0 then (great (earl n l).1, 0) else (0, chk n l)
theorem great_snoc (x : List Int) (v : Int) : great (x ++ [v]) = mx (great x) v := by simp [great, List.foldl_append]

theorem dagSpan_l0 (x : List Int) (hx : x.length < 1099511627776) : ∀ (d j : Nat), j + d = x.length → Ev (fun k => dag_Span.l0 k (great (x.take j)) x (x.length : Int) (j : Int)) (great x, 0) := by
  intro d
  induction d with
  | zero =>
    intro j hj
    refine Ev.step (f := fun _ => some (great x, 0)) (fun k => ?_) (Ev.now _)
    simp only [dag_Span.l0]
    rw [if_neg (by omega), List.take_of_length_le (by omega)]
  | succ d ih =>
    intro j hj
    have hlt : j < x.length := by omega
    refine Ev.step (f := fun k => dag_Span.l0 k (great (x.take (j + 1))) x (x.length : Int) ((j + 1 : Nat) : Int)) (fun k => ?_) (ih (j + 1) (by omega))
    simp only [dag_Span.l0]
    rw [if_pos (by omega), if_pos (by omega), if_pos (by omega), rdi x j hlt, w64s (by omega), List.take_succ_eq_append_getElem hlt, great_snoc]
theorem earl_snd (n : Int) (l : List S50) : (earl n l).2 = chk n l := by
  unfold earl
  split
  · rename_i h; exact h.symm
  · rfl
theorem dagSpan_ev (n : Int) (l : List S50) (hl : l.length < 1099511627776) : Ev (fun k => dag_Span.f k n l) (span n l) := by
  have hq := earl_length n l
  unfold dag_Span.f
  refine Ev.bind (dagEarliest_ev n l hl) ?_
  simp only [earl_snd]
  by_cases h : chk n l = 0
  · simp only [if_pos h, span]
    exact dagSpan_l0 (earl n l).1 (by omega) (earl n l).1.length 0 (by omega)
  · simp only [if_neg h, span]
    exact Ev.now _
end Go.Proofs.Ytbahnialbffkeaa.P
namespace Go.Proofs.Ytbahnialbffkeaa.P
open Go.RowKit Go.Proofs.YtbahnialbffkeaaW.PrintWords Go.Proofs.YtbahnialbffkeaaW.PrintLast Go.Proofs.YtbahnialbffkeaaW.PrintMore
set_option linter.unusedVariables false

theorem great_nonneg (x : List Int) : 0 ≤ great x := by
  have key : ∀ (x : List Int) (a : Int), 0 ≤ a → 0 ≤ x.foldl mx a := by
    intro x
    induction x with
    | nil => intro a h; exact h
    | cons v r ih =>
      intro a h
      refine ih (mx a v) ?_
      unfold mx; split <;> omega
  exact key x 0 (Int.le_refl 0)
theorem great_ge {x : List Int} {v : Int} (h : v ∈ x) : v ≤ great x := by
  have mono : ∀ (x : List Int) (a : Int), a ≤ x.foldl mx a := by
    intro x
    induction x with
    | nil => intro a; exact Int.le_refl a
    | cons w r ih =>
      intro a
      refine Int.le_trans (show a ≤ mx a w from ?_) (ih _)
      unfold mx; split <;> omega
  have key : ∀ (x : List Int) (a : Int), v ∈ x → v ≤ x.foldl mx a := by
    intro x
    induction x with
    | nil => intro a h; cases h
    | cons w r ih =>
      intro a h
      rcases List.mem_cons.1 h with rfl | h
      · refine Int.le_trans (show v ≤ mx a v from ?_) (mono r _)
        unfold mx; split <;> omega
      · exact ih _ h
  exact key x 0 h
theorem great_is (x : List Int) : great x = 0 ∨ great x ∈ x := by
  have key : ∀ (x : List Int) (a : Int), x.foldl mx a = a ∨ x.foldl mx a ∈ x := by
    intro x
    induction x with
    | nil => intro a; exact .inl rfl
    | cons w r ih =>
      intro a
      rcases ih (mx a w) with h | h
      · rw [List.foldl_cons, h]
        unfold mx
        by_cases hlt : a < w
        · rw [if_pos hlt]; exact .inr List.mem_cons_self
        · rw [if_neg hlt]; exact .inl rfl
      · exact .inr (List.mem_cons_of_mem _ h)
  exact key x 0
theorem rd_mem {x : List Int} {i : Int} (h0 : 0 ≤ i) (h : i < (x.length : Int)) : rd x i ∈ x := by
  unfold rd
  rw [List.getD_eq_getElem?_getD, List.getElem?_eq_getElem (by omega)]
  exact List.getElem_mem _
end Go.Proofs.Ytbahnialbffkeaa.P
namespace Go.Proofs.Ytbahnialbffkeaa.P
open Go.RowKit Go.Proofs.YtbahnialbffkeaaW.PrintWords Go.Proofs.YtbahnialbffkeaaW.PrintLast Go.Proofs.YtbahnialbffkeaaW.PrintMore
set_option linter.unusedVariables false
set_option linter.unusedSimpArgs false
/-- a list that holds 1, 2, .., m is as long as m -/
theorem pigeon : ∀ (m : Nat) (T : List Int), (∀ t : Nat, 1 ≤ t → t ≤ m → (t : Int) ∈ T) → m ≤ T.length := by
  intro m
  induction m with
  | zero => intro T _; omega
  | succ m ih =>
    intro T h
    have hm := h (m + 1) (by omega) (by omega)
    have h1 := ih (T.erase ((m + 1 : Nat) : Int)) (fun t ht1 ht2 => (List.mem_erase_of_ne (by omega)).mpr (h t ht1 (by omega)))
    rw [List.length_erase_of_mem hm] at h1
    have := List.length_pos_of_mem hm
    omega
/-- the least element above some number -/
theorem least_above (T : List Int) (g : Int) (h : ∃ x ∈ T, g < x) : ∃ x ∈ T, g < x ∧ ∀ y ∈ T, g < y → x ≤ y := by
  induction T with
  | nil => obtain ⟨x, hx, -⟩ := h; cases hx
  | cons a T ih =>
    by_cases h2 : ∃ x ∈ T, g < x
    · obtain ⟨x, hx, hg, hmin⟩ := ih h2
      by_cases h3 : g < a ∧ a < x
      · refine ⟨a, List.mem_cons_self, h3.1, fun y hy hgy => ?_⟩
        rcases List.mem_cons.mp hy with rfl | hy
        · exact Int.le_refl _
        · have := hmin y hy hgy
          omega
      · refine ⟨x, List.mem_cons_of_mem _ hx, hg, fun y hy hgy => ?_⟩
        rcases List.mem_cons.mp hy with rfl | hy
        · omega
        · exact hmin y hy hgy
    · obtain ⟨x, hx, hg⟩ := h
      have hxa : x = a := by
        rcases List.mem_cons.mp hx with h3 | h3
        · exact h3
        · exact absurd ⟨x, h3, hg⟩ h2
      subst hxa
      refine ⟨x, List.mem_cons_self, hg, fun y hy hgy => ?_⟩
      rcases List.mem_cons.mp hy with rfl | hy
      · exact Int.le_refl _
      · exact absurd ⟨y, hy, hgy⟩ h2
theorem mem_rd {T : List Int} {x : Int} (h : x ∈ T) : ∃ i : Nat, i < T.length ∧ rd T (i : Int) = x := by
  obtain ⟨j, hj, rfl⟩ := List.mem_iff_getElem.mp h
  exact ⟨j, hj, rdi T j hj⟩
/-- what takes longer than there are nodes is not greedy -/
theorem busy_short (n : Nat) (l : List S50) (hok : ∀ e ∈ l, okE (n : Int) e) (p : Int) (hp : 1 ≤ p) (T : List Int) (hT : T.length = n) (hord : ordT l T) (hbusy : busy n l p T) : great T ≤ n := by
  refine Classical.byContradiction (fun hgt => ?_)
  have hg0 := great_nonneg T
  -- a time at which nothing is done
  have hgap : ∃ g : Nat, 1 ≤ g ∧ (g : Int) ≤ great T ∧ (g : Int) ∉ T := by
    refine Classical.byContradiction (fun hno => ?_)
    have h1 := pigeon (great T).toNat T (fun t h1 h2 => Classical.byContradiction (fun h3 => hno ⟨t, h1, by omega, h3⟩))
    omega
  obtain ⟨g, hg1, hg2, hg3⟩ := hgap
  have hmem : great T ∈ T := by
    rcases great_is T with h | h
    · omega
    · exact h
  obtain ⟨x, hx, hgx, hmin⟩ := least_above T (g : Int) ⟨great T, hmem, by
    have : great T ≠ (g : Int) := fun e => hg3 (by rw [← e]; exact hmem)
    omega⟩
  obtain ⟨i, hi, rfl⟩ := mem_rd hx
  have h1 := hbusy i (by omega) (g : Int) (by omega) hgx (fun k hk => ?_)
  · rw [List.count_eq_zero.mpr hg3] at h1
    omega
  · obtain ⟨e, he, a1, a2⟩ := preds_mem hk
    obtain ⟨b1, b2, b3⟩ := hok e he
    have h2 := hord e he
    rw [a1, a2] at h2
    have hk0 : ((k.toNat : Nat) : Int) = k := by omega
    have hkm : rd T k ∈ T := by rw [← hk0]; exact rd_lt_mem (by omega)
    have h3 : rd T k ≠ (g : Int) := fun e => hg3 (by rw [← e]; exact hkm)
    by_cases h4 : (g : Int) < rd T k
    · have := hmin _ hkm h4
      omega
    · omega
end Go.Proofs.Ytbahnialbffkeaa.P
namespace Go.Proofs.Ytbahnialbffkeaa.P
open Go.RowKit Go.Proofs.YtbahnialbffkeaaW.PrintWords Go.Proofs.YtbahnialbffkeaaW.PrintLast Go.Proofs.YtbahnialbffkeaaW.PrintMore
set_option linter.unusedVariables false
set_option linter.unusedSimpArgs false
def upTo (T : List Int) (s : Nat) : Nat := (T.filter (fun x => decide (x ≤ (s : Int)))).length
theorem upTo_zero (T : List Int) (h : posT T) : upTo T 0 = 0 := by
  unfold upTo
  rw [List.length_eq_zero_iff, List.filter_eq_nil_iff]
  intro x hx
  have := h x hx
  simp only [decide_eq_true_eq]
  omega
theorem upTo_succ (T : List Int) (s : Nat) : upTo T (s + 1) = upTo T s + T.count ((s + 1 : Nat) : Int) := by
  unfold upTo
  induction T with
  | nil => rfl
  | cons a T ih =>
    by_cases h1 : a ≤ (s : Int)
    · rw [List.filter_cons_of_pos (by simp; omega), List.filter_cons_of_pos (by simp; omega), List.length_cons, List.length_cons, ih, List.count_cons_of_ne (by omega)]
      omega
    · by_cases h2 : a = ((s + 1 : Nat) : Int)
      · rw [List.filter_cons_of_pos (by simp; omega), List.filter_cons_of_neg (by simp; omega), List.length_cons, ih, h2, List.count_cons_self]
        omega
      · rw [List.filter_cons_of_neg (by simp; omega), List.filter_cons_of_neg (by simp; omega), ih, List.count_cons_of_ne (by omega)]
theorem upTo_all (T : List Int) (s : Nat) (h : great T ≤ (s : Int)) : upTo T s = T.length := by
  unfold upTo
  rw [List.filter_eq_self.mpr]
  intro x hx
  have := great_ge hx
  exact decide_eq_true (by omega)
/-- every time from 1 on has at most p, and at least one unless it is above all -/
theorem sched_len (T : List Int) (p : Nat) (hpos : posT T) (hcap : ∀ t : Int, T.count t ≤ p) : ∀ s : Nat, upTo T s ≤ p * s := by
  intro s
  induction s with
  | zero => rw [upTo_zero T hpos]; omega
  | succ s ih =>
    rw [upTo_succ, Nat.mul_succ]
    have := hcap ((s + 1 : Nat) : Int)
    omega
theorem cap_all {T : List Int} {p : Int} (hp : 0 ≤ p) (h : capT T p) (t : Int) : T.count t ≤ p.toNat := by
  by_cases hm : t ∈ T
  · have := h t hm
    omega
  · rw [List.count_eq_zero.mpr hm]
    omega
theorem sched_work {n : Nat} {T : List Int} {p : Int} (hp : 0 ≤ p) (hT : T.length = n) (hpos : posT T) (hcap : capT T p) : (n : Int) ≤ p * great T := by
  have hg := great_nonneg T
  have h1 := sched_len T p.toNat hpos (fun t => cap_all hp hcap t) (great T).toNat
  rw [upTo_all T _ (by omega), hT] at h1
  have h2 : ((p.toNat * (great T).toNat : Nat) : Int) = p * great T := by
    rw [Int.natCast_mul, show ((p.toNat : Nat) : Int) = p from by omega, show (((great T).toNat : Nat) : Int) = great T from by omega]
  omega
/-- a schedule is not ahead of the earliest times -/
theorem ear_le {n : Nat} {l : List S50} (hok : ∀ e ∈ l, okE (n : Int) e) {T : List Int} (hT : T.length = n) (hpos : posT T) (hord : ordT l T) : ∀ i : Nat, i < n → rd (ear (rowsOf n l) n) (i : Int) ≤ rd T (i : Int) := by
  intro i
  induction i using Nat.strongRecOn with
  | _ i ih =>
    intro hi
    rw [ear_at (rowsOf n l) hi, rowsOf_getD _ _ _ hi]
    have h1 := hpos _ (rd_lt_mem (T := T) (i := i) (by omega))
    have h2 : mxL (ear (rowsOf n l) i) (preds l i) ≤ rd T (i : Int) - 1 := by
      refine (mxL_bd _ _ _ (by omega) (fun k hk => ?_)).2
      obtain ⟨e, he, a1, a2⟩ := preds_mem hk
      obtain ⟨b1, b2, b3⟩ := hok e he
      have h3 := hord e he
      rw [a1, a2] at h3
      have h4 := ih k.toNat (by omega) (by omega)
      rw [show ((k.toNat : Nat) : Int) = k from by omega] at h4
      have h5 := ear_stays (rowsOf n l) (i := i) (j := n) (by omega) (k := k) (by omega) (by omega)
      omega
    omega
theorem sched_span {n : Nat} {l : List S50} (hok : ∀ e ∈ l, okE (n : Int) e) {T : List Int} (hT : T.length = n) (hpos : posT T) (hord : ordT l T) : great (ear (rowsOf n l) n) ≤ great T := by
  rcases great_is (ear (rowsOf n l) n) with h | h
  · rw [h]; exact great_nonneg T
  · obtain ⟨i, hi, he⟩ := mem_rd h
    rw [ear_length] at hi
    have h1 := ear_le hok hT hpos hord i hi
    have h2 := great_ge (rd_lt_mem (T := T) (i := i) (by omega))
    omega
open Classical in
noncomputable def idle (T : List Int) (p : Int) : Nat → Nat
  | 0 => 0
  | s + 1 => idle T p s + if (T.count ((s + 1 : Nat) : Int) : Int) = p then 0 else 1
theorem idle_full (T : List Int) (p : Int) {a : Nat} : ∀ d : Nat, (∀ s : Nat, a < s → s ≤ a + d → (T.count (s : Int) : Int) = p) → idle T p (a + d) = idle T p a := by
  intro d
  induction d with
  | zero => intro _; rfl
  | succ d ih =>
    intro h
    rw [show a + (d + 1) = a + d + 1 from rfl, idle, if_pos (h (a + d + 1) (by omega) (by omega)), ih (fun s h1 h2 => h s h1 (by omega))]
    rfl
/-- ahead of a node's time there are fewer idle times than nodes on the longest path to it -/
theorem idle_lt {n : Nat} {l : List S50} (hok : ∀ e ∈ l, okE (n : Int) e) {p : Int} {T : List Int} (hT : T.length = n) (hpos : posT T) (hord : ordT l T) (hbusy : busy n l p T) : ∀ i : Nat, i < n → (idle T p ((rd T (i : Int)).toNat - 1) : Int) ≤ rd (ear (rowsOf n l) n) (i : Int) - 1 := by
  intro i
  induction i using Nat.strongRecOn with
  | _ i ih =>
    intro hi
    have h1 := hpos _ (rd_lt_mem (T := T) (i := i) (by omega))
    have hear := ear_at (rowsOf n l) hi
    rw [rowsOf_getD _ _ _ hi] at hear
    -- the latest of those ahead
    have hlast : ∃ m : Int, 0 ≤ m ∧ (∀ k ∈ preds l i, rd T k ≤ m) ∧ (m = 0 ∨ ∃ k ∈ preds l i, m = rd T k) := by
      refine ⟨mxL T (preds l i), ?_, fun k hk => mxL_ge T (preds l i) hk, mxL_is T (preds l i)⟩
      have key : ∀ (row : List Int) (a : Int), a ≤ row.foldl (fun a k => mx a (rd T k)) a := by
        intro row
        induction row with
        | nil => intro a; exact Int.le_refl _
        | cons x row ih =>
          intro a
          rw [List.foldl_cons]
          have := ih (mx a (rd T x))
          have h9 : a ≤ mx a (rd T x) := by unfold mx; omega
          omega
      exact key _ 0
    obtain ⟨m, hm0, hm1, hm2⟩ := hlast
    have hmi : m < rd T (i : Int) := by
      rcases hm2 with h | ⟨k, hk, h⟩
      · omega
      · obtain ⟨e, he, a1, a2⟩ := preds_mem hk
        have h3 := hord e he
        rw [a1, a2] at h3
        omega
    have hfull := idle_full T p (a := m.toNat) ((rd T (i : Int)).toNat - 1 - m.toNat) (fun s h3 h4 => hbusy i hi (s : Int) (by omega) (by omega) (fun k hk => by have := hm1 k hk; omega))
    rw [show m.toNat + ((rd T (i : Int)).toNat - 1 - m.toNat) = (rd T (i : Int)).toNat - 1 from by omega] at hfull
    rw [hfull, hear]
    rcases hm2 with h | ⟨k, hk, h⟩
    · rw [h]
      have := (mxL_bd (ear (rowsOf n l) i) (preds l i) (great (ear (rowsOf n l) i)) (great_nonneg _) (fun k hk => by
        obtain ⟨e, he, a1, a2⟩ := preds_mem hk
        obtain ⟨b1, b2, b3⟩ := hok e he
        exact great_ge (rd_mem (by omega) (by rw [ear_length]; omega)))).1
      show ((0 : Nat) : Int) ≤ _
      omega
    · obtain ⟨e, he, a1, a2⟩ := preds_mem hk
      obtain ⟨b1, b2, b3⟩ := hok e he
      have h4 := ih k.toNat (by omega) (by omega)
      rw [show ((k.toNat : Nat) : Int) = k from by omega] at h4
      have h5 := mxL_ge (ear (rowsOf n l) i) (preds l i) hk
      have h6 := ear_stays (rowsOf n l) (i := i) (j := n) (by omega) (k := k) (by omega) (by omega)
      have hk1 := hpos _ (rd_lt_mem (T := T) (i := k.toNat) (by omega))
      rw [show ((k.toNat : Nat) : Int) = k from by omega] at hk1
      obtain ⟨q, hq⟩ : ∃ q, m.toNat = q + 1 := ⟨m.toNat - 1, by omega⟩
      have hq2 : (rd T k).toNat - 1 = q := by omega
      rw [hq2] at h4
      rw [hq, idle]
      have h7 : (if (T.count ((q + 1 : Nat) : Int) : Int) = p then 0 else 1 : Nat) ≤ 1 := by split <;> omega
      omega
theorem idle_span {n : Nat} {l : List S50} (hok : ∀ e ∈ l, okE (n : Int) e) {p : Int} {T : List Int} (hT : T.length = n) (hpos : posT T) (hord : ordT l T) (hbusy : busy n l p T) : (idle T p (great T).toNat : Int) ≤ great (ear (rowsOf n l) n) := by
  have hg := great_nonneg T
  rcases great_is T with h | h
  · rw [h]
    exact great_nonneg _
  · obtain ⟨i, hi, he⟩ := mem_rd h
    have h1 := idle_lt hok hT hpos hord hbusy i (by omega)
    have h2 := great_ge (rd_mem (x := ear (rowsOf n l) n) (i := (i : Int)) (by omega) (by rw [ear_length]; omega))
    rw [he] at h1
    have h3 := hpos _ h
    obtain ⟨q, hq⟩ : ∃ q, (great T).toNat = q + 1 := ⟨(great T).toNat - 1, by omega⟩
    rw [hq] at h1 ⊢
    rw [show q + 1 - 1 = q from rfl] at h1
    rw [idle]
    have h7 : (if (T.count ((q + 1 : Nat) : Int) : Int) = p then 0 else 1 : Nat) ≤ 1 := by split <;> omega
    omega
/-- at each time of a greedy schedule something is done -/
theorem busy_nogap (n : Nat) (l : List S50) (hok : ∀ e ∈ l, okE (n : Int) e) (p : Int) (hp : 1 ≤ p) (T : List Int) (hT : T.length = n) (hord : ordT l T) (hbusy : busy n l p T) : ∀ g : Nat, 1 ≤ g → (g : Int) ≤ great T → (g : Int) ∈ T := by
  intro g hg1 hg2
  refine Classical.byContradiction (fun hg3 => ?_)
  have hmem : great T ∈ T := by
    rcases great_is T with h | h
    · omega
    · exact h
  obtain ⟨x, hx, hgx, hmin⟩ := least_above T (g : Int) ⟨great T, hmem, by
    have : great T ≠ (g : Int) := fun e => hg3 (by rw [← e]; exact hmem)
    omega⟩
  obtain ⟨i, hi, rfl⟩ := mem_rd hx
  have h1 := hbusy i (by omega) (g : Int) (by omega) hgx (fun k hk => ?_)
  · rw [List.count_eq_zero.mpr hg3] at h1
    omega
  · obtain ⟨e, he, a1, a2⟩ := preds_mem hk
    obtain ⟨b1, b2, b3⟩ := hok e he
    have h2 := hord e he
    rw [a1, a2] at h2
    have hk0 : ((k.toNat : Nat) : Int) = k := by omega
    have hkm : rd T k ∈ T := by rw [← hk0]; exact rd_lt_mem (by omega)
    have h3 : rd T k ≠ (g : Int) := fun e => hg3 (by rw [← e]; exact hkm)
    by_cases h4 : (g : Int) < rd T k
    · have := hmin _ hkm h4
      omega
    · omega
theorem brent_go (T : List Int) (p : Nat) (hp : 1 ≤ p) (hpos : posT T) (hcap : ∀ t : Int, T.count t ≤ p) (m : Nat) (hno : ∀ g : Nat, 1 ≤ g → g ≤ m → (g : Int) ∈ T) : ∀ s : Nat, s ≤ m → p * s ≤ upTo T s + (p - 1) * idle T (p : Int) s := by
  intro s
  induction s with
  | zero => intro _; omega
  | succ s ih =>
    intro hs
    have h1 := ih (by omega)
    have h2 := List.count_pos_iff.mpr (hno (s + 1) (by omega) hs)
    have h3 := hcap ((s + 1 : Nat) : Int)
    rw [upTo_succ, Nat.mul_succ, idle]
    by_cases c : (T.count ((s + 1 : Nat) : Int) : Int) = (p : Int)
    · rw [if_pos c]
      have e : (p - 1) * (idle T (p : Int) s + 0) = (p - 1) * idle T (p : Int) s := rfl
      rw [e]
      omega
    · rw [if_neg c, Nat.mul_succ]
      omega
/-- Graham's and Brent's bound -/
theorem brent {n : Nat} {l : List S50} (hok : ∀ e ∈ l, okE (n : Int) e) {p : Int} (hp : 1 ≤ p) {T : List Int} (hT : T.length = n) (hpos : posT T) (hcap : capT T p) (hord : ordT l T) (hbusy : busy n l p T) : p * great T ≤ n + (p - 1) * great (ear (rowsOf n l) n) := by
  have hg := great_nonneg T
  obtain ⟨q, rfl⟩ : ∃ q : Nat, p = (q : Int) := ⟨p.toNat, by omega⟩
  have h1 := brent_go T q (by omega) hpos (fun t => by have := cap_all (by omega) hcap t; omega) (great T).toNat (fun g h2 h3 => busy_nogap n l hok (q : Int) hp T hT hord hbusy g h2 (by omega)) (great T).toNat (Nat.le_refl _)
  rw [upTo_all T _ (by omega), hT] at h1
  have h2 := idle_span hok hT hpos hord hbusy
  have h3 : ((q * (great T).toNat : Nat) : Int) = (q : Int) * great T := by
    rw [Int.natCast_mul, show (((great T).toNat : Nat) : Int) = great T from by omega]
  have h4 : (((q - 1) * idle T (q : Int) (great T).toNat : Nat) : Int) ≤ ((q : Int) - 1) * great (ear (rowsOf n l) n) := by
    rw [Int.natCast_mul, show ((q - 1 : Nat) : Int) = (q : Int) - 1 from by omega]
    exact Int.mul_le_mul_of_nonneg_left h2 (by omega)
  omega
end Go.Proofs.Ytbahnialbffkeaa.P
namespace Go.Proofs.Ytbahnialbffkeaa.P
open Go.RowKit Go.Proofs.YtbahnialbffkeaaW.PrintWords Go.Proofs.YtbahnialbffkeaaW.PrintLast Go.Proofs.YtbahnialbffkeaaW.PrintMore
set_option linter.unusedVariables false
set_option linter.unusedSimpArgs false
theorem rd_naught (n : Nat) (k : Int) : rd (List.replicate n 0) k = 0 := by
  unfold rd
  rw [List.getD_eq_getElem?_getD, List.getElem?_replicate]
  split <;> rfl
/-- a schedule of the times below t -/
structure PS (n : Nat) (l : List S50) (p : Int) (t : Int) (T : List Int) : Prop where
  len : T.length = n
  rng : ∀ k, 0 ≤ k → k < (n : Int) → 0 ≤ rd T k ∧ rd T k < t
  ord : ∀ e ∈ l, rd T e.f1 ≠ 0 → rd T e.f0 ≠ 0 ∧ rd T e.f0 < rd T e.f1
  cap : ∀ s : Int, 1 ≤ s → (T.count s : Int) ≤ p
  bsy : ∀ s : Int, 1 ≤ s → s < t → (T.count s : Int) = p ∨ ∀ i : Nat, i < n → (rd T (i : Int) = 0 ∨ s < rd T (i : Int)) → ∃ k ∈ preds l i, rd T k = 0 ∨ s ≤ rd T k
theorem PS.start (n : Nat) (l : List S50) (p : Int) (hp : 0 ≤ p) : PS n l p 1 (List.replicate n 0) where
  len := List.length_replicate
  rng := fun k _ _ => by rw [rd_naught]; omega
  ord := fun e _ h => absurd (rd_naught n e.f1) h
  cap := fun s hs => by
    rw [List.count_replicate, if_neg (by simp; omega)]
    exact hp
  bsy := fun s h1 h2 => by omega
theorem count_set_zero (T : List Int) (i : Nat) (hi : i < T.length) (hz : T[i] = 0) (t s : Int) (hs : s ≠ 0) : (T.set i t).count s = T.count s + if t = s then 1 else 0 := by
  rw [List.count_set hi]
  have h1 : (T[i] == s) = false := by rw [hz]; simpa using fun e => hs e.symm
  rw [h1]
  by_cases e : t = s
  · rw [if_pos e]; simp [e]
  · rw [if_neg e]; simp [e]
theorem count_setT (t : Int) : ∀ (N : List Int) (T : List Int), N.Nodup → (∀ k ∈ N, 0 ≤ k ∧ k < (T.length : Int) ∧ rd T k = 0) → ∀ s : Int, s ≠ 0 → (setT T t N).count s = T.count s + if t = s then N.length else 0 := by
  intro N
  induction N with
  | nil => intro T _ _ s _; simp [setT]
  | cons x N ih =>
    intro T hnd hN s hs
    obtain ⟨hx0, hx1, hxz⟩ := hN x List.mem_cons_self
    have hx : x.toNat < T.length := by omega
    have e : setT T t (x :: N) = setT (T.set x.toNat t) t N := rfl
    have hz : T[x.toNat] = 0 := by
      rw [← rdi T x.toNat hx, show ((x.toNat : Nat) : Int) = x from by omega]
      exact hxz
    obtain ⟨h1, h2⟩ := List.nodup_cons.mp hnd
    rw [e, ih (T.set x.toNat t) h2 (fun k hk => ?_) s hs, count_set_zero T x.toNat hx hz t s hs]
    · by_cases c : t = s
      · rw [if_pos c, if_pos c, if_pos c, List.length_cons]; omega
      · rw [if_neg c, if_neg c, if_neg c]
    · obtain ⟨a, b, c⟩ := hN k (List.mem_cons_of_mem _ hk)
      refine ⟨a, by rw [List.length_set]; exact b, ?_⟩
      rw [rd_setJ T x k t hx0 a, if_neg (fun h => h1 (by rw [← h.1]; exact hk))]
      exact c
/-- one more time: some of those that can, as many as fit or all of them -/
theorem PS.step {n : Nat} {l : List S50} (hok : ∀ e ∈ l, okE (n : Int) e) {p t : Int} (ht : 1 ≤ t) {T : List Int} (h : PS n l p t T) {N : List Int} (hnd : N.Nodup) (hsub : ∀ k ∈ N, k ∈ S0 n l T) (hlen : (N.length : Int) ≤ p)
    (hall : (N.length : Int) = p ∨ ∀ k ∈ S0 n l T, k ∈ N) : PS n l p (t + 1) (setT T t N) := by
  have hT := h.len
  have hN : ∀ k ∈ N, 0 ≤ k ∧ k < (T.length : Int) ∧ rd T k = 0 := fun k hk => by
    obtain ⟨a, b, c, -⟩ := mem_S0.mp (hsub k hk)
    exact ⟨a, by omega, c⟩
  have hrd : ∀ k, 0 ≤ k → k < (n : Int) → rd (setT T t N) k = if k ∈ N then t else rd T k := fun k h0 h1 => by
    rw [rd_setT t N (fun x hx => (hN x hx).1) k h0 T]
    by_cases c : k ∈ N
    · rw [if_pos ⟨c, by omega⟩, if_pos c]
    · rw [if_neg (fun h2 => c h2.1), if_neg c]
  have hpre : ∀ k ∈ N, ∀ q ∈ preds l k.toNat, rd T q ≠ 0 := fun k hk => by
    obtain ⟨a, b, c, d⟩ := mem_S0.mp (hsub k hk)
    have := (cnt_zero l T k.toNat).mp (by rw [show ((k.toNat : Nat) : Int) = k from by omega]; exact d)
    exact this
  have hcount : ∀ s : Int, s ≠ 0 → (setT T t N).count s = T.count s + if t = s then N.length else 0 := count_setT t N T hnd hN
  have hno : T.count t = 0 := by
    rw [List.count_eq_zero]
    intro hm
    obtain ⟨i, hi, he⟩ := mem_rd hm
    have := (h.rng (i : Int) (by omega) (by omega)).2
    omega
  refine ⟨by rw [setT_length]; exact hT, fun k h0 h1 => ?_, fun e he hz => ?_, fun s hs => ?_, fun s h1 h2 => ?_⟩
  · have := h.rng k h0 h1
    rw [hrd k h0 h1]
    split <;> omega
  · obtain ⟨b1, b2, b3⟩ := hok e he
    rw [hrd e.f1 (by omega) b3] at hz ⊢
    rw [hrd e.f0 b1 (by omega)]
    have hr0 := h.rng e.f0 b1 (by omega)
    by_cases c1 : e.f1 ∈ N
    · rw [if_pos c1]
      have h3 := hpre e.f1 c1 e.f0 (mem_preds he (by omega))
      have c0 : e.f0 ∉ N := fun h4 => h3 (hN e.f0 h4).2.2
      rw [if_neg c0]
      exact ⟨h3, hr0.2⟩
    · rw [if_neg c1] at hz ⊢
      have h3 := h.ord e he hz
      have c0 : e.f0 ∉ N := fun h4 => h3.1 (hN e.f0 h4).2.2
      rw [if_neg c0]
      exact h3
  · rw [hcount s (by omega)]
    by_cases c : t = s
    · subst c
      rw [if_pos rfl, hno]
      omega
    · rw [if_neg c]
      exact h.cap s hs
  · rw [hcount s (by omega)]
    by_cases c : t = s
    · subst c
      rw [if_pos rfl, hno]
      rcases hall with hall | hall
      · exact .inl (by omega)
      · refine .inr (fun i hi hz => ?_)
        rw [hrd (i : Int) (by omega) (by omega)] at hz
        have hri := h.rng (i : Int) (by omega) (by omega)
        have ci : (i : Int) ∉ N := fun h4 => by
          rw [if_pos h4] at hz
          omega
        rw [if_neg ci] at hz
        have hz0 : rd T (i : Int) = 0 := by omega
        have hcnt : cnt l T (i : Int) ≠ 0 := fun h4 => ci (hall (i : Int) (mem_S0.mpr ⟨by omega, by omega, hz0, h4⟩))
        have h5 : ¬ ∀ k ∈ preds l i, rd T k ≠ 0 := fun h6 => hcnt ((cnt_zero l T i).mpr h6)
        simp only [Classical.not_forall] at h5
        obtain ⟨k, hk, h6⟩ := h5
        have h7 : rd T k = 0 := Classical.not_not.mp h6
        obtain ⟨e, he, a1, a2⟩ := preds_mem hk
        obtain ⟨b1, b2, b3⟩ := hok e he
        refine ⟨k, hk, ?_⟩
        rw [hrd k (by omega) (by omega)]
        by_cases ck : k ∈ N
        · rw [if_pos ck]; exact .inr (Int.le_refl _)
        · rw [if_neg ck]; exact .inl h7
    · rw [if_neg c, Nat.add_zero]
      rcases h.bsy s h1 (by omega) with h3 | h3
      · exact .inl h3
      · refine .inr (fun i hi hz => ?_)
        rw [hrd (i : Int) (by omega) (by omega)] at hz
        have hz2 : rd T (i : Int) = 0 ∨ s < rd T (i : Int) := by
          by_cases ci : (i : Int) ∈ N
          · exact .inl (hN _ ci).2.2
          · rw [if_neg ci] at hz; exact hz
        obtain ⟨k, hk, h4⟩ := h3 i hi hz2
        obtain ⟨e, he, a1, a2⟩ := preds_mem hk
        obtain ⟨b1, b2, b3⟩ := hok e he
        refine ⟨k, hk, ?_⟩
        rw [hrd k (by omega) (by omega)]
        by_cases ck : k ∈ N
        · rw [if_pos ck]; exact .inr (by omega)
        · rw [if_neg ck]; exact h4
/-- where all is done: a greedy schedule -/
theorem PS.done {n : Nat} {l : List S50} (hok : ∀ e ∈ l, okE (n : Int) e) {p t : Int} {T : List Int} (h : PS n l p t T) (hall : ∀ i : Nat, i < n → rd T (i : Int) ≠ 0) : (posT T ∧ capT T p ∧ ordT l T) ∧ busy n l p T := by
  have hpos : ∀ k, 0 ≤ k → k < (n : Int) → 1 ≤ rd T k := fun k h0 h1 => by
    have h2 := h.rng k h0 h1
    have h3 := hall k.toNat (by omega)
    rw [show ((k.toNat : Nat) : Int) = k from by omega] at h3
    omega
  have hpT : posT T := fun x hx => by
    obtain ⟨i, hi, rfl⟩ := mem_rd hx
    exact hpos _ (by omega) (by have := h.len; omega)
  refine ⟨⟨hpT, fun x hx => h.cap x (hpT x hx), fun e he => ?_⟩, fun i hi s h1 h2 h3 => ?_⟩
  · obtain ⟨b1, b2, b3⟩ := hok e he
    exact (h.ord e he (by have := hpos e.f1 (by omega) b3; omega)).2
  · have hr := h.rng (i : Int) (by omega) (by omega)
    rcases h.bsy s h1 (by omega) with h4 | h4
    · exact h4
    · obtain ⟨k, hk, h5⟩ := h4 i hi (.inr h2)
      obtain ⟨e, he, a1, a2⟩ := preds_mem hk
      obtain ⟨b1, b2, b3⟩ := hok e he
      have h6 := hpos k (by omega) (by omega)
      have h7 := h3 k hk
      omega
theorem gr_PS {n : Nat} {l : List S50} (hok : ∀ e ∈ l, okE (n : Int) e) {p : Int} (hp : 1 ≤ p) : ∀ (d : Nat) (T : List Int) (t : Int), 1 ≤ t → (U n T).length ≤ d → PS n l p t T → ∃ t', 1 ≤ t' ∧ PS n l p t' (gr n l p d T t) ∧ ∀ i : Nat, i < n → rd (gr n l p d T t) (i : Int) ≠ 0 := by
  have fin : ∀ T : List Int, (U n T).length = 0 → ∀ i : Nat, i < n → rd T (i : Int) ≠ 0 := fun T h i hi hz => by
    have h2 : (i : Int) ∈ U n T := mem_U.mpr ⟨by omega, by omega, hz⟩
    rw [List.length_eq_zero_iff.mp h] at h2
    cases h2
  intro d
  induction d with
  | zero =>
    intro T t ht hU h
    rw [gr]
    exact ⟨t, ht, h, fin T (by omega)⟩
  | succ d ih =>
    intro T t ht hU h
    rw [gr]
    by_cases h0 : S0 n l T = []
    · rw [if_pos h0]
      exact ⟨t, ht, h, fin T ((S0_nil_iff n l hok T).mp h0)⟩
    · rw [if_neg h0]
      have hUr := U_rnd n l p T t h.len ht
      have hpos : 1 ≤ ((S0 n l T).take p.toNat).length := by
        rw [List.length_take]
        have := List.length_pos_iff.mpr h0
        omega
      refine ih (rnd n l p T t) (t + 1) (by omega) (by omega) ?_
      unfold rnd
      refine h.step hok ht ((nodup_of_lt (S0_lt n l T)).sublist (List.take_sublist _ _)) (fun k hk => take_mem_S0 hk) (by rw [List.length_take]; omega) ?_
      by_cases c : (S0 n l T).length ≤ p.toNat
      · exact .inr (fun k hk => by rw [List.take_of_length_le c]; exact hk)
      · exact .inl (by rw [List.length_take]; omega)
theorem gr_greedy {n : Nat} {l : List S50} (hok : ∀ e ∈ l, okE (n : Int) e) {p : Int} (hp : 1 ≤ p) : (gr n l p n (List.replicate n 0) 1).length = n ∧ (posT (gr n l p n (List.replicate n 0) 1) ∧ capT (gr n l p n (List.replicate n 0) 1) p ∧ ordT l (gr n l p n (List.replicate n 0) 1)) ∧ busy n l p (gr n l p n (List.replicate n 0) 1) := by
  obtain ⟨t, ht, h1, h2⟩ := gr_PS hok hp n (List.replicate n 0) 1 (by omega) (U_len n _) (PS.start n l p (by omega))
  exact ⟨h1.len, h1.done hok h2⟩
end Go.Proofs.Ytbahnialbffkeaa.P
namespace Go.Proofs.Ytbahnialbffkeaa.P
open Go.RowKit Go.Proofs.YtbahnialbffkeaaW.PrintWords Go.Proofs.YtbahnialbffkeaaW.PrintLast Go.Proofs.YtbahnialbffkeaaW.PrintMore
set_option linter.unusedVariables false
set_option linter.unusedSimpArgs false
def modI (x n : Int) : Int := if Int.tmod x n < 0 then Int.tmod x n + n else Int.tmod x n
theorem tmod_bd (x n : Int) (hn : 0 < n) : -n < Int.tmod x n ∧ Int.tmod x n < n := by
  rcases Int.le_total 0 x with h | h
  · rw [Int.tmod_eq_emod_of_nonneg h]
    have := Int.emod_nonneg x (show n ≠ 0 by omega)
    have := Int.emod_lt_of_pos x hn
    omega
  · have e : Int.tmod x n = - Int.tmod (-x) n := by rw [Int.neg_tmod]; omega
    rw [e, Int.tmod_eq_emod_of_nonneg (by omega : 0 ≤ -x)]
    have := Int.emod_nonneg (-x) (show n ≠ 0 by omega)
    have := Int.emod_lt_of_pos (-x) hn
    omega
theorem modI_bd (x n : Int) (hn : 0 < n) : 0 ≤ modI x n ∧ modI x n < n := by
  have := tmod_bd x n hn
  unfold modI
  split <;> omega
theorem mod_f (x n : Int) (hn : 0 < n) (hb : n ≤ 4611686018427387904) : plunderlaw7_mod.f x n = some (modI x n) := by
  have := tmod_bd x n hn
  unfold plunderlaw7_mod.f modI
  rw [if_neg (by omega)]
  by_cases h : Int.tmod x n < 0
  · rw [if_pos h, if_pos h, w64 (by omega) (by omega)]
  · rw [if_neg h, if_neg h]
theorem fit_l0 (l : List S50) (N : Int) (h0 : 0 ≤ N) (hN : N ≤ 200) : ∀ (d i : Nat) (E : List S50), i + d = l.length → E.length ≤ i → i ≤ 2000 → (∀ e ∈ E, okE N e) →
    ∃ E' : List S50, E'.length ≤ 2000 ∧ (∀ e ∈ E', okE N e) ∧ Ev (fun k => plunderlaw7_fit.l0 k l (i : Int) N E) (N, E') := by
  intro d
  induction d with
  | zero =>
    intro i E hi hE h2 hok
    refine ⟨E, by omega, hok, ?_⟩
    refine Ev.step (f := fun k => plunderlaw7_fit.j1 k l (i : Int) false N E) (fun k => ?_) ?_
    · simp only [plunderlaw7_fit.l0]
      rw [if_neg (by omega)]
    · refine Ev.step (f := fun _ => some (N, E)) (fun k => ?_) (Ev.now _)
      simp only [plunderlaw7_fit.j1]
      rw [if_neg (by decide)]
  | succ d ih =>
    intro i E hi hE h2 hok
    have hlt : i < l.length := by omega
    by_cases hc : i < 2000 ∧ 0 < N
    · have hm0 := mod_f (l[i].f0) N hc.2 (by omega)
      have hm1 := mod_f (l[i].f1) N hc.2 (by omega)
      have hb0 := modI_bd (l[i].f0) N hc.2
      have hb1 := modI_bd (l[i].f1) N hc.2
      have first : ∀ r, Ev (fun k => plunderlaw7_fit.j1 k l (i : Int) true N E) r → Ev (fun k => plunderlaw7_fit.l0 k l (i : Int) N E) r := by
        intro r hr
        refine Ev.step (f := fun k => plunderlaw7_fit.j1 k l (i : Int) true N E) (fun k => ?_) hr
        simp only [plunderlaw7_fit.l0]
        rw [if_pos (by omega), if_pos (by omega), decide_eq_true (by omega)]
      by_cases c1 : modI (l[i].f0) N < modI (l[i].f1) N
      · obtain ⟨E', a, b, c⟩ := ih (i + 1) (E ++ [⟨modI (l[i].f0) N, modI (l[i].f1) N⟩]) (by omega) (by simp; omega) (by omega) (by
          intro e he
          rcases List.mem_append.mp he with h | h
          · exact hok e h
          · rw [List.mem_singleton.mp h]; exact ⟨hb0.1, c1, hb1.2⟩)
        refine ⟨E', a, b, first _ (Ev.step (f := fun k => plunderlaw7_fit.l0 k l ((i + 1 : Nat) : Int) N (E ++ [⟨modI (l[i].f0) N, modI (l[i].f1) N⟩])) (fun k => ?_) c)⟩
        simp only [plunderlaw7_fit.j1]
        rw [if_pos trivial, if_pos (by omega), if_pos (by omega), rd50 l i hlt, hm0, Option.bind_some, hm1, Option.bind_some, if_pos c1, if_pos (by omega), w64s (by omega)]
      · by_cases c2 : modI (l[i].f1) N < modI (l[i].f0) N
        · obtain ⟨E', a, b, c⟩ := ih (i + 1) (E ++ [⟨modI (l[i].f1) N, modI (l[i].f0) N⟩]) (by omega) (by simp; omega) (by omega) (by
            intro e he
            rcases List.mem_append.mp he with h | h
            · exact hok e h
            · rw [List.mem_singleton.mp h]; exact ⟨hb1.1, c2, hb0.2⟩)
          refine ⟨E', a, b, first _ (Ev.step (f := fun k => plunderlaw7_fit.l0 k l ((i + 1 : Nat) : Int) N (E ++ [⟨modI (l[i].f1) N, modI (l[i].f0) N⟩])) (fun k => ?_) c)⟩
          simp only [plunderlaw7_fit.j1]
          rw [if_pos trivial, if_pos (by omega), if_pos (by omega), rd50 l i hlt, hm0, Option.bind_some, hm1, Option.bind_some, if_neg c1, if_pos c2, if_pos (by omega), w64s (by omega)]
        · obtain ⟨E', a, b, c⟩ := ih (i + 1) E (by omega) (by omega) (by omega) hok
          refine ⟨E', a, b, first _ (Ev.step (f := fun k => plunderlaw7_fit.l0 k l ((i + 1 : Nat) : Int) N E) (fun k => ?_) c)⟩
          simp only [plunderlaw7_fit.j1]
          rw [if_pos trivial, if_pos (by omega), if_pos (by omega), rd50 l i hlt, hm0, Option.bind_some, hm1, Option.bind_some, if_neg c1, if_neg c2, w64s (by omega)]
    · refine ⟨E, by omega, hok, ?_⟩
      refine Ev.step (f := fun k => plunderlaw7_fit.j1 k l (i : Int) false N E) (fun k => ?_) ?_
      · simp only [plunderlaw7_fit.l0]
        rw [if_pos (by omega)]
        by_cases h3 : i < 2000
        · rw [if_pos (by omega), decide_eq_false (by omega)]
        · rw [if_neg (by omega)]
      · refine Ev.step (f := fun _ => some (N, E)) (fun k => ?_) (Ev.now _)
        simp only [plunderlaw7_fit.j1]
        rw [if_neg (by decide)]
theorem fit_ev (n : Int) (l : List S50) : ∃ (N : Nat) (E : List S50), (N : Int) = modI n 201 ∧ N ≤ 200 ∧ E.length ≤ 2000 ∧ (∀ e ∈ E, okE (N : Int) e) ∧ chk (N : Int) E = 0 ∧ Ev (fun k => plunderlaw7_fit.f k n l) ((N : Int), E) := by
  have hb := modI_bd n 201 (by omega)
  obtain ⟨E, a, b, c⟩ := fit_l0 l (modI n 201) hb.1 (by omega) l.length 0 [] (by omega) (by simp) (by omega) (by intro e he; cases he)
  have e : ((modI n 201).toNat : Int) = modI n 201 := by omega
  refine ⟨(modI n 201).toNat, E, e, by omega, a, by rw [e]; exact b, ?_, ?_⟩
  · rw [e]
    unfold chk
    rw [if_neg (by omega), if_neg (by omega)]
    unfold chkE
    rw [if_pos b]
  · rw [e]
    refine Ev.congr (f := fun k => plunderlaw7_fit.l0 k l ((0 : Nat) : Int) (modI n 201) []) (fun k => ?_) c
    unfold plunderlaw7_fit.f
    rw [mod_f n 201 (by omega) (by omega), Option.bind_some]
    rfl
end Go.Proofs.Ytbahnialbffkeaa.P
namespace Go.Proofs.Ytbahnialbffkeaa.P
open Go.RowKit Go.Proofs.YtbahnialbffkeaaW.PrintWords Go.Proofs.YtbahnialbffkeaaW.PrintLast Go.Proofs.YtbahnialbffkeaaW.PrintMore
set_option linter.unusedVariables false
set_option linter.unusedSimpArgs false
theorem length_l0 (x : List Int) (hx : x.length < 1099511627776) : ∀ (d j : Nat), j + d = x.length → Ev (fun k => plunderlaw7_length.l0 k x (great (x.take j)) (j : Int)) (great x) := by
  intro d
  induction d with
  | zero =>
    intro j hj
    rw [List.take_of_length_le (by omega)]
    refine Ev.step (f := fun _ => some (great x)) (fun k => ?_) (Ev.now _)
    simp only [plunderlaw7_length.l0]
    rw [if_neg (by omega)]
  | succ d ih =>
    intro j hj
    have hlt : j < x.length := by omega
    have h := ih (j + 1) (by omega)
    rw [List.take_succ_eq_append_getElem hlt, great_snoc] at h
    refine Ev.step (fun k => ?_) h
    simp only [plunderlaw7_length.l0]
    rw [if_pos (by omega), if_pos (by omega), rdi x j hlt, w64s (by omega)]
theorem length_ev (x : List Int) (hx : x.length < 1099511627776) : Ev (fun k => plunderlaw7_length.f k x) (great x) := by
  have h := length_l0 x hx x.length 0 (by omega)
  simp only [List.take_zero] at h
  exact h
theorem mul_bd {a b A B : Int} (ha : 0 ≤ a) (hA : a ≤ A) (hb : 0 ≤ b) (hB : b ≤ B) : 0 ≤ a * b ∧ a * b ≤ A * B :=
  ⟨Int.mul_nonneg ha hb, Int.le_trans (Int.mul_le_mul_of_nonneg_right hA hb) (Int.mul_le_mul_of_nonneg_left hB (by omega))⟩
theorem bounds_f (N S p G : Int) (hN : 0 ≤ N ∧ N ≤ 4096) (hS : 0 ≤ S ∧ S ≤ 4096) (hp : 1 ≤ p ∧ p ≤ 64) (hG : 0 ≤ G ∧ G ≤ 4096) (h1 : S ≤ G) (h2 : N ≤ p * G) (h3 : p * G ≤ N + (p - 1) * S) : plunderlaw7_bounds.f N S p G = some true := by
  have b1 := mul_bd (a := p) (b := G) (A := 64) (B := 4096) (by omega) hp.2 hG.1 hG.2
  have b2 := mul_bd (a := p - 1) (b := S) (A := 63) (B := 4096) (by omega) (by omega) hS.1 hS.2
  unfold plunderlaw7_bounds.f
  rw [w64 (x := p - 1) (by omega) (by omega), w64 (x := p * G) (by omega) (by omega), w64 (x := (p - 1) * S) (by omega) (by omega), w64 (x := N + (p - 1) * S) (by omega) (by omega)]
  rw [if_pos h1, if_pos h2, decide_eq_true h3]
/-- the number of processors of the laws -/
theorem procs (x : Int) : plunderlaw7_mod.f x 64 = some (modI x 64) ∧ 1 ≤ wrap64 (1 + modI x 64) ∧ wrap64 (1 + modI x 64) ≤ 64 := by
  have hb := modI_bd x 64 (by omega)
  rw [w64 (x := 1 + modI x 64) (by omega) (by omega)]
  exact ⟨mod_f x 64 (by omega) (by omega), by omega, by omega⟩
theorem judge_of (N : Nat) (E : List S50) (hc : chk (N : Int) E = 0) (p : Int) (hp1 : 1 ≤ p) (hp : p ≤ 64) (T : List Int) (hT : T.length = N) : jdg (N : Int) E p T = (vdt N E p T, 0) := by
  unfold jdg
  rw [if_pos hc, if_neg (by omega), if_pos (by omega), Int.toNat_natCast]
theorem span_of (N : Nat) (E : List S50) (hc : chk (N : Int) E = 0) : span (N : Int) E = (great (ear (rowsOf N E) N), 0) := by
  unfold span earl
  rw [if_pos hc, if_pos hc, Int.toNat_natCast]
theorem span_bd (N : Nat) (E : List S50) (hok : ∀ e ∈ E, okE (N : Int) e) : 0 ≤ great (ear (rowsOf N E) N) ∧ great (ear (rowsOf N E) N) ≤ N := by
  refine ⟨great_nonneg _, ?_⟩
  rcases great_is (ear (rowsOf N E) N) with h | h
  · omega
  · obtain ⟨i, hi, he⟩ := mem_rd h
    rw [ear_length] at hi
    have := (ear_bd (rowsOf N E) (low_rowsOf hok) N (i : Int) (by omega) (by omega)).2
    omega
/-- the bounds of a greedy schedule, as the laws ask for them -/
theorem greedy_bounds {N : Nat} {E : List S50} (hN : N ≤ 200) (hok : ∀ e ∈ E, okE (N : Int) e) {p : Int} (hp1 : 1 ≤ p) (hp : p ≤ 64) {T : List Int} (hT : T.length = N) (hs : posT T ∧ capT T p ∧ ordT E T) (hb : busy N E p T) (hg : great T ≤ N) : plunderlaw7_bounds.f (N : Int) (great (ear (rowsOf N E) N)) p (great T) = some true := by
  have h0 := great_nonneg T
  have h1 := span_bd N E hok
  exact bounds_f _ _ _ _ (by omega) (by omega) ⟨hp1, hp⟩ (by omega) (sched_span hok hT hs.1 hs.2.2) (sched_work (by omega) hT hs.1 hs.2.1) (brent hok hp1 hT hs.1 hs.2.1 hs.2.2 hb)
theorem great_max {T : List Int} {m : Int} (h : great T ≤ m) (hm : m ≤ 9223372036854775807) : ∀ x ∈ T, x ≤ 9223372036854775807 := fun x hx => by
  have := great_ge hx
  omega
end Go.Proofs.Ytbahnialbffkeaa.P
