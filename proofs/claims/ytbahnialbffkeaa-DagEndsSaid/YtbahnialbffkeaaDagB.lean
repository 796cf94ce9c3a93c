/- Plain law, part B: what the program's ahead and Earliest, and the document's before and Earliest, of layer 7 come to: the same lists. -/
import Derived.Test.YtbahnialbffkeaaDagA
import Derived.Test.YtbahnialbffkeaaPx7
import Derived.Test.YtbahnialbffkeaaPx9
namespace Go.Proofs.Ytbahnialbffkeaa.P
open Go.RowKit Go.Proofs.YtbahnialbffkeaaW.PrintWords Go.Proofs.YtbahnialbffkeaaW.PrintLast Go.Proofs.YtbahnialbffkeaaW.PrintMore
set_option linter.unusedVariables false

/-- the nodes that are ahead of node i by one edge, in the edges' order -/
def preds (l : List S50) (i : Nat) : List Int := (l.filter (fun e => e.f1 = (i : Int))).map (·.f0)
def rowsOf (n : Nat) (l : List S50) : List (List Int) := (List.range n).map (preds l)

theorem preds_snoc (l : List S50) (e : S50) (i : Nat) : preds (l ++ [e]) i = if e.f1 = (i : Int) then preds l i ++ [e.f0] else preds l i := by
  unfold preds
  by_cases h : e.f1 = (i : Int) <;> simp [List.filter_append, h]
theorem rowsOf_length (n : Nat) (l : List S50) : (rowsOf n l).length = n := by simp [rowsOf]
theorem rowsOf_getD (n : Nat) (l : List S50) (i : Nat) (h : i < n) : (rowsOf n l).getD i [] = preds l i := by
  simp [rowsOf, List.getD_eq_getElem?_getD, h]
theorem rowsOf_snoc (n : Nat) (l : List S50) (e : S50) (h0 : 0 ≤ e.f1) (h : e.f1 < (n : Int)) :
    (rowsOf n l).set e.f1.toNat ((rowsOf n l).getD e.f1.toNat [] ++ [e.f0]) = rowsOf n (l ++ [e]) := by
  apply List.ext_getElem?
  intro i
  rw [rowsOf_getD _ _ _ (by omega)]
  by_cases hi : i < n
  · by_cases he : e.f1.toNat = i
    · subst he
      rw [List.getElem?_set_self (by rw [rowsOf_length]; exact hi)]
      simp only [rowsOf, List.getElem?_map, List.getElem?_range hi, Option.map_some]
      rw [preds_snoc, if_pos (by omega)]
    · rw [List.getElem?_set_ne he]
      simp only [rowsOf, List.getElem?_map, List.getElem?_range hi, Option.map_some]
      rw [preds_snoc, if_neg (by omega)]
  · rw [List.getElem?_eq_none (by simp [rowsOf_length]; omega), List.getElem?_eq_none (by simp [rowsOf_length]; omega)]
theorem preds_mem {l : List S50} {i : Nat} {k : Int} (h : k ∈ preds l i) : ∃ e ∈ l, e.f1 = (i : Int) ∧ e.f0 = k := by
  unfold preds at h
  simp only [List.mem_map, List.mem_filter, decide_eq_true_eq] at h
  obtain ⟨e, ⟨he, h1⟩, h2⟩ := h
  exact ⟨e, he, h1, h2⟩
theorem mem_preds {l : List S50} {e : S50} (he : e ∈ l) (h0 : 0 ≤ e.f1) : e.f0 ∈ preds l e.f1.toNat := by
  unfold preds
  simp only [List.mem_map, List.mem_filter, decide_eq_true_eq]
  exact ⟨e, ⟨he, by omega⟩, rfl⟩
theorem rowsOf_nil (n : Nat) : rowsOf n [] = List.replicate n [] := by
  apply List.ext_getElem?
  intro i
  by_cases hi : i < n
  · simp [rowsOf, preds, hi]
  · rw [List.getElem?_eq_none (by simp [rowsOf_length]; omega), List.getElem?_eq_none (by simp; omega)]

theorem preds_len (l : List S50) (i : Nat) : (preds l i).length ≤ l.length := by
  unfold preds
  simp only [List.length_map]
  exact List.length_filter_le _ _

theorem ahead_l0 (n : Nat) (l : List S50) (hl : l.length < 1099511627776) (hok : ∀ e ∈ l, okE (n : Int) e) : ∀ (d j : Nat), j + d = l.length →
    Ev (fun k => dag_ahead.l0 k (rowsOf n (l.take j)) l (l.length : Int) (j : Int)) (rowsOf n l) := by
  intro d
  induction d with
  | zero =>
    intro j hj
    refine Ev.step (f := fun _ => some (rowsOf n l)) (fun k => ?_) (Ev.now _)
    simp only [dag_ahead.l0]
    rw [if_neg (by omega), List.take_of_length_le (by omega)]
  | succ d ih =>
    intro j hj
    have hlt : j < l.length := by omega
    obtain ⟨h0, h1, h2⟩ := hok l[j] (List.getElem_mem hlt)
    refine Ev.step (f := fun k => dag_ahead.l0 k (rowsOf n (l.take (j + 1))) l (l.length : Int) ((j + 1 : Nat) : Int)) (fun k => ?_) (ih (j + 1) (by omega))
    simp only [dag_ahead.l0]
    have hp : ((rowsOf n (l.take j)).getD l[j].f1.toNat []).length ≤ l.length := by
      rw [rowsOf_getD _ _ _ (by omega)]
      have h3 := preds_len (l.take j) l[j].f1.toNat
      have h4 : (l.take j).length ≤ l.length := by simp; omega
      omega
    rw [if_pos (by omega), if_pos (by omega), if_pos (by omega), rd50 l j hlt, if_pos (by omega), if_pos (by rw [rowsOf_length]; omega), w64s (by omega)]
    rw [if_pos (by show ((rowsOf n (l.take j)).getD l[j].f1.toNat []).length < _; omega)]
    congr 1
    show (rowsOf n (l.take j)).set l[j].f1.toNat ((rowsOf n (l.take j)).getD l[j].f1.toNat [] ++ [l[j].f0]) = _
    rw [rowsOf_snoc n _ _ (by omega) h2, List.take_succ_eq_append_getElem hlt]
theorem before_l0 (n : Nat) (l : List S50) (hl : l.length < 1099511627776) (hok : ∀ e ∈ l, okE (n : Int) e) : ∀ (d j : Nat), j + d = l.length →
    Ev (fun k => plunderref7_before.l0 k (rowsOf n (l.take j)) (j : Int) (n : Int) l) (rowsOf n l) := by
  intro d
  induction d with
  | zero =>
    intro j hj
    refine Ev.step (f := fun _ => some (rowsOf n l)) (fun k => ?_) (Ev.now _)
    simp only [plunderref7_before.l0]
    rw [if_neg (by omega), List.take_of_length_le (by omega)]
  | succ d ih =>
    intro j hj
    have hlt : j < l.length := by omega
    obtain ⟨h0, h1, h2⟩ := hok l[j] (List.getElem_mem hlt)
    refine Ev.step (f := fun k => plunderref7_before.l0 k (rowsOf n (l.take (j + 1))) ((j + 1 : Nat) : Int) (n : Int) l) (fun k => ?_) (ih (j + 1) (by omega))
    simp only [plunderref7_before.l0]
    have hp : ((rowsOf n (l.take j)).getD l[j].f1.toNat []).length ≤ l.length := by
      rw [rowsOf_getD _ _ _ (by omega)]
      have h3 := preds_len (l.take j) l[j].f1.toNat
      have h4 : (l.take j).length ≤ l.length := by simp; omega
      omega
    rw [if_pos (by omega), if_pos (by omega), rd50 l j hlt, if_pos (by omega), if_pos (by rw [rowsOf_length]; omega), w64s (by omega)]
    rw [if_pos (by show ((rowsOf n (l.take j)).getD l[j].f1.toNat []).length < _; omega)]
    congr 1
    show (rowsOf n (l.take j)).set l[j].f1.toNat ((rowsOf n (l.take j)).getD l[j].f1.toNat [] ++ [l[j].f0]) = _
    rw [rowsOf_snoc n _ _ (by omega) h2, List.take_succ_eq_append_getElem hlt]
theorem ahead_ev (n : Nat) (l : List S50) (hn : n ≤ 4096) (hl : l.length < 1099511627776) (hok : ∀ e ∈ l, okE (n : Int) e) : Ev (fun k => dag_ahead.f k (n : Int) l) (rowsOf n l) := by
  refine Ev.congr (f := fun k => dag_ahead.l0 k (rowsOf n (l.take 0)) l (l.length : Int) ((0 : Nat) : Int)) (fun k => ?_) (ahead_l0 n l hl hok l.length 0 (by omega))
  unfold dag_ahead.f
  rw [if_pos (by omega), if_pos (by omega)]
  simp [rowsOf_nil]
theorem before_ev (n : Nat) (l : List S50) (hn : n ≤ 4096) (hl : l.length < 1099511627776) (hok : ∀ e ∈ l, okE (n : Int) e) : Ev (fun k => plunderref7_before.f k (n : Int) l) (rowsOf n l) := by
  refine Ev.congr (f := fun k => plunderref7_before.l0 k (rowsOf n (l.take 0)) ((0 : Nat) : Int) (n : Int) l) (fun k => ?_) (before_l0 n l hl hok l.length 0 (by omega))
  unfold plunderref7_before.f
  rw [if_pos (by omega), if_pos (by omega)]
  simp [rowsOf_nil]

theorem gd_l {α : Type} (l m : List α) (i : Nat) (z : α) (h : i < l.length) : (l ++ m).getD i z = l.getD i z := by
  rw [List.getD_eq_getElem?_getD, List.getD_eq_getElem?_getD, List.getElem?_append_left h]
theorem gd_r {α : Type} (l m : List α) (i : Nat) (z : α) (h : l.length ≤ i) : (l ++ m).getD i z = m.getD (i - l.length) z := by
  rw [List.getD_eq_getElem?_getD, List.getD_eq_getElem?_getD, List.getElem?_append_right h]
/-! ### the earliest times -/
def mxL (acc : List Int) (row : List Int) : Int := row.foldl (fun a k => mx a (rd acc k)) 0
def ear (rows : List (List Int)) : Nat → List Int
  | 0 => []
  | i + 1 => ear rows i ++ [1 + mxL (ear rows i) (rows.getD i [])]
theorem ear_length (rows : List (List Int)) (i : Nat) : (ear rows i).length = i := by
  induction i with
  | zero => rfl
  | succ i ih => simp [ear, ih]
theorem mxL_snoc (acc row : List Int) (k : Int) : mxL acc (row ++ [k]) = mx (mxL acc row) (rd acc k) := by simp [mxL, List.foldl_append]
theorem mxL_nil (acc : List Int) : mxL acc [] = 0 := rfl
theorem mxL_bd (acc row : List Int) (B : Int) (hB : 0 ≤ B) (h : ∀ k ∈ row, rd acc k ≤ B) : 0 ≤ mxL acc row ∧ mxL acc row ≤ B := by
  have key : ∀ (row : List Int) (a : Int), 0 ≤ a → a ≤ B → (∀ k ∈ row, rd acc k ≤ B) → 0 ≤ row.foldl (fun a k => mx a (rd acc k)) a ∧ row.foldl (fun a k => mx a (rd acc k)) a ≤ B := by
    intro row
    induction row with
    | nil => intro a h0 h1 _; exact ⟨h0, h1⟩
    | cons x r ih =>
      intro a h0 h1 hr
      have hx := hr x List.mem_cons_self
      refine ih (mx a (rd acc x)) ?_ ?_ (fun k hk => hr k (List.mem_cons_of_mem _ hk))
      · unfold mx; split <;> omega
      · unfold mx; split <;> omega
  exact key row 0 (Int.le_refl 0) hB h
theorem mxL_ge (acc row : List Int) {k : Int} (hk : k ∈ row) : rd acc k ≤ mxL acc row := by
  have mono : ∀ (row : List Int) (a : Int), a ≤ row.foldl (fun a k => mx a (rd acc k)) a := by
    intro row
    induction row with
    | nil => intro a; exact Int.le_refl a
    | cons x r ih =>
      intro a
      refine Int.le_trans (show a ≤ mx a (rd acc x) from ?_) (ih _)
      unfold mx; split <;> omega
  have key : ∀ (row : List Int) (a : Int), k ∈ row → rd acc k ≤ row.foldl (fun a k => mx a (rd acc k)) a := by
    intro row
    induction row with
    | nil => intro a h; cases h
    | cons x r ih =>
      intro a h
      rcases List.mem_cons.1 h with rfl | h
      · refine Int.le_trans (show rd acc k ≤ mx a (rd acc k) from ?_) (mono r _)
        unfold mx; split <;> omega
      · exact ih _ h
  exact key row 0 hk
/-- what the greatest is: 0, or one of the values -/
theorem mxL_is (acc row : List Int) : mxL acc row = 0 ∨ ∃ k ∈ row, mxL acc row = rd acc k := by
  have key : ∀ (row : List Int) (a : Int), row.foldl (fun a k => mx a (rd acc k)) a = a ∨ ∃ k ∈ row, row.foldl (fun a k => mx a (rd acc k)) a = rd acc k := by
    intro row
    induction row with
    | nil => intro a; exact .inl rfl
    | cons x r ih =>
      intro a
      rcases ih (mx a (rd acc x)) with h | ⟨k, hk, h⟩
      · by_cases hlt : a < rd acc x
        · right
          refine ⟨x, List.mem_cons_self, ?_⟩
          rw [List.foldl_cons, h]
          unfold mx
          rw [if_pos hlt]
        · left
          rw [List.foldl_cons, h]
          unfold mx
          rw [if_neg hlt]
      · exact .inr ⟨k, List.mem_cons_of_mem _ hk, h⟩
  exact key row 0
/-- every row's nodes are below the row's own -/
def low (rows : List (List Int)) : Prop := ∀ i : Nat, ∀ k ∈ rows.getD i [], 0 ≤ k ∧ k < (i : Int)
theorem ear_stays (rows : List (List Int)) {i j : Nat} (h : i ≤ j) {k : Int} (h0 : 0 ≤ k) (hk : k < (i : Int)) : rd (ear rows j) k = rd (ear rows i) k := by
  induction j with
  | zero =>
    obtain rfl : i = 0 := by omega
    rfl
  | succ j ih =>
    by_cases e : i = j + 1
    · subst e; rfl
    · rw [← ih (by omega)]
      unfold rd
      simp only [ear]
      rw [gd_l _ _ _ _ (by rw [ear_length]; omega)]
theorem ear_bd (rows : List (List Int)) (hlow : low rows) (i : Nat) : ∀ k : Int, 0 ≤ k → k < (i : Int) → 1 ≤ rd (ear rows i) k ∧ rd (ear rows i) k ≤ k + 1 := by
  induction i with
  | zero => intro k h0 h1; omega
  | succ i ih =>
    intro k h0 h1
    by_cases e : k = (i : Int)
    · subst e
      have hv : rd (ear rows (i + 1)) (i : Int) = 1 + mxL (ear rows i) (rows.getD i []) := by
        unfold rd
        simp only [ear, Int.toNat_natCast]
        rw [gd_r _ _ _ _ (by rw [ear_length]; omega), ear_length]
        simp
      obtain ⟨ha, hb⟩ := mxL_bd (ear rows i) (rows.getD i []) (i : Int) (by omega) (fun k hk => by
        obtain ⟨h2, h3⟩ := hlow i k hk
        have := (ih k h2 h3).2
        omega)
      rw [hv]
      omega
    · rw [ear_stays rows (Nat.le_succ i) h0 (by omega)]
      exact ih k h0 (by omega)
theorem ear_at (rows : List (List Int)) {i n : Nat} (h : i < n) : rd (ear rows n) (i : Int) = 1 + mxL (ear rows i) (rows.getD i []) := by
  rw [ear_stays rows (show i + 1 ≤ n by omega) (by omega) (by omega)]
  unfold rd
  simp only [ear, Int.toNat_natCast]
  rw [gd_r _ _ _ _ (by rw [ear_length]; omega), ear_length]
  simp
theorem mxL_congr {acc acc' row : List Int} (h : ∀ k ∈ row, rd acc k = rd acc' k) : mxL acc row = mxL acc' row := by
  have key : ∀ (row : List Int) (a : Int), (∀ k ∈ row, rd acc k = rd acc' k) → row.foldl (fun a k => mx a (rd acc k)) a = row.foldl (fun a k => mx a (rd acc' k)) a := by
    intro row
    induction row with
    | nil => intro a _; rfl
    | cons x r ih =>
      intro a hr
      simp only [List.foldl_cons]
      rw [hr x List.mem_cons_self]
      exact ih _ (fun k hk => hr k (List.mem_cons_of_mem _ hk))
  exact key row 0 h
/-- the list on its way: done up to i, m at i, zeros behind -/
def onway (rows : List (List Int)) (n i : Nat) (m : Int) : List Int := ear rows i ++ m :: List.replicate (n - i - 1) 0
theorem onway_length (rows : List (List Int)) (n i : Nat) (m : Int) (h : i < n) : (onway rows n i m).length = n := by
  simp [onway, ear_length]; omega
theorem onway_low (rows : List (List Int)) (n i : Nat) (m k : Int) (h0 : 0 ≤ k) (h : k < (i : Int)) : rd (onway rows n i m) k = rd (ear rows i) k := by
  unfold rd onway
  rw [gd_l _ _ _ _ (by rw [ear_length]; omega)]
theorem onway_at (rows : List (List Int)) (n i : Nat) (m : Int) : rd (onway rows n i m) (i : Int) = m := by
  unfold rd onway
  simp only [Int.toNat_natCast]
  rw [gd_r _ _ _ _ (by rw [ear_length]; omega), ear_length]
  simp
theorem onway_set (rows : List (List Int)) (n i : Nat) (m m' : Int) : (onway rows n i m).set (i : Int).toNat m' = onway rows n i m' := by
  unfold onway
  simp only [Int.toNat_natCast]
  rw [List.set_append_right _ _ (by rw [ear_length]; omega), ear_length]
  simp
theorem onway_next (rows : List (List Int)) (n i : Nat) (h : i < n) : onway rows n i (1 + mxL (ear rows i) (rows.getD i [])) = if i + 1 < n then onway rows n (i + 1) 0 else ear rows n := by
  unfold onway
  by_cases hi : i + 1 < n
  · rw [if_pos hi]
    have e : List.replicate (n - i - 1) (0 : Int) = 0 :: List.replicate (n - (i + 1) - 1) 0 := by
      rw [show n - i - 1 = (n - (i + 1) - 1) + 1 by omega, List.replicate_succ]
    rw [e]
    simp [ear]
  · rw [if_neg hi]
    obtain rfl : n = i + 1 := by omega
    simp [ear]

theorem dagE_l1 (rows : List (List Int)) (n : Nat) (hlen : rows.length = n) (hlow : low rows) (hn : n ≤ 4096) (hrow : ∀ i, (rows.getD i []).length < 1099511627776) (i : Nat) (hi : i < n) (r : List Int × Int)
    (next : Ev (fun k => dag_Earliest.l0 k rows (onway rows n i (1 + mxL (ear rows i) (rows.getD i []))) (n : Int) ((i + 1 : Nat) : Int)) r) :
    ∀ (d j : Nat), j + d = (rows.getD i []).length →
      Ev (fun k => dag_Earliest.l1 k rows (onway rows n i (mxL (ear rows i) ((rows.getD i []).take j))) (i : Int) (n : Int) (i : Int) (rows.getD i []) ((rows.getD i []).length : Int) (j : Int)) r := by
  have hbd : ∀ j, 0 ≤ mxL (ear rows i) ((rows.getD i []).take j) ∧ mxL (ear rows i) ((rows.getD i []).take j) ≤ (i : Int) := fun j =>
    mxL_bd _ _ _ (by omega) (fun k hk => by
      obtain ⟨h2, h3⟩ := hlow i k (List.mem_of_mem_take hk)
      have := (ear_bd rows hlow i k h2 h3).2
      omega)
  have hr := hrow i
  intro d
  induction d with
  | zero =>
    intro j hj
    have hb := hbd j
    refine Ev.step (f := fun k => dag_Earliest.l0 k rows (onway rows n i (1 + mxL (ear rows i) (rows.getD i []))) (n : Int) ((i + 1 : Nat) : Int)) (fun k => ?_) next
    simp only [dag_Earliest.l1]
    rw [if_neg (by omega), if_pos (by omega), if_pos (by rw [onway_length _ _ _ _ hi]; omega), onway_at, onway_set, w64s (by omega), w64 (by omega) (by omega)]
    rw [List.take_of_length_le (by omega), Int.add_comm]
  | succ d ih =>
    intro j hj
    have hlt : j < (rows.getD i []).length := by omega
    have hk := hlow i ((rows.getD i [])[j]) (List.getElem_mem hlt)
    refine Ev.step (f := fun k => dag_Earliest.l1 k rows (onway rows n i (mxL (ear rows i) ((rows.getD i []).take (j + 1)))) (i : Int) (n : Int) (i : Int) (rows.getD i []) ((rows.getD i []).length : Int) ((j + 1 : Nat) : Int)) (fun k => ?_) (ih (j + 1) (by omega))
    simp only [dag_Earliest.l1]
    rw [if_pos (by omega), if_pos (by omega), if_pos (by omega), if_pos (by omega), if_pos (by rw [onway_length _ _ _ _ hi]; omega), rdi _ j hlt, if_pos hk.1, if_pos (by rw [onway_length _ _ _ _ hi]; omega)]
    rw [onway_at, onway_low _ _ _ _ _ hk.1 hk.2, onway_set, w64s (by omega), List.take_succ_eq_append_getElem hlt, mxL_snoc]
theorem refE_l1 (rows : List (List Int)) (n : Nat) (l : List S50) (hlen : rows.length = n) (hlow : low rows) (hn : n ≤ 4096) (hrow : ∀ i, (rows.getD i []).length < 1099511627776) (i : Nat) (hi : i < n) (r : List Int × Int)
    (next : Ev (fun k => plunderref7_Earliest.l0 k rows (onway rows n i (1 + mxL (ear rows i) (rows.getD i []))) ((i + 1 : Nat) : Int) (n : Int) l) r) :
    ∀ (d j : Nat), j + d = (rows.getD i []).length →
      Ev (fun k => plunderref7_Earliest.l1 k rows (onway rows n i (1 + mxL (ear rows i) ((rows.getD i []).take j))) (i : Int) (j : Int) (n : Int) l) r := by
  have hbd : ∀ j, 0 ≤ mxL (ear rows i) ((rows.getD i []).take j) ∧ mxL (ear rows i) ((rows.getD i []).take j) ≤ (i : Int) := fun j =>
    mxL_bd _ _ _ (by omega) (fun k hk => by
      obtain ⟨h2, h3⟩ := hlow i k (List.mem_of_mem_take hk)
      have := (ear_bd rows hlow i k h2 h3).2
      omega)
  have hr := hrow i
  have hrd : rd_L5 rows (i : Int) = rows.getD i [] := by unfold rd_L5; simp
  intro d
  induction d with
  | zero =>
    intro j hj
    have hb := hbd j
    refine Ev.step (f := fun k => plunderref7_Earliest.l0 k rows (onway rows n i (1 + mxL (ear rows i) (rows.getD i []))) ((i + 1 : Nat) : Int) (n : Int) l) (fun k => ?_) next
    simp only [plunderref7_Earliest.l1, hrd]
    rw [if_pos (by omega), if_pos (by omega), if_neg (by omega), w64s (by omega), List.take_of_length_le (by omega)]
  | succ d ih =>
    intro j hj
    have hlt : j < (rows.getD i []).length := by omega
    have hk := hlow i ((rows.getD i [])[j]) (List.getElem_mem hlt)
    have hb := hbd j
    have hv := ear_bd rows hlow i _ hk.1 hk.2
    refine Ev.step (f := fun k => plunderref7_Earliest.l1 k rows (onway rows n i (1 + mxL (ear rows i) ((rows.getD i []).take (j + 1)))) (i : Int) ((j + 1 : Nat) : Int) (n : Int) l) (fun k => ?_) (ih (j + 1) (by omega))
    simp only [plunderref7_Earliest.l1, hrd]
    rw [if_pos (by omega), if_pos (by omega), if_pos (by omega), if_pos (by rw [onway_length _ _ _ _ hi]; omega), if_pos (by omega), rdi _ j hlt, if_pos hk.1, if_pos (by rw [onway_length _ _ _ _ hi]; omega)]
    rw [onway_at, onway_low _ _ _ _ _ hk.1 hk.2, onway_set, w64s (by omega), w64 (by omega) (by omega), List.take_succ_eq_append_getElem hlt, mxL_snoc]
    congr 2
    unfold mx
    by_cases h : mxL (ear rows i) ((rows.getD i []).take j) < rd (ear rows i) (rows.getD i [])[j]
    · rw [if_pos h, if_pos (by omega)]; omega
    · rw [if_neg h, if_neg (by omega)]

theorem dagE_l0 (rows : List (List Int)) (n : Nat) (hlen : rows.length = n) (hlow : low rows) (hn : n ≤ 4096) (hrow : ∀ i, (rows.getD i []).length < 1099511627776) :
    ∀ (d i : Nat), i + d = n → Ev (fun k => dag_Earliest.l0 k rows (if i < n then onway rows n i 0 else ear rows n) (n : Int) (i : Int)) (ear rows n, 0) := by
  intro d
  induction d with
  | zero =>
    intro i hi
    refine Ev.step (f := fun _ => some (ear rows n, 0)) (fun k => ?_) (Ev.now _)
    simp only [dag_Earliest.l0]
    rw [if_neg (by omega), if_neg (by omega)]
  | succ d ih =>
    intro i hi
    have hlt : i < n := by omega
    have h1 := ih (i + 1) (by omega)
    have h2 := dagE_l1 rows n hlen hlow hn hrow i hlt (ear rows n, 0) (by rw [onway_next _ _ _ hlt]; exact h1) (rows.getD i []).length 0 (by omega)
    refine Ev.step (f := fun k => dag_Earliest.l1 k rows (onway rows n i (mxL (ear rows i) ((rows.getD i []).take 0))) (i : Int) (n : Int) (i : Int) (rows.getD i []) ((rows.getD i []).length : Int) ((0 : Nat) : Int)) (fun k => ?_) h2
    have hrd : rd_L5 rows (i : Int) = rows.getD i [] := by unfold rd_L5; simp
    simp only [dag_Earliest.l0, hrd]
    rw [if_pos (by omega), if_pos (by omega), if_pos (by omega), if_pos hlt]
    rfl
theorem refE_l0 (rows : List (List Int)) (n : Nat) (l : List S50) (hlen : rows.length = n) (hlow : low rows) (hn : n ≤ 4096) (hrow : ∀ i, (rows.getD i []).length < 1099511627776) :
    ∀ (d i : Nat), i + d = n → Ev (fun k => plunderref7_Earliest.l0 k rows (if i < n then onway rows n i 0 else ear rows n) (i : Int) (n : Int) l) (ear rows n, 0) := by
  intro d
  induction d with
  | zero =>
    intro i hi
    refine Ev.step (f := fun _ => some (ear rows n, 0)) (fun k => ?_) (Ev.now _)
    simp only [plunderref7_Earliest.l0]
    rw [if_neg (by omega), if_neg (by omega)]
  | succ d ih =>
    intro i hi
    have hlt : i < n := by omega
    have h1 := ih (i + 1) (by omega)
    have h2 := refE_l1 rows n l hlen hlow hn hrow i hlt (ear rows n, 0) (by rw [onway_next _ _ _ hlt]; exact h1) (rows.getD i []).length 0 (by omega)
    refine Ev.step (f := fun k => plunderref7_Earliest.l1 k rows (onway rows n i (1 + mxL (ear rows i) ((rows.getD i []).take 0))) (i : Int) ((0 : Nat) : Int) (n : Int) l) (fun k => ?_) h2
    simp only [plunderref7_Earliest.l0]
    rw [if_pos (by omega), if_pos (by omega), if_pos hlt, if_pos (by rw [onway_length _ _ _ _ hlt]; omega), onway_set]
    rfl
theorem low_rowsOf {n : Nat} {l : List S50} (hok : ∀ e ∈ l, okE (n : Int) e) : low (rowsOf n l) := by
  intro i k hk
  by_cases hi : i < n
  · rw [rowsOf_getD _ _ _ hi] at hk
    obtain ⟨e, he, h1, h2⟩ := preds_mem hk
    obtain ⟨h3, h4, h5⟩ := hok e he
    omega
  · rw [List.getD_eq_getElem?_getD, List.getElem?_eq_none (by rw [rowsOf_length]; omega)] at hk
    simp at hk
theorem rowsOf_short {n : Nat} {l : List S50} (hl : l.length < 1099511627776) (i : Nat) : ((rowsOf n l).getD i []).length < 1099511627776 := by
  by_cases hi : i < n
  · rw [rowsOf_getD _ _ _ hi]
    have := preds_len l i
    omega
  · rw [List.getD_eq_getElem?_getD, List.getElem?_eq_none (by rw [rowsOf_length]; omega)]
    simp
theorem onway_start (rows : List (List Int)) (n : Nat) : (if 0 < n then onway rows n 0 0 else ear rows n) = List.replicate n 0 := by
  by_cases h : 0 < n
  · rw [if_pos h]
    obtain ⟨m, rfl⟩ : ∃ m, n = m + 1 := ⟨n - 1, by omega⟩
    simp [onway, ear, List.replicate_succ]
  · obtain rfl : n = 0 := by omega
    simp [ear]

/-- Earliest, of what is a dag and what is none -/
def earl (n : Int) (l : List S50) : List Int × Int := if chk n l = 0 then (ear (rowsOf n.toNat l) n.toNat, 0) else ([], chk n l)
theorem dagEarliest_ev (n : Int) (l : List S50) (hl : l.length < 1099511627776) : Ev (fun k => dag_Earliest.f k n l) (earl n l) := by
  unfold dag_Earliest.f
  refine Ev.bind (dagCheck_ev n l hl) ?_
  by_cases h : chk n l = 0
  · obtain ⟨h0, h1, h2, h3⟩ := chk_zero h
    obtain ⟨m, rfl⟩ : ∃ m : Nat, n = (m : Int) := ⟨n.toNat, by omega⟩
    simp only [if_pos h, earl, Int.toNat_natCast]
    refine Ev.bind (ahead_ev m l (by omega) hl h3) ?_
    have h7 : m ≤ 35184372088832 := by omega
    simp only [if_pos h0, if_pos h7]
    have h4 := dagE_l0 (rowsOf m l) m (rowsOf_length m l) (low_rowsOf h3) (by omega) (rowsOf_short hl) m 0 (by omega)
    rw [onway_start] at h4
    exact h4
  · simp only [if_neg h, earl]
    exact Ev.now _
theorem refEarliest_ev (n : Int) (l : List S50) (hl : l.length < 1099511627776) : Ev (fun k => plunderref7_Earliest.f k n l) (earl n l) := by
  unfold plunderref7_Earliest.f
  refine Ev.bind (refCheck_ev n l hl) ?_
  by_cases h : chk n l = 0
  · obtain ⟨h0, h1, h2, h3⟩ := chk_zero h
    obtain ⟨m, rfl⟩ : ∃ m : Nat, n = (m : Int) := ⟨n.toNat, by omega⟩
    simp only [if_pos h, earl, Int.toNat_natCast]
    refine Ev.bind (before_ev m l (by omega) hl h3) ?_
    have h7 : m ≤ 35184372088832 := by omega
    simp only [if_pos h0, if_pos h7]
    have h4 := refE_l0 (rowsOf m l) m l (rowsOf_length m l) (low_rowsOf h3) (by omega) (rowsOf_short hl) m 0 (by omega)
    rw [onway_start] at h4
    exact h4
  · simp only [if_neg h, earl]
    exact Ev.now _
theorem earl_length (n : Int) (l : List S50) : (earl n l).1.length ≤ 4096 := by
  unfold earl
  split
  · rename_i h
    obtain ⟨h0, h1, _⟩ := chk_zero h
    simp only [ear_length]; omega
  · simp

/-! ### spoilt, same -/
theorem spoilt_l0 : ∀ (d j : Nat) (x : List Int), j + d = x.length → x.length < 1099511627776 → ∃ r : List Int, r.length = x.length + 1 ∧ Ev (fun k => plunderlaw7_spoilt.l0 k x (j : Int)) r := by
  intro d
  induction d with
  | zero =>
    intro j x hj hx
    refine ⟨x ++ [-100], by simp, Ev.step (f := fun _ => some (x ++ [-100])) (fun k => ?_) (Ev.now _)⟩
    simp only [plunderlaw7_spoilt.l0]
    rw [if_neg (by omega), if_pos (by omega)]
  | succ d ih =>
    intro j x hj hx
    obtain ⟨r, hr, he⟩ := ih (j + 1) (x.set (j : Int).toNat (wrap64 ((-1) - (j : Int)))) (by simp; omega) (by simpa using hx)
    refine ⟨r, by simpa using hr, Ev.step (f := fun k => plunderlaw7_spoilt.l0 k (x.set (j : Int).toNat (wrap64 ((-1) - (j : Int)))) ((j + 1 : Nat) : Int)) (fun k => ?_) he⟩
    simp only [plunderlaw7_spoilt.l0]
    rw [if_pos (by omega), if_pos (by omega), w64s (by omega)]
theorem spoilt_ev (x : List Int) (hx : x.length < 1099511627776) : ∃ r : List Int, r.length = x.length + 1 ∧ Ev (fun k => plunderlaw7_spoilt.f k x) r :=
  spoilt_l0 x.length 0 x (by omega) hx
theorem same_l0 (x : List Int) (hx : x.length < 1099511627776) : ∀ (d j : Nat), j + d = x.length → Ev (fun k => plunderlaw7_same.l0 k x x (j : Int)) true := by
  intro d
  induction d with
  | zero =>
    intro j hj
    refine Ev.step (f := fun _ => some true) (fun k => ?_) (Ev.now _)
    simp only [plunderlaw7_same.l0]
    rw [if_neg (by omega)]
  | succ d ih =>
    intro j hj
    refine Ev.step (f := fun k => plunderlaw7_same.l0 k x x ((j + 1 : Nat) : Int)) (fun k => ?_) (ih (j + 1) (by omega))
    simp only [plunderlaw7_same.l0]
    rw [if_pos (by omega), if_pos (by omega), if_pos (by omega), if_pos trivial, w64s (by omega)]
theorem same_ev (x : List Int) (hx : x.length < 1099511627776) : Ev (fun k => plunderlaw7_same.f k x x) true := by
  refine Ev.congr (f := fun k => plunderlaw7_same.l0 k x x ((0 : Nat) : Int)) (fun k => by unfold plunderlaw7_same.f; rw [if_pos rfl]; rfl) ?_
  exact same_l0 x hx x.length 0 (by omega)
end Go.Proofs.Ytbahnialbffkeaa.P
