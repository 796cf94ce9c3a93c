/- Plain law of serial runs, part S: the chain that sums. -/
import Derived.Test.YtcioegimmjppcaaDoorZSerE
import Derived.Test.YtcioegimmjppcaaDoorZJA
namespace Go.Proofs.YtcioegimmjppcaaDoor.P

def sumC : List Ins := [⟨4, 0, 2, 0, 0⟩, ⟨9, 0, 0, 0, 0⟩, ⟨0, 1, 0, 0, 1⟩, ⟨2, 2, 0, 1, 1⟩, ⟨5, 0, 0, 2, 0⟩, ⟨6, 0, 0, 0, 0⟩, ⟨7, 3, 0, 0, 0⟩, ⟨2, 3, 3, 0, 0⟩, ⟨9, 3, 0, 0, 0⟩]
def sumF : List Fn := [⟨1, 4, 2, sumC⟩]
set_option maxRecDepth 100000 in
theorem sum_valid : validB sumF = true := by rfl

/-- a task of the chain at its beginning -/
def sumT (n depth ped : Int) : TS := { f := 0, depth := depth, ped := ped, regs := fill 16 [n], slots := List.replicate 8 0, kids := 0, work := 0, c := 0, ends := [] }

/-- at the bottom -/
theorem sum_zero (pd : Int → Int → Int) (ap : Int → Int → Int → Int) (k : Nat) (rs : RS) (depth ped : Int) (self : Nat) (h : 2 ≤ rs.left) :
    ∃ rs', loop pd ap sumF (k + 2) rs (sumT 0 depth ped) 0 self = .done rs' 0 2 ∧ rs'.left = rs.left - 2 ∧ rs'.tasks = rs.tasks ∧ rs'.deepest = rs.deepest := by
  rw [loop_go pd ap sumF (k + 1) rs _ _ _ (by omega) ⟨4, 0, 2, 0, 0⟩ rfl (by decide) (by decide)]
  rw [loop_ret pd ap sumF k _ _ _ _ (by simp only; omega) ⟨9, 0, 0, 0, 0⟩ rfl rfl]
  exact ⟨_, rfl, by simp only [leave]; omega, rfl, rfl⟩

/-- the first four instructions of a task that goes deeper -/
theorem sum_four (pd : Int → Int → Int) (ap : Int → Int → Int → Int) (k : Nat) (rs : RS) (n depth ped : Int) (self : Nat) (h : 3 ≤ rs.left) (hn : n ≠ 0) :
    ∃ t4 : TS, loop pd ap sumF (k + 3) rs (sumT n depth ped) 0 self = loop pd ap sumF k { rs with left := rs.left - 3 } t4 4 self ∧ t4.f = 0 ∧ t4.depth = depth ∧ t4.kids = 0 ∧ t4.c = 3 ∧ t4.ends = [] ∧ t4.ped = ped ∧
      t4.regs = [n, 1, ap 1 n 1, 0, 0, 0, 0, 0, 0, 0, 0, 0, 0, 0, 0, 0] ∧ t4.slots = List.replicate 8 0 := by
  have a1 : plainAt (tick (sumT n depth ped) ⟨4, 0, 2, 0, 0⟩) ⟨4, 0, 2, 0, 0⟩ 0 = 2 := by
    unfold plainAt
    rw [if_neg (by decide), if_pos rfl, if_pos (show gi (tick (sumT n depth ped) ⟨4, 0, 2, 0, 0⟩).regs 0 ≠ 0 from hn)]
  rw [loop_go pd ap sumF (k + 2) rs _ _ _ (by omega) ⟨4, 0, 2, 0, 0⟩ rfl (by decide) (by decide), a1]
  rw [loop_go pd ap sumF (k + 1) _ _ _ _ (by simp only; omega) ⟨0, 1, 0, 0, 1⟩ rfl (by decide) (by decide)]
  rw [loop_go pd ap sumF k _ _ _ _ (by simp only; omega) ⟨2, 2, 0, 1, 1⟩ rfl (by decide) (by decide)]
  refine ⟨plainT ap (tick (plainT ap (tick (plainT ap (tick (sumT n depth ped) ⟨4, 0, 2, 0, 0⟩) ⟨4, 0, 2, 0, 0⟩) ⟨0, 1, 0, 0, 1⟩) ⟨0, 1, 0, 0, 1⟩) ⟨2, 2, 0, 1, 1⟩) ⟨2, 2, 0, 1, 1⟩, ?_, rfl, rfl, rfl, rfl, rfl, rfl, rfl, rfl⟩
  simp only
  rw [show rs.left - 1 - 1 - 1 = rs.left - 3 by omega]
  rfl


theorem sum_three (pd : Int → Int → Int) (ap : Int → Int → Int → Int) (k : Nat) (rs : RS) (n depth ped : Int) (self : Nat) (h : rs.left < 3) (hk : rs.left < k) (hn : n ≠ 0) :
    loop pd ap sumF k rs (sumT n depth ped) 0 self = .stop 62 := by
  have a1 : plainAt (tick (sumT n depth ped) ⟨4, 0, 2, 0, 0⟩) ⟨4, 0, 2, 0, 0⟩ 0 = 2 := by
    unfold plainAt
    rw [if_neg (by decide), if_pos rfl, if_pos (show gi (tick (sumT n depth ped) ⟨4, 0, 2, 0, 0⟩).regs 0 ≠ 0 from hn)]
  by_cases h0 : rs.left = 0
  · exact loop_empty pd ap _ _ _ _ _ _ h0
  obtain ⟨k, rfl⟩ : ∃ k', k = k' + 1 := ⟨k - 1, by omega⟩
  rw [loop_go pd ap sumF k rs _ _ _ h0 ⟨4, 0, 2, 0, 0⟩ rfl (by decide) (by decide), a1]
  by_cases h1 : rs.left = 1
  · exact loop_empty pd ap _ _ _ _ _ _ (by simp only; omega)
  obtain ⟨k, rfl⟩ : ∃ k', k = k' + 1 := ⟨k - 1, by omega⟩
  rw [loop_go pd ap sumF k _ _ _ _ (by simp only; omega) ⟨0, 1, 0, 0, 1⟩ rfl (by decide) (by decide)]
  exact loop_empty pd ap _ _ _ _ _ _ (by simp only; omega)

/-- the spawn's child is a task of the chain -/
theorem sum_kid (pd : Int → Int → Int) (t4 : TS) (n x depth ped : Int) (h2 : t4.depth = depth) (h3 : t4.kids = 0) (h6 : t4.ped = ped) (h7 : t4.regs = [n, 1, x, 0, 0, 0, 0, 0, 0, 0, 0, 0, 0, 0, 0, 0]) :
    kidOf pd sumF (tick t4 ⟨5, 0, 0, 2, 0⟩) ⟨5, 0, 0, 2, 0⟩ = sumT x (depth + 1) (pd ped 0) := by
  unfold kidOf
  have e1 : (tick t4 ⟨5, 0, 0, 2, 0⟩).depth = depth := h2
  have e2 : (tick t4 ⟨5, 0, 0, 2, 0⟩).ped = ped := h6
  have e3 : (tick t4 ⟨5, 0, 0, 2, 0⟩).kids = 0 := h3
  have e4 : (tick t4 ⟨5, 0, 0, 2, 0⟩).regs = [n, 1, x, 0, 0, 0, 0, 0, 0, 0, 0, 0, 0, 0, 0, 0] := h7
  rw [e1, e2, e3, e4]
  rfl

/-- what stands behind the child's return -/
theorem sum_tail (pd : Int → Int → Int) (ap : Int → Int → Int → Int) (k : Nat) (rs : RS) (t5 : TS) (self : Nat) (n x s v : Int) (hf : t5.f = 0) (hc : t5.c = 4) (he : t5.ends = [4 + s]) (hs : 0 ≤ s)
    (hr : t5.regs = [n, 1, x, 0, 0, 0, 0, 0, 0, 0, 0, 0, 0, 0, 0, 0]) (hl : gi t5.slots 0 = v) (hk : rs.left < k) :
    (4 ≤ rs.left → ∃ rs', loop pd ap sumF k rs t5 5 self = .done rs' (ap 0 v n) (s + 8) ∧ rs'.left = rs.left - 4 ∧ rs'.tasks = rs.tasks ∧ rs'.deepest = rs.deepest) ∧
    (rs.left < 4 → loop pd ap sumF k rs t5 5 self = .stop 62) := by
  have i5 : insOf sumF t5.f 5 = ⟨6, 0, 0, 0, 0⟩ := by rw [hf]; rfl
  by_cases h0 : rs.left = 0
  · exact ⟨fun h => by omega, fun _ => loop_empty pd ap _ _ _ _ _ _ h0⟩
  obtain ⟨k, rfl⟩ : ∃ k', k = k' + 1 := ⟨k - 1, by omega⟩
  rw [loop_go pd ap sumF k rs _ _ _ h0 ⟨6, 0, 0, 0, 0⟩ i5 (by decide) (by decide)]
  have hp : plainT ap (tick t5 ⟨6, 0, 0, 0, 0⟩) ⟨6, 0, 0, 0, 0⟩ = { tick t5 ⟨6, 0, 0, 0, 0⟩ with c := 4 + s + 1, ends := [] } := by
    have e : maxL (tick t5 ⟨6, 0, 0, 0, 0⟩).c (tick t5 ⟨6, 0, 0, 0, 0⟩).ends = 4 + s := by
      show maxL t5.c t5.ends = 4 + s
      rw [hc, he]
      show max (4 : Int) (4 + s) = 4 + s
      omega
    show ({ tick t5 ⟨6, 0, 0, 0, 0⟩ with c := maxL (tick t5 ⟨6, 0, 0, 0, 0⟩).c (tick t5 ⟨6, 0, 0, 0, 0⟩).ends + 1, ends := [] } : TS) = _
    rw [e]
  rw [hp]
  have p6 : plainAt (tick t5 ⟨6, 0, 0, 0, 0⟩) ⟨6, 0, 0, 0, 0⟩ 5 = 6 := rfl
  rw [p6]
  generalize hT : ({ tick t5 ⟨6, 0, 0, 0, 0⟩ with c := 4 + s + 1, ends := [] } : TS) = t6
  have f6 : t6.f = 0 := by rw [← hT]; exact hf
  have r6 : t6.regs = [n, 1, x, 0, 0, 0, 0, 0, 0, 0, 0, 0, 0, 0, 0, 0] := by rw [← hT]; exact hr
  have l6 : gi t6.slots 0 = v := by rw [← hT]; exact hl
  have c6 : t6.c = 4 + s + 1 := by rw [← hT]
  clear hT hp
  by_cases h1 : rs.left = 1
  · exact ⟨fun h => by omega, fun _ => loop_empty pd ap _ _ _ _ _ _ (by simp only; omega)⟩
  obtain ⟨k, rfl⟩ : ∃ k', k = k' + 1 := ⟨k - 1, by omega⟩
  have i6 : insOf sumF t6.f 6 = ⟨7, 3, 0, 0, 0⟩ := by rw [f6]; rfl
  rw [loop_go pd ap sumF k _ _ _ _ (by simp only; omega) ⟨7, 3, 0, 0, 0⟩ i6 (by decide) (by decide)]
  have p7 : plainAt (tick t6 ⟨7, 3, 0, 0, 0⟩) ⟨7, 3, 0, 0, 0⟩ 6 = 7 := rfl
  rw [p7]
  have f7 : (plainT ap (tick t6 ⟨7, 3, 0, 0, 0⟩) ⟨7, 3, 0, 0, 0⟩).f = 0 := f6
  have r7 : (plainT ap (tick t6 ⟨7, 3, 0, 0, 0⟩) ⟨7, 3, 0, 0, 0⟩).regs = [n, 1, x, v, 0, 0, 0, 0, 0, 0, 0, 0, 0, 0, 0, 0] := by
    show si (tick t6 ⟨7, 3, 0, 0, 0⟩).regs 3 (gi (tick t6 ⟨7, 3, 0, 0, 0⟩).slots 0) = _
    have e1 : (tick t6 ⟨7, 3, 0, 0, 0⟩).regs = t6.regs := rfl
    have e2 : (tick t6 ⟨7, 3, 0, 0, 0⟩).slots = t6.slots := rfl
    rw [e1, e2, r6, l6]
    rfl
  have c7 : (plainT ap (tick t6 ⟨7, 3, 0, 0, 0⟩) ⟨7, 3, 0, 0, 0⟩).c = 4 + s + 1 + 1 := by
    show t6.c + 1 = _
    rw [c6]
  generalize plainT ap (tick t6 ⟨7, 3, 0, 0, 0⟩) ⟨7, 3, 0, 0, 0⟩ = t7 at f7 r7 c7 ⊢
  by_cases h2 : rs.left = 2
  · exact ⟨fun h => by omega, fun _ => loop_empty pd ap _ _ _ _ _ _ (by simp only; omega)⟩
  obtain ⟨k, rfl⟩ : ∃ k', k = k' + 1 := ⟨k - 1, by omega⟩
  have i7 : insOf sumF t7.f 7 = ⟨2, 3, 3, 0, 0⟩ := by rw [f7]; rfl
  rw [loop_go pd ap sumF k _ _ _ _ (by simp only; omega) ⟨2, 3, 3, 0, 0⟩ i7 (by decide) (by decide)]
  have p8 : plainAt (tick t7 ⟨2, 3, 3, 0, 0⟩) ⟨2, 3, 3, 0, 0⟩ 7 = 8 := rfl
  rw [p8]
  have f8 : (plainT ap (tick t7 ⟨2, 3, 3, 0, 0⟩) ⟨2, 3, 3, 0, 0⟩).f = 0 := f7
  have r8 : gi (plainT ap (tick t7 ⟨2, 3, 3, 0, 0⟩) ⟨2, 3, 3, 0, 0⟩).regs 3 = ap 0 v n := by
    show gi (si (tick t7 ⟨2, 3, 3, 0, 0⟩).regs 3 (ap 0 (gi (tick t7 ⟨2, 3, 3, 0, 0⟩).regs 3) (gi (tick t7 ⟨2, 3, 3, 0, 0⟩).regs 0))) 3 = _
    have e1 : (tick t7 ⟨2, 3, 3, 0, 0⟩).regs = t7.regs := rfl
    rw [e1, r7]
    rfl
  have c8 : (plainT ap (tick t7 ⟨2, 3, 3, 0, 0⟩) ⟨2, 3, 3, 0, 0⟩).c = 4 + s + 1 + 1 + 1 := by
    show t7.c + 1 = _
    rw [c7]
  generalize plainT ap (tick t7 ⟨2, 3, 3, 0, 0⟩) ⟨2, 3, 3, 0, 0⟩ = t8 at f8 r8 c8 ⊢
  by_cases h3 : rs.left = 3
  · exact ⟨fun h => by omega, fun _ => loop_empty pd ap _ _ _ _ _ _ (by simp only; omega)⟩
  obtain ⟨k, rfl⟩ : ∃ k', k = k' + 1 := ⟨k - 1, by omega⟩
  have i8 : insOf sumF t8.f 8 = ⟨9, 3, 0, 0, 0⟩ := by rw [f8]; rfl
  rw [loop_ret pd ap sumF k _ _ _ _ (by simp only; omega) ⟨9, 3, 0, 0, 0⟩ i8 rfl]
  refine ⟨fun _ => ?_, fun h => by omega⟩
  rw [show gi t8.regs (⟨9, 3, 0, 0, 0⟩ : Ins).a = ap 0 v n from r8, show t8.c + 1 = s + 8 by omega]
  exact ⟨_, rfl, by simp only [leave]; omega, rfl, rfl⟩

/-- a task that goes deeper: its child, then the rest -/
theorem sum_deeper (pd : Int → Int → Int) (ap : Int → Int → Int → Int) (k : Nat) (rs : RS) (n depth ped : Int) (self : Nat) (h : 4 ≤ rs.left) (hn : n ≠ 0) (hd : depth ≠ 4096) :
    ∃ (R : RS) (t4 : TS), R.left = rs.left - 4 ∧ R.tasks = rs.tasks + 1 ∧ R.deepest = max rs.deepest (depth + 1) ∧ t4.f = 0 ∧ t4.c = 3 ∧ t4.ends = [] ∧ t4.regs = [n, 1, ap 1 n 1, 0, 0, 0, 0, 0, 0, 0, 0, 0, 0, 0, 0, 0] ∧ t4.slots = List.replicate 8 0 ∧
      (∀ w, loop pd ap sumF k R (sumT (ap 1 n 1) (depth + 1) (pd ped 0)) 0 rs.nodes.length = .stop w → loop pd ap sumF (k + 4) rs (sumT n depth ped) 0 self = .stop w) ∧
      (∀ rs2 v s, loop pd ap sumF k R (sumT (ap 1 n 1) (depth + 1) (pd ped 0)) 0 rs.nodes.length = .done rs2 v s →
        loop pd ap sumF (k + 4) rs (sumT n depth ped) 0 self = loop pd ap sumF k rs2 { tick t4 ⟨5, 0, 0, 2, 0⟩ with kids := t4.kids + 1, slots := si t4.slots 0 v, ends := t4.ends ++ [(tick t4 ⟨5, 0, 0, 2, 0⟩).c + s] } 5 self) := by
  obtain ⟨t4, e, a1, a2, a3, a4, a5, a6, a7, a8⟩ := sum_four pd ap (k + 1) rs n depth ped self (by omega) hn
  have hkid := sum_kid pd t4 n (ap 1 n 1) depth ped a2 a3 a6 a7
  have hi : insOf sumF t4.f 4 = ⟨5, 0, 0, 2, 0⟩ := by rw [a1]; rfl
  refine ⟨enter sumF { ({ rs with left := rs.left - 3 } : RS) with left := rs.left - 3 - 1 } (sumT (ap 1 n 1) (depth + 1) (pd ped 0)) self t4.kids, t4, ?_, rfl, rfl, a1, a4, a5, a7, a8, fun w hw => ?_, fun rs2 v s hw => ?_⟩
  · simp only [enter]; omega
  · rw [show k + 4 = k + 1 + 3 by omega, e]
    refine loop_spawn_stop pd ap sumF k { rs with left := rs.left - 3 } t4 4 self (by simp only; omega) ⟨5, 0, 0, 2, 0⟩ hi rfl (by rw [a2]; exact hd) w ?_
    rw [hkid]
    exact hw
  · rw [show k + 4 = k + 1 + 3 by omega, e]
    refine loop_spawn_done pd ap sumF k { rs with left := rs.left - 3 } t4 4 self (by simp only; omega) ⟨5, 0, 0, 2, 0⟩ hi rfl (by rw [a2]; exact hd) rs2 v s ?_
    rw [hkid]
    exact hw

theorem sum_run (pd : Int → Int → Int) (ap : Int → Int → Int → Int) (hsub : ∀ n : Int, 0 < n → n ≤ 4095 → ap 1 n 1 = n - 1) (hadd : ∀ a b : Int, 0 ≤ a → a ≤ 8386560 → 0 ≤ b → b ≤ 4095 → ap 0 a b = a + b) :
    ∀ (n k : Nat) (rs : RS) (depth ped : Int) (self : Nat), n ≤ 4095 → depth + n ≤ 4096 → 1 ≤ depth → rs.left < k →
      (8 * n + 2 ≤ rs.left → ∃ (rs' : RS) (v : Int), loop pd ap sumF k rs (sumT n depth ped) 0 self = .done rs' v (8 * n + 2) ∧ 2 * v = n * (n + 1) ∧ rs'.left = rs.left - (8 * n + 2) ∧ rs'.tasks = rs.tasks + n ∧ rs'.deepest = max rs.deepest (if n = 0 then rs.deepest else depth + n)) ∧
      (rs.left < 8 * n + 2 → loop pd ap sumF k rs (sumT n depth ped) 0 self = .stop 62) := by
  intro n
  induction n with
  | zero =>
    intro k rs depth ped self hn hd h1 hk
    refine ⟨fun h => ?_, fun h => ?_⟩
    · obtain ⟨k, rfl⟩ : ∃ k', k = k' + 2 := ⟨k - 2, by omega⟩
      obtain ⟨rs', e, e1, e2, e3⟩ := sum_zero pd ap k rs depth ped self (by omega)
      exact ⟨rs', 0, e, by decide, e1, by simp only [e2]; simp, by rw [e3]; simp⟩
    · by_cases h0 : rs.left = 0
      · exact loop_empty pd ap _ _ _ _ _ _ h0
      obtain ⟨k, rfl⟩ : ∃ k', k = k' + 1 := ⟨k - 1, by omega⟩
      show loop pd ap sumF (k + 1) rs (sumT 0 depth ped) 0 self = .stop 62
      rw [loop_go pd ap sumF k rs _ _ _ h0 ⟨4, 0, 2, 0, 0⟩ rfl (by decide) (by decide)]
      exact loop_empty pd ap _ _ _ _ _ _ (by simp only; omega)
  | succ n ih =>
    intro k rs depth ped self hn hd h1 hk
    have hne : (((n + 1 : Nat) : Int)) ≠ 0 := by omega
    by_cases hl : rs.left < 3
    · exact ⟨fun h => by omega, fun _ => sum_three pd ap k rs _ depth ped self hl hk hne⟩
    by_cases hl3 : rs.left = 3
    · refine ⟨fun h => by omega, fun _ => ?_⟩
      obtain ⟨k, rfl⟩ : ∃ k', k = k' + 3 := ⟨k - 3, by omega⟩
      obtain ⟨t4, e, a1⟩ := sum_four pd ap k rs _ depth ped self (by omega) hne
      rw [e]
      exact loop_empty pd ap _ _ _ _ _ _ (by simp only; omega)
    obtain ⟨k, rfl⟩ : ∃ k', k = k' + 4 := ⟨k - 4, by omega⟩
    obtain ⟨R, t4, b1, b2, b3, a1, a4, a5, a7, a8, hstop, hdone⟩ := sum_deeper pd ap k rs ((n + 1 : Nat) : Int) depth ped self (by omega) hne (by omega)
    have hx : ap 1 ((n + 1 : Nat) : Int) 1 = (n : Int) := by rw [hsub _ (by omega) (by omega)]; omega
    rw [hx] at hstop hdone a7
    obtain ⟨ih1, ih2⟩ := ih k R (depth + 1) (pd ped 0) rs.nodes.length (by omega) (by omega) (by omega) (by omega)
    by_cases hr : R.left < 8 * n + 2
    · exact ⟨fun h => by omega, fun _ => hstop _ (ih2 hr)⟩
    obtain ⟨rs2, v, e2, e3, e4, e5, e6⟩ := ih1 (by omega)
    have hd2 := hdone rs2 v _ e2
    rw [hd2]
    clear ih1 ih2 ih hstop hdone hd2
    have q1 : 8 * (n + 1) + 2 ≤ rs.left → 4 ≤ rs2.left := fun h => by omega
    have q2 : rs.left < 8 * (n + 1) + 2 → rs2.left < 4 := fun h => by omega
    have q3 : rs2.left < k := by omega
    have hv0 : 0 ≤ v ∧ v ≤ 8386560 := by
      have hn1 : (n : Int) ≤ 4095 := by omega
      have hp : (0 : Int) ≤ n * (n + 1) := Int.mul_nonneg (by omega) (by omega)
      have hp2 : (n : Int) * (n + 1) ≤ 4095 * 4096 := Int.mul_le_mul (by omega) (by omega) (by omega) (by omega)
      omega
    have htl := sum_tail pd ap k rs2 { tick t4 ⟨5, 0, 0, 2, 0⟩ with kids := t4.kids + 1, slots := si t4.slots 0 v, ends := t4.ends ++ [(tick t4 ⟨5, 0, 0, 2, 0⟩).c + (8 * n + 2)] } self ((n + 1 : Nat) : Int) n (8 * n + 2) v a1
      (by show t4.c + 1 = 4; rw [a4]; rfl) (by show t4.ends ++ [t4.c + 1 + (8 * (n : Int) + 2)] = _; rw [a5, a4]; rfl) (by omega) a7 (by show gi (si t4.slots 0 v) 0 = v; rw [a8]; rfl) q3
    refine ⟨fun h => ?_, fun h => htl.2 (q2 h)⟩
    obtain ⟨rs', f1, f2, f3, f4⟩ := htl.1 (q1 h)
    clear htl
    have hav : ap 0 v ((n + 1 : Nat) : Int) = v + (n + 1 : Nat) := hadd v _ hv0.1 hv0.2 (by omega) (by omega)
    rw [hav] at f1
    refine ⟨rs', v + (n + 1 : Nat), ?_, ?_, by omega, by omega, ?_⟩
    · rw [f1]
      congr 1 <;> omega
    · have : ((n + 1 : Nat) : Int) * (((n + 1 : Nat) : Int) + 1) = (n : Int) * (n + 1) + 2 * (n + 1 : Nat) := by
        rw [show ((n + 1 : Nat) : Int) = (n : Int) + 1 by omega]
        rw [Int.add_mul, Int.mul_add, Int.mul_add, Int.mul_add]
        omega
      rw [this]
      omega
    · rw [f4, e6, b3, if_neg (show ¬ n + 1 = 0 by omega)]
      by_cases h0 : n = 0
      · subst h0
        rw [if_pos rfl]
        omega
      · rw [if_neg h0]
        omega

/-- a chain that never ends: too deep, if the fuel reaches there -/
theorem sum_chain (pd : Int → Int → Int) (ap : Int → Int → Int → Int) (x : Int → Int) (hx : ∀ d, 1 ≤ d → d ≤ 4096 → x d ≠ 0) (hs : ∀ d, 1 ≤ d → d < 4096 → ap 1 (x d) 1 = x (d + 1)) :
    ∀ (m k : Nat) (rs : RS) (depth ped : Int) (self : Nat), depth + m = 4096 → 1 ≤ depth → rs.left < k →
      (4 * m + 4 ≤ rs.left → loop pd ap sumF k rs (sumT (x depth) depth ped) 0 self = .stop 63) ∧
      (rs.left < 4 * m + 4 → loop pd ap sumF k rs (sumT (x depth) depth ped) 0 self = .stop 62) := by
  intro m
  induction m with
  | zero =>
    intro k rs depth ped self hd h1 hk
    have hne := hx depth h1 (by omega)
    by_cases hl : rs.left < 3
    · exact ⟨fun h => by omega, fun _ => sum_three pd ap k rs _ depth ped self hl hk hne⟩
    obtain ⟨k, rfl⟩ : ∃ k', k = k' + 3 := ⟨k - 3, by omega⟩
    obtain ⟨t4, e, a1, a2, a3⟩ := sum_four pd ap k rs _ depth ped self (by omega) hne
    rw [e]
    refine ⟨fun h => ?_, fun h => loop_empty pd ap _ _ _ _ _ _ (by simp only; omega)⟩
    obtain ⟨k, rfl⟩ : ∃ k', k = k' + 1 := ⟨k - 1, by omega⟩
    exact loop_deep63 pd ap sumF k _ t4 4 self (by simp only; omega) ⟨5, 0, 0, 2, 0⟩ (by rw [a1]; rfl) rfl (by rw [a2]; omega)
  | succ m ih =>
    intro k rs depth ped self hd h1 hk
    have hne := hx depth h1 (by omega)
    by_cases hl : rs.left < 3
    · exact ⟨fun h => by omega, fun _ => sum_three pd ap k rs _ depth ped self hl hk hne⟩
    by_cases hl3 : rs.left = 3
    · refine ⟨fun h => by omega, fun _ => ?_⟩
      obtain ⟨k, rfl⟩ : ∃ k', k = k' + 3 := ⟨k - 3, by omega⟩
      obtain ⟨t4, e, a1⟩ := sum_four pd ap k rs _ depth ped self (by omega) hne
      rw [e]
      exact loop_empty pd ap _ _ _ _ _ _ (by simp only; omega)
    obtain ⟨k, rfl⟩ : ∃ k', k = k' + 4 := ⟨k - 4, by omega⟩
    obtain ⟨R, t4, b1, b2, b3, a1, a4, a5, a7, a8, hstop, hdone⟩ := sum_deeper pd ap k rs (x depth) depth ped self (by omega) hne (by omega)
    rw [hs depth h1 (by omega)] at hstop
    obtain ⟨ih1, ih2⟩ := ih k R (depth + 1) (pd ped 0) rs.nodes.length (by omega) (by omega) (by omega)
    exact ⟨fun h => hstop _ (ih1 (by omega)), fun h => hstop _ (ih2 (by omega))⟩

end Go.Proofs.YtcioegimmjppcaaDoor.P
