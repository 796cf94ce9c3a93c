/- How an argument that reads as data is told as a plain Lean value of the print's kinds (integers, structs of one-cell fields, slices of these), and that its lengths are at most the datum's bulk. -/
import Derived.Test.YtkecgjmbamaejaaRows
import Derived.Test.YtkecgjmbamaejaaPAWWords
import Derived.WalkKit
import Derived.ProofKit
import Derived.Deep.Slices
import Derived.Lib.SmallJoins
import Derived.DataReads
namespace Go.Proofs.Ytkecgjmbamaejaa.Opens
open Go.RowKit Go.Proofs.YtkecgjmbamaejaaW.PrintWords Go.ChangeShapes Go.WideShapes Go.Deep
set_option linter.unusedVariables false

theorem one_le {H : Type} (d : DataW H) : 1 ≤ Rows.uptoBulk d := by
  cases d with
  | lit l => cases l <;> simp [Rows.uptoBulk]
  | nil => simp [Rows.uptoBulk]
  | ptr d => simp [Rows.uptoBulk]
  | slice elems spare => simp [Rows.uptoBulk]
  | agg parts => simp [Rows.uptoBulk]
  | iface t d => simp [Rows.uptoBulk]
  | map entries => simp [Rows.uptoBulk]
  | held h => simp [Rows.uptoBulk]

theorem part_le {H : Type} {d : DataW H} {l : List (DataW H)} (h : d ∈ l) : Rows.uptoBulk d ≤ Rows.uptoBulkAll l := by
  induction l with
  | nil => cases h
  | cons x r ih =>
    simp only [Rows.uptoBulkAll]
    cases List.mem_cons.1 h with
    | inl e => subst e; omega
    | inr e => have := ih e; omega

theorem length_le {H : Type} (l : List (DataW H)) : l.length ≤ Rows.uptoBulkAll l := by
  induction l with
  | nil => simp [Rows.uptoBulkAll]
  | cons x r ih => have := one_le x; simp only [Rows.uptoBulkAll, List.length_cons]; omega

/-- for every place below n a value: a list of them -/
theorem list_of {α : Type} {n : Nat} {p : Nat → α → Prop} (h : ∀ i, i < n → ∃ x, p i x) : ∃ l : List α, l.length = n ∧ ∀ i x, l[i]? = some x → p i x := by
  induction n with
  | zero => exact ⟨[], rfl, fun i x hi => by simp at hi⟩
  | succ n ih =>
    obtain ⟨l, hl, hp⟩ := ih (fun i hi => h i (Nat.lt_succ_of_lt hi))
    obtain ⟨a, ha⟩ := h n (Nat.lt_succ_self n)
    refine ⟨l ++ [a], by simp [hl], fun i x hi => ?_⟩
    rcases Nat.lt_trichotomy i l.length with hlt | heq | hgt
    · rw [List.getElem?_append_left hlt] at hi
      exact hp i x hi
    · subst heq
      simp at hi
      subst hi
      rw [hl]
      exact ha
    · rw [List.getElem?_eq_none (by simp; omega)] at hi
      cases hi

section
variable {H : Type}

/-- every reading of a value of type t tells a Lean value of the kind d, with what g says of it and of the datum's bulk -/
def Op {α : Type} (enc : TypeId × Value → H) (P : Program) (w : World) (t : TypeId) (d : Kd α) (g : α → Nat → Prop) : Prop :=
  ∀ fuel cs x, DataW.trod enc P w 0 (fun _ => true) true fuel t cs = some x → ∃ a, d.K w a cs ∧ g a (Rows.uptoBulk x.1)

def gList {α : Type} (g : α → Nat → Prop) (l : List α) (n : Nat) : Prop := l.length ≤ n ∧ ∀ a ∈ l, g a n

variable {enc : TypeId × Value → H} {P : Program} {w : World}

theorem op_slice {α : Type} {t e : TypeId} {d : Kd α} {g : α → Nat → Prop} (ht : P.underlying t = some (.slice e)) (hsz : P.cellsOf e = d.sz)
    (hg : ∀ a n m, n ≤ m → g a n → g a m) (ho : Op enc P w e d g) : Op enc P w t (Kd.slice e d) (gList g) := by
  intro fuel cs x h
  rcases DataW.trod_slice ht h with ⟨rfl, rfl⟩ | ⟨a, len, cap, elems, rest, n, _, rfl, rfl, hb, hl, hm, hlen, hel, _, _⟩
  · exact ⟨[], ⟨none, 0, rfl, Nat.le_refl _, rfl, by simp, fun h0 => absurd h0 (by simp)⟩, by simp [gList]⟩
  · have hone : ∀ i, i < len → ∃ x : α, (∃ cs', w.cells? 0 (a.add (i * P.cellsOf e)) (P.cellsOf e) = some cs' ∧ d.K w x cs') ∧ g x (Rows.uptoBulk (DataW.slice (elems.map (·.1)) (rest.map (·.1)))) := by
      intro i hi
      have he := hel i hi
      rw [List.getElem?_eq_getElem (by omega)] at he
      obtain ⟨cs', h1, h2⟩ := Option.bind_eq_some_iff.1 he
      obtain ⟨x, hK, hgx⟩ := ho n cs' _ h2
      refine ⟨x, ⟨cs', h1, hK⟩, hg x _ _ ?_ hgx⟩
      have hmem : (elems[i]'(by omega)).1 ∈ elems.map (·.1) := List.mem_map.2 ⟨_, List.getElem_mem _, rfl⟩
      have := part_le hmem
      simp only [Rows.uptoBulk]
      omega
    obtain ⟨l, hll, hp⟩ := list_of hone
    refine ⟨l, ⟨some a, cap, by rw [hll], by omega, rfl, ?_, fun _ => ⟨a, rfl, fun j p hj => ?_⟩⟩, ?_, fun y hy => ?_⟩
    · unfold maxLen at hm
      omega
    · obtain ⟨cs', h1, hK⟩ := (hp j p hj).1
      obtain ⟨_, hn, hc⟩ := World.cells?_some h1
      refine ⟨cs', by rw [hn, hsz], hK, fun i u hu => ?_⟩
      have hi : i < P.cellsOf e := by
        have := (List.getElem?_eq_some_iff.1 hu).1
        omega
      rw [← hsz, ← Go.Deep.add_add, hc i hi]
      exact hu
    · show l.length ≤ Rows.uptoBulk (DataW.slice (elems.map (·.1)) (rest.map (·.1)))
      have := length_le (elems.map (·.1))
      simp only [Rows.uptoBulk]
      simp at this
      omega
    · obtain ⟨i, hi, rfl⟩ := List.getElem_of_mem hy
      exact (hp i _ (List.getElem?_eq_getElem hi)).2

/-- the fields of a struct, each of one cell, behind each other: their readings -/
theorem fields1 {t : TypeId} {fs : Array Field} {fuel : Nat} {cs : List Value} {x : DataW H × List MemPlace} (ht : P.underlying t = some (.struct fs))
    (hone : ∀ (i : Nat) (f : Field), fs[i]? = some f → f.offset = i ∧ P.cellsOf f.type = 1) (hC : P.cellsOf t = fs.size)
    (h : DataW.trod enc P w 0 (fun _ => true) true fuel t cs = some x) :
    cs.length = fs.size ∧ ∃ n, ∀ (i : Nat) (f : Field) (c : Value), fs[i]? = some f → cs[i]? = some c → ∃ y, DataW.trod enc P w 0 (fun _ => true) true n f.type [c] = some y ∧ Rows.uptoBulk y.1 ≤ Rows.uptoBulk x.1 := by
  obtain ⟨xs, n, _, rfl, hcs, hxs, hall⟩ := DataW.trod_struct ht h
  refine ⟨by rw [hcs, hC], n, fun i f c hf hc => ?_⟩
  obtain ⟨ho, h1⟩ := hone i f hf
  have he := hall i f hf
  rw [ho, h1] at he
  have hlt : i < cs.length := (List.getElem?_eq_some_iff.1 hc).1
  have hsl : (cs.drop i).take 1 = [c] := by
    rw [List.drop_eq_getElem_cons hlt]
    simp [(List.getElem?_eq_some_iff.1 hc).2]
  rw [hsl] at he
  have hx : i < xs.length := by rw [hxs]; exact (Array.getElem?_eq_some_iff.1 hf).1
  rw [List.getElem?_eq_getElem hx] at he
  refine ⟨_, he, ?_⟩
  have hmem : (xs[i]'hx).1 ∈ xs.map (·.1) := List.mem_map.2 ⟨_, List.getElem_mem _, rfl⟩
  have := part_le hmem
  simp only [Rows.uptoBulk]
  omega

end
end Go.Proofs.Ytkecgjmbamaejaa.Opens
