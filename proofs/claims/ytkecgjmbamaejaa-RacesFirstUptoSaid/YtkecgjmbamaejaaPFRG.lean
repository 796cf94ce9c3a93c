/- races.Detect: walked. -/
import Derived.Maps.RangeWalk
import Derived.Shelf.SlLaysM
import Derived.Shelf.SortM.Plain
import Derived.Shelf.SortM.SortNone
import Derived.Sort.OwnSorted
import Derived.Sort.OwnSortedInts
import Derived.Test.YtkecgjmbamaejaaPFPx3
import Derived.Test.YtkecgjmbamaejaaPFRB
import Derived.Test.YtkecgjmbamaejaaPFWlk
set_option linter.unusedVariables false
set_option linter.unusedSimpArgs false
namespace Go.Proofs.Ytkecgjmbamaejaa.P
open Go.RowKit Go.Sort Go.Shelf Go.Proofs.YtkecgjmbamaejaaW.PrintWords Go.Proofs.YtkecgjmbamaejaaW.PrintLast Go.Proofs.YtkecgjmbamaejaaW.PrintMore
set_option linter.unusedVariables false
end Go.Proofs.Ytkecgjmbamaejaa.P
namespace Go.Proofs.Ytkecgjmbamaejaa.P
open Go.RowKit Go.Maps Go.Proofs.YtkecgjmbamaejaaW.PrintWords Go.Proofs.YtkecgjmbamaejaaW.PrintLast Go.Proofs.YtkecgjmbamaejaaW.PrintMore
set_option linter.unusedVariables false
def fE (j : Nat) : DataW Unit := .lit (.int .i64 (j : Int))
theorem fm_hit {D : DataW Unit} {F : Int → Option Nat} (h : FM fE D F) {x c : Int} (hat : ∀ zd, D.atKey (.int .i64 x) zd = .lit (.int .i64 c)) : ∃ j : Nat, F x = some j ∧ c = (j : Int) := by
  cases e : F x with
  | none =>
    have h1 := hat (.lit (.bool true))
    rw [h.look, e] at h1
    simp at h1
  | some j =>
    refine ⟨j, rfl, ?_⟩
    have h1 := hat (.lit (.bool true))
    rw [h.look, e] at h1
    simp [fE] at h1
    exact h1.symm
theorem same_int (x y : Int) : (Lit.int .i64 x).sameKey (.int .i64 y) = decide (x = y) := by
  by_cases h : x = y
  · subst h
    simp [Lit.sameKey]
  · rw [sameKey_ne (lit_ne h), decide_eq_false h]
/-- what walk's answer says, in a form that is free of the world -/
structure WalkF (l : List S52) (F : Int → Option Nat) : Prop where
  hit : ∀ loc j, F loc = some j → FirstAt (kdsOf l) (lcsOf l) l.length loc j
  calm : ∀ loc, F loc = none → ∀ j, j < l.length → (lcsOf l).getD j 0 = loc → ¬ Racy (kdsOf l) (lcsOf l) j
/-- the least so far -/
structure MK (l : List S52) (F : Int → Option Nat) (left : Lit → Bool) (m : Nat) : Prop where
  le : m ≤ l.length
  at_ : m < l.length → ∃ x, F x = some m
  low : ∀ x j, F x = some j → left (.int .i64 x) = false → m ≤ j
theorem MK.start {l : List S52} {D : DataW Unit} {F : Int → Option Nat} (h : FM fE D F) : MK l F (Maps.has D) l.length :=
  ⟨Nat.le_refl _, fun h => absurd h (Nat.lt_irrefl _), fun x j hj hl => by rw [h.has, hj] at hl; cases hl⟩
theorem MK.step {l : List S52} {F : Int → Option Nat} (hF : WalkF l F) {left : Lit → Bool} {m : Nat} (h : MK l F left m) {x : Int} {j : Nat} (hj : F x = some j) : MK l F (fun z => left z && !z.sameKey (.int .i64 x)) (min m j) := by
  have h1 := (hF.hit x j hj).1
  refine ⟨by have := h.le; omega, fun hm => ?_, fun y k hk hl => ?_⟩
  · by_cases e : m ≤ j
    · rw [Nat.min_eq_left e] at hm ⊢
      exact h.at_ hm
    · rw [Nat.min_eq_right (by omega)]
      exact ⟨x, hj⟩
  · by_cases e : y = x
    · subst e
      rw [hj] at hk
      injection hk with hk
      omega
    · have h2 : left (.int .i64 y) = false := by simpa [same_int, e] using hl
      have := h.low y k hk h2
      omega
/-- the first racy deed -/
theorem MK.done {l : List S52} {F : Int → Option Nat} (hF : WalkF l F) {left : Lit → Bool} {m : Nat} (h : MK l F left m) (hl : ∀ kl, left kl = false) : (m < l.length → Racy (kdsOf l) (lcsOf l) m) ∧ ∀ k, k < m → ¬ Racy (kdsOf l) (lcsOf l) k := by
  refine ⟨fun hm => ?_, fun k hk hr => ?_⟩
  · obtain ⟨x, hx⟩ := h.at_ hm
    exact (hF.hit x m hx).2.2.1
  · have hkl : k < l.length := by have := h.le; omega
    cases e : F ((lcsOf l).getD k 0) with
    | none => exact hF.calm _ e k hkl rfl hr
    | some j =>
      obtain ⟨h1, h2, h3, h4⟩ := hF.hit _ j e
      have := h.low _ j e (hl _)
      exact h4 k (by omega) rfl hr
theorem WalkF.none {l : List S52} {F : Int → Option Nat} (hF : WalkF l F) (hn : ∀ x, F x = none) : ∀ j, j < l.length → ¬ Racy (kdsOf l) (lcsOf l) j := fun j hj => hF.calm _ (hn _) j hj rfl
theorem fm_size0 {D : DataW Unit} {F : Int → Option Nat} (h : FM fE D F) (h0 : Maps.size D = 0) : ∀ x, F x = none := by
  intro x
  have hh := h.has x
  cases D with
  | map es =>
    have : es = [] := List.eq_nil_of_length_eq_zero (by simpa [Maps.size] using h0)
    subst this
    cases e : F x with
    | none => rfl
    | some j => rw [e] at hh; simp [Maps.has] at hh
  | _ =>
    cases e : F x with
    | none => rfl
    | some j => rw [e] at hh; simp [Maps.has] at hh
end Go.Proofs.Ytkecgjmbamaejaa.P
namespace Go.Proofs.Ytkecgjmbamaejaa.P
open Go.RowKit Go.Maps Go.Proofs.YtkecgjmbamaejaaW.PrintWords Go.Proofs.YtkecgjmbamaejaaW.PrintLast Go.Proofs.YtkecgjmbamaejaaW.PrintMore
set_option linter.unusedVariables false
set_option linter.unusedSimpArgs false
set_option maxHeartbeats 1000000
set_option maxRecDepth 100000
section
variable {ops : Array Oper} {rest : List Oper} {o : Oper} {a : Act} {Q : Exit → Act → World → Prop}
end
def wfB (l : List S52) : Bool := l.all fun e => (Lit.int .i64 e.f1).wf
theorem wfB_at {l : List S52} (h : wfB l = true) (j : Nat) (hj : j < l.length) : (Lit.int .i64 ((lcsOf l).getD j 0)).wf = true := by
  have := List.all_eq_true.1 h l[j] (List.getElem_mem hj)
  unfold lcsOf
  rw [List.getD_eq_getElem?_getD, List.getElem?_map, List.getElem?_eq_getElem hj]
  exact this
theorem walk_good (A0 : Option Addr) (c0 : Nat) (l0 : List S52) (w : World) (hr0 : Kd.C k52 w A0 l0.length l0) (hc0 : l0.length ≤ c0) (hg : Good l0) (hw : wfB l0 = true) : Calls Try.prog 46 #[.slice A0 l0.length c0] w (WalkPost l0 w) :=
  walk_calls A0 c0 l0 w hr0 hc0 hg.len hg.fair hg.knd (fun j hj => wfB_at hw j hj)
end Go.Proofs.Ytkecgjmbamaejaa.P
