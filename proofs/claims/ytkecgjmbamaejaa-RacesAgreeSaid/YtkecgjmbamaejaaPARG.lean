/- races.Detect: walked. -/
import Derived.Maps.RangeWalk
import Derived.Shelf.SlLaysM
import Derived.Shelf.SortM.Plain
import Derived.Shelf.SortM.SortNone
import Derived.Sort.OwnSorted
import Derived.Sort.OwnSortedInts
import Derived.Test.YtkecgjmbamaejaaPAPx3
import Derived.Test.YtkecgjmbamaejaaPARB
import Derived.Test.YtkecgjmbamaejaaPAWlk
set_option linter.unusedVariables false
set_option linter.unusedSimpArgs false
namespace Go.Proofs.Ytkecgjmbamaejaa.P
open Go.RowKit Go.Sort Go.Shelf Go.Proofs.YtkecgjmbamaejaaW.PrintWords Go.Proofs.YtkecgjmbamaejaaW.PrintLast Go.Proofs.YtkecgjmbamaejaaW.PrintMore
set_option linter.unusedVariables false
def sort_ren : Go.Shelf.Ren := ⟨fun | 5 => 51 | 8 => 61 | 7 => 60 | 19 => 73 | 20 => 74 | 10 => 64 | 11 => 65 | 12 => 66 | 13 => 67 | 14 => 68 | 15 => 69 | 16 => 70 | 17 => 71 | 18 => 72 | 30 => 75 | 31 => 76 | 32 => 77 | 33 => 78 | 34 => 79 | 35 => 80 | 40 => 81 | n => n, fun | 23 => 40 | 25 => 2 | 3 => 3 | 32 => 96 | 22 => 40 | 0 => 0 | 44 => 111 | 46 => 113 | 4 => 4 | 36 => 104 | 35 => 103 | 41 => 89 | 5 => 5 | 9 => 9 | 53 => 114 | 57 => 118 | 63 => 121 | 64 => 122 | n => n, fun | n => n⟩
theorem sort_lays : Go.Proofs.SlLaysM.n5 Try.prog sort_ren where
  mixed := by kernel_rfl
  f5 := ⟨Try.f51.name, by decide, Try.func51.trans (congrArg some (by kernel_rfl))⟩
  f7 := ⟨Try.f60.name, by decide, Try.func60.trans (congrArg some (by kernel_rfl))⟩
  f8 := Try.func61.trans (congrArg some (by kernel_rfl))
  f10 := ⟨Try.f64.name, by decide, Try.func64.trans (congrArg some (by kernel_rfl))⟩
  f11 := ⟨Try.f65.name, by decide, Try.func65.trans (congrArg some (by kernel_rfl))⟩
  f12 := ⟨Try.f66.name, by decide, Try.func66.trans (congrArg some (by kernel_rfl))⟩
  f13 := ⟨Try.f67.name, by decide, Try.func67.trans (congrArg some (by kernel_rfl))⟩
  f14 := ⟨Try.f68.name, by decide, Try.func68.trans (congrArg some (by kernel_rfl))⟩
  f15 := ⟨Try.f69.name, by decide, Try.func69.trans (congrArg some (by kernel_rfl))⟩
  f16 := ⟨Try.f70.name, by decide, Try.func70.trans (congrArg some (by kernel_rfl))⟩
  f17 := ⟨Try.f71.name, by decide, Try.func71.trans (congrArg some (by kernel_rfl))⟩
  f18 := ⟨Try.f72.name, by decide, Try.func72.trans (congrArg some (by kernel_rfl))⟩
  f19 := Try.func73.trans (congrArg some (by kernel_rfl))
  f20 := Try.func74.trans (congrArg some (by kernel_rfl))
  f30 := ⟨Try.f75.name, by decide, Try.func75.trans (congrArg some (by kernel_rfl))⟩
  f31 := Try.func76.trans (congrArg some (by kernel_rfl))
  f32 := Try.func77.trans (congrArg some (by kernel_rfl))
  f33 := ⟨Try.f78.name, by decide, Try.func78.trans (congrArg some (by kernel_rfl))⟩
  f34 := ⟨Try.f79.name, by decide, Try.func79.trans (congrArg some (by kernel_rfl))⟩
  f35 := ⟨Try.f80.name, by decide, Try.func80.trans (congrArg some (by kernel_rfl))⟩
  f40 := ⟨Try.f81.name, by decide, Try.func81.trans (congrArg some (by kernel_rfl))⟩
  t0 := Try.underlying0
  a0 := Try.isAgg0
  z0 := Try.sizeOf0
  v0 := Try.zeroValue0
  t3 := Try.underlying3
  a3 := Try.isAgg3
  z3 := Try.sizeOf3
  v3 := Try.zeroValue3
  t4 := Try.underlying4
  a4 := Try.isAgg4
  z4 := Try.sizeOf4
  v4 := Try.zeroValue4
  t5 := Try.underlying5
  a5 := Try.isAgg5
  z5 := Try.sizeOf5
  v5 := Try.zeroValue5
  t9 := Try.underlying9
  a9 := Try.isAgg9
  z9 := Try.sizeOf9
  v9 := Try.zeroValue9
  t22 := Try.underlying40
  a22 := Try.isAgg40
  z22 := Try.sizeOf40
  v22 := Try.zeroValue40
  t23 := Try.underlying40
  a23 := Try.isAgg40
  z23 := Try.sizeOf40
  v23 := Try.zeroValue40
  t25 := Try.underlying2
  a25 := Try.isAgg2
  z25 := Try.sizeOf2
  v25 := Try.zeroValue2
  t32 := Try.underlying96
  a32 := Try.isAgg96
  z32 := Try.sizeOf96
  v32 := Try.zeroValue96
  t35 := Try.underlying103
  a35 := Try.isAgg103
  z35 := Try.sizeOf103
  v35 := Try.zeroValue103
  t36 := Try.underlying104
  a36 := Try.isAgg104
  z36 := Try.sizeOf104
  v36 := Try.zeroValue104
  t41 := Try.underlying89
  a41 := Try.isAgg89
  z41 := Try.sizeOf89
  v41 := Try.zeroValue89
  t44 := Try.underlying111
  a44 := Try.isAgg111
  z44 := Try.sizeOf111
  v44 := Try.zeroValue111
  t46 := Try.underlying113
  a46 := Try.isAgg113
  z46 := Try.sizeOf113
  v46 := Try.zeroValue113
  t53 := Try.underlying114
  a53 := Try.isAgg114
  z53 := Try.sizeOf114
  v53 := Try.zeroValue114
  t57 := Try.underlying118
  a57 := Try.isAgg118
  z57 := Try.sizeOf118
  v57 := Try.zeroValue118
  t63 := Try.underlying121
  a63 := Try.isAgg121
  z63 := Try.sizeOf121
  v63 := Try.zeroValue121
  t64 := Try.underlying122
  a64 := Try.isAgg122
  z64 := Try.sizeOf122
  v64 := Try.zeroValue122
theorem sort_calls {W : World} {base : Nat} {ok : Nat → Prop} {v : Value} {zs : List Int} (h : Kd.R (Kd.int .i64) 2 W base ok v zs) (hz : zs.length ≤ 8388608) :
    Calls Try.prog 51 #[v] W fun e W' => e = .returned (.tuple #[]) ∧ Kd.R (Kd.int .i64) 2 W' base ok v (zs.mergeSort fun x y => decide (x ≤ y)) ∧ W.grownBy W' v.ownBlock := by
  have ho := Kd.own_of_R h
  rcases ho.2 with ⟨e, e2⟩ | ⟨g, cap, cur, e, hb, hg, hnc, hcm, hcs, ht⟩
  · subst e
    have hz0 : zs = [] := List.eq_nil_of_length_eq_zero e2
    subst hz0
    refine (AnyM.slices_Sort_int_none sort_lays none 0 W).mono ?_
    rintro e W' ⟨rfl, rfl⟩
    exact ⟨rfl, by simpa using h, ⟨rfl, rfl, rfl, Nat.le_refl _, fun _ _ _ => rfl⟩⟩
  · subst e
    have hc := AnyM.slices_Sort_int sort_lays g 0 cap zs W (holds_of_blockI hg (by rw [Nat.mul_one] at ht; exact ht)) (Array.getElem?_eq_some_iff.1 hg).1 (by omega)
    refine hc.mono ?_
    rintro e W' ⟨rfl, n, os, rfl⟩
    refine ⟨rfl, Kd.R_of_own ?_ h.1, grownBy_sortedI _⟩
    have h5 := ownsRow_sortedI (n := n) (os := os) (ts := zs.mergeSort fun x y => decide (x ≤ y)) (by simp) hb hg hnc hcm hcs
    have h6 : (zs.mergeSort fun x y => decide (x ≤ y)).length = zs.length := by simp
    rw [h6]
    exact h5
end Go.Proofs.Ytkecgjmbamaejaa.P
namespace Go.Proofs.Ytkecgjmbamaejaa.P
open Go.RowKit Go.Maps Go.Proofs.YtkecgjmbamaejaaW.PrintWords Go.Proofs.YtkecgjmbamaejaaW.PrintLast Go.Proofs.YtkecgjmbamaejaaW.PrintMore
set_option linter.unusedVariables false
def fE (j : Nat) : DataW Unit := .lit (.int .i64 (j : Int))
theorem fm_hit {D : DataW Unit} {F : Int → Option Nat} (h : FM fE D F) {x c : Int} (hat : ∀ zd, D.atKey (.int .i64 x) zd = .lit (.int .i64 c)) : ∃ j : Nat, F x = some j ∧ c = (j : Int) := by
  cases e : F x with
  | none =>
    have h1 := hat (.lit (.bool true))
    rw [h.look, e] at h1
    simp at h1
  | some j =>
    refine ⟨j, rfl, ?_⟩
    have h1 := hat (.lit (.bool true))
    rw [h.look, e] at h1
    simp [fE] at h1
    exact h1.symm
theorem same_int (x y : Int) : (Lit.int .i64 x).sameKey (.int .i64 y) = decide (x = y) := by
  by_cases h : x = y
  · subst h
    simp [Lit.sameKey]
  · rw [sameKey_ne (lit_ne h), decide_eq_false h]
/-- the keys met so far -/
structure DK (F : Int → Option Nat) (left : Lit → Bool) (zs : List Int) : Prop where
  nd : zs.Nodup
  mem : ∀ x, x ∈ zs ↔ (F x).isSome = true ∧ left (.int .i64 x) = false
theorem DK.start {D : DataW Unit} {F : Int → Option Nat} (h : FM fE D F) : DK F (Maps.has D) [] := by
  refine ⟨List.nodup_nil, fun x => ⟨fun h => by simp at h, fun ⟨h1, h2⟩ => ?_⟩⟩
  rw [h.has, h1] at h2
  cases h2
theorem DK.step {F : Int → Option Nat} {left : Lit → Bool} {zs : List Int} (h : DK F left zs) {x : Int} {j : Nat} (hj : F x = some j) (hl : left (.int .i64 x) = true) : DK F (fun z => left z && !z.sameKey (.int .i64 x)) (zs ++ [x]) := by
  refine ⟨?_, fun y => ?_⟩
  · rw [List.nodup_append]
    refine ⟨h.nd, (by simp), fun a ha b hb e => ?_⟩
    rw [List.mem_singleton.1 hb] at e
    subst e
    have := ((h.mem a).1 ha).2
    rw [hl] at this
    cases this
  · rw [List.mem_append, List.mem_singleton, h.mem, same_int]
    by_cases e : y = x
    · subst e
      simp [hj]
    · simp [e]
theorem DK.done {F : Int → Option Nat} {left : Lit → Bool} {zs : List Int} (h : DK F left zs) (hl : ∀ kl, left kl = false) (x : Int) : x ∈ zs ↔ (F x).isSome = true := by
  rw [h.mem]
  exact ⟨fun h => h.1, fun e => ⟨e, hl _⟩⟩
/-- what walk's answer says, in a form that is free of the world -/
structure WalkF (l : List S52) (F : Int → Option Nat) : Prop where
  hit : ∀ loc j, F loc = some j → FirstAt (kdsOf l) (lcsOf l) l.length loc j
  calm : ∀ loc, F loc = none → ∀ j, j < l.length → (lcsOf l).getD j 0 = loc → ¬ Racy (kdsOf l) (lcsOf l) j
theorem WalkF.iff {l : List S52} {F : Int → Option Nat} (h : WalkF l F) (x : Int) : (F x).isSome = true ↔ ∃ j, j < l.length ∧ (lcsOf l).getD j 0 = x ∧ Racy (kdsOf l) (lcsOf l) j := by
  cases e : F x with
  | none => exact ⟨fun h => by simp at h, fun ⟨j, h1, h2, h3⟩ => absurd h3 (h.calm x e j h1 h2)⟩
  | some j =>
    obtain ⟨h1, h2, h3, -⟩ := h.hit x j e
    exact ⟨fun _ => ⟨j, h1, h2, h3⟩, fun _ => rfl⟩
theorem WalkF.det {l : List S52} {F : Int → Option Nat} (h : WalkF l F) {left : Lit → Bool} {zs : List Int} (hk : DK F left zs) (hl : ∀ kl, left kl = false) : (zs.mergeSort fun x y => decide (x ≤ y)) = detL (kdsOf l) (lcsOf l) l.length :=
  keys_det hk.nd (fun x => (hk.done hl x).trans (h.iff x))
/-- the least so far -/
structure MK (l : List S52) (F : Int → Option Nat) (left : Lit → Bool) (m : Nat) : Prop where
  le : m ≤ l.length
  at_ : m < l.length → ∃ x, F x = some m
  low : ∀ x j, F x = some j → left (.int .i64 x) = false → m ≤ j
theorem MK.start {l : List S52} {D : DataW Unit} {F : Int → Option Nat} (h : FM fE D F) : MK l F (Maps.has D) l.length :=
  ⟨Nat.le_refl _, fun h => absurd h (Nat.lt_irrefl _), fun x j hj hl => by rw [h.has, hj] at hl; cases hl⟩
theorem MK.step {l : List S52} {F : Int → Option Nat} (hF : WalkF l F) {left : Lit → Bool} {m : Nat} (h : MK l F left m) {x : Int} {j : Nat} (hj : F x = some j) : MK l F (fun z => left z && !z.sameKey (.int .i64 x)) (min m j) := by
  have h1 := (hF.hit x j hj).1
  refine ⟨by have := h.le; omega, fun hm => ?_, fun y k hk hl => ?_⟩
  · by_cases e : m ≤ j
    · rw [Nat.min_eq_left e] at hm ⊢
      exact h.at_ hm
    · rw [Nat.min_eq_right (by omega)]
      exact ⟨x, hj⟩
  · by_cases e : y = x
    · subst e
      rw [hj] at hk
      injection hk with hk
      omega
    · have h2 : left (.int .i64 y) = false := by simpa [same_int, e] using hl
      have := h.low y k hk h2
      omega
/-- the first racy deed -/
theorem MK.done {l : List S52} {F : Int → Option Nat} (hF : WalkF l F) {left : Lit → Bool} {m : Nat} (h : MK l F left m) (hl : ∀ kl, left kl = false) : (m < l.length → Racy (kdsOf l) (lcsOf l) m) ∧ ∀ k, k < m → ¬ Racy (kdsOf l) (lcsOf l) k := by
  refine ⟨fun hm => ?_, fun k hk hr => ?_⟩
  · obtain ⟨x, hx⟩ := h.at_ hm
    exact (hF.hit x m hx).2.2.1
  · have hkl : k < l.length := by have := h.le; omega
    cases e : F ((lcsOf l).getD k 0) with
    | none => exact hF.calm _ e k hkl rfl hr
    | some j =>
      obtain ⟨h1, h2, h3, h4⟩ := hF.hit _ j e
      have := h.low _ j e (hl _)
      exact h4 k (by omega) rfl hr
theorem WalkF.none {l : List S52} {F : Int → Option Nat} (hF : WalkF l F) (hn : ∀ x, F x = none) : ∀ j, j < l.length → ¬ Racy (kdsOf l) (lcsOf l) j := fun j hj => hF.calm _ (hn _) j hj rfl
theorem fm_size0 {D : DataW Unit} {F : Int → Option Nat} (h : FM fE D F) (h0 : Maps.size D = 0) : ∀ x, F x = none := by
  intro x
  have hh := h.has x
  cases D with
  | map es =>
    have : es = [] := List.eq_nil_of_length_eq_zero (by simpa [Maps.size] using h0)
    subst this
    cases e : F x with
    | none => rfl
    | some j => rw [e] at hh; simp [Maps.has] at hh
  | _ =>
    cases e : F x with
    | none => rfl
    | some j => rw [e] at hh; simp [Maps.has] at hh
end Go.Proofs.Ytkecgjmbamaejaa.P
namespace Go.Proofs.Ytkecgjmbamaejaa.P
open Go.RowKit Go.Maps Go.Proofs.YtkecgjmbamaejaaW.PrintWords Go.Proofs.YtkecgjmbamaejaaW.PrintLast Go.Proofs.YtkecgjmbamaejaaW.PrintMore
set_option linter.unusedVariables false
set_option linter.unusedSimpArgs false
set_option maxHeartbeats 1000000
set_option maxRecDepth 100000
structure DR (w W : World) (b r n : Nat) (D : DataW Unit) (left : Lit → Bool) (cnt : Nat) (v : Value) (zs : List Int) : Prop where
  rg : W.ranges Try.prog 2 (plainElem Try.prog 3) b r n D left cnt
  R : Kd.R (Kd.int .i64) 2 W w.heap.size (fun _ => True) v zs
  B : Below w.heap.size w W
  rb : w.heap.size ≤ r
theorem DR.next {w W W' : World} {b r n : Nat} {D : DataW Unit} {left left' : Lit → Bool} {cnt cnt' : Nat} {v : Value} {zs : List Int} (h : DR w W b r n D left cnt v zs) (hr : W'.ranges Try.prog 2 (plainElem Try.prog 3) b r n D left' cnt') (hg : W.grownBy W' (some r)) : DR w W' b r n D left' cnt' v zs := by
  refine ⟨hr, ?_, h.B.grown hg (below_size h.B) (fun k e => by injection e with e; have := h.rb; omega), h.rb⟩
  refine Kd.R_mono (Kd.R_grown (Kd.R_tight rfl h.R) hg (fun k hk e => ?_)) (fun _ _ => trivial)
  injection e with e
  obtain ⟨c, hc⟩ := Kd.R_typed h.R k hk.symm
  obtain ⟨es, clock, since, seen, c0, -, -, -, -, hit, -⟩ := h.rg
  rw [e, hit] at hc
  cases hc
theorem DR.app {w W W' : World} {b r n : Nat} {D : DataW Unit} {left : Lit → Bool} {cnt : Nat} {v v1 : Value} {zs zs1 : List Int} (h : DR w W b r n D left cnt v zs) (hR : Kd.R (Kd.int .i64) 2 W' w.heap.size (fun _ => True) v1 zs1) (hb : Below w.heap.size w W') (hg : W.grownBy W' v.ownBlock) : DR w W' b r n D left cnt v1 zs1 := by
  have hno : ∀ k, W.heap[k]? = none ∨ (∀ cs t fr, W.heap[k]? ≠ some (.cells cs t fr)) → some k ≠ v.ownBlock := fun k hk e => by
    obtain ⟨c, hc⟩ := Kd.R_typed h.R k e.symm
    rcases hk with hk | hk
    · rw [hk] at hc; cases hc
    · exact hk _ _ _ hc
  refine ⟨h.rg.kept hg (hno b (.inr fun cs t fr e => ?_)) (hno r (.inr fun cs t fr e => ?_)), hR, hb, h.rb⟩
  · obtain ⟨es, clock, since, seen, c0, hm, -⟩ := h.rg
    rw [hm] at e; cases e
  · obtain ⟨es, clock, since, seen, c0, -, -, -, -, hit, -⟩ := h.rg
    rw [hit] at e; cases e
section
variable {ops : Array Oper} {rest : List Oper} {o : Oper} {a : Act} {Q : Exit → Act → World → Prop}
theorem dr_app {w W : World} {b r n : Nat} {D : DataW Unit} {left : Lit → Bool} {cnt : Nat} {v : Value} {zs : List Int} (h : DR w W b r n D left cnt v zs) (hgd : o.guard = none) (s x : Operand) (ho : o.op = .call { callee := .builtin .append, args := #[s, x], argTypes := #[40, 40] }) (hs : a.eval s = v) (y : Int)
    (hx : a.eval x = .slice (some ⟨W.heap.size, 0, none⟩) 1 1) (hl : zs.length ≤ 8388608)
    (hK : ∀ A1 c1 W', DR w W' b r n D left cnt (.slice A1 (zs.length + 1) c1) (zs ++ [y]) → wpList Try.prog ops Q rest (a.put o.dst (.slice A1 (zs.length + 1) c1)) W') :
    wpList Try.prog ops Q (o :: rest) a (W.alloc (.cells #[.int .i64 y] 2)) := by
  refine Kd.R_append (Kd.int .i64) (w0 := w) w.heap.size hgd s x 40 2 (.int .i64 0) 8 ho Try.underlying40 info2 rfl (by decide) (by omega) v zs y [.int .i64 y] (fun _ => True) (fun _ => False) hs hx rfl (fun _ h => h.elim) (fun _ _ => trivial) h.R h.B h.B.size (by omega) ?_
  intro v1 w1 hR hb hg hat
  have hD := h.app hR hb hg
  obtain ⟨A1, c1, rfl⟩ := Kd.R_slice hR
  rw [List.length_append, List.length_singleton] at hD ⊢
  exact hK A1 c1 w1 hD
end
def wfB (l : List S52) : Bool := l.all fun e => (Lit.int .i64 e.f1).wf
theorem wfB_at {l : List S52} (h : wfB l = true) (j : Nat) (hj : j < l.length) : (Lit.int .i64 ((lcsOf l).getD j 0)).wf = true := by
  have := List.all_eq_true.1 h l[j] (List.getElem_mem hj)
  unfold lcsOf
  rw [List.getD_eq_getElem?_getD, List.getElem?_map, List.getElem?_eq_getElem hj]
  exact this
theorem walk_good (A0 : Option Addr) (c0 : Nat) (l0 : List S52) (w : World) (hr0 : Kd.C k52 w A0 l0.length l0) (hc0 : l0.length ≤ c0) (hg : Good l0) (hw : wfB l0 = true) : Calls Try.prog 46 #[.slice A0 l0.length c0] w (WalkPost l0 w) :=
  walk_calls A0 c0 l0 w hr0 hc0 hg.len hg.fair hg.knd (fun j hj => wfB_at hw j hj)
def DetPost (l : List S52) (w : World) (e : Ending) (w' : World) : Prop := ∃ v0_ : Value, e = .returned (.tuple #[v0_, .int .i64 (detV l).2]) ∧ Kd.R (Kd.int .i64) 2 w' w.heap.size (fun _ => True) v0_ (detV l).1 ∧ Below w.heap.size w w'
theorem racesCheck_ev2 (l : List S52) : Ev (fun k => races_Check.f k l) (chk l) := by
  by_cases h : l.length < 1099511627776
  · exact racesCheck_ev l h
  · unfold races_Check.f chk
    simp only [if_pos (show (l.length : Int) > 4096 by omega)]
    exact Ev.now _
theorem detect_calls (A0 : Option Addr) (c0 : Nat) (l0 : List S52) (w : World) (hr0 : Kd.C k52 w A0 l0.length l0) (hc0 : l0.length ≤ c0) (hw : wfB l0 = true) (hl : l0.length < 17592186044416) :
    Calls Try.prog 27 #[.slice A0 l0.length c0] w (DetPost l0 w) := by
  have HKK : Aside0 (∃ k, races_Check.f k l0 = some ((chk l0).1, (chk l0).2)) := ⟨(racesCheck_ev2 l0).rounds⟩
  have HC := Aside0.mk hr0
  have HW := Aside0.mk hw
  have HL := Aside0.mk (Locs.nil w)
  have hu58 := Try.underlying58
  obtain ⟨P, hP⟩ : ∃ P, DetPost l0 w = P := ⟨_, rfl⟩
  have HP := Aside0.mk hP
  rw [hP]
  clear hr0 hw hP hl
  obtain ⟨c1, hc1⟩ : ∃ x, (chk l0).1 = x := ⟨_, rfl⟩
  obtain ⟨c2, hc2⟩ : ∃ x, (chk l0).2 = x := ⟨_, rfl⟩
  rw [hc1, hc2] at HKK
  have HC1 := Aside0.mk hc1
  clear hc1 hc2
  go_enter Try.func27, Try.ntmps27
  go_upto_region 2 with (first | (go_at_call 37; have hcall := races_Check.calls HKK.out.choose A0 c0 l0 c1 c2 _ (Kd.C_below HC.out HL.out.below) hc0 HKK.out.choose_spec; (with_reducible refine hcall.mono ?_); clear hcall; rintro e_ w2 ⟨rfl, hb_⟩; have HLn := Aside0.mk (HL.out.step hb_); clear HL hb_; have HL := HLn; clear HLn) | ((with_reducible refine gate_dst (N := 4) rfl ?_); (try (refine gate_guard (by rfl) ?_; dsimp only)); refine box_locs (by repeat (first | exact HL.out | refine Locs.drew ?_ | refine Locs.drewN ?_ _)) ?hg (N := 4) ?hd (cs := #[.int .i64 0, .int .i64 0]) (t := 58) ?hr ?_; (case hd => rfl); (case hg => rfl); (case hr => first | (go_simp; done) | (go_simp; rfl)); intro g4 wb1 HLn HKb; clear HL; have HL := HLn; clear HLn HKb; (try clear hf); have hf := HL.out.facts; simp only [factsOf, List.cons_append, List.nil_append] at hf; skip))
  generalize hwt : World.setCell _ _ _ = w3
  have HLn : Aside0 (Locs w w3 [(g4, #[.int .i64 c1, .int .i64 c2], 58)]) := ⟨by rw [← hwt]; exact (HL.out.set 0 rfl 0 _).set 0 rfl 1 _⟩
  clear HL hwt; have HL := HLn; clear HLn; (try clear hf); have hf := HL.out.facts; simp only [factsOf, List.cons_append, List.nil_append] at hf; skip
  by_cases h0 : c1 = 0
  · subst h0
    have hg := chk_good HC1.out
    have HG := Aside0.mk hg
    clear hg
    go_upto_block 0 with (first | (go_at_call 46; have hcall := walk_good A0 c0 l0 _ (Kd.C_below HC.out HL.out.below) hc0 HG.out HW.out; (with_reducible refine hcall.mono ?_); clear hcall; rintro e_ w4 ⟨⟨bf, nf, F, rfl, ⟨D, hM, hD⟩, hF1, hF2, hnf, hbf⟩, hb_⟩; have HM := Aside0.mk (And.intro hM (And.intro hD (And.intro hnf hbf))); have HF : Aside0 (WalkF l0 F) := ⟨⟨hF1, hF2⟩⟩; have HLn := Aside0.mk (HL.out.step hb_); clear HL hb_ hM hD hF1 hF2 hnf hbf; have HL := HLn; clear HLn; (try clear hf); have hf := HL.out.facts; simp only [factsOf, List.cons_append, List.nil_append] at hf; skip) | (at_range; refine wpList_range_own _ rfl _ 69 rfl 2 3 locLaw Try.underlying69 _ bf nf D rfl HM.out.1 ?_; intro w5 hrg hgr hsz))
    go_frame
    have hR0 : Kd.R (Kd.int .i64) 2 w5 w.heap.size (fun _ => True) (.slice none 0 0) [] := Kd.R_nil _ _ _ _ _
    have hrb : w.heap.size ≤ w4.heap.size := below_size HL.out.below
    have HS : Aside0 (DR w w5 bf w4.heap.size nf D (Maps.has D) (Maps.size D) (.slice none 0 0) []) := ⟨hrg, hR0, HL.out.below.grown hgr hrb (fun k e => by cases e), hrb⟩
    have HKS : Aside0 (DK F (Maps.has D) [] ∧ Maps.size D ≤ 4096) := ⟨DK.start HM.out.2.1, by have := HM.out.1.size_le; have := HM.out.2.2.1; omega⟩
    obtain ⟨gr, hgr2⟩ : ∃ g, w4.heap.size = g := ⟨_, rfl⟩
    rw [hgr2] at HS ⊢
    clear hrg hgr hsz hR0 hrb hgr2 HL hf
    go_wp2_with (first | fail)
    go_loopg [5] 4097 (fun kq v5 w' => ∃ (A : Option Addr) (n c cnt : Nat) (left : Lit → Bool) (zs : List Int), v5 = .slice A n c ∧ Aside0 (n = zs.length ∧ cnt < kq ∧ zs.length + cnt ≤ 4096) ∧ Aside0 (DK F left zs) ∧ Aside0 (DR w w' bf gr nf D left cnt (.slice A n c) zs))
    case atStart => exact ⟨none, 0, 0, _, _, [], rfl, ⟨rfl, by have := HKS.out.2; omega, by have := HKS.out.2; simp; omega⟩, ⟨HKS.out.1⟩, HS⟩
    case round =>
      clear HS HKS
      obtain ⟨A, n, c, cnt, left, zs, rfl, HN, HK, HS⟩ := hrel
      have hn := HN.out.1
      subst hn
      go_wp2_with (first | (at_next; refine wpList_next_ranges_ii _ rfl _ rfl 2 3 .i64 .i64 locLaw Try.underlying2 Try.underlying3 bf gr nf D left cnt rfl HS.out.rg ?_ ?_) | fail)
      · intro hcnt hl0
        have HL0 := Aside0.mk hl0
        clear hcnt hl0
        go_wp2_with (first | (go_at_call 51; have hcall := sort_calls HS.out.R (by have := HN.out.2.2; omega); (with_reducible refine hcall.mono ?_); clear hcall; rintro e_ w6 ⟨rfl, hR, hg⟩; have HR := Aside0.mk hR; have HG2 := Aside0.mk hg; clear hR hg))
        rw [← HP.out]
        have e : detV l0 = ((zs.mergeSort fun x y => decide (x ≤ y)), 0) := by unfold detV; rw [if_pos HC1.out, HF.out.det HK.out HL0.out]
        refine ⟨.slice A zs.length c, by rw [e]; rfl, by rw [e]; exact HR.out, HS.out.B.grown HG2.out (below_size HS.out.B) (fun k hk => Kd.R_base HS.out.R k hk)⟩
      · intro x c_ w6 cnt1 hwx hwc hlx hat hrg1 hlt hg1 hs1 hen
        obtain ⟨j, hj, hcj⟩ := fm_hit HM.out.2.1 hat
        have HSn := Aside0.mk (HS.out.next hrg1 hg1)
        have HKn := Aside0.mk (HK.out.step hj hlx)
        have HLT := Aside0.mk hlt
        clear HS HK hwx hwc hlx hat hrg1 hlt hg1 hs1 hj hcj
        have HS := HSn
        clear HSn
        go_wp2_with (first | ((with_reducible refine gate_builtin (b := .append) (xs := #[.tmp 21, .tmp 23]) rfl ?_); at_builtin; refine dr_app HS.out rfl (.tmp 21) (.tmp 23) rfl rfl x rfl (by have := HN.out.2.2; omega) ?_; intro A1 c3 w7 HSn_; clear HS; have HS := Aside0.mk HSn_; clear HSn_))
        go_roundg (cnt1 + 1)
        case measure => have := HN.out.2.1; have := HLT.out; omega
        case rel => exact ⟨A1, zs.length + 1, c3, cnt1, _, zs ++ [x], rfl, ⟨by simp, by omega, by have := HN.out.2.2; have := HLT.out; rw [List.length_append, List.length_singleton]; omega⟩, ⟨HKn.out⟩, HS⟩
  · have h0b : (c1 == 0) = false := beq_eq_false_iff_ne.mpr h0
    have H0 := Aside0.mk h0
    clear h0
    go_upto_region 3 with (first | fail)
    go_region_held3 (fun W' => ∀ j, W'.cell? ⟨g4, j, none⟩ = #[Value.int .i64 c1, Value.int .i64 c2][j]?) (exact hf.1.1) (first | fail)
    go_wp2_with (first | fail)
    rw [← HP.out]
    have e : detV l0 = ([], c1) := by unfold detV; rw [HC1.out, if_neg H0.out]
    exact ⟨.slice none 0 0, by rw [e]; rfl, by rw [e]; exact Kd.R_nil _ _ _ _ _, HL.out.drew.below⟩
end Go.Proofs.Ytkecgjmbamaejaa.P
