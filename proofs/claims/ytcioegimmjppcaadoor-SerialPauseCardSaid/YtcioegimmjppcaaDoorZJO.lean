/- The table of package prog: what the rows' list of it gives. -/
import Derived.Carry
import Derived.DataReads
import Derived.Deep.Slices
import Derived.FnData
import Derived.Lib.SmallJoins
import Derived.OpenShut
import Derived.ProofKit
import Derived.Test.YtcioegimmjppcaaDoorZJB
import Derived.Test.YtcioegimmjppcaaDoorZJP
import Derived.Test.YtcioegimmjppcaaDoorRows
import Derived.Test.YtcioegimmjppcaaDoorWWords
import Derived.WalkKit
set_option linter.unusedVariables false
set_option linter.unusedSimpArgs false
/-! How an argument that reads as data is told as a plain Lean value of the print's kinds (integers, structs of one-cell fields, slices of these), and that its lengths are at most the datum's bulk. -/
namespace Go.Proofs.YtcioegimmjppcaaDoor.Opens
open Go.RowKit Go.Proofs.YtcioegimmjppcaaDoorW.PrintWords Go.ChangeShapes Go.WideShapes Go.Deep
set_option linter.unusedVariables false

theorem one_le {H : Type} (d : DataW H) : 1 ≤ Rows.uptoBulk d := by
  cases d with
  | lit l => cases l <;> simp [Rows.uptoBulk]
  | nil => simp [Rows.uptoBulk]
  | ptr d => simp [Rows.uptoBulk]
  | slice elems spare => simp [Rows.uptoBulk]
  | agg parts => simp [Rows.uptoBulk]
  | iface t d => simp [Rows.uptoBulk]
  | map entries => simp [Rows.uptoBulk]
  | held h => simp [Rows.uptoBulk]

theorem part_le {H : Type} {d : DataW H} {l : List (DataW H)} (h : d ∈ l) : Rows.uptoBulk d ≤ Rows.uptoBulkAll l := by
  induction l with
  | nil => cases h
  | cons x r ih =>
    simp only [Rows.uptoBulkAll]
    cases List.mem_cons.1 h with
    | inl e => subst e; omega
    | inr e => have := ih e; omega

theorem length_le {H : Type} (l : List (DataW H)) : l.length ≤ Rows.uptoBulkAll l := by
  induction l with
  | nil => simp [Rows.uptoBulkAll]
  | cons x r ih => have := one_le x; simp only [Rows.uptoBulkAll, List.length_cons]; omega

theorem bulk_append {H : Type} (l r : List (DataW H)) : Rows.uptoBulkAll (l ++ r) = Rows.uptoBulkAll l + Rows.uptoBulkAll r := by
  induction l with
  | nil => simp [Rows.uptoBulkAll]
  | cons x l ih => simp only [List.cons_append, Rows.uptoBulkAll, ih]; omega

theorem bound {H : Type} {l : List (DataW H)} (hk : Rows.uptoSmall H l = true) : Rows.uptoBulkAll l ≤ 1048576 :=
  of_decide_eq_true hk

/-- for every place below n a value: a list of them -/
theorem list_of {α : Type} {n : Nat} {p : Nat → α → Prop} (h : ∀ i, i < n → ∃ x, p i x) : ∃ l : List α, l.length = n ∧ ∀ i x, l[i]? = some x → p i x := by
  induction n with
  | zero => exact ⟨[], rfl, fun i x hi => by simp at hi⟩
  | succ n ih =>
    obtain ⟨l, hl, hp⟩ := ih (fun i hi => h i (Nat.lt_succ_of_lt hi))
    obtain ⟨a, ha⟩ := h n (Nat.lt_succ_self n)
    refine ⟨l ++ [a], by simp [hl], fun i x hi => ?_⟩
    rcases Nat.lt_trichotomy i l.length with hlt | heq | hgt
    · rw [List.getElem?_append_left hlt] at hi
      exact hp i x hi
    · subst heq
      simp at hi
      subst hi
      rw [hl]
      exact ha
    · rw [List.getElem?_eq_none (by simp; omega)] at hi
      cases hi

section
variable {H : Type}

/-- every reading of a value of type t tells a Lean value of the kind d, with what g says of it and of the datum's bulk -/
def Op {α : Type} (enc : TypeId × Value → H) (P : Program) (w : World) (t : TypeId) (d : Kd α) (g : α → Nat → Prop) : Prop :=
  ∀ fuel cs x, DataW.trod enc P w 0 (fun _ => true) true fuel t cs = some x → ∃ a, d.K w a cs ∧ g a (Rows.uptoBulk x.1)

def gInt (k : IntKind) (a : Int) (_ : Nat) : Prop := (Lit.int k a).wf = true
def gList {α : Type} (g : α → Nat → Prop) (l : List α) (n : Nat) : Prop := l.length ≤ n ∧ ∀ a ∈ l, g a n

variable {enc : TypeId × Value → H} {P : Program} {w : World}

theorem op_int {t : TypeId} {k : IntKind} (ht : P.underlying t = some (.int k)) : Op enc P w t (Kd.int k) (gInt k) := by
  intro fuel cs x h
  obtain ⟨n, rfl, rfl, hw⟩ := DataW.trod_int ht h
  exact ⟨n, rfl, hw⟩

theorem gInt_mono (k : IntKind) : ∀ (a : Int) (n m : Nat), n ≤ m → gInt k a n → gInt k a m := fun _ _ _ _ h => h
theorem gList_mono {α : Type} {g : α → Nat → Prop} (hg : ∀ a n m, n ≤ m → g a n → g a m) : ∀ (l : List α) (n m : Nat), n ≤ m → gList g l n → gList g l m :=
  fun _ _ _ hnm h => ⟨Nat.le_trans h.1 hnm, fun a ha => hg a _ _ hnm (h.2 a ha)⟩

theorem op_slice {α : Type} {t e : TypeId} {d : Kd α} {g : α → Nat → Prop} (ht : P.underlying t = some (.slice e)) (hsz : P.cellsOf e = d.sz)
    (hg : ∀ a n m, n ≤ m → g a n → g a m) (ho : Op enc P w e d g) : Op enc P w t (Kd.slice e d) (gList g) := by
  intro fuel cs x h
  rcases DataW.trod_slice ht h with ⟨rfl, rfl⟩ | ⟨a, len, cap, elems, rest, n, _, rfl, rfl, hb, hl, hm, hlen, hel, _, _⟩
  · exact ⟨[], ⟨none, 0, rfl, Nat.le_refl _, rfl, by simp, fun h0 => absurd h0 (by simp)⟩, by simp [gList]⟩
  · have hone : ∀ i, i < len → ∃ x : α, (∃ cs', w.cells? 0 (a.add (i * P.cellsOf e)) (P.cellsOf e) = some cs' ∧ d.K w x cs') ∧ g x (Rows.uptoBulk (DataW.slice (elems.map (·.1)) (rest.map (·.1)))) := by
      intro i hi
      have he := hel i hi
      rw [List.getElem?_eq_getElem (by omega)] at he
      obtain ⟨cs', h1, h2⟩ := Option.bind_eq_some_iff.1 he
      obtain ⟨x, hK, hgx⟩ := ho n cs' _ h2
      refine ⟨x, ⟨cs', h1, hK⟩, hg x _ _ ?_ hgx⟩
      have hmem : (elems[i]'(by omega)).1 ∈ elems.map (·.1) := List.mem_map.2 ⟨_, List.getElem_mem _, rfl⟩
      have := part_le hmem
      simp only [Rows.uptoBulk]
      omega
    obtain ⟨l, hll, hp⟩ := list_of hone
    refine ⟨l, ⟨some a, cap, by rw [hll], by omega, rfl, ?_, fun _ => ⟨a, rfl, fun j p hj => ?_⟩⟩, ?_, fun y hy => ?_⟩
    · unfold maxLen at hm
      omega
    · obtain ⟨cs', h1, hK⟩ := (hp j p hj).1
      obtain ⟨_, hn, hc⟩ := World.cells?_some h1
      refine ⟨cs', by rw [hn, hsz], hK, fun i u hu => ?_⟩
      have hi : i < P.cellsOf e := by
        have := (List.getElem?_eq_some_iff.1 hu).1
        omega
      rw [← hsz, ← Go.Deep.add_add, hc i hi]
      exact hu
    · show l.length ≤ Rows.uptoBulk (DataW.slice (elems.map (·.1)) (rest.map (·.1)))
      have := length_le (elems.map (·.1))
      simp only [Rows.uptoBulk]
      simp at this
      omega
    · obtain ⟨i, hi, rfl⟩ := List.getElem_of_mem hy
      exact (hp i _ (List.getElem?_eq_getElem hi)).2

/-- the fields of a struct, each of one cell, behind each other: their readings -/
theorem fields1 {t : TypeId} {fs : Array Field} {fuel : Nat} {cs : List Value} {x : DataW H × List MemPlace} (ht : P.underlying t = some (.struct fs))
    (hone : ∀ (i : Nat) (f : Field), fs[i]? = some f → f.offset = i ∧ P.cellsOf f.type = 1) (hC : P.cellsOf t = fs.size)
    (h : DataW.trod enc P w 0 (fun _ => true) true fuel t cs = some x) :
    cs.length = fs.size ∧ ∃ n, ∀ (i : Nat) (f : Field) (c : Value), fs[i]? = some f → cs[i]? = some c → ∃ y, DataW.trod enc P w 0 (fun _ => true) true n f.type [c] = some y ∧ Rows.uptoBulk y.1 ≤ Rows.uptoBulk x.1 := by
  obtain ⟨xs, n, _, rfl, hcs, hxs, hall⟩ := DataW.trod_struct ht h
  refine ⟨by rw [hcs, hC], n, fun i f c hf hc => ?_⟩
  obtain ⟨ho, h1⟩ := hone i f hf
  have he := hall i f hf
  rw [ho, h1] at he
  have hlt : i < cs.length := (List.getElem?_eq_some_iff.1 hc).1
  have hsl : (cs.drop i).take 1 = [c] := by
    rw [List.drop_eq_getElem_cons hlt]
    simp [(List.getElem?_eq_some_iff.1 hc).2]
  rw [hsl] at he
  have hx : i < xs.length := by rw [hxs]; exact (Array.getElem?_eq_some_iff.1 hf).1
  rw [List.getElem?_eq_getElem hx] at he
  refine ⟨_, he, ?_⟩
  have hmem : (xs[i]'hx).1 ∈ xs.map (·.1) := List.mem_map.2 ⟨_, List.getElem_mem _, rfl⟩
  have := part_le hmem
  simp only [Rows.uptoBulk]
  omega

theorem op_apply {α : Type} {t : TypeId} {d : Kd α} {g : α → Nat → Prop} (hg : ∀ a n m, n ≤ m → g a n → g a m) (ho : Op enc P w t d g) {fuel : Nat} {cs : List Value} {y : DataW H × List MemPlace} {N : Nat}
    (h : DataW.trod enc P w 0 (fun _ => true) true fuel t cs = some y) (hN : Rows.uptoBulk y.1 ≤ N) : ∃ a, d.K w a cs ∧ g a N := by
  obtain ⟨a, hK, hga⟩ := ho fuel cs y h
  exact ⟨a, hK, hg a _ _ hN hga⟩
end
end Go.Proofs.YtcioegimmjppcaaDoor.Opens
/-! How the arguments of the laws over programs (an api.Program; a list of ints) that read as data are told as plain Lean values, with their bulk. -/
namespace Go.Proofs.YtcioegimmjppcaaDoor.P
open Go.RowKit Go.Proofs.YtcioegimmjppcaaDoorW.PrintWords Go.ChangeShapes Go.WideShapes Go.Deep Go.Joins
set_option linter.unusedVariables false

def gI (e : S36) (_ : Nat) : Prop := (Lit.int .i64 e.f0).wf = true ∧ (Lit.int .i64 e.f1).wf = true ∧ (Lit.int .i64 e.f2).wf = true ∧ (Lit.int .i64 e.f3).wf = true ∧ (Lit.int .i64 e.f4).wf = true
def gF (e : S39) (n : Nat) : Prop := (Lit.int .i64 e.f0).wf = true ∧ (Lit.int .i64 e.f1).wf = true ∧ (Lit.int .i64 e.f2).wf = true ∧ e.f3.length ≤ n ∧ ∀ i ∈ e.f3, gI i 0
theorem gI_mono : ∀ (a : S36) (n m : Nat), n ≤ m → gI a n → gI a m := fun _ _ _ _ h => h
theorem gF_mono : ∀ (a : S39) (n m : Nat), n ≤ m → gF a n → gF a m := fun _ _ _ h h1 => ⟨h1.1, h1.2.1, h1.2.2.1, Nat.le_trans h1.2.2.2.1 h, h1.2.2.2.2⟩

theorem op_k36 {H : Type} {enc : TypeId × Value → H} {w : World} : Opens.Op enc Tryd.prog w 36 k36 gI := by
  intro fuel cs x h
  obtain ⟨hlen, n, hf⟩ := Opens.fields1 Tryd.underlying36 (by
    intro i f hf
    match i, hf with
    | 0, hf => obtain rfl := Option.some.inj hf; exact ⟨rfl, by kernel_rfl⟩
    | 1, hf => obtain rfl := Option.some.inj hf; exact ⟨rfl, by kernel_rfl⟩
    | 2, hf => obtain rfl := Option.some.inj hf; exact ⟨rfl, by kernel_rfl⟩
    | 3, hf => obtain rfl := Option.some.inj hf; exact ⟨rfl, by kernel_rfl⟩
    | 4, hf => obtain rfl := Option.some.inj hf; exact ⟨rfl, by kernel_rfl⟩
    | i + 5, hf => simp at hf) (by kernel_rfl) h
  match cs, hlen with
  | [c0, c1, c2, c3, c4], _ =>
    obtain ⟨y0, h0, _⟩ := hf 0 _ c0 rfl rfl
    obtain ⟨y1, h1, _⟩ := hf 1 _ c1 rfl rfl
    obtain ⟨y2, h2, _⟩ := hf 2 _ c2 rfl rfl
    obtain ⟨y3, h3, _⟩ := hf 3 _ c3 rfl rfl
    obtain ⟨y4, h4, _⟩ := hf 4 _ c4 rfl rfl
    obtain ⟨a0, e0, _, w0⟩ := DataW.trod_int Tryd.underlying3 h0
    obtain ⟨a1, e1, _, w1⟩ := DataW.trod_int Tryd.underlying3 h1
    obtain ⟨a2, e2, _, w2⟩ := DataW.trod_int Tryd.underlying3 h2
    obtain ⟨a3, e3, _, w3⟩ := DataW.trod_int Tryd.underlying3 h3
    obtain ⟨a4, e4, _, w4⟩ := DataW.trod_int Tryd.underlying2 h4
    obtain rfl : c0 = .int .i64 a0 := by simpa using e0
    obtain rfl : c1 = .int .i64 a1 := by simpa using e1
    obtain rfl : c2 = .int .i64 a2 := by simpa using e2
    obtain rfl : c3 = .int .i64 a3 := by simpa using e3
    obtain rfl : c4 = .int .i64 a4 := by simpa using e4
    exact ⟨⟨a0, a1, a2, a3, a4⟩, k36_mk w ⟨a0, a1, a2, a3, a4⟩, w0, w1, w2, w3, w4⟩

theorem op_code {H : Type} {enc : TypeId × Value → H} {w : World} : Opens.Op enc Tryd.prog w 37 (Kd.slice 36 k36) (Opens.gList gI) := Opens.op_slice Tryd.underlying37 (by kernel_rfl) gI_mono op_k36

theorem op_k39 {H : Type} {enc : TypeId × Value → H} {w : World} : Opens.Op enc Tryd.prog w 39 k39 gF := by
  intro fuel cs x h
  obtain ⟨hlen, n, hf⟩ := Opens.fields1 Tryd.underlying39 (by
    intro i f hf
    match i, hf with
    | 0, hf => obtain rfl := Option.some.inj hf; exact ⟨rfl, by kernel_rfl⟩
    | 1, hf => obtain rfl := Option.some.inj hf; exact ⟨rfl, by kernel_rfl⟩
    | 2, hf => obtain rfl := Option.some.inj hf; exact ⟨rfl, by kernel_rfl⟩
    | 3, hf => obtain rfl := Option.some.inj hf; exact ⟨rfl, by kernel_rfl⟩
    | i + 4, hf => simp at hf) (by kernel_rfl) h
  match cs, hlen with
  | [c0, c1, c2, c3], _ =>
    obtain ⟨y0, h0, _⟩ := hf 0 _ c0 rfl rfl
    obtain ⟨y1, h1, _⟩ := hf 1 _ c1 rfl rfl
    obtain ⟨y2, h2, _⟩ := hf 2 _ c2 rfl rfl
    obtain ⟨y3, h3, b3⟩ := hf 3 _ c3 rfl rfl
    obtain ⟨a0, e0, _, w0⟩ := DataW.trod_int Tryd.underlying3 h0
    obtain ⟨a1, e1, _, w1⟩ := DataW.trod_int Tryd.underlying3 h1
    obtain ⟨a2, e2, _, w2⟩ := DataW.trod_int Tryd.underlying3 h2
    obtain rfl : c0 = .int .i64 a0 := by simpa using e0
    obtain rfl : c1 = .int .i64 a1 := by simpa using e1
    obtain rfl : c2 = .int .i64 a2 := by simpa using e2
    obtain ⟨l, ⟨A, c, e3, hc, hC⟩, hl, hg⟩ := op_code _ _ _ h3
    obtain rfl : c3 = .slice A l.length c := by simpa using e3
    exact ⟨⟨a0, a1, a2, l⟩, k39_mk w ⟨a0, a1, a2, l⟩ hc hC, w0, w1, w2, Nat.le_trans hl b3, fun i hi => hg i hi⟩

theorem op_funcs {H : Type} {enc : TypeId × Value → H} {w : World} : Opens.Op enc Tryd.prog w 22 (Kd.slice 39 k39) (Opens.gList gF) := Opens.op_slice Tryd.underlying22 (by kernel_rfl) gF_mono op_k39
theorem op_ints {H : Type} {enc : TypeId × Value → H} {w : World} : Opens.Op enc Tryd.prog w 25 (Kd.slice 2 (Kd.int .i64)) (Opens.gList (Opens.gInt .i64)) := Opens.op_slice Tryd.underlying25 (by kernel_rfl) (Opens.gInt_mono _) (Opens.op_int Tryd.underlying2)

set_option maxRecDepth 100000 in
theorem open_program {H : Type} {enc : TypeId × Value → H} {w : World} {base : Nat} {v : Value} {d : DataW H} {p : List MemPlace} (hv : Value.okWide Tryd.prog w .any base 24 v) (h : DataW.Trod enc Tryd.prog w 0 (fun _ => true) true 24 v d p) :
    ∃ (A : Option Addr) (c : Nat) (l : List S39), v = .agg #[.slice A l.length c] ∧ l.length ≤ c ∧ Kd.C k39 w A l.length l ∧ l.length ≤ Rows.uptoBulk d ∧ ∀ e ∈ l, gF e (Rows.uptoBulk d) := by
  obtain ⟨cs, rfl, hsz⟩ := okWide_struct Tryd.underlying24 hv
  obtain ⟨fuel, hf⟩ := h
  obtain ⟨hlen, n, hfi⟩ := Opens.fields1 Tryd.underlying24 (by
    intro i f hf
    match i, hf with
    | 0, hf => obtain rfl := Option.some.inj hf; exact ⟨rfl, by kernel_rfl⟩
    | i + 1, hf => simp at hf) (by kernel_rfl) hf
  obtain ⟨c0, hc0⟩ := List.length_eq_one_iff.1 (show cs.toList.length = 1 from hlen)
  obtain rfl : cs = #[c0] := by cases cs; simp_all
  obtain ⟨y0, h0, hb⟩ := hfi 0 _ c0 rfl rfl
  obtain ⟨l, ⟨A, c, e1, hc, hC⟩, hl, hg⟩ := op_funcs _ _ _ h0
  obtain rfl : c0 = .slice A l.length c := by simpa using e1
  exact ⟨A, c, l, rfl, hc, hC, Nat.le_trans hl hb, fun e he => gF_mono _ _ _ hb (hg e he)⟩
set_option maxRecDepth 100000 in
theorem open_ilist {H : Type} {enc : TypeId × Value → H} {w : World} {base : Nat} {v : Value} {d : DataW H} {p : List MemPlace} (hv : Value.okWide Tryd.prog w .any base 25 v) (h : DataW.Trod enc Tryd.prog w 0 (fun _ => true) true 25 v d p) :
    ∃ (A : Option Addr) (c : Nat) (l : List Int), v = .slice A l.length c ∧ l.length ≤ c ∧ Kd.C (Kd.int .i64) w A l.length l ∧ l.length ≤ Rows.uptoBulk d ∧ ∀ e ∈ l, (Lit.int .i64 e).wf = true := by
  obtain ⟨a0, len, cap, rfl⟩ := okWide_slice Tryd.underlying25 hv
  obtain ⟨m, hm⟩ := h
  obtain ⟨l, ⟨A, c, e1, hc, hC⟩, hl, hg⟩ := op_ints m _ _ hm
  obtain ⟨rfl, rfl, rfl⟩ : a0 = A ∧ len = l.length ∧ cap = c := by simpa [Value.cells] using e1
  exact ⟨_, _, l, rfl, hc, hC, hl, fun e he => hg e he⟩
theorem wf_i64 {a : Int} (h : (Lit.int .i64 a).wf = true) : -9223372036854775808 ≤ a ∧ a ≤ 9223372036854775807 := by
  simpa [Lit.wf, IntKind.min, IntKind.max, IntKind.signed, IntKind.bits] using h
end Go.Proofs.YtcioegimmjppcaaDoor.P
/-! The table of package prog: what the rows' list of it gives. -/
namespace Go.Proofs.YtcioegimmjppcaaDoor.P
set_option linter.unusedVariables false
set_option linter.unusedSimpArgs false
set_option maxRecDepth 100000

theorem gFields : Tryd.prog.globalNamed "plunder/prog.fields" = some 0 := by kernel_rfl
theorem gType : (Tryd.prog.globals[0]?).map (·.type) = some 112 := by kernel_rfl
theorem u110 : Tryd.prog.underlying 110 = some (.int .i64) := by kernel_rfl
theorem n110 : Tryd.prog.cellsOf 110 = 1 := by kernel_rfl
theorem n4 : Tryd.prog.cellsOf 4 = 1 := by kernel_rfl
theorem n111 : Tryd.prog.cellsOf 111 = 5 := by kernel_rfl

theorem row_cells {H : Type} {enc : TypeId × Value → H} {w : World} {base : Nat} {sp : Nat → Bool} {held : Bool} {fuel : Nat} {cs : List Value} {x : DataW H × List MemPlace} (h : DataW.trod enc Tryd.prog w base sp held fuel 111 cs = some x) :
    ∃ a b c k n, cs = [.int .i64 a, .int .i64 b, .int .i64 c, .int .i64 k, .bool n] ∧ x.1 = .agg [.lit (.int .i64 a), .lit (.int .i64 b), .lit (.int .i64 c), .lit (.int .i64 k), .lit (.bool n)] := by
  obtain ⟨xs, m, rfl, rfl, hl, hx, hf⟩ := DataW.trod_struct Tryd.underlying111 h
  rw [n111] at hl
  match cs, hl with
  | [c0, c1, c2, c3, c4], _ =>
    match xs, hx with
    | [x0, x1, x2, x3, x4], _ =>
      have h0 := hf 0 _ rfl
      have h1 := hf 1 _ rfl
      have h2 := hf 2 _ rfl
      have h3 := hf 3 _ rfl
      have h4 := hf 4 _ rfl
      simp only [n110, n4, List.drop_zero, List.drop_succ_cons, List.take_succ_cons, List.take_zero, List.getElem?_cons_zero, List.getElem?_cons_succ] at h0 h1 h2 h3 h4
      obtain ⟨a, e0, f0, -⟩ := DataW.trod_int u110 h0
      obtain ⟨b, e1, f1, -⟩ := DataW.trod_int u110 h1
      obtain ⟨c, e2, f2, -⟩ := DataW.trod_int u110 h2
      obtain ⟨k, e3, f3, -⟩ := DataW.trod_int u110 h3
      obtain ⟨n, e4, f4⟩ := DataW.trod_bool Tryd.underlying4 h4
      cases e0
      cases e1
      cases e2
      cases e3
      cases e4
      subst f0
      subst f1
      subst f2
      subst f3
      subst f4
      exact ⟨a, b, c, k, n, rfl, rfl⟩

def rowD (k : Int) : DataW Unit := .agg [.lit (.int .i64 (tabA k)), .lit (.int .i64 (tabB k)), .lit (.int .i64 (tabC k)), .lit (.int .i64 (tabK k)), .lit (.bool (tabN k))]
theorem laid_rows : ∃ ds, Rows.laid_plunder_prog_fields (H := Unit) = .agg ds ∧ ∀ i : Nat, i < 10 → ds[i]? = some (rowD (i : Int)) := by
  refine ⟨_, rfl, fun i hi => ?_⟩
  have hc : i = 0 ∨ i = 1 ∨ i = 2 ∨ i = 3 ∨ i = 4 ∨ i = 5 ∨ i = 6 ∨ i = 7 ∨ i = 8 ∨ i = 9 := by omega
  rcases hc with rfl | rfl | rfl | rfl | rfl | rfl | rfl | rfl | rfl | rfl <;> rfl

theorem tab_of_laid {W : World} (h : laidMetH Tryd.prog [("plunder/prog.fields", Rows.laid_plunder_prog_fields)] W) : Tab W := by
  have h' : laidMet Tryd.prog [("plunder/prog.fields", Rows.laid_plunder_prog_fields)] W := h
  obtain ⟨ps, ⟨g', t', cs, fuel, p, q, hg', ht', hvar, hd, _, _⟩, _⟩ := h'
  obtain rfl := Option.some.inj (gFields.symm.trans hg')
  obtain rfl := Option.some.inj (gType.symm.trans ht')
  obtain ⟨xs, m, rfl, hx, hl, hn, hf⟩ := DataW.trod_array Tryd.underlying112 hd
  obtain ⟨ds, hds, hrow⟩ := laid_rows
  have hxd : xs.map (·.1) = ds := by
    have h1 := congrArg Prod.fst hx
    simp only at h1
    rw [hds] at h1
    injection h1 with h1
    exact h1.symm
  intro k k0 k1
  obtain ⟨i, rfl⟩ : ∃ i : Nat, k = (i : Int) := ⟨k.toNat, by omega⟩
  have hi : i < 10 := by omega
  have h1 := hf i hi
  rw [n111, List.getElem?_eq_getElem (by omega)] at h1
  obtain ⟨a, b, c, kk, n, e1, e2⟩ := row_cells h1
  have h2 : ds[i]? = some (xs[i]'(by omega)).1 := by
    rw [← hxd, List.getElem?_map, List.getElem?_eq_getElem (by omega)]
    rfl
  rw [hrow i hi] at h2
  have h3 := Option.some.inj h2
  rw [e2] at h3
  unfold rowD at h3
  simp only [DataW.agg.injEq, List.cons.injEq, DataW.lit.injEq, Lit.int.injEq, Lit.bool.injEq, and_true, true_and] at h3
  obtain ⟨r1, r2, r3, r4, r5⟩ := h3
  have hc : ∀ j v, ((cs.toList.drop (i * 5)).take 5)[j]? = some v → j < 5 → W.cell? ⟨0, i * 5 + j, none⟩ = some v := fun j v hj h5 => by
    rw [World.var?_cell gFields hvar (i * 5 + j), ← Array.getElem?_toList]
    rw [List.getElem?_take, if_pos h5, List.getElem?_drop] at hj
    exact hj
  rw [Int.toNat_natCast, r1, r2, r3, r4, r5]
  exact ⟨hc 0 _ (by rw [e1]; rfl) (by decide), hc 1 _ (by rw [e1]; rfl) (by decide), hc 2 _ (by rw [e1]; rfl) (by decide), hc 3 _ (by rw [e1]; rfl) (by decide), hc 4 _ (by rw [e1]; rfl) (by decide)⟩
/-- the table's cells, for the world of the witness -/
def laidCells : Array Value := #[.int .i64 1, .int .i64 0, .int .i64 0, .int .i64 0, .bool true, .int .i64 1, .int .i64 1, .int .i64 0, .int .i64 0, .bool true, .int .i64 1, .int .i64 1, .int .i64 1, .int .i64 5, .bool true, .int .i64 3, .int .i64 0, .int .i64 0, .int .i64 0, .bool false, .int .i64 1, .int .i64 3, .int .i64 0, .int .i64 0, .bool true, .int .i64 2, .int .i64 4, .int .i64 0, .int .i64 0, .bool true, .int .i64 0, .int .i64 0, .int .i64 0, .int .i64 0, .bool true, .int .i64 1, .int .i64 2, .int .i64 0, .int .i64 0, .bool true, .int .i64 1, .int .i64 0, .int .i64 0, .int .i64 0, .bool true, .int .i64 1, .int .i64 0, .int .i64 0, .int .i64 0, .bool false]
end Go.Proofs.YtcioegimmjppcaaDoor.P
