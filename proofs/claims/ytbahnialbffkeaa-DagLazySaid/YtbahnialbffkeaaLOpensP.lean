/- How the arguments of the laws of layer 7 (an api.Dag; a list of edges; a list of ints) that read as data are told as plain Lean values, with their bulk. -/
import Derived.Test.YtbahnialbffkeaaLOpens
import Derived.Test.YtbahnialbffkeaaLPx0
import Derived.Carry
import Derived.OpenShut
namespace Go.Proofs.Ytbahnialbffkeaa.P
open Go.RowKit Go.Proofs.YtbahnialbffkeaaW.PrintWords Go.ChangeShapes Go.WideShapes Go.Deep Go.Joins
set_option linter.unusedVariables false

def gE (e : S50) (_ : Nat) : Prop := (Lit.int .i64 e.f0).wf = true ∧ (Lit.int .i64 e.f1).wf = true
section
variable {H : Type} {enc : TypeId × Value → H} {w : World}
theorem op_k50 : Opens.Op enc Try.prog w 50 k50 gE := by
  intro fuel cs x h
  obtain ⟨hlen, n, hf⟩ := Opens.fields1 Try.underlying50 (by
    intro i f hf
    match i, hf with
    | 0, hf => obtain rfl := Option.some.inj hf; exact ⟨rfl, by kernel_rfl⟩
    | 1, hf => obtain rfl := Option.some.inj hf; exact ⟨rfl, by kernel_rfl⟩
    | i + 2, hf => simp at hf) (by kernel_rfl) h
  match cs, hlen with
  | [c0, c1], _ =>
    obtain ⟨y0, h0, _⟩ := hf 0 _ c0 rfl rfl
    obtain ⟨y1, h1, _⟩ := hf 1 _ c1 rfl rfl
    obtain ⟨a0, e0, _, w0⟩ := DataW.trod_int Try.underlying3 h0
    obtain ⟨a1, e1, _, w1⟩ := DataW.trod_int Try.underlying3 h1
    obtain rfl : c0 = .int .i64 a0 := by simpa using e0
    obtain rfl : c1 = .int .i64 a1 := by simpa using e1
    exact ⟨⟨a0, a1⟩, k50_mk w ⟨a0, a1⟩, w0, w1⟩
theorem gE_mono : ∀ (a : S50) (n m : Nat), n ≤ m → gE a n → gE a m := fun _ _ _ _ h => h
theorem op_edges : Opens.Op enc Try.prog w 24 (Kd.slice 50 k50) (Opens.gList gE) := Opens.op_slice Try.underlying24 (by kernel_rfl) gE_mono op_k50
theorem op_ints : Opens.Op enc Try.prog w 33 (Kd.slice 3 (Kd.int .i64)) (Opens.gList (Opens.gInt .i64)) := Opens.op_slice Try.underlying33 (by kernel_rfl) (Opens.gInt_mono _) (Opens.op_int Try.underlying3)

theorem open_edges {base : Nat} {v : Value} {d : DataW H} {p : List MemPlace} (hv : Value.okWide Try.prog w .any base 24 v) (h : DataW.Trod enc Try.prog w 0 (fun _ => true) true 24 v d p) :
    ∃ (A : Option Addr) (c : Nat) (l : List S50), v = .slice A l.length c ∧ l.length ≤ c ∧ Kd.C k50 w A l.length l ∧ l.length ≤ Rows.uptoBulk d ∧ ∀ e ∈ l, gE e 0 := by
  obtain ⟨a0, len, cap, rfl⟩ := okWide_slice Try.underlying24 hv
  obtain ⟨m, hm⟩ := h
  obtain ⟨l, ⟨A, c, e1, hc, hC⟩, hl, hg⟩ := op_edges m _ _ hm
  obtain ⟨rfl, rfl, rfl⟩ : a0 = A ∧ len = l.length ∧ cap = c := by simpa [Value.cells] using e1
  exact ⟨_, _, l, rfl, hc, hC, hl, fun e he => hg e he⟩
theorem open_ilist {base : Nat} {v : Value} {d : DataW H} {p : List MemPlace} (hv : Value.okWide Try.prog w .any base 33 v) (h : DataW.Trod enc Try.prog w 0 (fun _ => true) true 33 v d p) :
    ∃ (A : Option Addr) (c : Nat) (l : List Int), v = .slice A l.length c ∧ l.length ≤ c ∧ Kd.C (Kd.int .i64) w A l.length l ∧ l.length ≤ Rows.uptoBulk d ∧ ∀ e ∈ l, (Lit.int .i64 e).wf = true := by
  obtain ⟨a0, len, cap, rfl⟩ := okWide_slice Try.underlying33 hv
  obtain ⟨m, hm⟩ := h
  obtain ⟨l, ⟨A, c, e1, hc, hC⟩, hl, hg⟩ := op_ints m _ _ hm
  obtain ⟨rfl, rfl, rfl⟩ : a0 = A ∧ len = l.length ∧ cap = c := by simpa [Value.cells] using e1
  exact ⟨_, _, l, rfl, hc, hC, hl, fun e he => hg e he⟩
end
end Go.Proofs.Ytbahnialbffkeaa.P
