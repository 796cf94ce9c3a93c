/- How the arguments of the laws of layer 19 (a list of deeds) that read as data are told as plain Lean values, with their bulk. -/
import Derived.SizedLaws
import Derived.Test.YtkecgjmbamaejaaPAOpens
import Derived.Test.YtkecgjmbamaejaaPAPx0
import Derived.Carry
import Derived.OpenShut
namespace Go.Proofs.Ytkecgjmbamaejaa.P
open Go.RowKit Go.Proofs.YtkecgjmbamaejaaW.PrintWords Go.ChangeShapes Go.WideShapes Go.Deep Go.Joins
set_option linter.unusedVariables false

def gE (e : S52) (_ : Nat) : Prop := (Lit.int .i64 e.f0).wf = true ∧ (Lit.int .i64 e.f1).wf = true
section
variable {H : Type} {enc : TypeId × Value → H} {w : World}
theorem op_k52 : Opens.Op enc Try.prog w 52 k52 gE := by
  intro fuel cs x h
  obtain ⟨hlen, n, hf⟩ := Opens.fields1 Try.underlying52 (by
    intro i f hf
    match i, hf with
    | 0, hf => obtain rfl := Option.some.inj hf; exact ⟨rfl, by kernel_rfl⟩
    | 1, hf => obtain rfl := Option.some.inj hf; exact ⟨rfl, by kernel_rfl⟩
    | i + 2, hf => simp at hf) (by kernel_rfl) h
  match cs, hlen with
  | [c0, c1], _ =>
    obtain ⟨y0, h0, _⟩ := hf 0 _ c0 rfl rfl
    obtain ⟨y1, h1, _⟩ := hf 1 _ c1 rfl rfl
    obtain ⟨a0, e0, _, w0⟩ := DataW.trod_int Try.underlying3 h0
    obtain ⟨a1, e1, _, w1⟩ := DataW.trod_int Try.underlying2 h1
    obtain rfl : c0 = .int .i64 a0 := by simpa using e0
    obtain rfl : c1 = .int .i64 a1 := by simpa using e1
    exact ⟨⟨a0, a1⟩, k52_mk w ⟨a0, a1⟩, w0, w1⟩
theorem gE_mono : ∀ (a : S52) (n m : Nat), n ≤ m → gE a n → gE a m := fun _ _ _ _ h => h
theorem op_deeds : Opens.Op enc Try.prog w 22 (Kd.slice 52 k52) (Opens.gList gE) := Opens.op_slice Try.underlying22 (by kernel_rfl) gE_mono op_k52
set_option maxRecDepth 100000 in
theorem open_deeds {base : Nat} {v : Value} {d : DataW H} {p : List MemPlace} (hv : Value.okWide Try.prog w .any base 22 v) (h : DataW.Trod enc Try.prog w 0 (fun _ => true) true 22 v d p) :
    ∃ (A : Option Addr) (c : Nat) (l : List S52), v = .slice A l.length c ∧ l.length ≤ c ∧ Kd.C k52 w A l.length l ∧ l.length ≤ Rows.uptoBulk d ∧ ∀ e ∈ l, gE e 0 := by
  obtain ⟨a0, len, cap, rfl⟩ := okWide_slice Try.underlying22 hv
  obtain ⟨m, hm⟩ := h
  obtain ⟨l, ⟨A, c, e1, hc, hC⟩, hl, hg⟩ := op_deeds m _ _ hm
  obtain ⟨rfl, rfl, rfl⟩ : a0 = A ∧ len = l.length ∧ cap = c := by simpa [Value.cells] using e1
  exact ⟨_, _, l, rfl, hc, hC, hl, fun e he => hg e he⟩
end
theorem sized_deeds {H : Type} {enc : TypeId × Value → H} {w : World} {ts : List TypeId} {ds : List (DataW H)} (hsz : (DataW.weightsEach Try.prog ts ds).all (· ≤ reachBytes) = true) {j : Nat} {v : Value} {d : DataW H} {p : List MemPlace} (ht : ts[j]? = some 22) (hd : ds[j]? = some d)
    (h : DataW.Trod enc Try.prog w 0 (fun _ => true) true 22 v d p) : ∀ (A : Option Addr) (n c : Nat), v = .slice A n c → n ≤ 8796093022208 := by
  intro A n c hv
  subst hv
  obtain ⟨m, hm⟩ := h
  rcases DataW.trod_slice Try.underlying22 hm with ⟨e, -⟩ | ⟨a, len, cap, elems, rest, n', _, e, e3, hb, hl, hmx, hlen, hel, _, _⟩
  · simp [Value.cells] at e
    omega
  · injection e3 with e3 e4
    subst e3
    have hs := sized_slice hsz ht hd Try.underlying22
    have hb16 : Try.prog.bytesOf 52 = 16 := by kernel_rfl
    have e2 : n = len := by
      simp [Value.cells] at e
      exact e.2.1
    rw [hb16] at hs
    have hr : reachBytes ≤ 140737488355328 := by decide
    rw [List.length_map] at hs
    omega
theorem wf_i64 {a : Int} (h : (Lit.int .i64 a).wf = true) : -9223372036854775808 ≤ a ∧ a ≤ 9223372036854775807 := by
  simpa [Lit.wf, IntKind.min, IntKind.max, IntKind.signed, IntKind.bits] using h
end Go.Proofs.Ytkecgjmbamaejaa.P
