/- A slice's block is the same whatever its length. -/
import Derived.Laws.AppendOwn
namespace Go.Proofs.Ytkecgjmbamaejaa.P
theorem own_len {k : Nat} {A : Option Addr} {n m c c' : Nat} (h : some k ≠ (Value.slice A n c).ownBlock) : some k ≠ (Value.slice A m c').ownBlock := by
  cases A with
  | none => simp [Value.ownBlock]
  | some a => exact h
end Go.Proofs.Ytkecgjmbamaejaa.P
