/-
  No cell of these rows narrows 'for every input' (looked for: loops, veiled, ifaces, maps, wideKeys, modest, calm, conditions, laid).
  DERIVED. THE GIVEN ROWS OF THIS SEAT. 9 by the template 'for every input the law returns true; each argument reads behind the call as it read before'; 0 by the template 'total and deterministic' (their statements: YtkecgjmbamaejaaTotals.lean).
  GIVEN WITH THE SEED: the statements are not yours to turn. If you find one false, say at which input.
  Laid BY PROGRAM, IN A SANDBOX (cutbox-rows.mjs): the forced cells as the released guide's own fill.sh prints them over the translation 93631573759cf8fd… (all of the seat's roots in one cut). By AI agents, Wed Nov 11 2026. No macro, syntax, notation, axiom, sorry.
-/
import Derived.Test.YtkecgjmbamaejaaChecked
import GoSem.Claim
import GoSem.ClaimJoined
import GoSem.ClaimMapViews
import Derived.JoinedTies
import Derived.KernelRfl
namespace Go.Proofs.Ytkecgjmbamaejaa
/- THE CELL 'sum', in the pinned program and in every row, IS THE sha256 OF THE DUMP (.gsa) THAT YtkecgjmbamaejaaProg.lean LOADS. Nothing in Lean hashes anything: it is a label: what it is worth is what the hold of that sum in a sandbox is worth. -/
noncomputable def Try.pinned : Pinned := { name := "ytkecgjmbamaejaa", sum := "93631573759cf8fd9c2921ecda33430cb18d689a7cc3cc61dd542c421c80c8c1", checked := Try.checked }
namespace Rows
def none {H : Type} : Left H := { results := [], args := [] }

/-- 'plunderlaw19.RacesOrders': WHATEVER THE INPUT: true; the input reads as it did. -/
def racesOrdersSpec : ChangeSpec := { name := "racesOrders", fn := fun _ => fun
  | [d] => { results := [.lit (.bool true)], args := [d] }
  | _ => none }
def racesOrdersRow : OpenClaim := { program := "ytkecgjmbamaejaa", sum := "93631573759cf8fd9c2921ecda33430cb18d689a7cc3cc61dd542c421c80c8c1", func := "plunder/plunderlaw19.RacesOrders", spec := "racesOrders", unfollowed := true, recurses := true, apart := false }
def RacesOrdersSaid : Prop := racesOrdersRow.holds Try.pinned (OpenSpec.ofChange racesOrdersSpec)

/-- ITS FALSE NEIGHBOUR: 'it returns false'. Refute it at one input. -/
def racesOrdersWrong : ChangeSpec := { name := "racesOrders", fn := fun _ => fun
  | [d] => { results := [.lit (.bool false)], args := [d] }
  | _ => none }
def RacesOrdersWrongFalsely : Prop := racesOrdersRow.holds Try.pinned (OpenSpec.ofChange racesOrdersWrong)

/-- 'plunderlaw19.RacesParallel': WHATEVER THE INPUT: true; the input reads as it did. -/
def racesParallelSpec : ChangeSpec := { name := "racesParallel", fn := fun _ => fun
  | [d1, d2, d3] => { results := [.lit (.bool true)], args := [d1, d2, d3] }
  | _ => none }
def racesParallelRow : OpenClaim := { program := "ytkecgjmbamaejaa", sum := "93631573759cf8fd9c2921ecda33430cb18d689a7cc3cc61dd542c421c80c8c1", func := "plunder/plunderlaw19.RacesParallel", spec := "racesParallel", unfollowed := true, recurses := true, apart := false }
def RacesParallelSaid : Prop := racesParallelRow.holds Try.pinned (OpenSpec.ofChange racesParallelSpec)

/-- ITS FALSE NEIGHBOUR: 'it returns false'. Refute it at one input. -/
def racesParallelWrong : ChangeSpec := { name := "racesParallel", fn := fun _ => fun
  | [d1, d2, d3] => { results := [.lit (.bool false)], args := [d1, d2, d3] }
  | _ => none }
def RacesParallelWrongFalsely : Prop := racesParallelRow.holds Try.pinned (OpenSpec.ofChange racesParallelWrong)

/-- 'plunderlaw19.RacesFirst': WHATEVER THE INPUT: true; the input reads as it did. -/
def racesFirstSpec : ChangeSpec := { name := "racesFirst", fn := fun _ => fun
  | [d] => { results := [.lit (.bool true)], args := [d] }
  | _ => none }
def racesFirstRow : OpenClaim := { program := "ytkecgjmbamaejaa", sum := "93631573759cf8fd9c2921ecda33430cb18d689a7cc3cc61dd542c421c80c8c1", func := "plunder/plunderlaw19.RacesFirst", spec := "racesFirst", unfollowed := true, recurses := true, apart := false }
def RacesFirstSaid : Prop := racesFirstRow.holds Try.pinned (OpenSpec.ofChange racesFirstSpec)

/-- ITS FALSE NEIGHBOUR: 'it returns false'. Refute it at one input. -/
def racesFirstWrong : ChangeSpec := { name := "racesFirst", fn := fun _ => fun
  | [d] => { results := [.lit (.bool false)], args := [d] }
  | _ => none }
def RacesFirstWrongFalsely : Prop := racesFirstRow.holds Try.pinned (OpenSpec.ofChange racesFirstWrong)

/-- 'plunderlaw19.RacesDetect': WHATEVER THE INPUT: true; the input reads as it did. -/
def racesDetectSpec : ChangeSpec := { name := "racesDetect", fn := fun _ => fun
  | [d] => { results := [.lit (.bool true)], args := [d] }
  | _ => none }
def racesDetectRow : OpenClaim := { program := "ytkecgjmbamaejaa", sum := "93631573759cf8fd9c2921ecda33430cb18d689a7cc3cc61dd542c421c80c8c1", func := "plunder/plunderlaw19.RacesDetect", spec := "racesDetect", recurses := true, apart := false }
def RacesDetectSaid : Prop := racesDetectRow.holds Try.pinned (OpenSpec.ofChange racesDetectSpec)

/-- ITS FALSE NEIGHBOUR: 'it returns false'. Refute it at one input. -/
def racesDetectWrong : ChangeSpec := { name := "racesDetect", fn := fun _ => fun
  | [d] => { results := [.lit (.bool false)], args := [d] }
  | _ => none }
def RacesDetectWrongFalsely : Prop := racesDetectRow.holds Try.pinned (OpenSpec.ofChange racesDetectWrong)

/-- 'plunderlaw19.RacesCalm': WHATEVER THE INPUT: true; the input reads as it did. -/
def racesCalmSpec : ChangeSpec := { name := "racesCalm", fn := fun _ => fun
  | [d1, d2] => { results := [.lit (.bool true)], args := [d1, d2] }
  | _ => none }
def racesCalmRow : OpenClaim := { program := "ytkecgjmbamaejaa", sum := "93631573759cf8fd9c2921ecda33430cb18d689a7cc3cc61dd542c421c80c8c1", func := "plunder/plunderlaw19.RacesCalm", spec := "racesCalm", unfollowed := true, recurses := true, apart := false }
def RacesCalmSaid : Prop := racesCalmRow.holds Try.pinned (OpenSpec.ofChange racesCalmSpec)

/-- ITS FALSE NEIGHBOUR: 'it returns false'. Refute it at one input. -/
def racesCalmWrong : ChangeSpec := { name := "racesCalm", fn := fun _ => fun
  | [d1, d2] => { results := [.lit (.bool false)], args := [d1, d2] }
  | _ => none }
def RacesCalmWrongFalsely : Prop := racesCalmRow.holds Try.pinned (OpenSpec.ofChange racesCalmWrong)

/-- 'plunderlaw19.RacesPrefix': WHATEVER THE INPUT: true; the input reads as it did. -/
def racesPrefixSpec : ChangeSpec := { name := "racesPrefix", fn := fun _ => fun
  | [d1, d2] => { results := [.lit (.bool true)], args := [d1, d2] }
  | _ => none }
def racesPrefixRow : OpenClaim := { program := "ytkecgjmbamaejaa", sum := "93631573759cf8fd9c2921ecda33430cb18d689a7cc3cc61dd542c421c80c8c1", func := "plunder/plunderlaw19.RacesPrefix", spec := "racesPrefix", unfollowed := true, recurses := true, apart := false }
def RacesPrefixSaid : Prop := racesPrefixRow.holds Try.pinned (OpenSpec.ofChange racesPrefixSpec)

/-- ITS FALSE NEIGHBOUR: 'it returns false'. Refute it at one input. -/
def racesPrefixWrong : ChangeSpec := { name := "racesPrefix", fn := fun _ => fun
  | [d1, d2] => { results := [.lit (.bool false)], args := [d1, d2] }
  | _ => none }
def RacesPrefixWrongFalsely : Prop := racesPrefixRow.holds Try.pinned (OpenSpec.ofChange racesPrefixWrong)

/-- 'plunderlaw19.RacesAgree': WHATEVER THE INPUT: true; the input reads as it did. -/
def racesAgreeSpec : ChangeSpec := { name := "racesAgree", fn := fun _ => fun
  | [d] => { results := [.lit (.bool true)], args := [d] }
  | _ => none }
def racesAgreeRow : OpenClaim := { program := "ytkecgjmbamaejaa", sum := "93631573759cf8fd9c2921ecda33430cb18d689a7cc3cc61dd542c421c80c8c1", func := "plunder/plunderlaw19.RacesAgree", spec := "racesAgree", unfollowed := true, recurses := true, apart := false }
def RacesAgreeSaid : Prop := racesAgreeRow.holds Try.pinned (OpenSpec.ofChange racesAgreeSpec)

/-- ITS FALSE NEIGHBOUR: 'it returns false'. Refute it at one input. -/
def racesAgreeWrong : ChangeSpec := { name := "racesAgree", fn := fun _ => fun
  | [d] => { results := [.lit (.bool false)], args := [d] }
  | _ => none }
def RacesAgreeWrongFalsely : Prop := racesAgreeRow.holds Try.pinned (OpenSpec.ofChange racesAgreeWrong)

/-- 'plunderlaw19.RacesTwo': WHATEVER THE INPUT: true; the input reads as it did. -/
def racesTwoSpec : ChangeSpec := { name := "racesTwo", fn := fun _ => fun
  | [d1, d2, d3] => { results := [.lit (.bool true)], args := [d1, d2, d3] }
  | _ => none }
def racesTwoRow : OpenClaim := { program := "ytkecgjmbamaejaa", sum := "93631573759cf8fd9c2921ecda33430cb18d689a7cc3cc61dd542c421c80c8c1", func := "plunder/plunderlaw19.RacesTwo", spec := "racesTwo", unfollowed := true, recurses := true, apart := false }
def RacesTwoSaid : Prop := racesTwoRow.holds Try.pinned (OpenSpec.ofChange racesTwoSpec)

/-- ITS FALSE NEIGHBOUR: 'it returns false'. Refute it at one input. -/
def racesTwoWrong : ChangeSpec := { name := "racesTwo", fn := fun _ => fun
  | [d1, d2, d3] => { results := [.lit (.bool false)], args := [d1, d2, d3] }
  | _ => none }
def RacesTwoWrongFalsely : Prop := racesTwoRow.holds Try.pinned (OpenSpec.ofChange racesTwoWrong)

/-- 'plunderlaw19.RacesSerial': WHATEVER THE INPUT: true; the input reads as it did. -/
def racesSerialSpec : ChangeSpec := { name := "racesSerial", fn := fun _ => fun
  | [d1, d2, d3] => { results := [.lit (.bool true)], args := [d1, d2, d3] }
  | _ => none }
def racesSerialRow : OpenClaim := { program := "ytkecgjmbamaejaa", sum := "93631573759cf8fd9c2921ecda33430cb18d689a7cc3cc61dd542c421c80c8c1", func := "plunder/plunderlaw19.RacesSerial", spec := "racesSerial", unfollowed := true, recurses := true, apart := false }
def RacesSerialSaid : Prop := racesSerialRow.holds Try.pinned (OpenSpec.ofChange racesSerialSpec)

/-- ITS FALSE NEIGHBOUR: 'it returns false'. Refute it at one input. -/
def racesSerialWrong : ChangeSpec := { name := "racesSerial", fn := fun _ => fun
  | [d1, d2, d3] => { results := [.lit (.bool false)], args := [d1, d2, d3] }
  | _ => none }
def RacesSerialWrongFalsely : Prop := racesSerialRow.holds Try.pinned (OpenSpec.ofChange racesSerialWrong)

/- THE SECOND FORM. 'bulk': how many values and letters a reading holds, each counted each time it is reached (what is shared counts as often as it is met; a slice's spare places count too). A statement '..UptoSaid' is the law's where the arguments, and the package variables that the reading takes, are together of bulk at most 1048576: NARROWER than '..Said'. Prove '..Said' where nothing that the law and all that it calls make is longer than what came in: it says more and counts as full. Else prove '..UptoSaid'. A law counts once. -/
mutual
def uptoBulk {H : Type} : DataW H → Nat
  | .lit (.string bytes) => bytes.length + 1
  | .lit _ => 1
  | .nil => 1
  | .ptr d => uptoBulk d + 1
  | .slice elems spare => uptoBulkAll elems + uptoBulkAll spare + 1
  | .agg parts => uptoBulkAll parts + 1
  | .iface _ d => uptoBulk d + 1
  | .map entries => uptoBulkEntries entries + 1
  | .held _ => 1
def uptoBulkAll {H : Type} : List (DataW H) → Nat
  | [] => 0
  | d :: r => uptoBulk d + uptoBulkAll r
def uptoBulkEntries {H : Type} : List (Lit × DataW H) → Nat
  | [] => 0
  | x :: r => uptoBulkEntry x + uptoBulkEntries r
def uptoBulkEntry {H : Type} : Lit × DataW H → Nat
  | (.string bytes, d) => bytes.length + uptoBulk d + 1
  | (_, d) => uptoBulk d + 1
 end
def uptoSmall : (H : Type) → List (DataW H) → Bool := fun _ ds => decide (uptoBulkAll ds ≤ 1048576)
def OpenSpec.upto (s : _root_.Go.ChangeSpec) : _root_.Go.OpenSpec := { _root_.Go.OpenSpec.ofChange s with cond := some uptoSmall }

/-- 'plunderlaw19.RacesOrders', WHERE WHAT IT READS IS OF BULK AT MOST 1048576: true; the input reads as it did. -/
def racesOrdersUptoRow : OpenClaim := { program := "ytkecgjmbamaejaa", sum := "93631573759cf8fd9c2921ecda33430cb18d689a7cc3cc61dd542c421c80c8c1", func := "plunder/plunderlaw19.RacesOrders", spec := "racesOrders", unfollowed := true, recurses := true, apart := false, narrowed := true }
def RacesOrdersUptoSaid : Prop := racesOrdersUptoRow.holds Try.pinned (OpenSpec.upto racesOrdersSpec)

/-- 'plunderlaw19.RacesParallel', WHERE WHAT IT READS IS OF BULK AT MOST 1048576: true; the input reads as it did. -/
def racesParallelUptoRow : OpenClaim := { program := "ytkecgjmbamaejaa", sum := "93631573759cf8fd9c2921ecda33430cb18d689a7cc3cc61dd542c421c80c8c1", func := "plunder/plunderlaw19.RacesParallel", spec := "racesParallel", unfollowed := true, recurses := true, apart := false, narrowed := true }
def RacesParallelUptoSaid : Prop := racesParallelUptoRow.holds Try.pinned (OpenSpec.upto racesParallelSpec)

/-- 'plunderlaw19.RacesFirst', WHERE WHAT IT READS IS OF BULK AT MOST 1048576: true; the input reads as it did. -/
def racesFirstUptoRow : OpenClaim := { program := "ytkecgjmbamaejaa", sum := "93631573759cf8fd9c2921ecda33430cb18d689a7cc3cc61dd542c421c80c8c1", func := "plunder/plunderlaw19.RacesFirst", spec := "racesFirst", unfollowed := true, recurses := true, apart := false, narrowed := true }
def RacesFirstUptoSaid : Prop := racesFirstUptoRow.holds Try.pinned (OpenSpec.upto racesFirstSpec)

/-- 'plunderlaw19.RacesDetect', WHERE WHAT IT READS IS OF BULK AT MOST 1048576: true; the input reads as it did. -/
def racesDetectUptoRow : OpenClaim := { program := "ytkecgjmbamaejaa", sum := "93631573759cf8fd9c2921ecda33430cb18d689a7cc3cc61dd542c421c80c8c1", func := "plunder/plunderlaw19.RacesDetect", spec := "racesDetect", recurses := true, apart := false, narrowed := true }
def RacesDetectUptoSaid : Prop := racesDetectUptoRow.holds Try.pinned (OpenSpec.upto racesDetectSpec)

/-- 'plunderlaw19.RacesCalm', WHERE WHAT IT READS IS OF BULK AT MOST 1048576: true; the input reads as it did. -/
def racesCalmUptoRow : OpenClaim := { program := "ytkecgjmbamaejaa", sum := "93631573759cf8fd9c2921ecda33430cb18d689a7cc3cc61dd542c421c80c8c1", func := "plunder/plunderlaw19.RacesCalm", spec := "racesCalm", unfollowed := true, recurses := true, apart := false, narrowed := true }
def RacesCalmUptoSaid : Prop := racesCalmUptoRow.holds Try.pinned (OpenSpec.upto racesCalmSpec)

/-- 'plunderlaw19.RacesPrefix', WHERE WHAT IT READS IS OF BULK AT MOST 1048576: true; the input reads as it did. -/
def racesPrefixUptoRow : OpenClaim := { program := "ytkecgjmbamaejaa", sum := "93631573759cf8fd9c2921ecda33430cb18d689a7cc3cc61dd542c421c80c8c1", func := "plunder/plunderlaw19.RacesPrefix", spec := "racesPrefix", unfollowed := true, recurses := true, apart := false, narrowed := true }
def RacesPrefixUptoSaid : Prop := racesPrefixUptoRow.holds Try.pinned (OpenSpec.upto racesPrefixSpec)

/-- 'plunderlaw19.RacesAgree', WHERE WHAT IT READS IS OF BULK AT MOST 1048576: true; the input reads as it did. -/
def racesAgreeUptoRow : OpenClaim := { program := "ytkecgjmbamaejaa", sum := "93631573759cf8fd9c2921ecda33430cb18d689a7cc3cc61dd542c421c80c8c1", func := "plunder/plunderlaw19.RacesAgree", spec := "racesAgree", unfollowed := true, recurses := true, apart := false, narrowed := true }
def RacesAgreeUptoSaid : Prop := racesAgreeUptoRow.holds Try.pinned (OpenSpec.upto racesAgreeSpec)

/-- 'plunderlaw19.RacesTwo', WHERE WHAT IT READS IS OF BULK AT MOST 1048576: true; the input reads as it did. -/
def racesTwoUptoRow : OpenClaim := { program := "ytkecgjmbamaejaa", sum := "93631573759cf8fd9c2921ecda33430cb18d689a7cc3cc61dd542c421c80c8c1", func := "plunder/plunderlaw19.RacesTwo", spec := "racesTwo", unfollowed := true, recurses := true, apart := false, narrowed := true }
def RacesTwoUptoSaid : Prop := racesTwoUptoRow.holds Try.pinned (OpenSpec.upto racesTwoSpec)

/-- 'plunderlaw19.RacesSerial', WHERE WHAT IT READS IS OF BULK AT MOST 1048576: true; the input reads as it did. -/
def racesSerialUptoRow : OpenClaim := { program := "ytkecgjmbamaejaa", sum := "93631573759cf8fd9c2921ecda33430cb18d689a7cc3cc61dd542c421c80c8c1", func := "plunder/plunderlaw19.RacesSerial", spec := "racesSerial", unfollowed := true, recurses := true, apart := false, narrowed := true }
def RacesSerialUptoSaid : Prop := racesSerialUptoRow.holds Try.pinned (OpenSpec.upto racesSerialSpec)

end Rows
end Go.Proofs.Ytkecgjmbamaejaa
