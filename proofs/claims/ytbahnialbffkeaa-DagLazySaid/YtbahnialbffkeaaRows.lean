/-
  No cell of these rows narrows 'for every input' (looked for: loops, veiled, ifaces, maps, wideKeys, modest, calm, conditions, laid).
  DERIVED. THE GIVEN ROWS OF THIS SEAT. 12 by the template 'for every input the law returns true; each argument reads behind the call as it read before'; 0 by the template 'total and deterministic' (their statements: YtbahnialbffkeaaTotals.lean).
  GIVEN WITH THE SEED: the statements are not yours to turn. If you find one false, say at which input.
  Laid BY PROGRAM, IN A SANDBOX (cutbox-rows.mjs): the forced cells as the released guide's own fill.sh prints them over the translation 1c90eda81ea8efba… (all of the seat's roots in one cut). By AI agents, Wed Nov 11 2026. No macro, syntax, notation, axiom, sorry.
-/
import Derived.Test.YtbahnialbffkeaaChecked
import GoSem.Claim
import GoSem.ClaimJoined
import GoSem.ClaimMapViews
import Derived.JoinedTies
import Derived.KernelRfl
namespace Go.Proofs.Ytbahnialbffkeaa
/- THE CELL 'sum', in the pinned program and in every row, IS THE sha256 OF THE DUMP (.gsa) THAT YtbahnialbffkeaaProg.lean LOADS. Nothing in Lean hashes anything: it is a label: what it is worth is what the hold of that sum in a sandbox is worth. -/
noncomputable def Try.pinned : Pinned := { name := "ytbahnialbffkeaa", sum := "1c90eda81ea8efba1ea703c04ee2ec4299702edc1b6f930c00a5bf71d065b485", checked := Try.checked }
namespace Rows
def none {H : Type} : Left H := { results := [], args := [] }

/-- 'plunderlaw6.SerialPed': WHATEVER THE INPUT: true; the input reads as it did. -/
def serialPedSpec : ChangeSpec := { name := "serialPed", fn := fun _ => fun
  | [d1, d2] => { results := [.lit (.bool true)], args := [d1, d2] }
  | _ => none }
def serialPedRow : OpenClaim := { program := "ytbahnialbffkeaa", sum := "1c90eda81ea8efba1ea703c04ee2ec4299702edc1b6f930c00a5bf71d065b485", func := "plunder/plunderlaw6.SerialPed", spec := "serialPed", apart := false }
def SerialPedSaid : Prop := serialPedRow.holds Try.pinned (OpenSpec.ofChange serialPedSpec)

/-- ITS FALSE NEIGHBOUR: 'it returns false'. Refute it at one input. -/
def serialPedWrong : ChangeSpec := { name := "serialPed", fn := fun _ => fun
  | [d1, d2] => { results := [.lit (.bool false)], args := [d1, d2] }
  | _ => none }
def SerialPedWrongFalsely : Prop := serialPedRow.holds Try.pinned (OpenSpec.ofChange serialPedWrong)

/-- 'plunderlaw7.DagCheck': WHATEVER THE INPUT: true; the input reads as it did. -/
def dagCheckSpec : ChangeSpec := { name := "dagCheck", fn := fun _ => fun
  | [d] => { results := [.lit (.bool true)], args := [d] }
  | _ => none }
def dagCheckRow : OpenClaim := { program := "ytbahnialbffkeaa", sum := "1c90eda81ea8efba1ea703c04ee2ec4299702edc1b6f930c00a5bf71d065b485", func := "plunder/plunderlaw7.DagCheck", spec := "dagCheck", apart := false }
def DagCheckSaid : Prop := dagCheckRow.holds Try.pinned (OpenSpec.ofChange dagCheckSpec)

/-- ITS FALSE NEIGHBOUR: 'it returns false'. Refute it at one input. -/
def dagCheckWrong : ChangeSpec := { name := "dagCheck", fn := fun _ => fun
  | [d] => { results := [.lit (.bool false)], args := [d] }
  | _ => none }
def DagCheckWrongFalsely : Prop := dagCheckRow.holds Try.pinned (OpenSpec.ofChange dagCheckWrong)

/-- 'plunderlaw7.DagEarliest': WHATEVER THE INPUT: true; the input reads as it did. -/
def dagEarliestSpec : ChangeSpec := { name := "dagEarliest", fn := fun _ => fun
  | [d] => { results := [.lit (.bool true)], args := [d] }
  | _ => none }
def dagEarliestRow : OpenClaim := { program := "ytbahnialbffkeaa", sum := "1c90eda81ea8efba1ea703c04ee2ec4299702edc1b6f930c00a5bf71d065b485", func := "plunder/plunderlaw7.DagEarliest", spec := "dagEarliest", apart := false }
def DagEarliestSaid : Prop := dagEarliestRow.holds Try.pinned (OpenSpec.ofChange dagEarliestSpec)

/-- ITS FALSE NEIGHBOUR: 'it returns false'. Refute it at one input. -/
def dagEarliestWrong : ChangeSpec := { name := "dagEarliest", fn := fun _ => fun
  | [d] => { results := [.lit (.bool false)], args := [d] }
  | _ => none }
def DagEarliestWrongFalsely : Prop := dagEarliestRow.holds Try.pinned (OpenSpec.ofChange dagEarliestWrong)

/-- 'plunderlaw7.DagSpan': WHATEVER THE INPUT: true; the input reads as it did. -/
def dagSpanSpec : ChangeSpec := { name := "dagSpan", fn := fun _ => fun
  | [d] => { results := [.lit (.bool true)], args := [d] }
  | _ => none }
def dagSpanRow : OpenClaim := { program := "ytbahnialbffkeaa", sum := "1c90eda81ea8efba1ea703c04ee2ec4299702edc1b6f930c00a5bf71d065b485", func := "plunder/plunderlaw7.DagSpan", spec := "dagSpan", apart := false }
def DagSpanSaid : Prop := dagSpanRow.holds Try.pinned (OpenSpec.ofChange dagSpanSpec)

/-- ITS FALSE NEIGHBOUR: 'it returns false'. Refute it at one input. -/
def dagSpanWrong : ChangeSpec := { name := "dagSpan", fn := fun _ => fun
  | [d] => { results := [.lit (.bool false)], args := [d] }
  | _ => none }
def DagSpanWrongFalsely : Prop := dagSpanRow.holds Try.pinned (OpenSpec.ofChange dagSpanWrong)

/-- 'plunderlaw7.DagCritical': WHATEVER THE INPUT: true; the input reads as it did. -/
def dagCriticalSpec : ChangeSpec := { name := "dagCritical", fn := fun _ => fun
  | [d] => { results := [.lit (.bool true)], args := [d] }
  | _ => none }
def dagCriticalRow : OpenClaim := { program := "ytbahnialbffkeaa", sum := "1c90eda81ea8efba1ea703c04ee2ec4299702edc1b6f930c00a5bf71d065b485", func := "plunder/plunderlaw7.DagCritical", spec := "dagCritical", apart := false }
def DagCriticalSaid : Prop := dagCriticalRow.holds Try.pinned (OpenSpec.ofChange dagCriticalSpec)

/-- ITS FALSE NEIGHBOUR: 'it returns false'. Refute it at one input. -/
def dagCriticalWrong : ChangeSpec := { name := "dagCritical", fn := fun _ => fun
  | [d] => { results := [.lit (.bool false)], args := [d] }
  | _ => none }
def DagCriticalWrongFalsely : Prop := dagCriticalRow.holds Try.pinned (OpenSpec.ofChange dagCriticalWrong)

/-- 'plunderlaw7.DagGreedy': WHATEVER THE INPUT: true; the input reads as it did. -/
def dagGreedySpec : ChangeSpec := { name := "dagGreedy", fn := fun _ => fun
  | [d1, d2] => { results := [.lit (.bool true)], args := [d1, d2] }
  | _ => none }
def dagGreedyRow : OpenClaim := { program := "ytbahnialbffkeaa", sum := "1c90eda81ea8efba1ea703c04ee2ec4299702edc1b6f930c00a5bf71d065b485", func := "plunder/plunderlaw7.DagGreedy", spec := "dagGreedy", unfollowed := true, recurses := true, apart := false }
def DagGreedySaid : Prop := dagGreedyRow.holds Try.pinned (OpenSpec.ofChange dagGreedySpec)

/-- ITS FALSE NEIGHBOUR: 'it returns false'. Refute it at one input. -/
def dagGreedyWrong : ChangeSpec := { name := "dagGreedy", fn := fun _ => fun
  | [d1, d2] => { results := [.lit (.bool false)], args := [d1, d2] }
  | _ => none }
def DagGreedyWrongFalsely : Prop := dagGreedyRow.holds Try.pinned (OpenSpec.ofChange dagGreedyWrong)

/-- 'plunderlaw7.DagEnds': WHATEVER THE INPUT: true; the input reads as it did. -/
def dagEndsSpec : ChangeSpec := { name := "dagEnds", fn := fun _ => fun
  | [d1, d2] => { results := [.lit (.bool true)], args := [d1, d2] }
  | _ => none }
def dagEndsRow : OpenClaim := { program := "ytbahnialbffkeaa", sum := "1c90eda81ea8efba1ea703c04ee2ec4299702edc1b6f930c00a5bf71d065b485", func := "plunder/plunderlaw7.DagEnds", spec := "dagEnds", unfollowed := true, recurses := true, apart := false }
def DagEndsSaid : Prop := dagEndsRow.holds Try.pinned (OpenSpec.ofChange dagEndsSpec)

/-- ITS FALSE NEIGHBOUR: 'it returns false'. Refute it at one input. -/
def dagEndsWrong : ChangeSpec := { name := "dagEnds", fn := fun _ => fun
  | [d1, d2] => { results := [.lit (.bool false)], args := [d1, d2] }
  | _ => none }
def DagEndsWrongFalsely : Prop := dagEndsRow.holds Try.pinned (OpenSpec.ofChange dagEndsWrong)

/-- 'plunderlaw7.DagJudge': WHATEVER THE INPUT: true; the input reads as it did. -/
def dagJudgeSpec : ChangeSpec := { name := "dagJudge", fn := fun _ => fun
  | [d1, d2, d3] => { results := [.lit (.bool true)], args := [d1, d2, d3] }
  | _ => none }
def dagJudgeRow : OpenClaim := { program := "ytbahnialbffkeaa", sum := "1c90eda81ea8efba1ea703c04ee2ec4299702edc1b6f930c00a5bf71d065b485", func := "plunder/plunderlaw7.DagJudge", spec := "dagJudge", unfollowed := true, recurses := true, apart := false }
def DagJudgeSaid : Prop := dagJudgeRow.holds Try.pinned (OpenSpec.ofChange dagJudgeSpec)

/-- ITS FALSE NEIGHBOUR: 'it returns false'. Refute it at one input. -/
def dagJudgeWrong : ChangeSpec := { name := "dagJudge", fn := fun _ => fun
  | [d1, d2, d3] => { results := [.lit (.bool false)], args := [d1, d2, d3] }
  | _ => none }
def DagJudgeWrongFalsely : Prop := dagJudgeRow.holds Try.pinned (OpenSpec.ofChange dagJudgeWrong)

/-- 'plunderlaw7.DagLazy': WHATEVER THE INPUT: true; the input reads as it did. -/
def dagLazySpec : ChangeSpec := { name := "dagLazy", fn := fun _ => fun
  | [d1, d2, d3, d4, d5] => { results := [.lit (.bool true)], args := [d1, d2, d3, d4, d5] }
  | _ => none }
def dagLazyRow : OpenClaim := { program := "ytbahnialbffkeaa", sum := "1c90eda81ea8efba1ea703c04ee2ec4299702edc1b6f930c00a5bf71d065b485", func := "plunder/plunderlaw7.DagLazy", spec := "dagLazy", unfollowed := true, recurses := true, apart := false }
def DagLazySaid : Prop := dagLazyRow.holds Try.pinned (OpenSpec.ofChange dagLazySpec)

/-- ITS FALSE NEIGHBOUR: 'it returns false'. Refute it at one input. -/
def dagLazyWrong : ChangeSpec := { name := "dagLazy", fn := fun _ => fun
  | [d1, d2, d3, d4, d5] => { results := [.lit (.bool false)], args := [d1, d2, d3, d4, d5] }
  | _ => none }
def DagLazyWrongFalsely : Prop := dagLazyRow.holds Try.pinned (OpenSpec.ofChange dagLazyWrong)

/-- 'plunderlaw7.DagBrent': WHATEVER THE INPUT: true; the input reads as it did. -/
def dagBrentSpec : ChangeSpec := { name := "dagBrent", fn := fun _ => fun
  | [d1, d2, d3, d4] => { results := [.lit (.bool true)], args := [d1, d2, d3, d4] }
  | _ => none }
def dagBrentRow : OpenClaim := { program := "ytbahnialbffkeaa", sum := "1c90eda81ea8efba1ea703c04ee2ec4299702edc1b6f930c00a5bf71d065b485", func := "plunder/plunderlaw7.DagBrent", spec := "dagBrent", unfollowed := true, recurses := true, apart := false }
def DagBrentSaid : Prop := dagBrentRow.holds Try.pinned (OpenSpec.ofChange dagBrentSpec)

/-- ITS FALSE NEIGHBOUR: 'it returns false'. Refute it at one input. -/
def dagBrentWrong : ChangeSpec := { name := "dagBrent", fn := fun _ => fun
  | [d1, d2, d3, d4] => { results := [.lit (.bool false)], args := [d1, d2, d3, d4] }
  | _ => none }
def DagBrentWrongFalsely : Prop := dagBrentRow.holds Try.pinned (OpenSpec.ofChange dagBrentWrong)

/-- 'plunderlaw7.DagJudged': WHATEVER THE INPUT: true; the input reads as it did. -/
def dagJudgedSpec : ChangeSpec := { name := "dagJudged", fn := fun _ => fun
  | [d1, d2, d3, d4] => { results := [.lit (.bool true)], args := [d1, d2, d3, d4] }
  | _ => none }
def dagJudgedRow : OpenClaim := { program := "ytbahnialbffkeaa", sum := "1c90eda81ea8efba1ea703c04ee2ec4299702edc1b6f930c00a5bf71d065b485", func := "plunder/plunderlaw7.DagJudged", spec := "dagJudged", unfollowed := true, recurses := true, apart := false }
def DagJudgedSaid : Prop := dagJudgedRow.holds Try.pinned (OpenSpec.ofChange dagJudgedSpec)

/-- ITS FALSE NEIGHBOUR: 'it returns false'. Refute it at one input. -/
def dagJudgedWrong : ChangeSpec := { name := "dagJudged", fn := fun _ => fun
  | [d1, d2, d3, d4] => { results := [.lit (.bool false)], args := [d1, d2, d3, d4] }
  | _ => none }
def DagJudgedWrongFalsely : Prop := dagJudgedRow.holds Try.pinned (OpenSpec.ofChange dagJudgedWrong)

/-- 'plunderlaw7.DagGraham': WHATEVER THE INPUT: true; the input reads as it did. -/
def dagGrahamSpec : ChangeSpec := { name := "dagGraham", fn := fun _ => fun
  | [d1, d2, d3] => { results := [.lit (.bool true)], args := [d1, d2, d3] }
  | _ => none }
def dagGrahamRow : OpenClaim := { program := "ytbahnialbffkeaa", sum := "1c90eda81ea8efba1ea703c04ee2ec4299702edc1b6f930c00a5bf71d065b485", func := "plunder/plunderlaw7.DagGraham", spec := "dagGraham", unfollowed := true, recurses := true, apart := false }
def DagGrahamSaid : Prop := dagGrahamRow.holds Try.pinned (OpenSpec.ofChange dagGrahamSpec)

/-- ITS FALSE NEIGHBOUR: 'it returns false'. Refute it at one input. -/
def dagGrahamWrong : ChangeSpec := { name := "dagGraham", fn := fun _ => fun
  | [d1, d2, d3] => { results := [.lit (.bool false)], args := [d1, d2, d3] }
  | _ => none }
def DagGrahamWrongFalsely : Prop := dagGrahamRow.holds Try.pinned (OpenSpec.ofChange dagGrahamWrong)

/- THE SECOND FORM. 'bulk': how many values and letters a reading holds, each counted each time it is reached (what is shared counts as often as it is met; a slice's spare places count too). A statement '..UptoSaid' is the law's where the arguments, and the package variables that the reading takes, are together of bulk at most 1048576: NARROWER than '..Said'. Prove '..Said' where nothing that the law and all that it calls make is longer than what came in: it says more and counts as full. Else prove '..UptoSaid'. A law counts once. -/
mutual
def uptoBulk {H : Type} : DataW H → Nat
  | .lit (.string bytes) => bytes.length + 1
  | .lit _ => 1
  | .nil => 1
  | .ptr d => uptoBulk d + 1
  | .slice elems spare => uptoBulkAll elems + uptoBulkAll spare + 1
  | .agg parts => uptoBulkAll parts + 1
  | .iface _ d => uptoBulk d + 1
  | .map entries => uptoBulkEntries entries + 1
  | .held _ => 1
def uptoBulkAll {H : Type} : List (DataW H) → Nat
  | [] => 0
  | d :: r => uptoBulk d + uptoBulkAll r
def uptoBulkEntries {H : Type} : List (Lit × DataW H) → Nat
  | [] => 0
  | x :: r => uptoBulkEntry x + uptoBulkEntries r
def uptoBulkEntry {H : Type} : Lit × DataW H → Nat
  | (.string bytes, d) => bytes.length + uptoBulk d + 1
  | (_, d) => uptoBulk d + 1
 end
def uptoSmall : (H : Type) → List (DataW H) → Bool := fun _ ds => decide (uptoBulkAll ds ≤ 1048576)
def OpenSpec.upto (s : _root_.Go.ChangeSpec) : _root_.Go.OpenSpec := { _root_.Go.OpenSpec.ofChange s with cond := some uptoSmall }

/-- 'plunderlaw6.SerialPed', WHERE WHAT IT READS IS OF BULK AT MOST 1048576: true; the input reads as it did. -/
def serialPedUptoRow : OpenClaim := { program := "ytbahnialbffkeaa", sum := "1c90eda81ea8efba1ea703c04ee2ec4299702edc1b6f930c00a5bf71d065b485", func := "plunder/plunderlaw6.SerialPed", spec := "serialPed", apart := false, narrowed := true }
def SerialPedUptoSaid : Prop := serialPedUptoRow.holds Try.pinned (OpenSpec.upto serialPedSpec)

/-- 'plunderlaw7.DagCheck', WHERE WHAT IT READS IS OF BULK AT MOST 1048576: true; the input reads as it did. -/
def dagCheckUptoRow : OpenClaim := { program := "ytbahnialbffkeaa", sum := "1c90eda81ea8efba1ea703c04ee2ec4299702edc1b6f930c00a5bf71d065b485", func := "plunder/plunderlaw7.DagCheck", spec := "dagCheck", apart := false, narrowed := true }
def DagCheckUptoSaid : Prop := dagCheckUptoRow.holds Try.pinned (OpenSpec.upto dagCheckSpec)

/-- 'plunderlaw7.DagEarliest', WHERE WHAT IT READS IS OF BULK AT MOST 1048576: true; the input reads as it did. -/
def dagEarliestUptoRow : OpenClaim := { program := "ytbahnialbffkeaa", sum := "1c90eda81ea8efba1ea703c04ee2ec4299702edc1b6f930c00a5bf71d065b485", func := "plunder/plunderlaw7.DagEarliest", spec := "dagEarliest", apart := false, narrowed := true }
def DagEarliestUptoSaid : Prop := dagEarliestUptoRow.holds Try.pinned (OpenSpec.upto dagEarliestSpec)

/-- 'plunderlaw7.DagSpan', WHERE WHAT IT READS IS OF BULK AT MOST 1048576: true; the input reads as it did. -/
def dagSpanUptoRow : OpenClaim := { program := "ytbahnialbffkeaa", sum := "1c90eda81ea8efba1ea703c04ee2ec4299702edc1b6f930c00a5bf71d065b485", func := "plunder/plunderlaw7.DagSpan", spec := "dagSpan", apart := false, narrowed := true }
def DagSpanUptoSaid : Prop := dagSpanUptoRow.holds Try.pinned (OpenSpec.upto dagSpanSpec)

/-- 'plunderlaw7.DagCritical', WHERE WHAT IT READS IS OF BULK AT MOST 1048576: true; the input reads as it did. -/
def dagCriticalUptoRow : OpenClaim := { program := "ytbahnialbffkeaa", sum := "1c90eda81ea8efba1ea703c04ee2ec4299702edc1b6f930c00a5bf71d065b485", func := "plunder/plunderlaw7.DagCritical", spec := "dagCritical", apart := false, narrowed := true }
def DagCriticalUptoSaid : Prop := dagCriticalUptoRow.holds Try.pinned (OpenSpec.upto dagCriticalSpec)

/-- 'plunderlaw7.DagGreedy', WHERE WHAT IT READS IS OF BULK AT MOST 1048576: true; the input reads as it did. -/
def dagGreedyUptoRow : OpenClaim := { program := "ytbahnialbffkeaa", sum := "1c90eda81ea8efba1ea703c04ee2ec4299702edc1b6f930c00a5bf71d065b485", func := "plunder/plunderlaw7.DagGreedy", spec := "dagGreedy", unfollowed := true, recurses := true, apart := false, narrowed := true }
def DagGreedyUptoSaid : Prop := dagGreedyUptoRow.holds Try.pinned (OpenSpec.upto dagGreedySpec)

/-- 'plunderlaw7.DagEnds', WHERE WHAT IT READS IS OF BULK AT MOST 1048576: true; the input reads as it did. -/
def dagEndsUptoRow : OpenClaim := { program := "ytbahnialbffkeaa", sum := "1c90eda81ea8efba1ea703c04ee2ec4299702edc1b6f930c00a5bf71d065b485", func := "plunder/plunderlaw7.DagEnds", spec := "dagEnds", unfollowed := true, recurses := true, apart := false, narrowed := true }
def DagEndsUptoSaid : Prop := dagEndsUptoRow.holds Try.pinned (OpenSpec.upto dagEndsSpec)

/-- 'plunderlaw7.DagJudge', WHERE WHAT IT READS IS OF BULK AT MOST 1048576: true; the input reads as it did. -/
def dagJudgeUptoRow : OpenClaim := { program := "ytbahnialbffkeaa", sum := "1c90eda81ea8efba1ea703c04ee2ec4299702edc1b6f930c00a5bf71d065b485", func := "plunder/plunderlaw7.DagJudge", spec := "dagJudge", unfollowed := true, recurses := true, apart := false, narrowed := true }
def DagJudgeUptoSaid : Prop := dagJudgeUptoRow.holds Try.pinned (OpenSpec.upto dagJudgeSpec)

/-- 'plunderlaw7.DagLazy', WHERE WHAT IT READS IS OF BULK AT MOST 1048576: true; the input reads as it did. -/
def dagLazyUptoRow : OpenClaim := { program := "ytbahnialbffkeaa", sum := "1c90eda81ea8efba1ea703c04ee2ec4299702edc1b6f930c00a5bf71d065b485", func := "plunder/plunderlaw7.DagLazy", spec := "dagLazy", unfollowed := true, recurses := true, apart := false, narrowed := true }
def DagLazyUptoSaid : Prop := dagLazyUptoRow.holds Try.pinned (OpenSpec.upto dagLazySpec)

/-- 'plunderlaw7.DagBrent', WHERE WHAT IT READS IS OF BULK AT MOST 1048576: true; the input reads as it did. -/
def dagBrentUptoRow : OpenClaim := { program := "ytbahnialbffkeaa", sum := "1c90eda81ea8efba1ea703c04ee2ec4299702edc1b6f930c00a5bf71d065b485", func := "plunder/plunderlaw7.DagBrent", spec := "dagBrent", unfollowed := true, recurses := true, apart := false, narrowed := true }
def DagBrentUptoSaid : Prop := dagBrentUptoRow.holds Try.pinned (OpenSpec.upto dagBrentSpec)

/-- 'plunderlaw7.DagJudged', WHERE WHAT IT READS IS OF BULK AT MOST 1048576: true; the input reads as it did. -/
def dagJudgedUptoRow : OpenClaim := { program := "ytbahnialbffkeaa", sum := "1c90eda81ea8efba1ea703c04ee2ec4299702edc1b6f930c00a5bf71d065b485", func := "plunder/plunderlaw7.DagJudged", spec := "dagJudged", unfollowed := true, recurses := true, apart := false, narrowed := true }
def DagJudgedUptoSaid : Prop := dagJudgedUptoRow.holds Try.pinned (OpenSpec.upto dagJudgedSpec)

/-- 'plunderlaw7.DagGraham', WHERE WHAT IT READS IS OF BULK AT MOST 1048576: true; the input reads as it did. -/
def dagGrahamUptoRow : OpenClaim := { program := "ytbahnialbffkeaa", sum := "1c90eda81ea8efba1ea703c04ee2ec4299702edc1b6f930c00a5bf71d065b485", func := "plunder/plunderlaw7.DagGraham", spec := "dagGraham", unfollowed := true, recurses := true, apart := false, narrowed := true }
def DagGrahamUptoSaid : Prop := dagGrahamUptoRow.holds Try.pinned (OpenSpec.upto dagGrahamSpec)

end Rows
end Go.Proofs.Ytbahnialbffkeaa
