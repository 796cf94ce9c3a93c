/-
  NARROWER THAN 'FOR EVERY INPUT', by the rows' own cells (each row's printed sentence says how): SerialEval: laid · SerialOps: laid · SerialTree: laid · SerialFuel: laid · SerialSizes: laid · SerialShape: laid · SerialPart: laid · SerialPause: laid · SerialSum: laid · SerialFan: laid.
  DERIVED. THE GIVEN ROWS OF THIS SEAT. 10 by the template 'for every input the law returns true; each argument reads behind the call as it read before'; 0 by the template 'total and deterministic' (their statements: YtcioegimmjppcaaDoorTotals.lean).
  GIVEN WITH THE SEED: the statements are not yours to turn. If you find one false, say at which input.
  Laid BY PROGRAM, IN A SANDBOX (cutbox-rows.mjs): the forced cells as the released guide's own fill.sh prints them over the translation d4ea1f8d64f5bc65… (all of the seat's roots in one cut). By AI agents, Wed Nov 11 2026. No macro, syntax, notation, axiom, sorry.
-/
import Derived.Test.YtcioegimmjppcaaDoorChecked
import GoSem.Claim
import GoSem.ClaimJoined
import GoSem.ClaimMapViews
import Derived.JoinedTies
import Derived.KernelRfl
namespace Go.Proofs.YtcioegimmjppcaaDoor
/- THE CELL 'sum', in the pinned program and in every row, IS THE sha256 OF THE DUMP (.gsa) THAT YtcioegimmjppcaaDoorProg.lean LOADS. Nothing in Lean hashes anything: it is a label: what it is worth is what the hold of that sum in a sandbox is worth. -/
noncomputable def Tryd.pinned : Pinned := { name := "ytcioegimmjppcaadoor", sum := "d4ea1f8d64f5bc65eb5acc961bcab0b93ba1837ac791fc24a25111c00e3b7b2f", checked := Tryd.checked }
namespace Rows
def none {H : Type} : Left H := { results := [], args := [] }

/- WHAT THE LISTED PACKAGE-LEVEL VARIABLES READ AS WHEN THE CALL BEGINS. Each datum BY PROGRAM (the guide's laid-datum.mjs) off the statement by which the dump's own 'gosem.cut.vars' lays the variable. In a bare row this is a premise. The card (YtcioegimmjppcaaDoorCards.lean) ties it to the program's text. -/
def laid_plunder_prog_fields {H : Type} : DataW H := .agg [.agg [.lit (.int .i64 1), .lit (.int .i64 0), .lit (.int .i64 0), .lit (.int .i64 0), .lit (.bool true)], .agg [.lit (.int .i64 1), .lit (.int .i64 1), .lit (.int .i64 0), .lit (.int .i64 0), .lit (.bool true)], .agg [.lit (.int .i64 1), .lit (.int .i64 1), .lit (.int .i64 1), .lit (.int .i64 5), .lit (.bool true)], .agg [.lit (.int .i64 3), .lit (.int .i64 0), .lit (.int .i64 0), .lit (.int .i64 0), .lit (.bool false)], .agg [.lit (.int .i64 1), .lit (.int .i64 3), .lit (.int .i64 0), .lit (.int .i64 0), .lit (.bool true)], .agg [.lit (.int .i64 2), .lit (.int .i64 4), .lit (.int .i64 0), .lit (.int .i64 0), .lit (.bool true)], .agg [.lit (.int .i64 0), .lit (.int .i64 0), .lit (.int .i64 0), .lit (.int .i64 0), .lit (.bool true)], .agg [.lit (.int .i64 1), .lit (.int .i64 2), .lit (.int .i64 0), .lit (.int .i64 0), .lit (.bool true)], .agg [.lit (.int .i64 1), .lit (.int .i64 0), .lit (.int .i64 0), .lit (.int .i64 0), .lit (.bool true)], .agg [.lit (.int .i64 1), .lit (.int .i64 0), .lit (.int .i64 0), .lit (.int .i64 0), .lit (.bool false)]]

/-- 'plunderlaw6.SerialEval': WHATEVER THE INPUT: true; the input reads as it did. -/
def serialEvalSpec : ChangeSpec := { name := "serialEval", fn := fun _ => fun
  | [d1, d2, d3] => { results := [.lit (.bool true)], args := [d1, d2, d3] }
  | _ => none }
def serialEvalRow : OpenClaim := { program := "ytcioegimmjppcaadoor", sum := "d4ea1f8d64f5bc65eb5acc961bcab0b93ba1837ac791fc24a25111c00e3b7b2f", func := "plunder/plunderlaw6.SerialEval", spec := "serialEval", unfollowed := true, recurses := true, named := ["plunder/prog.fields"], plainKeys := false, apart := false, laid := [("plunder/prog.fields", laid_plunder_prog_fields)] }
def SerialEvalSaid : Prop := serialEvalRow.holds Tryd.pinned (OpenSpec.ofChange serialEvalSpec)

/-- ITS FALSE NEIGHBOUR: 'it returns false'. Refute it at one input. -/
def serialEvalWrong : ChangeSpec := { name := "serialEval", fn := fun _ => fun
  | [d1, d2, d3] => { results := [.lit (.bool false)], args := [d1, d2, d3] }
  | _ => none }
def SerialEvalWrongFalsely : Prop := serialEvalRow.holds Tryd.pinned (OpenSpec.ofChange serialEvalWrong)

/-- 'plunderlaw6.SerialOps': WHATEVER THE INPUT: true; the input reads as it did. -/
def serialOpsSpec : ChangeSpec := { name := "serialOps", fn := fun _ => fun
  | [d1, d2, d3] => { results := [.lit (.bool true)], args := [d1, d2, d3] }
  | _ => none }
def serialOpsRow : OpenClaim := { program := "ytcioegimmjppcaadoor", sum := "d4ea1f8d64f5bc65eb5acc961bcab0b93ba1837ac791fc24a25111c00e3b7b2f", func := "plunder/plunderlaw6.SerialOps", spec := "serialOps", unfollowed := true, recurses := true, named := ["plunder/prog.fields"], plainKeys := false, apart := false, laid := [("plunder/prog.fields", laid_plunder_prog_fields)] }
def SerialOpsSaid : Prop := serialOpsRow.holds Tryd.pinned (OpenSpec.ofChange serialOpsSpec)

/-- ITS FALSE NEIGHBOUR: 'it returns false'. Refute it at one input. -/
def serialOpsWrong : ChangeSpec := { name := "serialOps", fn := fun _ => fun
  | [d1, d2, d3] => { results := [.lit (.bool false)], args := [d1, d2, d3] }
  | _ => none }
def SerialOpsWrongFalsely : Prop := serialOpsRow.holds Tryd.pinned (OpenSpec.ofChange serialOpsWrong)

/-- 'plunderlaw6.SerialTree': WHATEVER THE INPUT: true; the input reads as it did. -/
def serialTreeSpec : ChangeSpec := { name := "serialTree", fn := fun _ => fun
  | [d1, d2, d3] => { results := [.lit (.bool true)], args := [d1, d2, d3] }
  | _ => none }
def serialTreeRow : OpenClaim := { program := "ytcioegimmjppcaadoor", sum := "d4ea1f8d64f5bc65eb5acc961bcab0b93ba1837ac791fc24a25111c00e3b7b2f", func := "plunder/plunderlaw6.SerialTree", spec := "serialTree", unfollowed := true, recurses := true, named := ["plunder/prog.fields"], plainKeys := false, apart := false, laid := [("plunder/prog.fields", laid_plunder_prog_fields)] }
def SerialTreeSaid : Prop := serialTreeRow.holds Tryd.pinned (OpenSpec.ofChange serialTreeSpec)

/-- ITS FALSE NEIGHBOUR: 'it returns false'. Refute it at one input. -/
def serialTreeWrong : ChangeSpec := { name := "serialTree", fn := fun _ => fun
  | [d1, d2, d3] => { results := [.lit (.bool false)], args := [d1, d2, d3] }
  | _ => none }
def SerialTreeWrongFalsely : Prop := serialTreeRow.holds Tryd.pinned (OpenSpec.ofChange serialTreeWrong)

/-- 'plunderlaw6.SerialFuel': WHATEVER THE INPUT: true; the input reads as it did. -/
def serialFuelSpec : ChangeSpec := { name := "serialFuel", fn := fun _ => fun
  | [d1, d2, d3, d4] => { results := [.lit (.bool true)], args := [d1, d2, d3, d4] }
  | _ => none }
def serialFuelRow : OpenClaim := { program := "ytcioegimmjppcaadoor", sum := "d4ea1f8d64f5bc65eb5acc961bcab0b93ba1837ac791fc24a25111c00e3b7b2f", func := "plunder/plunderlaw6.SerialFuel", spec := "serialFuel", unfollowed := true, recurses := true, named := ["plunder/prog.fields"], plainKeys := false, apart := false, laid := [("plunder/prog.fields", laid_plunder_prog_fields)] }
def SerialFuelSaid : Prop := serialFuelRow.holds Tryd.pinned (OpenSpec.ofChange serialFuelSpec)

/-- ITS FALSE NEIGHBOUR: 'it returns false'. Refute it at one input. -/
def serialFuelWrong : ChangeSpec := { name := "serialFuel", fn := fun _ => fun
  | [d1, d2, d3, d4] => { results := [.lit (.bool false)], args := [d1, d2, d3, d4] }
  | _ => none }
def SerialFuelWrongFalsely : Prop := serialFuelRow.holds Tryd.pinned (OpenSpec.ofChange serialFuelWrong)

/-- 'plunderlaw6.SerialSizes': WHATEVER THE INPUT: true; the input reads as it did. -/
def serialSizesSpec : ChangeSpec := { name := "serialSizes", fn := fun _ => fun
  | [d1, d2, d3] => { results := [.lit (.bool true)], args := [d1, d2, d3] }
  | _ => none }
def serialSizesRow : OpenClaim := { program := "ytcioegimmjppcaadoor", sum := "d4ea1f8d64f5bc65eb5acc961bcab0b93ba1837ac791fc24a25111c00e3b7b2f", func := "plunder/plunderlaw6.SerialSizes", spec := "serialSizes", unfollowed := true, recurses := true, named := ["plunder/prog.fields"], plainKeys := false, apart := false, laid := [("plunder/prog.fields", laid_plunder_prog_fields)] }
def SerialSizesSaid : Prop := serialSizesRow.holds Tryd.pinned (OpenSpec.ofChange serialSizesSpec)

/-- ITS FALSE NEIGHBOUR: 'it returns false'. Refute it at one input. -/
def serialSizesWrong : ChangeSpec := { name := "serialSizes", fn := fun _ => fun
  | [d1, d2, d3] => { results := [.lit (.bool false)], args := [d1, d2, d3] }
  | _ => none }
def SerialSizesWrongFalsely : Prop := serialSizesRow.holds Tryd.pinned (OpenSpec.ofChange serialSizesWrong)

/-- 'plunderlaw6.SerialShape': WHATEVER THE INPUT: true; the input reads as it did. -/
def serialShapeSpec : ChangeSpec := { name := "serialShape", fn := fun _ => fun
  | [d1, d2, d3] => { results := [.lit (.bool true)], args := [d1, d2, d3] }
  | _ => none }
def serialShapeRow : OpenClaim := { program := "ytcioegimmjppcaadoor", sum := "d4ea1f8d64f5bc65eb5acc961bcab0b93ba1837ac791fc24a25111c00e3b7b2f", func := "plunder/plunderlaw6.SerialShape", spec := "serialShape", unfollowed := true, recurses := true, named := ["plunder/prog.fields"], plainKeys := false, apart := false, laid := [("plunder/prog.fields", laid_plunder_prog_fields)] }
def SerialShapeSaid : Prop := serialShapeRow.holds Tryd.pinned (OpenSpec.ofChange serialShapeSpec)

/-- ITS FALSE NEIGHBOUR: 'it returns false'. Refute it at one input. -/
def serialShapeWrong : ChangeSpec := { name := "serialShape", fn := fun _ => fun
  | [d1, d2, d3] => { results := [.lit (.bool false)], args := [d1, d2, d3] }
  | _ => none }
def SerialShapeWrongFalsely : Prop := serialShapeRow.holds Tryd.pinned (OpenSpec.ofChange serialShapeWrong)

/-- 'plunderlaw6.SerialPart': WHATEVER THE INPUT: true; the input reads as it did. -/
def serialPartSpec : ChangeSpec := { name := "serialPart", fn := fun _ => fun
  | [d1, d2, d3, d4] => { results := [.lit (.bool true)], args := [d1, d2, d3, d4] }
  | _ => none }
def serialPartRow : OpenClaim := { program := "ytcioegimmjppcaadoor", sum := "d4ea1f8d64f5bc65eb5acc961bcab0b93ba1837ac791fc24a25111c00e3b7b2f", func := "plunder/plunderlaw6.SerialPart", spec := "serialPart", unfollowed := true, recurses := true, named := ["plunder/prog.fields"], plainKeys := false, apart := false, laid := [("plunder/prog.fields", laid_plunder_prog_fields)] }
def SerialPartSaid : Prop := serialPartRow.holds Tryd.pinned (OpenSpec.ofChange serialPartSpec)

/-- ITS FALSE NEIGHBOUR: 'it returns false'. Refute it at one input. -/
def serialPartWrong : ChangeSpec := { name := "serialPart", fn := fun _ => fun
  | [d1, d2, d3, d4] => { results := [.lit (.bool false)], args := [d1, d2, d3, d4] }
  | _ => none }
def SerialPartWrongFalsely : Prop := serialPartRow.holds Tryd.pinned (OpenSpec.ofChange serialPartWrong)

/-- 'plunderlaw6.SerialPause': WHATEVER THE INPUT: true; the input reads as it did. -/
def serialPauseSpec : ChangeSpec := { name := "serialPause", fn := fun _ => fun
  | [d1, d2, d3] => { results := [.lit (.bool true)], args := [d1, d2, d3] }
  | _ => none }
def serialPauseRow : OpenClaim := { program := "ytcioegimmjppcaadoor", sum := "d4ea1f8d64f5bc65eb5acc961bcab0b93ba1837ac791fc24a25111c00e3b7b2f", func := "plunder/plunderlaw6.SerialPause", spec := "serialPause", unfollowed := true, recurses := true, named := ["plunder/prog.fields"], plainKeys := false, apart := false, laid := [("plunder/prog.fields", laid_plunder_prog_fields)] }
def SerialPauseSaid : Prop := serialPauseRow.holds Tryd.pinned (OpenSpec.ofChange serialPauseSpec)

/-- ITS FALSE NEIGHBOUR: 'it returns false'. Refute it at one input. -/
def serialPauseWrong : ChangeSpec := { name := "serialPause", fn := fun _ => fun
  | [d1, d2, d3] => { results := [.lit (.bool false)], args := [d1, d2, d3] }
  | _ => none }
def SerialPauseWrongFalsely : Prop := serialPauseRow.holds Tryd.pinned (OpenSpec.ofChange serialPauseWrong)

/-- 'plunderlaw6.SerialSum': WHATEVER THE INPUT: true; the input reads as it did. -/
def serialSumSpec : ChangeSpec := { name := "serialSum", fn := fun _ => fun
  | [d1, d2] => { results := [.lit (.bool true)], args := [d1, d2] }
  | _ => none }
def serialSumRow : OpenClaim := { program := "ytcioegimmjppcaadoor", sum := "d4ea1f8d64f5bc65eb5acc961bcab0b93ba1837ac791fc24a25111c00e3b7b2f", func := "plunder/plunderlaw6.SerialSum", spec := "serialSum", unfollowed := true, recurses := true, named := ["plunder/prog.fields"], plainKeys := false, apart := false, laid := [("plunder/prog.fields", laid_plunder_prog_fields)] }
def SerialSumSaid : Prop := serialSumRow.holds Tryd.pinned (OpenSpec.ofChange serialSumSpec)

/-- ITS FALSE NEIGHBOUR: 'it returns false'. Refute it at one input. -/
def serialSumWrong : ChangeSpec := { name := "serialSum", fn := fun _ => fun
  | [d1, d2] => { results := [.lit (.bool false)], args := [d1, d2] }
  | _ => none }
def SerialSumWrongFalsely : Prop := serialSumRow.holds Tryd.pinned (OpenSpec.ofChange serialSumWrong)

/-- 'plunderlaw6.SerialFan': WHATEVER THE INPUT: true; the input reads as it did. -/
def serialFanSpec : ChangeSpec := { name := "serialFan", fn := fun _ => fun
  | [d1, d2] => { results := [.lit (.bool true)], args := [d1, d2] }
  | _ => none }
def serialFanRow : OpenClaim := { program := "ytcioegimmjppcaadoor", sum := "d4ea1f8d64f5bc65eb5acc961bcab0b93ba1837ac791fc24a25111c00e3b7b2f", func := "plunder/plunderlaw6.SerialFan", spec := "serialFan", unfollowed := true, recurses := true, named := ["plunder/prog.fields"], plainKeys := false, apart := false, laid := [("plunder/prog.fields", laid_plunder_prog_fields)] }
def SerialFanSaid : Prop := serialFanRow.holds Tryd.pinned (OpenSpec.ofChange serialFanSpec)

/-- ITS FALSE NEIGHBOUR: 'it returns false'. Refute it at one input. -/
def serialFanWrong : ChangeSpec := { name := "serialFan", fn := fun _ => fun
  | [d1, d2] => { results := [.lit (.bool false)], args := [d1, d2] }
  | _ => none }
def SerialFanWrongFalsely : Prop := serialFanRow.holds Tryd.pinned (OpenSpec.ofChange serialFanWrong)

/- THE SECOND FORM. 'bulk': how many values and letters a reading holds, each counted each time it is reached (what is shared counts as often as it is met; a slice's spare places count too). A statement '..UptoSaid' is the law's where the arguments, and the package variables that the reading takes, are together of bulk at most 1048576: NARROWER than '..Said'. Prove '..Said' where nothing that the law and all that it calls make is longer than what came in: it says more and counts as full. Else prove '..UptoSaid'. A law counts once. -/
mutual
def uptoBulk {H : Type} : DataW H → Nat
  | .lit (.string bytes) => bytes.length + 1
  | .lit _ => 1
  | .nil => 1
  | .ptr d => uptoBulk d + 1
  | .slice elems spare => uptoBulkAll elems + uptoBulkAll spare + 1
  | .agg parts => uptoBulkAll parts + 1
  | .iface _ d => uptoBulk d + 1
  | .map entries => uptoBulkEntries entries + 1
  | .held _ => 1
def uptoBulkAll {H : Type} : List (DataW H) → Nat
  | [] => 0
  | d :: r => uptoBulk d + uptoBulkAll r
def uptoBulkEntries {H : Type} : List (Lit × DataW H) → Nat
  | [] => 0
  | x :: r => uptoBulkEntry x + uptoBulkEntries r
def uptoBulkEntry {H : Type} : Lit × DataW H → Nat
  | (.string bytes, d) => bytes.length + uptoBulk d + 1
  | (_, d) => uptoBulk d + 1
 end
def uptoSmall : (H : Type) → List (DataW H) → Bool := fun _ ds => decide (uptoBulkAll ds ≤ 1048576)
def OpenSpec.upto (s : _root_.Go.ChangeSpec) : _root_.Go.OpenSpec := { _root_.Go.OpenSpec.ofChange s with cond := some uptoSmall }

/-- 'plunderlaw6.SerialEval', WHERE WHAT IT READS IS OF BULK AT MOST 1048576: true; the input reads as it did. -/
def serialEvalUptoRow : OpenClaim := { program := "ytcioegimmjppcaadoor", sum := "d4ea1f8d64f5bc65eb5acc961bcab0b93ba1837ac791fc24a25111c00e3b7b2f", func := "plunder/plunderlaw6.SerialEval", spec := "serialEval", unfollowed := true, recurses := true, named := ["plunder/prog.fields"], plainKeys := false, apart := false, laid := [("plunder/prog.fields", laid_plunder_prog_fields)], narrowed := true }
def SerialEvalUptoSaid : Prop := serialEvalUptoRow.holds Tryd.pinned (OpenSpec.upto serialEvalSpec)

/-- 'plunderlaw6.SerialOps', WHERE WHAT IT READS IS OF BULK AT MOST 1048576: true; the input reads as it did. -/
def serialOpsUptoRow : OpenClaim := { program := "ytcioegimmjppcaadoor", sum := "d4ea1f8d64f5bc65eb5acc961bcab0b93ba1837ac791fc24a25111c00e3b7b2f", func := "plunder/plunderlaw6.SerialOps", spec := "serialOps", unfollowed := true, recurses := true, named := ["plunder/prog.fields"], plainKeys := false, apart := false, laid := [("plunder/prog.fields", laid_plunder_prog_fields)], narrowed := true }
def SerialOpsUptoSaid : Prop := serialOpsUptoRow.holds Tryd.pinned (OpenSpec.upto serialOpsSpec)

/-- 'plunderlaw6.SerialTree', WHERE WHAT IT READS IS OF BULK AT MOST 1048576: true; the input reads as it did. -/
def serialTreeUptoRow : OpenClaim := { program := "ytcioegimmjppcaadoor", sum := "d4ea1f8d64f5bc65eb5acc961bcab0b93ba1837ac791fc24a25111c00e3b7b2f", func := "plunder/plunderlaw6.SerialTree", spec := "serialTree", unfollowed := true, recurses := true, named := ["plunder/prog.fields"], plainKeys := false, apart := false, laid := [("plunder/prog.fields", laid_plunder_prog_fields)], narrowed := true }
def SerialTreeUptoSaid : Prop := serialTreeUptoRow.holds Tryd.pinned (OpenSpec.upto serialTreeSpec)

/-- 'plunderlaw6.SerialFuel', WHERE WHAT IT READS IS OF BULK AT MOST 1048576: true; the input reads as it did. -/
def serialFuelUptoRow : OpenClaim := { program := "ytcioegimmjppcaadoor", sum := "d4ea1f8d64f5bc65eb5acc961bcab0b93ba1837ac791fc24a25111c00e3b7b2f", func := "plunder/plunderlaw6.SerialFuel", spec := "serialFuel", unfollowed := true, recurses := true, named := ["plunder/prog.fields"], plainKeys := false, apart := false, laid := [("plunder/prog.fields", laid_plunder_prog_fields)], narrowed := true }
def SerialFuelUptoSaid : Prop := serialFuelUptoRow.holds Tryd.pinned (OpenSpec.upto serialFuelSpec)

/-- 'plunderlaw6.SerialSizes', WHERE WHAT IT READS IS OF BULK AT MOST 1048576: true; the input reads as it did. -/
def serialSizesUptoRow : OpenClaim := { program := "ytcioegimmjppcaadoor", sum := "d4ea1f8d64f5bc65eb5acc961bcab0b93ba1837ac791fc24a25111c00e3b7b2f", func := "plunder/plunderlaw6.SerialSizes", spec := "serialSizes", unfollowed := true, recurses := true, named := ["plunder/prog.fields"], plainKeys := false, apart := false, laid := [("plunder/prog.fields", laid_plunder_prog_fields)], narrowed := true }
def SerialSizesUptoSaid : Prop := serialSizesUptoRow.holds Tryd.pinned (OpenSpec.upto serialSizesSpec)

/-- 'plunderlaw6.SerialShape', WHERE WHAT IT READS IS OF BULK AT MOST 1048576: true; the input reads as it did. -/
def serialShapeUptoRow : OpenClaim := { program := "ytcioegimmjppcaadoor", sum := "d4ea1f8d64f5bc65eb5acc961bcab0b93ba1837ac791fc24a25111c00e3b7b2f", func := "plunder/plunderlaw6.SerialShape", spec := "serialShape", unfollowed := true, recurses := true, named := ["plunder/prog.fields"], plainKeys := false, apart := false, laid := [("plunder/prog.fields", laid_plunder_prog_fields)], narrowed := true }
def SerialShapeUptoSaid : Prop := serialShapeUptoRow.holds Tryd.pinned (OpenSpec.upto serialShapeSpec)

/-- 'plunderlaw6.SerialPart', WHERE WHAT IT READS IS OF BULK AT MOST 1048576: true; the input reads as it did. -/
def serialPartUptoRow : OpenClaim := { program := "ytcioegimmjppcaadoor", sum := "d4ea1f8d64f5bc65eb5acc961bcab0b93ba1837ac791fc24a25111c00e3b7b2f", func := "plunder/plunderlaw6.SerialPart", spec := "serialPart", unfollowed := true, recurses := true, named := ["plunder/prog.fields"], plainKeys := false, apart := false, laid := [("plunder/prog.fields", laid_plunder_prog_fields)], narrowed := true }
def SerialPartUptoSaid : Prop := serialPartUptoRow.holds Tryd.pinned (OpenSpec.upto serialPartSpec)

/-- 'plunderlaw6.SerialPause', WHERE WHAT IT READS IS OF BULK AT MOST 1048576: true; the input reads as it did. -/
def serialPauseUptoRow : OpenClaim := { program := "ytcioegimmjppcaadoor", sum := "d4ea1f8d64f5bc65eb5acc961bcab0b93ba1837ac791fc24a25111c00e3b7b2f", func := "plunder/plunderlaw6.SerialPause", spec := "serialPause", unfollowed := true, recurses := true, named := ["plunder/prog.fields"], plainKeys := false, apart := false, laid := [("plunder/prog.fields", laid_plunder_prog_fields)], narrowed := true }
def SerialPauseUptoSaid : Prop := serialPauseUptoRow.holds Tryd.pinned (OpenSpec.upto serialPauseSpec)

/-- 'plunderlaw6.SerialSum', WHERE WHAT IT READS IS OF BULK AT MOST 1048576: true; the input reads as it did. -/
def serialSumUptoRow : OpenClaim := { program := "ytcioegimmjppcaadoor", sum := "d4ea1f8d64f5bc65eb5acc961bcab0b93ba1837ac791fc24a25111c00e3b7b2f", func := "plunder/plunderlaw6.SerialSum", spec := "serialSum", unfollowed := true, recurses := true, named := ["plunder/prog.fields"], plainKeys := false, apart := false, laid := [("plunder/prog.fields", laid_plunder_prog_fields)], narrowed := true }
def SerialSumUptoSaid : Prop := serialSumUptoRow.holds Tryd.pinned (OpenSpec.upto serialSumSpec)

/-- 'plunderlaw6.SerialFan', WHERE WHAT IT READS IS OF BULK AT MOST 1048576: true; the input reads as it did. -/
def serialFanUptoRow : OpenClaim := { program := "ytcioegimmjppcaadoor", sum := "d4ea1f8d64f5bc65eb5acc961bcab0b93ba1837ac791fc24a25111c00e3b7b2f", func := "plunder/plunderlaw6.SerialFan", spec := "serialFan", unfollowed := true, recurses := true, named := ["plunder/prog.fields"], plainKeys := false, apart := false, laid := [("plunder/prog.fields", laid_plunder_prog_fields)], narrowed := true }
def SerialFanUptoSaid : Prop := serialFanUptoRow.holds Tryd.pinned (OpenSpec.upto serialFanSpec)

end Rows
end Go.Proofs.YtcioegimmjppcaaDoor
