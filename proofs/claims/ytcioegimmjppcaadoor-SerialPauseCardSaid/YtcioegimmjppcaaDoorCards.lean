/-
  DERIVED. GIVEN WITH THE SEED: THE CARDS: each row of YtcioegimmjppcaaDoorRows.lean that lists a variable, with what it lists TIED to the program's text (the seventh form; the later family's looks); each row that meets fmt, with fmt's text TOLD by the authors' own Lean function (tested against real Go, not proved from fmt's source: count such statements apart). THE CARD IS WHAT COUNTS. Prove the row's statement (the work); the ties are given (YtcioegimmjppcaaDoorTie.lean); close each card by the builder's one call (the guide's Derived/Test/ToyasCard.lean, 'card_holds'). Laid BY PROGRAM, IN A SANDBOX (cutbox-door.mjs). By AI agents, Wed Nov 11 2026. No macro, syntax, notation, axiom, sorry.
-/
import Derived.Test.YtcioegimmjppcaaDoorRows
import GoSem.ClaimSeven
namespace Go.Proofs.YtcioegimmjppcaaDoor
namespace Rows

/-- THE TIED CARD OF 'plunderlaw6.SerialEval'. -/
def serialEvalCard : Claim7 := { stood := { row := serialEvalRow, standIns := [], harness := (true, "7e50fc60487b1b17d20aa17b9d2853d852449e8b5bcbc13b1bab9e359e74cb65"), looks := true }, kinds := [], alts := [], laidByText := true, laidKinds := [.data], laidTests := true, laidLooks := .later }
def SerialEvalCardSaid : Prop := Claim7.holds Tryd.pinned (.plain (OpenSpec.ofChange serialEvalSpec)) serialEvalCard

/-- THE TIED CARD OF 'plunderlaw6.SerialOps'. -/
def serialOpsCard : Claim7 := { stood := { row := serialOpsRow, standIns := [], harness := (true, "7e50fc60487b1b17d20aa17b9d2853d852449e8b5bcbc13b1bab9e359e74cb65"), looks := true }, kinds := [], alts := [], laidByText := true, laidKinds := [.data], laidTests := true, laidLooks := .later }
def SerialOpsCardSaid : Prop := Claim7.holds Tryd.pinned (.plain (OpenSpec.ofChange serialOpsSpec)) serialOpsCard

/-- THE TIED CARD OF 'plunderlaw6.SerialTree'. -/
def serialTreeCard : Claim7 := { stood := { row := serialTreeRow, standIns := [], harness := (true, "7e50fc60487b1b17d20aa17b9d2853d852449e8b5bcbc13b1bab9e359e74cb65"), looks := true }, kinds := [], alts := [], laidByText := true, laidKinds := [.data], laidTests := true, laidLooks := .later }
def SerialTreeCardSaid : Prop := Claim7.holds Tryd.pinned (.plain (OpenSpec.ofChange serialTreeSpec)) serialTreeCard

/-- THE TIED CARD OF 'plunderlaw6.SerialFuel'. -/
def serialFuelCard : Claim7 := { stood := { row := serialFuelRow, standIns := [], harness := (true, "7e50fc60487b1b17d20aa17b9d2853d852449e8b5bcbc13b1bab9e359e74cb65"), looks := true }, kinds := [], alts := [], laidByText := true, laidKinds := [.data], laidTests := true, laidLooks := .later }
def SerialFuelCardSaid : Prop := Claim7.holds Tryd.pinned (.plain (OpenSpec.ofChange serialFuelSpec)) serialFuelCard

/-- THE TIED CARD OF 'plunderlaw6.SerialSizes'. -/
def serialSizesCard : Claim7 := { stood := { row := serialSizesRow, standIns := [], harness := (true, "7e50fc60487b1b17d20aa17b9d2853d852449e8b5bcbc13b1bab9e359e74cb65"), looks := true }, kinds := [], alts := [], laidByText := true, laidKinds := [.data], laidTests := true, laidLooks := .later }
def SerialSizesCardSaid : Prop := Claim7.holds Tryd.pinned (.plain (OpenSpec.ofChange serialSizesSpec)) serialSizesCard

/-- THE TIED CARD OF 'plunderlaw6.SerialShape'. -/
def serialShapeCard : Claim7 := { stood := { row := serialShapeRow, standIns := [], harness := (true, "7e50fc60487b1b17d20aa17b9d2853d852449e8b5bcbc13b1bab9e359e74cb65"), looks := true }, kinds := [], alts := [], laidByText := true, laidKinds := [.data], laidTests := true, laidLooks := .later }
def SerialShapeCardSaid : Prop := Claim7.holds Tryd.pinned (.plain (OpenSpec.ofChange serialShapeSpec)) serialShapeCard

/-- THE TIED CARD OF 'plunderlaw6.SerialPart'. -/
def serialPartCard : Claim7 := { stood := { row := serialPartRow, standIns := [], harness := (true, "7e50fc60487b1b17d20aa17b9d2853d852449e8b5bcbc13b1bab9e359e74cb65"), looks := true }, kinds := [], alts := [], laidByText := true, laidKinds := [.data], laidTests := true, laidLooks := .later }
def SerialPartCardSaid : Prop := Claim7.holds Tryd.pinned (.plain (OpenSpec.ofChange serialPartSpec)) serialPartCard

/-- THE TIED CARD OF 'plunderlaw6.SerialPause'. -/
def serialPauseCard : Claim7 := { stood := { row := serialPauseRow, standIns := [], harness := (true, "7e50fc60487b1b17d20aa17b9d2853d852449e8b5bcbc13b1bab9e359e74cb65"), looks := true }, kinds := [], alts := [], laidByText := true, laidKinds := [.data], laidTests := true, laidLooks := .later }
def SerialPauseCardSaid : Prop := Claim7.holds Tryd.pinned (.plain (OpenSpec.ofChange serialPauseSpec)) serialPauseCard

/-- THE TIED CARD OF 'plunderlaw6.SerialSum'. -/
def serialSumCard : Claim7 := { stood := { row := serialSumRow, standIns := [], harness := (true, "7e50fc60487b1b17d20aa17b9d2853d852449e8b5bcbc13b1bab9e359e74cb65"), looks := true }, kinds := [], alts := [], laidByText := true, laidKinds := [.data], laidTests := true, laidLooks := .later }
def SerialSumCardSaid : Prop := Claim7.holds Tryd.pinned (.plain (OpenSpec.ofChange serialSumSpec)) serialSumCard

/-- THE TIED CARD OF 'plunderlaw6.SerialFan'. -/
def serialFanCard : Claim7 := { stood := { row := serialFanRow, standIns := [], harness := (true, "7e50fc60487b1b17d20aa17b9d2853d852449e8b5bcbc13b1bab9e359e74cb65"), looks := true }, kinds := [], alts := [], laidByText := true, laidKinds := [.data], laidTests := true, laidLooks := .later }
def SerialFanCardSaid : Prop := Claim7.holds Tryd.pinned (.plain (OpenSpec.ofChange serialFanSpec)) serialFanCard

/-- THE SECOND FORM's CARD OF 'plunderlaw6.SerialEval'. -/
def serialEvalUptoCard : Claim7 := { stood := { row := serialEvalUptoRow, standIns := [], harness := (true, "7e50fc60487b1b17d20aa17b9d2853d852449e8b5bcbc13b1bab9e359e74cb65"), looks := true }, kinds := [], alts := [], laidByText := true, laidKinds := [.data], laidTests := true, laidLooks := .later }
def SerialEvalUptoCardSaid : Prop := Claim7.holds Tryd.pinned (.plain (OpenSpec.upto serialEvalSpec)) serialEvalUptoCard

/-- THE SECOND FORM's CARD OF 'plunderlaw6.SerialOps'. -/
def serialOpsUptoCard : Claim7 := { stood := { row := serialOpsUptoRow, standIns := [], harness := (true, "7e50fc60487b1b17d20aa17b9d2853d852449e8b5bcbc13b1bab9e359e74cb65"), looks := true }, kinds := [], alts := [], laidByText := true, laidKinds := [.data], laidTests := true, laidLooks := .later }
def SerialOpsUptoCardSaid : Prop := Claim7.holds Tryd.pinned (.plain (OpenSpec.upto serialOpsSpec)) serialOpsUptoCard

/-- THE SECOND FORM's CARD OF 'plunderlaw6.SerialTree'. -/
def serialTreeUptoCard : Claim7 := { stood := { row := serialTreeUptoRow, standIns := [], harness := (true, "7e50fc60487b1b17d20aa17b9d2853d852449e8b5bcbc13b1bab9e359e74cb65"), looks := true }, kinds := [], alts := [], laidByText := true, laidKinds := [.data], laidTests := true, laidLooks := .later }
def SerialTreeUptoCardSaid : Prop := Claim7.holds Tryd.pinned (.plain (OpenSpec.upto serialTreeSpec)) serialTreeUptoCard

/-- THE SECOND FORM's CARD OF 'plunderlaw6.SerialFuel'. -/
def serialFuelUptoCard : Claim7 := { stood := { row := serialFuelUptoRow, standIns := [], harness := (true, "7e50fc60487b1b17d20aa17b9d2853d852449e8b5bcbc13b1bab9e359e74cb65"), looks := true }, kinds := [], alts := [], laidByText := true, laidKinds := [.data], laidTests := true, laidLooks := .later }
def SerialFuelUptoCardSaid : Prop := Claim7.holds Tryd.pinned (.plain (OpenSpec.upto serialFuelSpec)) serialFuelUptoCard

/-- THE SECOND FORM's CARD OF 'plunderlaw6.SerialSizes'. -/
def serialSizesUptoCard : Claim7 := { stood := { row := serialSizesUptoRow, standIns := [], harness := (true, "7e50fc60487b1b17d20aa17b9d2853d852449e8b5bcbc13b1bab9e359e74cb65"), looks := true }, kinds := [], alts := [], laidByText := true, laidKinds := [.data], laidTests := true, laidLooks := .later }
def SerialSizesUptoCardSaid : Prop := Claim7.holds Tryd.pinned (.plain (OpenSpec.upto serialSizesSpec)) serialSizesUptoCard

/-- THE SECOND FORM's CARD OF 'plunderlaw6.SerialShape'. -/
def serialShapeUptoCard : Claim7 := { stood := { row := serialShapeUptoRow, standIns := [], harness := (true, "7e50fc60487b1b17d20aa17b9d2853d852449e8b5bcbc13b1bab9e359e74cb65"), looks := true }, kinds := [], alts := [], laidByText := true, laidKinds := [.data], laidTests := true, laidLooks := .later }
def SerialShapeUptoCardSaid : Prop := Claim7.holds Tryd.pinned (.plain (OpenSpec.upto serialShapeSpec)) serialShapeUptoCard

/-- THE SECOND FORM's CARD OF 'plunderlaw6.SerialPart'. -/
def serialPartUptoCard : Claim7 := { stood := { row := serialPartUptoRow, standIns := [], harness := (true, "7e50fc60487b1b17d20aa17b9d2853d852449e8b5bcbc13b1bab9e359e74cb65"), looks := true }, kinds := [], alts := [], laidByText := true, laidKinds := [.data], laidTests := true, laidLooks := .later }
def SerialPartUptoCardSaid : Prop := Claim7.holds Tryd.pinned (.plain (OpenSpec.upto serialPartSpec)) serialPartUptoCard

/-- THE SECOND FORM's CARD OF 'plunderlaw6.SerialPause'. -/
def serialPauseUptoCard : Claim7 := { stood := { row := serialPauseUptoRow, standIns := [], harness := (true, "7e50fc60487b1b17d20aa17b9d2853d852449e8b5bcbc13b1bab9e359e74cb65"), looks := true }, kinds := [], alts := [], laidByText := true, laidKinds := [.data], laidTests := true, laidLooks := .later }
def SerialPauseUptoCardSaid : Prop := Claim7.holds Tryd.pinned (.plain (OpenSpec.upto serialPauseSpec)) serialPauseUptoCard

/-- THE SECOND FORM's CARD OF 'plunderlaw6.SerialSum'. -/
def serialSumUptoCard : Claim7 := { stood := { row := serialSumUptoRow, standIns := [], harness := (true, "7e50fc60487b1b17d20aa17b9d2853d852449e8b5bcbc13b1bab9e359e74cb65"), looks := true }, kinds := [], alts := [], laidByText := true, laidKinds := [.data], laidTests := true, laidLooks := .later }
def SerialSumUptoCardSaid : Prop := Claim7.holds Tryd.pinned (.plain (OpenSpec.upto serialSumSpec)) serialSumUptoCard

/-- THE SECOND FORM's CARD OF 'plunderlaw6.SerialFan'. -/
def serialFanUptoCard : Claim7 := { stood := { row := serialFanUptoRow, standIns := [], harness := (true, "7e50fc60487b1b17d20aa17b9d2853d852449e8b5bcbc13b1bab9e359e74cb65"), looks := true }, kinds := [], alts := [], laidByText := true, laidKinds := [.data], laidTests := true, laidLooks := .later }
def SerialFanUptoCardSaid : Prop := Claim7.holds Tryd.pinned (.plain (OpenSpec.upto serialFanSpec)) serialFanUptoCard
end Rows
end Go.Proofs.YtcioegimmjppcaaDoor
