-- PRINTED BY print.sh 35421559b90ae4d0a3588c463048766b98c2df88dd9212a6774a882060cdf62d: not written by this session
import Derived.Test.YtbahnialbffkeaaProg
import Derived.Below
import Derived.Deep.Draws
import Derived.Deep.AppendLies
import Derived.Maps.AppendAt
import Derived.OwnWalk
import Derived.Laws.BytesArg
import Derived.Laws.MakeOwn
import Derived.Laws.OwnMore
import Derived.Deep.OwnRows
import Derived.Tactics
import Derived.Lib.ConvBytes
import Derived.Laws.Slices
import Derived.WalkKit
import Derived.KernelRfl
import Derived.RowKit3
import Derived.Deep.LoopGhost
import Derived.Deep.QuietTactic
import Derived.BigQuiet
import Derived.WideLaws
import Derived.Deep.DeepCutAuto
import Derived.Deep.CutBlock
import Derived.Deep.RegionHeld3
import Derived.Laws.Rows
import Derived.Lib.AppendStr
import Derived.ArgAppend
import Derived.Laws.IdiomCopy
import Derived.OrdersHeld
import Derived.Laws.BitsLemmas
import Derived.RowKit
import Derived.Test.YtbahnialbffkeaaWWords
import Derived.Test.YtbahnialbffkeaaWLast
import Derived.Test.YtbahnialbffkeaaWTab
import Derived.Test.YtbahnialbffkeaaWFour
import Derived.Test.YtbahnialbffkeaaWQPut
import Derived.Test.YtbahnialbffkeaaWApart
import Derived.Test.YtbahnialbffkeaaWArr
import Derived.Test.YtbahnialbffkeaaWZeros
import Derived.Test.YtbahnialbffkeaaWFoot
import Derived.Test.YtbahnialbffkeaaWKept
import Derived.Test.YtbahnialbffkeaaWShare
import Derived.Test.YtbahnialbffkeaaWN
import Derived.Test.YtbahnialbffkeaaWFootNe
import Derived.Test.YtbahnialbffkeaaWAt
import Derived.Test.YtbahnialbffkeaaWEqStruct
import Derived.Test.YtbahnialbffkeaaWRepsOne
import Derived.Test.YtbahnialbffkeaaWInv
import Derived.Test.YtbahnialbffkeaaWInvWords
import Derived.Test.YtbahnialbffkeaaWGuard
import Derived.Test.YtbahnialbffkeaaWNEv
import Derived.Test.YtbahnialbffkeaaWMore
namespace Go.Proofs.Ytbahnialbffkeaa.PSerialPed
open Go.RowKit Go.Proofs.YtbahnialbffkeaaW.PrintWords Go.Proofs.YtbahnialbffkeaaW.PrintLast Go.Proofs.YtbahnialbffkeaaW.PrintMore
attribute [local go_sem] max2_int min2_int max_two min_two max_three min_three max_four min_four   -- for this text's walks alone
set_option linter.unusedVariables false
set_option linter.unusedSimpArgs false



def errW : Option Int → Value
  | none => .nilIface
  | some c => .iface 0 (.int .i64 c)
theorem errW_none : errW none = .nilIface := rfl
theorem errW_some (c : Int) : errW (some c) = .iface 0 (.int .i64 c) := rfl

-- the values' own types

end Go.Proofs.Ytbahnialbffkeaa.PSerialPed
