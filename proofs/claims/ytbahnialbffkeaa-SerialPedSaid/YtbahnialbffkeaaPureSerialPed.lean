/- SerialPed: the program's pedigree of a child is the document's, for every parent's pedigree and every index. No conditions. -/
import Derived.Test.YtbahnialbffkeaaPSerialPedx1
namespace Go.Proofs.Ytbahnialbffkeaa.Pure
open Go.RowKit Go.Proofs.Ytbahnialbffkeaa.PSerialPed Go.Proofs.YtbahnialbffkeaaW.PrintWords Go.Proofs.YtbahnialbffkeaaW.PrintLast

theorem SerialPed : plunderlaw6_SerialPed.Pure := by
  intro a0 a1 _ _
  simp [plunderlaw6_SerialPed.f, serial_Ped.f, plunderref6_Ped.f]

end Go.Proofs.Ytbahnialbffkeaa.Pure
