/- Plain law: firstPlaced; the deeds turned keep whole numbers. -/
import Derived.Test.YtkecgjmbamaejaaPAPx0
import Derived.Test.YtkecgjmbamaejaaPAPx1
import Derived.Test.YtkecgjmbamaejaaPAPx3
import Derived.Test.YtkecgjmbamaejaaPAPx2
import Derived.Test.YtkecgjmbamaejaaPALate
import Derived.Test.YtkecgjmbamaejaaPARB
import Derived.Test.YtkecgjmbamaejaaPALat
import Derived.Deep.DeepCutAuto
import Derived.Test.YtkecgjmbamaejaaPARH
import Derived.Test.YtkecgjmbamaejaaPAPx8
import Derived.Test.YtkecgjmbamaejaaPARC
set_option linter.unusedVariables false
set_option linter.unusedSimpArgs false
namespace Go.Proofs.Ytkecgjmbamaejaa.P
open Go.RowKit Go.Proofs.YtkecgjmbamaejaaW.PrintWords Go.Proofs.YtkecgjmbamaejaaW.PrintLast Go.Proofs.YtkecgjmbamaejaaW.PrintMore
set_option linter.unusedVariables false
set_option linter.unusedSimpArgs false
set_option maxHeartbeats 1000000

abbrev RI (W : World) (base : Nat) (ok : Nat → Prop) (v : Value) (l : List Int) : Prop := Kd.R (Kd.int .i64) 3 W base ok v l

/-- the row is still there, in front of what has been laid behind it -/
def HD (b : Nat) (W : World) (u : Value) (l : List Int) : Prop := ∃ v' y, RI W b (fun k => some k = u.ownBlock) v' y ∧ v'.ownBlock = u.ownBlock ∧ l <+: y

end Go.Proofs.Ytkecgjmbamaejaa.P
namespace Go.Proofs.Ytkecgjmbamaejaa.P
open Go.RowKit Go.Proofs.YtkecgjmbamaejaaW.PrintWords Go.Proofs.YtkecgjmbamaejaaW.PrintLast Go.Proofs.YtkecgjmbamaejaaW.PrintMore
set_option linter.unusedVariables false

end Go.Proofs.Ytkecgjmbamaejaa.P
namespace Go.Proofs.Ytkecgjmbamaejaa.P
open Go.RowKit Go.Proofs.YtkecgjmbamaejaaW.PrintWords Go.Proofs.YtkecgjmbamaejaaW.PrintLast Go.Proofs.YtkecgjmbamaejaaW.PrintMore
set_option linter.unusedVariables false
set_option linter.unusedSimpArgs false
set_option maxHeartbeats 1000000

theorem HD.kept {b : Nat} {W w' : World} {u : Value} {l : List Int} {S : Nat → Prop} (h : HD b W u l) (hk : Kept W w' S) (ne : ∀ k, some k = u.ownBlock → ¬ S k) : HD b w' u l := by
  obtain ⟨v', y, h1, h2, h3⟩ := h
  exact ⟨v', y, Kd.R_step h1 (fun k ho hlt => hk.2 k hlt (ne k ho)), h2, h3⟩

end Go.Proofs.Ytkecgjmbamaejaa.P
namespace Go.Proofs.Ytkecgjmbamaejaa.P
open Go.RowKit Go.Proofs.YtkecgjmbamaejaaW.PrintWords Go.Proofs.YtkecgjmbamaejaaW.PrintLast Go.Proofs.YtkecgjmbamaejaaW.PrintMore
set_option linter.unusedVariables false
end Go.Proofs.Ytkecgjmbamaejaa.P
