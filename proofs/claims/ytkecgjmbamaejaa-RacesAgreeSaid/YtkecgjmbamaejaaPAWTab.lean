-- PRINTED BY print.sh 35421559b90ae4d0a3588c463048766b98c2df88dd9212a6774a882060cdf62d: not written by this session
import Derived.Test.YtkecgjmbamaejaaPAWLast
import Derived.Test.YtkecgjmbamaejaaPAWWords
namespace Go.Proofs.YtkecgjmbamaejaaW.PrintLast
open Go.Proofs.YtkecgjmbamaejaaW.PrintWords (Aside0)
section
variable {md : Region.Mode} {ops : Array Oper} {T : Bool × List (List Nat × List Nat)} {l l' li lj lk : Array Bool} {ds : List Nat} {i j k : Nat}
end
end Go.Proofs.YtkecgjmbamaejaaW.PrintLast

