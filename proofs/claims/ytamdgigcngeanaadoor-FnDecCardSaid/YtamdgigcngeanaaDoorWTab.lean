/-
Words for the proofs of this seat: those that its texts use; no conditions beyond those written in each.
-/
import Derived.Test.YtamdgigcngeanaaDoorWLast
import Derived.Test.YtamdgigcngeanaaDoorWWords
namespace Go.Proofs.YtamdgigcngeanaaDoorW.PrintLast
open Go.Proofs.YtamdgigcngeanaaDoorW.PrintWords (Aside0)
section
variable {md : Region.Mode} {ops : Array Oper} {T : Bool × List (List Nat × List Nat)} {l l' li lj lk : Array Bool} {ds : List Nat} {i j k : Nat}
end
end Go.Proofs.YtamdgigcngeanaaDoorW.PrintLast
