/-
Words for the proofs of this seat: those that its texts use; no conditions beyond those written in each.
-/
import Derived.Test.YtamdgigcngeanaaDoorWInv
import Derived.Test.YtamdgigcngeanaaDoorWFootNe
namespace Go.Proofs.YtamdgigcngeanaaDoorW.PrintWords
open Go.RowKit
end Go.Proofs.YtamdgigcngeanaaDoorW.PrintWords
namespace Go.Proofs.YtamdgigcngeanaaDoorW.PrintLast
section
variable {ops : Array Oper} {a : Act} {o og : Oper} {g : Nat} {t : Tmp} {u : Bool}
end
end Go.Proofs.YtamdgigcngeanaaDoorW.PrintLast
