/-
Words for the proofs of this seat: those that its texts use; no conditions beyond those written in each.
-/
import Derived.Test.YtkkiibjnpkjijaaWInv
import Derived.Test.YtkkiibjnpkjijaaWFootNe
namespace Go.Proofs.YtkkiibjnpkjijaaW.PrintWords
open Go.RowKit
end Go.Proofs.YtkkiibjnpkjijaaW.PrintWords
namespace Go.Proofs.YtkkiibjnpkjijaaW.PrintLast
section
variable {ops : Array Oper} {a : Act} {o og : Oper} {g : Nat} {t : Tmp} {u : Bool}
end
end Go.Proofs.YtkkiibjnpkjijaaW.PrintLast
