/-
Words for the proofs of this seat: those that its texts use; no conditions beyond those written in each.
-/
import Derived.Test.YtfjmpdcflnaogaaDoorWInv
import Derived.Test.YtfjmpdcflnaogaaDoorWFootNe
namespace Go.Proofs.YtfjmpdcflnaogaaDoorW.PrintWords
open Go.RowKit
end Go.Proofs.YtfjmpdcflnaogaaDoorW.PrintWords
namespace Go.Proofs.YtfjmpdcflnaogaaDoorW.PrintLast
section
variable {ops : Array Oper} {a : Act} {o og : Oper} {g : Nat} {t : Tmp} {u : Bool}
end
end Go.Proofs.YtfjmpdcflnaogaaDoorW.PrintLast
