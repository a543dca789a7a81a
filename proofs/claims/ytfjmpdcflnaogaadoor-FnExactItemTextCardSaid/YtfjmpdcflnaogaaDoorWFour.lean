/-
Words for the proofs of this seat: those that its texts use; no conditions beyond those written in each.
-/
import Derived.Test.YtfjmpdcflnaogaaDoorWTab
namespace Go.Proofs.YtfjmpdcflnaogaaDoorW.PrintLast
section
variable {P : Program} {ops : Array Oper} {Q : Exit → Act → World → Prop} {md : Region.Mode} {S : World → Prop} {ds : List Nat} {T : Bool × List (List Nat × List Nat)}
end
end Go.Proofs.YtfjmpdcflnaogaaDoorW.PrintLast
