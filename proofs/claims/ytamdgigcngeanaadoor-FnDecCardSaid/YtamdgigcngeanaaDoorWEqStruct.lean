/-
Words for the proofs of this seat: those that its texts use; no conditions beyond those written in each.
-/
import Derived.Test.YtamdgigcngeanaaDoorWWords
import Derived.Laws.StructEq
namespace Go.Proofs.YtamdgigcngeanaaDoorW.PrintWords
open Go.RowKit
section
variable {P : Program} {d : Nat} {xs ys : Array Value} {f : Field} {fs : List Field} {a b : Value} {r s : Bool} {w : World}
end
end Go.Proofs.YtamdgigcngeanaaDoorW.PrintWords
