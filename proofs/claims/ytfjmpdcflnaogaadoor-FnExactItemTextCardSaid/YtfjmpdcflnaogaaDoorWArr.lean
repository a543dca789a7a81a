/-
Words for the proofs of this seat: those that its texts use; no conditions beyond those written in each.
-/
import Derived.Test.YtfjmpdcflnaogaaDoorWWords
namespace Go.Proofs.YtfjmpdcflnaogaaDoorW.PrintWords
open Go.RowKit
namespace Kd
section
variable {α : Type} {n : Nat} {d : Kd α} {hs : 0 < d.sz} {w : World} {base : Nat} {ok : Nat → Prop} {xs : List α} {cs : List Value}
end
section
variable {α : Type} {n : Nat} {enc : α → Value} {h1 : ∀ x, (enc x).oneCell' = true} {hs : 0 < (scalar enc h1).sz} {w : World} {base : Nat} {ok : Nat → Prop} {xs : List α} {cs : List Value}
end
end Kd
end Go.Proofs.YtfjmpdcflnaogaaDoorW.PrintWords
