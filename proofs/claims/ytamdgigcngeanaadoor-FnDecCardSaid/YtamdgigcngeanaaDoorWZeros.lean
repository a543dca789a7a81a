/-
Words for the proofs of this seat: those that its texts use; no conditions beyond those written in each.
-/
import Derived.Test.YtamdgigcngeanaaDoorWApart
import Derived.Test.YtamdgigcngeanaaDoorWArr
namespace Go.Proofs.YtamdgigcngeanaaDoorW.PrintWords
open Go.RowKit
section
variable {P : Program}
end
namespace Kd
section
variable {P : Program} {ops : Array Oper} {rest : List Oper} {o : Oper} {a : Act} {Q : Exit → Act → World → Prop} {Kc : Act → World → Prop} {α : Type}
end
section
variable {α : Type} {d : Kd α} {e : Nat} {w : World} {base : Nat} {ok : Nat → Prop} {v : Value} {xs : List α}
end
section
variable {P : Program} {ops : Array Oper} {rest : List Oper} {o : Oper} {a : Act} {Q : Exit → Act → World → Prop} {Kc : Act → World → Prop} {α : Type}
end
end Kd
end Go.Proofs.YtamdgigcngeanaaDoorW.PrintWords
