/-
Plain functions for the Go functions that a law reaches, each with a proof that the translation's call comes to just that; no conditions beyond those written in each.
-/
import Derived.Test.YtbgnhdnbgobeeaaProg
import Derived.Below
import Derived.Deep.Draws
import Derived.Deep.AppendLies
import Derived.Maps.AppendAt
import Derived.OwnWalk
import Derived.Laws.BytesArg
import Derived.Laws.MakeOwn
import Derived.Laws.OwnMore
import Derived.Deep.OwnRows
import Derived.Tactics
import Derived.Lib.ConvBytes
import Derived.Laws.Slices
import Derived.WalkKit
import Derived.KernelRfl
import Derived.RowKit3
import Derived.Deep.LoopGhost
import Derived.Deep.QuietTactic
import Derived.BigQuiet
import Derived.WideLaws
import Derived.Deep.DeepCutAuto
import Derived.Deep.CutBlock
import Derived.Deep.RegionHeld3
import Derived.Laws.Rows
import Derived.Lib.AppendStr
import Derived.ArgAppend
import Derived.Laws.IdiomCopy
import Derived.OrdersHeld
import Derived.Laws.BitsLemmas
import Derived.RowKit
import Derived.Lib.Bytealg
import Derived.Laws.Externs
import Derived.Lib.SliceRun
import Derived.LoopN
import Derived.Test.YtbgnhdnbgobeeaaWWords
import Derived.Test.YtbgnhdnbgobeeaaWLast
import Derived.Test.YtbgnhdnbgobeeaaWTab
import Derived.Test.YtbgnhdnbgobeeaaWFour
import Derived.Test.YtbgnhdnbgobeeaaWQPut
import Derived.Test.YtbgnhdnbgobeeaaWApart
import Derived.Test.YtbgnhdnbgobeeaaWArr
import Derived.Test.YtbgnhdnbgobeeaaWZeros
import Derived.Test.YtbgnhdnbgobeeaaWFoot
import Derived.Test.YtbgnhdnbgobeeaaWKept
import Derived.Test.YtbgnhdnbgobeeaaWShare
import Derived.Test.YtbgnhdnbgobeeaaWN
import Derived.Test.YtbgnhdnbgobeeaaWFootNe
import Derived.Test.YtbgnhdnbgobeeaaWAt
import Derived.Test.YtbgnhdnbgobeeaaWEqStruct
import Derived.Test.YtbgnhdnbgobeeaaWRepsOne
import Derived.Test.YtbgnhdnbgobeeaaWInv
import Derived.Test.YtbgnhdnbgobeeaaWInvWords
import Derived.Test.YtbgnhdnbgobeeaaWGuard
import Derived.Test.YtbgnhdnbgobeeaaWNEv
import Derived.Test.YtbgnhdnbgobeeaaWMore
namespace Go.Proofs.Ytbgnhdnbgobeeaa.QFnExactStoreOk
open Go.RowKit Go.Proofs.YtbgnhdnbgobeeaaW.PrintWords Go.Proofs.YtbgnhdnbgobeeaaW.PrintLast Go.Proofs.YtbgnhdnbgobeeaaW.PrintMore
attribute [local go_sem] max2_int min2_int max_two min_two max_three min_three max_four min_four   -- for this text's walks alone
set_option linter.unusedVariables false
set_option linter.unusedSimpArgs false



def errW : Option Int → Value
  | none => .nilIface
  | some c => .iface 0 (.int .i64 c)
theorem errW_none : errW none = .nilIface := rfl
theorem errW_some (c : Int) : errW (some c) = .iface 0 (.int .i64 c) := rfl

theorem info29 : (Try.prog.info? 29).map (fun i => (i.zero, i.size, i.bytes)) = some (some (.int .u32 0), 1, 4) := by kernel_rfl
-- the values' own types

end Go.Proofs.Ytbgnhdnbgobeeaa.QFnExactStoreOk
