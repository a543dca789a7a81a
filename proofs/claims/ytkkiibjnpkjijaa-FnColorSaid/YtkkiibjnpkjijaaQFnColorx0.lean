/-
Plain functions for the Go functions that a law reaches, each with a proof that the translation's call comes to just that; no conditions beyond those written in each.
-/
import Derived.Test.YtkkiibjnpkjijaaProg
import Derived.Below
import Derived.Deep.Draws
import Derived.Deep.AppendLies
import Derived.Maps.AppendAt
import Derived.OwnWalk
import Derived.Laws.BytesArg
import Derived.Laws.MakeOwn
import Derived.Laws.OwnMore
import Derived.Deep.OwnRows
import Derived.Tactics
import Derived.Lib.ConvBytes
import Derived.Laws.Slices
import Derived.WalkKit
import Derived.KernelRfl
import Derived.RowKit3
import Derived.Deep.LoopGhost
import Derived.Deep.QuietTactic
import Derived.BigQuiet
import Derived.WideLaws
import Derived.Deep.DeepCutAuto
import Derived.Deep.CutBlock
import Derived.Deep.RegionHeld3
import Derived.Laws.Rows
import Derived.Lib.AppendStr
import Derived.ArgAppend
import Derived.Laws.IdiomCopy
import Derived.OrdersHeld
import Derived.Laws.BitsLemmas
import Derived.RowKit
import Derived.Lib.Bytealg
import Derived.Laws.Externs
import Derived.Lib.SliceRun
import Derived.LoopN
import Derived.Laws.CopyOwn
import Derived.Test.YtkkiibjnpkjijaaWWords
import Derived.Test.YtkkiibjnpkjijaaWLast
import Derived.Test.YtkkiibjnpkjijaaWTab
import Derived.Test.YtkkiibjnpkjijaaWFour
import Derived.Test.YtkkiibjnpkjijaaWQPut
import Derived.Test.YtkkiibjnpkjijaaWApart
import Derived.Test.YtkkiibjnpkjijaaWArr
import Derived.Test.YtkkiibjnpkjijaaWZeros
import Derived.Test.YtkkiibjnpkjijaaWFoot
import Derived.Test.YtkkiibjnpkjijaaWKept
import Derived.Test.YtkkiibjnpkjijaaWShare
import Derived.Test.YtkkiibjnpkjijaaWN
import Derived.Test.YtkkiibjnpkjijaaWFootNe
import Derived.Test.YtkkiibjnpkjijaaWAt
import Derived.Test.YtkkiibjnpkjijaaWEqStruct
import Derived.Test.YtkkiibjnpkjijaaWRepsOne
import Derived.Test.YtkkiibjnpkjijaaWInv
import Derived.Test.YtkkiibjnpkjijaaWInvWords
import Derived.Test.YtkkiibjnpkjijaaWGuard
import Derived.Test.YtkkiibjnpkjijaaWNEv
import Derived.Test.YtkkiibjnpkjijaaWMore
namespace Go.Proofs.Ytkkiibjnpkjijaa.QFnColor
open Go.RowKit Go.Proofs.YtkkiibjnpkjijaaW.PrintWords Go.Proofs.YtkkiibjnpkjijaaW.PrintLast Go.Proofs.YtkkiibjnpkjijaaW.PrintMore
attribute [local go_sem] max2_int min2_int max_two min_two max_three min_three max_four min_four   -- for this text's walks alone
set_option linter.unusedVariables false
set_option linter.unusedSimpArgs false



def errW : Option Int → Value
  | none => .nilIface
  | some c => .iface 0 (.int .i64 c)
theorem errW_none : errW none = .nilIface := rfl
theorem errW_some (c : Int) : errW (some c) = .iface 0 (.int .i64 c) := rfl

theorem info3 : (Try.prog.info? 3).map (fun i => (i.zero, i.size, i.bytes)) = some (some (.int .i64 0), 1, 8) := by kernel_rfl
theorem info5 : (Try.prog.info? 5).map (fun i => (i.zero, i.size, i.bytes)) = some (some (.int .u8 0), 1, 1) := by kernel_rfl
theorem info9 : (Try.prog.info? 9).map (fun i => (i.zero, i.size, i.bytes)) = some (some (.string ⟨#[]⟩), 1, 16) := by kernel_rfl
theorem info47 : (Try.prog.info? 47).map (fun i => (i.zero, i.size, i.bytes)) = some (some (.int .u32 0), 1, 4) := by kernel_rfl
-- the values' own types

end Go.Proofs.Ytkkiibjnpkjijaa.QFnColor
