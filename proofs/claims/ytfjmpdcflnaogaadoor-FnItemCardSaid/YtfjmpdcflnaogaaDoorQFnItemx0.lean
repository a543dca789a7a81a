/-
Plain functions for the Go functions that a law reaches, each with a proof that the translation's call comes to just that; no conditions beyond those written in each.
-/
import Derived.Test.YtfjmpdcflnaogaaDoorProg
import Derived.Below
import Derived.Deep.Draws
import Derived.Deep.AppendLies
import Derived.Maps.AppendAt
import Derived.OwnWalk
import Derived.Laws.BytesArg
import Derived.Laws.MakeOwn
import Derived.Laws.OwnMore
import Derived.Deep.OwnRows
import Derived.Tactics
import Derived.Lib.ConvBytes
import Derived.Laws.Slices
import Derived.WalkKit
import Derived.KernelRfl
import Derived.RowKit3
import Derived.Deep.LoopGhost
import Derived.Deep.QuietTactic
import Derived.BigQuiet
import Derived.WideLaws
import Derived.Deep.DeepCutAuto
import Derived.Deep.CutBlock
import Derived.Deep.RegionHeld3
import Derived.Laws.Rows
import Derived.Lib.AppendStr
import Derived.ArgAppend
import Derived.Laws.IdiomCopy
import Derived.OrdersHeld
import Derived.Laws.BitsLemmas
import Derived.RowKit
import Derived.Lib.Bytealg
import Derived.Laws.Externs
import Derived.Lib.SliceRun
import Derived.LoopN
import Derived.Test.YtfjmpdcflnaogaaDoorItoa
import Derived.Test.YtfjmpdcflnaogaaDoorHex
import Derived.Test.YtfjmpdcflnaogaaDoorAtoi
import Derived.Test.YtfjmpdcflnaogaaDoorParseHex
import Derived.Test.YtfjmpdcflnaogaaDoorWWords
import Derived.Test.YtfjmpdcflnaogaaDoorWLast
import Derived.Test.YtfjmpdcflnaogaaDoorWTab
import Derived.Test.YtfjmpdcflnaogaaDoorWFour
import Derived.Test.YtfjmpdcflnaogaaDoorWQPut
import Derived.Test.YtfjmpdcflnaogaaDoorWApart
import Derived.Test.YtfjmpdcflnaogaaDoorWArr
import Derived.Test.YtfjmpdcflnaogaaDoorWZeros
import Derived.Test.YtfjmpdcflnaogaaDoorWFoot
import Derived.Test.YtfjmpdcflnaogaaDoorWKept
import Derived.Test.YtfjmpdcflnaogaaDoorWShare
import Derived.Test.YtfjmpdcflnaogaaDoorWN
import Derived.Test.YtfjmpdcflnaogaaDoorWFootNe
import Derived.Test.YtfjmpdcflnaogaaDoorWAt
import Derived.Test.YtfjmpdcflnaogaaDoorWEqStruct
import Derived.Test.YtfjmpdcflnaogaaDoorWRepsOne
import Derived.Test.YtfjmpdcflnaogaaDoorWInv
import Derived.Test.YtfjmpdcflnaogaaDoorWInvWords
import Derived.Test.YtfjmpdcflnaogaaDoorWGuard
import Derived.Test.YtfjmpdcflnaogaaDoorWNEv
import Derived.Test.YtfjmpdcflnaogaaDoorWMore
namespace Go.Proofs.YtfjmpdcflnaogaaDoor.QFnItem
open Go.RowKit Go.Proofs.YtfjmpdcflnaogaaDoorW.PrintWords Go.Proofs.YtfjmpdcflnaogaaDoorW.PrintLast Go.Proofs.YtfjmpdcflnaogaaDoorW.PrintMore
attribute [local go_sem] max2_int min2_int max_two min_two max_three min_three max_four min_four   -- for this text's walks alone
set_option linter.unusedVariables false
set_option linter.unusedSimpArgs false



def errW : Option Int → Value
  | none => .nilIface
  | some c => .iface 0 (.int .i64 c)
theorem errW_none : errW none = .nilIface := rfl
theorem errW_some (c : Int) : errW (some c) = .iface 0 (.int .i64 c) := rfl

theorem info3 : (Tryd.prog.info? 3).map (fun i => (i.zero, i.size, i.bytes)) = some (some (.int .i64 0), 1, 8) := by kernel_rfl
theorem info5 : (Tryd.prog.info? 5).map (fun i => (i.zero, i.size, i.bytes)) = some (some (.int .u8 0), 1, 1) := by kernel_rfl
theorem info9 : (Tryd.prog.info? 9).map (fun i => (i.zero, i.size, i.bytes)) = some (some (.string ⟨#[]⟩), 1, 16) := by kernel_rfl
theorem info22 : (Tryd.prog.info? 22).map (fun i => (i.zero, i.size, i.bytes)) = some (some (.int .u32 0), 1, 4) := by kernel_rfl
-- the values' own types

end Go.Proofs.YtfjmpdcflnaogaaDoor.QFnItem
