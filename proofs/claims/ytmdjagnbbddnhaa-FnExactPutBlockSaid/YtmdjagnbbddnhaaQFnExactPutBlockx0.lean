/-
Plain functions for the Go functions that a law reaches, each with a proof that the translation's call comes to just that; no conditions beyond those written in each.
-/
import Derived.Test.YtmdjagnbbddnhaaProg
import Derived.Below
import Derived.Deep.Draws
import Derived.Deep.AppendLies
import Derived.Maps.AppendAt
import Derived.OwnWalk
import Derived.Laws.BytesArg
import Derived.Laws.MakeOwn
import Derived.Laws.OwnMore
import Derived.Deep.OwnRows
import Derived.Tactics
import Derived.Lib.ConvBytes
import Derived.Laws.Slices
import Derived.WalkKit
import Derived.KernelRfl
import Derived.RowKit3
import Derived.Deep.LoopGhost
import Derived.Deep.QuietTactic
import Derived.BigQuiet
import Derived.WideLaws
import Derived.Deep.DeepCutAuto
import Derived.Deep.CutBlock
import Derived.Deep.RegionHeld3
import Derived.Laws.Rows
import Derived.Lib.AppendStr
import Derived.ArgAppend
import Derived.Laws.IdiomCopy
import Derived.OrdersHeld
import Derived.Laws.BitsLemmas
import Derived.RowKit
import Derived.Lib.Bytealg
import Derived.Laws.Externs
import Derived.Lib.SliceRun
import Derived.LoopN
import Derived.Laws.CopyOwn
import Derived.Test.YtmdjagnbbddnhaaWWords
import Derived.Test.YtmdjagnbbddnhaaWLast
import Derived.Test.YtmdjagnbbddnhaaWTab
import Derived.Test.YtmdjagnbbddnhaaWFour
import Derived.Test.YtmdjagnbbddnhaaWQPut
import Derived.Test.YtmdjagnbbddnhaaWApart
import Derived.Test.YtmdjagnbbddnhaaWArr
import Derived.Test.YtmdjagnbbddnhaaWZeros
import Derived.Test.YtmdjagnbbddnhaaWFoot
import Derived.Test.YtmdjagnbbddnhaaWKept
import Derived.Test.YtmdjagnbbddnhaaWShare
import Derived.Test.YtmdjagnbbddnhaaWN
import Derived.Test.YtmdjagnbbddnhaaWFootNe
import Derived.Test.YtmdjagnbbddnhaaWAt
import Derived.Test.YtmdjagnbbddnhaaWEqStruct
import Derived.Test.YtmdjagnbbddnhaaWRepsOne
import Derived.Test.YtmdjagnbbddnhaaWInv
import Derived.Test.YtmdjagnbbddnhaaWInvWords
import Derived.Test.YtmdjagnbbddnhaaWGuard
import Derived.Test.YtmdjagnbbddnhaaWNEv
import Derived.Test.YtmdjagnbbddnhaaWMore
namespace Go.Proofs.Ytmdjagnbbddnhaa.QFnExactPutBlock
open Go.RowKit Go.Proofs.YtmdjagnbbddnhaaW.PrintWords Go.Proofs.YtmdjagnbbddnhaaW.PrintLast Go.Proofs.YtmdjagnbbddnhaaW.PrintMore
attribute [local go_sem] max2_int min2_int max_two min_two max_three min_three max_four min_four   -- for this text's walks alone
set_option linter.unusedVariables false
set_option linter.unusedSimpArgs false



def errW : Option Int → Value
  | none => .nilIface
  | some c => .iface 0 (.int .i64 c)
theorem errW_none : errW none = .nilIface := rfl
theorem errW_some (c : Int) : errW (some c) = .iface 0 (.int .i64 c) := rfl

theorem info3 : (Try.prog.info? 3).map (fun i => (i.zero, i.size, i.bytes)) = some (some (.int .i64 0), 1, 8) := by kernel_rfl
theorem info28 : (Try.prog.info? 28).map (fun i => (i.zero, i.size, i.bytes)) = some (some (.int .u32 0), 1, 4) := by kernel_rfl
-- the values' own types

end Go.Proofs.Ytmdjagnbbddnhaa.QFnExactPutBlock
