/-
Plain functions for the Go functions that a law reaches, each with a proof that the translation's call comes to just that; no conditions beyond those written in each.
-/
import Derived.Test.YtcfihncnendkgaaProg
import Derived.Below
import Derived.Deep.Draws
import Derived.Deep.AppendLies
import Derived.Maps.AppendAt
import Derived.OwnWalk
import Derived.Laws.BytesArg
import Derived.Laws.MakeOwn
import Derived.Laws.OwnMore
import Derived.Deep.OwnRows
import Derived.Tactics
import Derived.Lib.ConvBytes
import Derived.Laws.Slices
import Derived.WalkKit
import Derived.KernelRfl
import Derived.RowKit3
import Derived.Deep.LoopGhost
import Derived.Deep.QuietTactic
import Derived.BigQuiet
import Derived.WideLaws
import Derived.Deep.DeepCutAuto
import Derived.Deep.CutBlock
import Derived.Deep.RegionHeld3
import Derived.Laws.Rows
import Derived.Lib.AppendStr
import Derived.ArgAppend
import Derived.Laws.IdiomCopy
import Derived.OrdersHeld
import Derived.Laws.BitsLemmas
import Derived.RowKit
import Derived.Lib.Bytealg
import Derived.Laws.Externs
import Derived.Lib.SliceRun
import Derived.LoopN
import Derived.Test.YtcfihncnendkgaaWWords
import Derived.Test.YtcfihncnendkgaaWLast
import Derived.Test.YtcfihncnendkgaaWTab
import Derived.Test.YtcfihncnendkgaaWFour
import Derived.Test.YtcfihncnendkgaaWQPut
import Derived.Test.YtcfihncnendkgaaWApart
import Derived.Test.YtcfihncnendkgaaWArr
import Derived.Test.YtcfihncnendkgaaWZeros
import Derived.Test.YtcfihncnendkgaaWFoot
import Derived.Test.YtcfihncnendkgaaWKept
import Derived.Test.YtcfihncnendkgaaWShare
import Derived.Test.YtcfihncnendkgaaWN
import Derived.Test.YtcfihncnendkgaaWFootNe
import Derived.Test.YtcfihncnendkgaaWAt
import Derived.Test.YtcfihncnendkgaaWEqStruct
import Derived.Test.YtcfihncnendkgaaWRepsOne
import Derived.Test.YtcfihncnendkgaaWInv
import Derived.Test.YtcfihncnendkgaaWInvWords
import Derived.Test.YtcfihncnendkgaaWGuard
import Derived.Test.YtcfihncnendkgaaWNEv
import Derived.Test.YtcfihncnendkgaaWMore
namespace Go.Proofs.Ytcfihncnendkgaa.QFnFields
open Go.RowKit Go.Proofs.YtcfihncnendkgaaW.PrintWords Go.Proofs.YtcfihncnendkgaaW.PrintLast Go.Proofs.YtcfihncnendkgaaW.PrintMore
attribute [local go_sem] max2_int min2_int max_two min_two max_three min_three max_four min_four   -- for this text's walks alone
set_option linter.unusedVariables false
set_option linter.unusedSimpArgs false



def errW : Option Int → Value
  | none => .nilIface
  | some c => .iface 0 (.int .i64 c)
theorem errW_none : errW none = .nilIface := rfl
theorem errW_some (c : Int) : errW (some c) = .iface 0 (.int .i64 c) := rfl

theorem info5 : (Try.prog.info? 5).map (fun i => (i.zero, i.size, i.bytes)) = some (some (.int .u8 0), 1, 1) := by kernel_rfl
theorem info9 : (Try.prog.info? 9).map (fun i => (i.zero, i.size, i.bytes)) = some (some (.string ⟨#[]⟩), 1, 16) := by kernel_rfl
theorem info22 : (Try.prog.info? 22).map (fun i => (i.zero, i.size, i.bytes)) = some (some (.int .u32 0), 1, 4) := by kernel_rfl
-- the values' own types

end Go.Proofs.Ytcfihncnendkgaa.QFnFields
