/-
Plain functions for the Go functions that a law reaches, each with a proof that the translation's call comes to just that; no conditions beyond those written in each.
-/
import Derived.Test.YtamdgigcngeanaaDoorProg
import Derived.Below
import Derived.Deep.Draws
import Derived.Deep.AppendLies
import Derived.Maps.AppendAt
import Derived.OwnWalk
import Derived.Laws.BytesArg
import Derived.Laws.MakeOwn
import Derived.Laws.OwnMore
import Derived.Deep.OwnRows
import Derived.Tactics
import Derived.Lib.ConvBytes
import Derived.Laws.Slices
import Derived.WalkKit
import Derived.KernelRfl
import Derived.RowKit3
import Derived.Deep.LoopGhost
import Derived.Deep.QuietTactic
import Derived.BigQuiet
import Derived.WideLaws
import Derived.Deep.DeepCutAuto
import Derived.Deep.CutBlock
import Derived.Deep.RegionHeld3
import Derived.Laws.Rows
import Derived.Lib.AppendStr
import Derived.ArgAppend
import Derived.Laws.IdiomCopy
import Derived.OrdersHeld
import Derived.Laws.BitsLemmas
import Derived.RowKit
import Derived.Lib.Bytealg
import Derived.Laws.Externs
import Derived.Lib.SliceRun
import Derived.LoopN
import Derived.Test.YtamdgigcngeanaaDoorItoa
import Derived.Test.YtamdgigcngeanaaDoorHex
import Derived.Test.YtamdgigcngeanaaDoorAtoi
import Derived.Test.YtamdgigcngeanaaDoorParseHex
import Derived.Test.YtamdgigcngeanaaDoorWWords
import Derived.Test.YtamdgigcngeanaaDoorWLast
import Derived.Test.YtamdgigcngeanaaDoorWTab
import Derived.Test.YtamdgigcngeanaaDoorWFour
import Derived.Test.YtamdgigcngeanaaDoorWQPut
import Derived.Test.YtamdgigcngeanaaDoorWApart
import Derived.Test.YtamdgigcngeanaaDoorWArr
import Derived.Test.YtamdgigcngeanaaDoorWZeros
import Derived.Test.YtamdgigcngeanaaDoorWFoot
import Derived.Test.YtamdgigcngeanaaDoorWKept
import Derived.Test.YtamdgigcngeanaaDoorWShare
import Derived.Test.YtamdgigcngeanaaDoorWN
import Derived.Test.YtamdgigcngeanaaDoorWFootNe
import Derived.Test.YtamdgigcngeanaaDoorWAt
import Derived.Test.YtamdgigcngeanaaDoorWEqStruct
import Derived.Test.YtamdgigcngeanaaDoorWRepsOne
import Derived.Test.YtamdgigcngeanaaDoorWInv
import Derived.Test.YtamdgigcngeanaaDoorWInvWords
import Derived.Test.YtamdgigcngeanaaDoorWGuard
import Derived.Test.YtamdgigcngeanaaDoorWNEv
import Derived.Test.YtamdgigcngeanaaDoorWMore
namespace Go.Proofs.YtamdgigcngeanaaDoor.QFnDec
open Go.RowKit Go.Proofs.YtamdgigcngeanaaDoorW.PrintWords Go.Proofs.YtamdgigcngeanaaDoorW.PrintLast Go.Proofs.YtamdgigcngeanaaDoorW.PrintMore
attribute [local go_sem] max2_int min2_int max_two min_two max_three min_three max_four min_four   -- for this text's walks alone
set_option linter.unusedVariables false
set_option linter.unusedSimpArgs false



def errW : Option Int → Value
  | none => .nilIface
  | some c => .iface 0 (.int .i64 c)
theorem errW_none : errW none = .nilIface := rfl
theorem errW_some (c : Int) : errW (some c) = .iface 0 (.int .i64 c) := rfl

theorem info3 : (Tryd.prog.info? 3).map (fun i => (i.zero, i.size, i.bytes)) = some (some (.int .i64 0), 1, 8) := by kernel_rfl
-- the values' own types

end Go.Proofs.YtamdgigcngeanaaDoor.QFnDec
