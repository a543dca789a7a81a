/-
Plain functions for the Go functions that a law reaches, each with a proof that the translation's call comes to just that; no conditions beyond those written in each.
-/
import Derived.Test.YtfjmpdcflnaogaaDoorProg
import Derived.Below
import Derived.Deep.Draws
import Derived.Deep.AppendLies
import Derived.Maps.AppendAt
import Derived.OwnWalk
import Derived.Laws.BytesArg
import Derived.Laws.MakeOwn
import Derived.Laws.OwnMore
import Derived.Deep.OwnRows
import Derived.Tactics
import Derived.Lib.ConvBytes
import Derived.Laws.Slices
import Derived.WalkKit
import Derived.KernelRfl
import Derived.RowKit3
import Derived.Deep.LoopGhost
import Derived.Deep.QuietTactic
import Derived.BigQuiet
import Derived.WideLaws
import Derived.Deep.DeepCutAuto
import Derived.Deep.CutBlock
import Derived.Deep.RegionHeld3
import Derived.Laws.Rows
import Derived.Lib.AppendStr
import Derived.ArgAppend
import Derived.Laws.IdiomCopy
import Derived.OrdersHeld
import Derived.Laws.BitsLemmas
import Derived.RowKit
import Derived.Lib.Bytealg
import Derived.Laws.Externs
import Derived.Lib.SliceRun
import Derived.LoopN
import Derived.Test.YtfjmpdcflnaogaaDoorItoa
import Derived.Test.YtfjmpdcflnaogaaDoorHex
import Derived.Test.YtfjmpdcflnaogaaDoorAtoi
import Derived.Test.YtfjmpdcflnaogaaDoorParseHex
import Derived.Test.YtfjmpdcflnaogaaDoorBld
import Derived.Test.YtfjmpdcflnaogaaDoorWWords
import Derived.Test.YtfjmpdcflnaogaaDoorWLast
import Derived.Test.YtfjmpdcflnaogaaDoorWTab
import Derived.Test.YtfjmpdcflnaogaaDoorWFour
import Derived.Test.YtfjmpdcflnaogaaDoorWQPut
import Derived.Test.YtfjmpdcflnaogaaDoorWApart
import Derived.Test.YtfjmpdcflnaogaaDoorWArr
import Derived.Test.YtfjmpdcflnaogaaDoorWZeros
import Derived.Test.YtfjmpdcflnaogaaDoorWFoot
import Derived.Test.YtfjmpdcflnaogaaDoorWKept
import Derived.Test.YtfjmpdcflnaogaaDoorWShare
import Derived.Test.YtfjmpdcflnaogaaDoorWN
import Derived.Test.YtfjmpdcflnaogaaDoorWFootNe
import Derived.Test.YtfjmpdcflnaogaaDoorWAt
import Derived.Test.YtfjmpdcflnaogaaDoorWEqStruct
import Derived.Test.YtfjmpdcflnaogaaDoorWRepsOne
import Derived.Test.YtfjmpdcflnaogaaDoorWInv
import Derived.Test.YtfjmpdcflnaogaaDoorWInvWords
import Derived.Test.YtfjmpdcflnaogaaDoorWGuard
import Derived.Test.YtfjmpdcflnaogaaDoorWNEv
import Derived.Test.YtfjmpdcflnaogaaDoorWMore
namespace Go.Proofs.YtfjmpdcflnaogaaDoor.QFnExactExport
open Go.RowKit Go.Proofs.YtfjmpdcflnaogaaDoorW.PrintWords Go.Proofs.YtfjmpdcflnaogaaDoorW.PrintLast Go.Proofs.YtfjmpdcflnaogaaDoorW.PrintMore
attribute [local go_sem] max2_int min2_int max_two min_two max_three min_three max_four min_four   -- for this text's walks alone
set_option linter.unusedVariables false
set_option linter.unusedSimpArgs false



def errW : Option Int → Value
  | none => .nilIface
  | some c => .iface 0 (.int .i64 c)
theorem errW_none : errW none = .nilIface := rfl
theorem errW_some (c : Int) : errW (some c) = .iface 0 (.int .i64 c) := rfl

theorem info5 : (Tryd.prog.info? 5).map (fun i => (i.zero, i.size, i.bytes)) = some (some (.int .u8 0), 1, 1) := by kernel_rfl
theorem info22 : (Tryd.prog.info? 22).map (fun i => (i.zero, i.size, i.bytes)) = some (some (.int .u32 0), 1, 4) := by kernel_rfl
theorem info27 : (Tryd.prog.info? 27).map (fun i => (i.zero, i.size, i.bytes)) = some (some (.agg #[(.int .i64 0), (.string ⟨#[]⟩), (.int .i32 0), (.bool false), (.int .u32 0)]), 5, 40) := by kernel_rfl
-- the values' own types
/-! #### struct type 27 -/
structure S27 where
  f0 : Int
  f1 : ByteArray
  f2 : Int
  f3 : Bool
  f4 : Int
def z27 : S27 := ⟨(0 : Int), (⟨#[]⟩ : ByteArray), (0 : Int), false, (0 : Int)⟩
def k27 : Kd S27 := Kd.iso (Kd.pair (Kd.int .i64) (Kd.pair Kd.string (Kd.pair (Kd.int .i32) (Kd.pair Kd.bool (Kd.int .u32))))) (fun x : S27 => (x.f0, x.f1, x.f2, x.f3, x.f4))
theorem k27_open {w : World} {x : S27} {cs : List Value} (h : k27.K w x cs) : cs = [.int .i64 x.f0, .string x.f1, .int .i32 x.f2, .bool x.f3, .int .u32 x.f4] := by
  obtain ⟨_, _, rfl, rfl, ⟨_, _, rfl, rfl, ⟨_, _, rfl, rfl, ⟨_, _, rfl, rfl, rfl⟩⟩⟩⟩ := h
  exact rfl
theorem k27_openM {w : World} {base : Nat} {ok : Nat → Prop} {x : S27} {cs : List Value} (h : k27.M w base ok x cs) : cs = [.int .i64 x.f0, .string x.f1, .int .i32 x.f2, .bool x.f3, .int .u32 x.f4] := by
  obtain ⟨_, _, rfl, rfl, ⟨_, _, rfl, rfl, ⟨_, _, rfl, rfl, ⟨_, _, rfl, rfl, rfl⟩⟩⟩⟩ := h
  exact rfl
theorem k27_mk (w : World) (x : S27)  : k27.K w x [.int .i64 x.f0, .string x.f1, .int .i32 x.f2, .bool x.f3, .int .u32 x.f4] := ⟨[.int .i64 x.f0], [.string x.f1, .int .i32 x.f2, .bool x.f3, .int .u32 x.f4], rfl, rfl, ⟨[.string x.f1], [.int .i32 x.f2, .bool x.f3, .int .u32 x.f4], rfl, rfl, ⟨[.int .i32 x.f2], [.bool x.f3, .int .u32 x.f4], rfl, rfl, ⟨[.bool x.f3], [.int .u32 x.f4], rfl, rfl, rfl⟩⟩⟩⟩
theorem k27_mkM (w : World) (base : Nat) (ok : Nat → Prop) (x : S27)  : k27.M w base ok x [.int .i64 x.f0, .string x.f1, .int .i32 x.f2, .bool x.f3, .int .u32 x.f4] := ⟨[.int .i64 x.f0], [.string x.f1, .int .i32 x.f2, .bool x.f3, .int .u32 x.f4], rfl, rfl, ⟨[.string x.f1], [.int .i32 x.f2, .bool x.f3, .int .u32 x.f4], rfl, rfl, ⟨[.int .i32 x.f2], [.bool x.f3, .int .u32 x.f4], rfl, rfl, ⟨[.bool x.f3], [.int .u32 x.f4], rfl, rfl, rfl⟩⟩⟩⟩
theorem k27_mkF (W : World) (ok : Nat → Prop) (x : S27) : Kd.FK k27 W ok x [.int .i64 x.f0, .string x.f1, .int .i32 x.f2, .bool x.f3, .int .u32 x.f4] := fun W2 _ => k27_mk W2 x
def rd_T27 (xs : List S27) (i : Int) : S27 := xs.getD i.toNat z27
theorem at_T27 {w : World} {A : Option Addr} {n : Nat} {xs : List S27} (h : Kd.C k27 w A n xs) (i : Int) (h0 : 0 ≤ i) (h1 : i < n) : ∃ ad , A = some ad ∧ w.cell? (ad.add (i.toNat * 5)) = some (.int .i64 (rd_T27 xs i).f0) ∧ w.cell? ⟨(ad.add (i.toNat * 5)).block, (ad.add (i.toNat * 5)).off + 1, none⟩ = some (.string (rd_T27 xs i).f1) ∧ w.cell? ⟨(ad.add (i.toNat * 5)).block, (ad.add (i.toNat * 5)).off + 2, none⟩ = some (.int .i32 (rd_T27 xs i).f2) ∧ w.cell? ⟨(ad.add (i.toNat * 5)).block, (ad.add (i.toNat * 5)).off + 3, none⟩ = some (.bool (rd_T27 xs i).f3) ∧ w.cell? ⟨(ad.add (i.toNat * 5)).block, (ad.add (i.toNat * 5)).off + 4, none⟩ = some (.int .u32 (rd_T27 xs i).f4) := by
  obtain ⟨ad, c, e, _, hK, hc0⟩ := Kd.C_get h z27 i h0 h1
  have hc : ∀ j u, c[j]? = some u → w.cell? (ad.add (i.toNat * 5 + j)) = some u := hc0
  obtain rfl := k27_open hK
  exact ⟨ad, e, hc 0 _ rfl, by rw [← add_field _ _ 1 (by omega)]; exact hc 1 _ rfl, by rw [← add_field _ _ 2 (by omega)]; exact hc 2 _ rfl, by rw [← add_field _ _ 3 (by omega)]; exact hc 3 _ rfl, by rw [← add_field _ _ 4 (by omega)]; exact hc 4 _ rfl⟩

end Go.Proofs.YtfjmpdcflnaogaaDoor.QFnExactExport
