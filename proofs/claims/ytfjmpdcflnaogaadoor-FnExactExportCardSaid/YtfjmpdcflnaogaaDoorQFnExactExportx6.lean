/-
Plain functions for the Go functions that a law reaches, each with a proof that the translation's call comes to just that; no conditions beyond those written in each.
-/
import Derived.Test.YtfjmpdcflnaogaaDoorSFnExactExport
import Derived.Test.YtfjmpdcflnaogaaDoorQFnExactExportx5
namespace Go.Proofs.YtfjmpdcflnaogaaDoor.QFnExactExport
open Go.RowKit Go.Proofs.YtfjmpdcflnaogaaDoorW.PrintWords Go.Proofs.YtfjmpdcflnaogaaDoorW.PrintLast Go.Proofs.YtfjmpdcflnaogaaDoorW.PrintMore
attribute [local go_sem] max2_int min2_int max_two min_two max_three min_three max_four min_four   -- for this text's walks alone
set_option linter.unusedVariables false
set_option linter.unusedSimpArgs false

/-! ### impl_parseOne: function 42 -/
mutual
def impl_parseOne.j0 : Nat → List Int → Int → Int → Int → Bool → Int → ByteArray → Int → Bool → Int → Option (Int × ByteArray × Int × Bool × Int)
 | 0, _, _, _, _, _, _, _, _, _, _ => none
 | k + 1, x0, x3, x4, x21, x22, x441000, x441001, x441002, x441003, x441004 => if x22 = true then (if 1 ≤ (x0.length : Int) then ((some (x0.drop 1 : List Int)).bind fun y444 => (impl_parseOne.l0 k x4 (([x3 / 16] : List Int)) y444 (y444.length : Int) 0 x441000 x441001 x441002 x441003 x441004)) else (none)) else (if x21 = 8 then (some (7, (⟨#[]⟩ : ByteArray), (wrap32 (x3)) / 32, ((Go.bits .and .u32 x3 16) != 0), 0)) else (if x21 = 6 then (some (8, (⟨#[]⟩ : ByteArray), (wrap32 (x3)) / 32, ((Go.bits .and .u32 x3 16) != 0), 0)) else (if x21 = 2 then (impl_parseOne.j3 k x0 x3 x4 x21 (x21 == 2) x441000 x441001 x441002 x441003 x441004) else (impl_parseOne.j3 k x0 x3 x4 x21 (x21 == 5) x441000 x441001 x441002 x441003 x441004))))
def impl_parseOne.j2 : Nat → Int → List Int → Int → ByteArray → Int → Bool → Int → Option (Int × ByteArray × Int × Bool × Int)
 | 0, _, _, _, _, _, _, _ => none
 | k + 1, x4, x6, x441000, x441001, x441002, x441003, x441004 => (impl_Unpack.f k x6).bind fun bt452 => (if bt452.2 = true then ((impl_nameKind.f k x4).bind fun t454 => (some (t454, bt452.1, 0, false, 0))) else (some (x441000, x441001, x441002, x441003, x441004)))
def impl_parseOne.l0 : Nat → Int → List Int → List Int → Int → Int → Int → ByteArray → Int → Bool → Int → Option (Int × ByteArray × Int × Bool × Int)
 | 0, _, _, _, _, _, _, _, _, _, _ => none
 | k + 1, x4, x6, x33, x34, x35, x441000, x441001, x441002, x441003, x441004 => if x35 < x34 then (if 0 ≤ x35 then (if x35 < (x33.length : Int) then (if (rd x33 x35) = 0 then (impl_parseOne.j2 k x4 x6 x441000 x441001 x441002 x441003 x441004) else (if (Go.bits .and .u32 (rd x33 x35) 15) = 0 then (if x6.length < 35184372088832 then (impl_parseOne.l0 k x4 (x6 ++ [(rd x33 x35) / 16]) x33 x34 (wrap64 (x35 + 1)) x441000 x441001 x441002 x441003 x441004) else (none)) else (impl_parseOne.j2 k x4 x6 x441000 x441001 x441002 x441003 x441004))) else (none)) else (none)) else (impl_parseOne.j2 k x4 x6 x441000 x441001 x441002 x441003 x441004)
def impl_parseOne.j3 : Nat → List Int → Int → Int → Int → Bool → Int → ByteArray → Int → Bool → Int → Option (Int × ByteArray × Int × Bool × Int)
 | 0, _, _, _, _, _, _, _, _, _, _ => none
 | k + 1, x0, x3, x4, x21, x80, x441000, x441001, x441002, x441003, x441004 => if x80 = true then (if (x0.length : Int) < 2 then (some (x441000, x441001, x441002, x441003, x441004)) else (if 1 < (x0.length : Int) then (if x4 = 5 then (impl_parseOne.j4 k x0 x441000 x441001 x441002 x441003 x441004 8 (⟨#[]⟩ : ByteArray) (wrap32 (rd x0 1)) ((Go.bits .and .u32 x3 16) != 0) 0) else (impl_parseOne.j4 k x0 x441000 x441001 x441002 x441003 x441004 7 (⟨#[]⟩ : ByteArray) (wrap32 (rd x0 1)) ((Go.bits .and .u32 x3 16) != 0) 0)) else (none))) else (if x21 = 12 then (if (x0.length : Int) > 1 then ((impl_FieldOk.f k (x3 / 16)).bind fun t462 => (if t462 = true then ((impl_UnpackOne.f k (x3 / 16)).bind fun t463 => (if 1 < (x0.length : Int) then (some (9, t463, wrap32 (rd x0 1), false, 0)) else (none))) else (some (x441000, x441001, x441002, x441003, x441004)))) else (some (x441000, x441001, x441002, x441003, x441004))) else (some (x441000, x441001, x441002, x441003, x441004)))
def impl_parseOne.j4 : Nat → List Int → Int → ByteArray → Int → Bool → Int → Int → ByteArray → Int → Bool → Int → Option (Int × ByteArray × Int × Bool × Int)
 | 0, _, _, _, _, _, _, _, _, _, _, _ => none
 | k + 1, x0, x441000, x441001, x441002, x441003, x441004, x457000, x457001, x457002, x457003, x457004 => (impl_CellsOf.f k x457000 x457001 x457002 x457003 x457004).bind fun t457 => (if 2 ≤ (x0.length : Int) then ((slices_Equal_uint32_uint32.f k t457 (x0.take 2)).bind fun t461 => (if t461 = true then (some (x457000, x457001, x457002, x457003, x457004)) else (some (x441000, x441001, x441002, x441003, x441004)))) else (none))
end
def impl_parseOne.f (k : Nat) (l0 : List Int) : Option (Int × ByteArray × Int × Bool × Int) := if 0 < (l0.length : Int) then (if (Go.bits .and .u32 (rd l0 0) 15) = 1 then (impl_parseOne.j0 k l0 (rd l0 0) (Go.bits .and .u32 (rd l0 0) 15) (Go.bits .and .u32 (rd l0 0) 15) ((Go.bits .and .u32 (rd l0 0) 15) == 1) 0 (⟨#[]⟩ : ByteArray) 0 false (rd l0 0)) else (if (Go.bits .and .u32 (rd l0 0) 15) = 3 then (impl_parseOne.j0 k l0 (rd l0 0) (Go.bits .and .u32 (rd l0 0) 15) (Go.bits .and .u32 (rd l0 0) 15) ((Go.bits .and .u32 (rd l0 0) 15) == 3) 0 (⟨#[]⟩ : ByteArray) 0 false (rd l0 0)) else (if (Go.bits .and .u32 (rd l0 0) 15) = 4 then (impl_parseOne.j0 k l0 (rd l0 0) (Go.bits .and .u32 (rd l0 0) 15) (Go.bits .and .u32 (rd l0 0) 15) ((Go.bits .and .u32 (rd l0 0) 15) == 4) 0 (⟨#[]⟩ : ByteArray) 0 false (rd l0 0)) else (if (Go.bits .and .u32 (rd l0 0) 15) = 9 then (impl_parseOne.j0 k l0 (rd l0 0) (Go.bits .and .u32 (rd l0 0) 15) (Go.bits .and .u32 (rd l0 0) 15) ((Go.bits .and .u32 (rd l0 0) 15) == 9) 0 (⟨#[]⟩ : ByteArray) 0 false (rd l0 0)) else (if (Go.bits .and .u32 (rd l0 0) 15) = 10 then (impl_parseOne.j0 k l0 (rd l0 0) (Go.bits .and .u32 (rd l0 0) 15) (Go.bits .and .u32 (rd l0 0) 15) ((Go.bits .and .u32 (rd l0 0) 15) == 10) 0 (⟨#[]⟩ : ByteArray) 0 false (rd l0 0)) else (impl_parseOne.j0 k l0 (rd l0 0) (Go.bits .and .u32 (rd l0 0) 15) (Go.bits .and .u32 (rd l0 0) 15) ((Go.bits .and .u32 (rd l0 0) 15) == 11) 0 (⟨#[]⟩ : ByteArray) 0 false (rd l0 0))))))) else (none)
theorem impl_parseOne.mono_l : ∀ k, (∀ y0 y1 y2 y3 y4 y5 y6 y7 y8 y9, LeO (impl_parseOne.j0 k y0 y1 y2 y3 y4 y5 y6 y7 y8 y9) (impl_parseOne.j0 (k + 1) y0 y1 y2 y3 y4 y5 y6 y7 y8 y9)) ∧ (∀ y0 y1 y2 y3 y4 y5 y6, LeO (impl_parseOne.j2 k y0 y1 y2 y3 y4 y5 y6) (impl_parseOne.j2 (k + 1) y0 y1 y2 y3 y4 y5 y6)) ∧ (∀ y0 y1 y2 y3 y4 y5 y6 y7 y8 y9, LeO (impl_parseOne.l0 k y0 y1 y2 y3 y4 y5 y6 y7 y8 y9) (impl_parseOne.l0 (k + 1) y0 y1 y2 y3 y4 y5 y6 y7 y8 y9)) ∧ (∀ y0 y1 y2 y3 y4 y5 y6 y7 y8 y9, LeO (impl_parseOne.j3 k y0 y1 y2 y3 y4 y5 y6 y7 y8 y9) (impl_parseOne.j3 (k + 1) y0 y1 y2 y3 y4 y5 y6 y7 y8 y9)) ∧ (∀ y0 y1 y2 y3 y4 y5 y6 y7 y8 y9 y10, LeO (impl_parseOne.j4 k y0 y1 y2 y3 y4 y5 y6 y7 y8 y9 y10) (impl_parseOne.j4 (k + 1) y0 y1 y2 y3 y4 y5 y6 y7 y8 y9 y10))
 | 0 => ⟨fun _ _ _ _ _ _ _ _ _ _ r h => by simp [impl_parseOne.j0] at h, fun _ _ _ _ _ _ _ r h => by simp [impl_parseOne.j2] at h, fun _ _ _ _ _ _ _ _ _ _ r h => by simp [impl_parseOne.l0] at h, fun _ _ _ _ _ _ _ _ _ _ r h => by simp [impl_parseOne.j3] at h, fun _ _ _ _ _ _ _ _ _ _ _ r h => by simp [impl_parseOne.j4] at h⟩
 | k + 1 => by
  obtain ⟨ih0, ih1, ih2, ih3, ih4⟩ := impl_parseOne.mono_l k
  refine ⟨?_, ?_, ?_, ?_, ?_⟩
  ·intro y0 y1 y2 y3 y4 y5 y6 y7 y8 y9
   unfold impl_parseOne.j0
   repeat' first
   | (with_reducible exact ih0 _ _ _ _ _ _ _ _ _ _)
   | (with_reducible exact ih1 _ _ _ _ _ _ _)
   | (with_reducible exact ih2 _ _ _ _ _ _ _ _ _ _)
   | (with_reducible exact ih3 _ _ _ _ _ _ _ _ _ _)
   | (with_reducible exact ih4 _ _ _ _ _ _ _ _ _ _ _)
   | (with_reducible exact impl_CellsOf.mono _ _ _ _ _ _)
   | (with_reducible exact impl_FieldOk.mono _ _)
   | (with_reducible exact impl_Unpack.mono _ _)
   | (with_reducible exact impl_UnpackOne.mono _ _)
   | (with_reducible exact impl_nameKind.mono _ _)
   | (with_reducible exact slices_Equal_uint32_uint32.mono _ _ _)
   | (with_reducible exact LeO.refl _)
   | (with_reducible exact LeO.none _)
   | (with_reducible refine LeO.ite ?_ ?_)
   | (with_reducible refine LeO.bind ?_ (fun _ => ?_))
   | exact ih0 _ _ _ _ _ _ _ _ _ _
   | exact ih1 _ _ _ _ _ _ _
   | exact ih2 _ _ _ _ _ _ _ _ _ _
   | exact ih3 _ _ _ _ _ _ _ _ _ _
   | exact ih4 _ _ _ _ _ _ _ _ _ _ _
   | exact impl_CellsOf.mono _ _ _ _ _ _
   | exact impl_FieldOk.mono _ _
   | exact impl_Unpack.mono _ _
   | exact impl_UnpackOne.mono _ _
   | exact impl_nameKind.mono _ _
   | exact slices_Equal_uint32_uint32.mono _ _ _
   | exact LeO.none _
   | refine LeO.ite ?_ ?_
   | refine LeO.bind ?_ (fun _ => ?_)
  ·intro y0 y1 y2 y3 y4 y5 y6
   unfold impl_parseOne.j2
   repeat' first
   | (with_reducible exact ih0 _ _ _ _ _ _ _ _ _ _)
   | (with_reducible exact ih1 _ _ _ _ _ _ _)
   | (with_reducible exact ih2 _ _ _ _ _ _ _ _ _ _)
   | (with_reducible exact ih3 _ _ _ _ _ _ _ _ _ _)
   | (with_reducible exact ih4 _ _ _ _ _ _ _ _ _ _ _)
   | (with_reducible exact impl_CellsOf.mono _ _ _ _ _ _)
   | (with_reducible exact impl_FieldOk.mono _ _)
   | (with_reducible exact impl_Unpack.mono _ _)
   | (with_reducible exact impl_UnpackOne.mono _ _)
   | (with_reducible exact impl_nameKind.mono _ _)
   | (with_reducible exact slices_Equal_uint32_uint32.mono _ _ _)
   | (with_reducible exact LeO.refl _)
   | (with_reducible exact LeO.none _)
   | (with_reducible refine LeO.ite ?_ ?_)
   | (with_reducible refine LeO.bind ?_ (fun _ => ?_))
   | exact ih0 _ _ _ _ _ _ _ _ _ _
   | exact ih1 _ _ _ _ _ _ _
   | exact ih2 _ _ _ _ _ _ _ _ _ _
   | exact ih3 _ _ _ _ _ _ _ _ _ _
   | exact ih4 _ _ _ _ _ _ _ _ _ _ _
   | exact impl_CellsOf.mono _ _ _ _ _ _
   | exact impl_FieldOk.mono _ _
   | exact impl_Unpack.mono _ _
   | exact impl_UnpackOne.mono _ _
   | exact impl_nameKind.mono _ _
   | exact slices_Equal_uint32_uint32.mono _ _ _
   | exact LeO.none _
   | refine LeO.ite ?_ ?_
   | refine LeO.bind ?_ (fun _ => ?_)
  ·intro y0 y1 y2 y3 y4 y5 y6 y7 y8 y9
   unfold impl_parseOne.l0
   repeat' first
   | (with_reducible exact ih0 _ _ _ _ _ _ _ _ _ _)
   | (with_reducible exact ih1 _ _ _ _ _ _ _)
   | (with_reducible exact ih2 _ _ _ _ _ _ _ _ _ _)
   | (with_reducible exact ih3 _ _ _ _ _ _ _ _ _ _)
   | (with_reducible exact ih4 _ _ _ _ _ _ _ _ _ _ _)
   | (with_reducible exact impl_CellsOf.mono _ _ _ _ _ _)
   | (with_reducible exact impl_FieldOk.mono _ _)
   | (with_reducible exact impl_Unpack.mono _ _)
   | (with_reducible exact impl_UnpackOne.mono _ _)
   | (with_reducible exact impl_nameKind.mono _ _)
   | (with_reducible exact slices_Equal_uint32_uint32.mono _ _ _)
   | (with_reducible exact LeO.refl _)
   | (with_reducible exact LeO.none _)
   | (with_reducible refine LeO.ite ?_ ?_)
   | (with_reducible refine LeO.bind ?_ (fun _ => ?_))
   | exact ih0 _ _ _ _ _ _ _ _ _ _
   | exact ih1 _ _ _ _ _ _ _
   | exact ih2 _ _ _ _ _ _ _ _ _ _
   | exact ih3 _ _ _ _ _ _ _ _ _ _
   | exact ih4 _ _ _ _ _ _ _ _ _ _ _
   | exact impl_CellsOf.mono _ _ _ _ _ _
   | exact impl_FieldOk.mono _ _
   | exact impl_Unpack.mono _ _
   | exact impl_UnpackOne.mono _ _
   | exact impl_nameKind.mono _ _
   | exact slices_Equal_uint32_uint32.mono _ _ _
   | exact LeO.none _
   | refine LeO.ite ?_ ?_
   | refine LeO.bind ?_ (fun _ => ?_)
  ·intro y0 y1 y2 y3 y4 y5 y6 y7 y8 y9
   unfold impl_parseOne.j3
   repeat' first
   | (with_reducible exact ih0 _ _ _ _ _ _ _ _ _ _)
   | (with_reducible exact ih1 _ _ _ _ _ _ _)
   | (with_reducible exact ih2 _ _ _ _ _ _ _ _ _ _)
   | (with_reducible exact ih3 _ _ _ _ _ _ _ _ _ _)
   | (with_reducible exact ih4 _ _ _ _ _ _ _ _ _ _ _)
   | (with_reducible exact impl_CellsOf.mono _ _ _ _ _ _)
   | (with_reducible exact impl_FieldOk.mono _ _)
   | (with_reducible exact impl_Unpack.mono _ _)
   | (with_reducible exact impl_UnpackOne.mono _ _)
   | (with_reducible exact impl_nameKind.mono _ _)
   | (with_reducible exact slices_Equal_uint32_uint32.mono _ _ _)
   | (with_reducible exact LeO.refl _)
   | (with_reducible exact LeO.none _)
   | (with_reducible refine LeO.ite ?_ ?_)
   | (with_reducible refine LeO.bind ?_ (fun _ => ?_))
   | exact ih0 _ _ _ _ _ _ _ _ _ _
   | exact ih1 _ _ _ _ _ _ _
   | exact ih2 _ _ _ _ _ _ _ _ _ _
   | exact ih3 _ _ _ _ _ _ _ _ _ _
   | exact ih4 _ _ _ _ _ _ _ _ _ _ _
   | exact impl_CellsOf.mono _ _ _ _ _ _
   | exact impl_FieldOk.mono _ _
   | exact impl_Unpack.mono _ _
   | exact impl_UnpackOne.mono _ _
   | exact impl_nameKind.mono _ _
   | exact slices_Equal_uint32_uint32.mono _ _ _
   | exact LeO.none _
   | refine LeO.ite ?_ ?_
   | refine LeO.bind ?_ (fun _ => ?_)
  ·intro y0 y1 y2 y3 y4 y5 y6 y7 y8 y9 y10
   unfold impl_parseOne.j4
   repeat' first
   | (with_reducible exact ih0 _ _ _ _ _ _ _ _ _ _)
   | (with_reducible exact ih1 _ _ _ _ _ _ _)
   | (with_reducible exact ih2 _ _ _ _ _ _ _ _ _ _)
   | (with_reducible exact ih3 _ _ _ _ _ _ _ _ _ _)
   | (with_reducible exact ih4 _ _ _ _ _ _ _ _ _ _ _)
   | (with_reducible exact impl_CellsOf.mono _ _ _ _ _ _)
   | (with_reducible exact impl_FieldOk.mono _ _)
   | (with_reducible exact impl_Unpack.mono _ _)
   | (with_reducible exact impl_UnpackOne.mono _ _)
   | (with_reducible exact impl_nameKind.mono _ _)
   | (with_reducible exact slices_Equal_uint32_uint32.mono _ _ _)
   | (with_reducible exact LeO.refl _)
   | (with_reducible exact LeO.none _)
   | (with_reducible refine LeO.ite ?_ ?_)
   | (with_reducible refine LeO.bind ?_ (fun _ => ?_))
   | exact ih0 _ _ _ _ _ _ _ _ _ _
   | exact ih1 _ _ _ _ _ _ _
   | exact ih2 _ _ _ _ _ _ _ _ _ _
   | exact ih3 _ _ _ _ _ _ _ _ _ _
   | exact ih4 _ _ _ _ _ _ _ _ _ _ _
   | exact impl_CellsOf.mono _ _ _ _ _ _
   | exact impl_FieldOk.mono _ _
   | exact impl_Unpack.mono _ _
   | exact impl_UnpackOne.mono _ _
   | exact impl_nameKind.mono _ _
   | exact slices_Equal_uint32_uint32.mono _ _ _
   | exact LeO.none _
   | refine LeO.ite ?_ ?_
   | refine LeO.bind ?_ (fun _ => ?_)
theorem impl_parseOne.mono : ∀ a0 k, LeO (impl_parseOne.f k a0) (impl_parseOne.f (k + 1) a0) := by
 intro a0 k
 obtain ⟨ih0, ih1, ih2, ih3, ih4⟩ := impl_parseOne.mono_l k
 unfold impl_parseOne.f
 repeat' first
   | (with_reducible exact ih0 _ _ _ _ _ _ _ _ _ _)
   | (with_reducible exact ih1 _ _ _ _ _ _ _)
   | (with_reducible exact ih2 _ _ _ _ _ _ _ _ _ _)
   | (with_reducible exact ih3 _ _ _ _ _ _ _ _ _ _)
   | (with_reducible exact ih4 _ _ _ _ _ _ _ _ _ _ _)
   | (with_reducible exact impl_CellsOf.mono _ _ _ _ _ _)
   | (with_reducible exact impl_FieldOk.mono _ _)
   | (with_reducible exact impl_Unpack.mono _ _)
   | (with_reducible exact impl_UnpackOne.mono _ _)
   | (with_reducible exact impl_nameKind.mono _ _)
   | (with_reducible exact slices_Equal_uint32_uint32.mono _ _ _)
   | (with_reducible exact LeO.refl _)
   | (with_reducible exact LeO.none _)
   | (with_reducible refine LeO.ite ?_ ?_)
   | (with_reducible refine LeO.bind ?_ (fun _ => ?_))
   | exact ih0 _ _ _ _ _ _ _ _ _ _
   | exact ih1 _ _ _ _ _ _ _
   | exact ih2 _ _ _ _ _ _ _ _ _ _
   | exact ih3 _ _ _ _ _ _ _ _ _ _
   | exact ih4 _ _ _ _ _ _ _ _ _ _ _
   | exact impl_CellsOf.mono _ _ _ _ _ _
   | exact impl_FieldOk.mono _ _
   | exact impl_Unpack.mono _ _
   | exact impl_UnpackOne.mono _ _
   | exact impl_nameKind.mono _ _
   | exact slices_Equal_uint32_uint32.mono _ _ _
   | exact LeO.none _
   | refine LeO.ite ?_ ?_
   | refine LeO.bind ?_ (fun _ => ?_)
def impl_parseOne.T1 : Bool × List (List Nat × List Nat) := (true, [([], []), ([0], [0]), ([1], [1]), ([], []), ([3], [3]), ([4], [4]), ([5], [5]), ([2, 0, 1, 2], [2]), ([6, 7, 0, 1, 2, 3, 4, 5, 6, 7], [6])])
def impl_parseOne.B1 : List Nat := [0, 1, 3, 0, 8, 24, 56, 7, 255]
theorem impl_parseOne.tab1 : rtab .any (opsOf Tryd.f42 1) = impl_parseOne.T1 := Z0
theorem impl_parseOne.bits1 : waitsOk impl_parseOne.T1.2 impl_parseOne.B1 = true := Z0
def impl_parseOne.T34 : Bool × List (List Nat × List Nat) := (true, [([], []), ([0], [0]), ([1], [1]), ([], []), ([3], [3]), ([4], [4]), ([5], [5]), ([2, 6], [2, 6]), ([7, 2, 0, 1, 2, 3, 4, 5, 6, 7], [7])])
def impl_parseOne.B34 : List Nat := [0, 1, 3, 0, 8, 24, 56, 127, 255]
theorem impl_parseOne.tab34 : rtab .any (opsOf Tryd.f42 34) = impl_parseOne.T34 := Z0
theorem impl_parseOne.bits34 : waitsOk impl_parseOne.T34.2 impl_parseOne.B34 = true := Z0
set_option maxHeartbeats 8000000 in
set_option maxRecDepth 100000 in
theorem impl_parseOne.calls (k : Nat) (A0 : Option Addr) (c0 : Nat) (l0 : List Int) (r1 : Int) (r2 : ByteArray) (r3 : Int) (r4 : Bool) (r5 : Int) (w : World) (hr0 : Kd.C (Kd.int .u32) w A0 l0.length l0) (hc0 : l0.length ≤ c0) (h : impl_parseOne.f k l0 = some (r1, r2, r3, r4, r5)) :
  Calls Tryd.prog 42 #[.slice A0 l0.length c0] w fun e w' => e = .returned (.agg #[.int .i64 r1, .string r2, .int .i32 r3, .bool r4, .int .u32 r5]) ∧ Below w.heap.size w w' := by
 have hu27 := Tryd.underlying27
 have HR0 := Aside0.mk hr0
 have HC0 := Aside0.mk hc0
 clear hr0 hc0
 have HB := Z (Below.refl w.heap.size w)
 have H : (if 0 < (l0.length : Int) then (if (Go.bits .and .u32 (rd l0 0) 15) = 1 then (impl_parseOne.j0 k l0 (rd l0 0) (Go.bits .and .u32 (rd l0 0) 15) (Go.bits .and .u32 (rd l0 0) 15) ((Go.bits .and .u32 (rd l0 0) 15) == 1) 0 (⟨#[]⟩ : ByteArray) 0 false (rd l0 0)) else (if (Go.bits .and .u32 (rd l0 0) 15) = 3 then (impl_parseOne.j0 k l0 (rd l0 0) (Go.bits .and .u32 (rd l0 0) 15) (Go.bits .and .u32 (rd l0 0) 15) ((Go.bits .and .u32 (rd l0 0) 15) == 3) 0 (⟨#[]⟩ : ByteArray) 0 false (rd l0 0)) else (if (Go.bits .and .u32 (rd l0 0) 15) = 4 then (impl_parseOne.j0 k l0 (rd l0 0) (Go.bits .and .u32 (rd l0 0) 15) (Go.bits .and .u32 (rd l0 0) 15) ((Go.bits .and .u32 (rd l0 0) 15) == 4) 0 (⟨#[]⟩ : ByteArray) 0 false (rd l0 0)) else (if (Go.bits .and .u32 (rd l0 0) 15) = 9 then (impl_parseOne.j0 k l0 (rd l0 0) (Go.bits .and .u32 (rd l0 0) 15) (Go.bits .and .u32 (rd l0 0) 15) ((Go.bits .and .u32 (rd l0 0) 15) == 9) 0 (⟨#[]⟩ : ByteArray) 0 false (rd l0 0)) else (if (Go.bits .and .u32 (rd l0 0) 15) = 10 then (impl_parseOne.j0 k l0 (rd l0 0) (Go.bits .and .u32 (rd l0 0) 15) (Go.bits .and .u32 (rd l0 0) 15) ((Go.bits .and .u32 (rd l0 0) 15) == 10) 0 (⟨#[]⟩ : ByteArray) 0 false (rd l0 0)) else (impl_parseOne.j0 k l0 (rd l0 0) (Go.bits .and .u32 (rd l0 0) 15) (Go.bits .and .u32 (rd l0 0) 15) ((Go.bits .and .u32 (rd l0 0) 15) == 11) 0 (⟨#[]⟩ : ByteArray) 0 false (rd l0 0))))))) else (none)) = some (r1, r2, r3, r4, r5) := h
 clear h
 by_cases c2 : 0 < (l0.length : Int)
 ·rw [if_pos c2] at H
  have c2b0 : decide (0 < (l0.length : Int)) = true := decide_eq_true c2
  have c2b1 : decide (0 < l0.length) = true := decide_eq_true (by omega)
  clear c2
  have HC3 := Aside0.mk H
  clear H
  go_enter Tryd.func42, Tryd.ntmps42
  try go_wp2_with (first | ((with_reducible refine gate_dst (N := 2) rfl ?_); refine box_event (by rfl) (N := 2) (by rfl) (cs := #[.int .i64 0, .string (⟨#[]⟩ : ByteArray), .int .i32 0, .bool false, .int .u32 0]) (t := 27) Z3 ?_; intro gb437 hg w4 hbox hb; have BK437 := Z (hbox); have GW437 := Z ((Z79 : w.heap.size ≤ gb437)); have GE437 := Z ((Z79 : w.heap.size ≤ gb437)); replace HB := Z (below_step Z67 hb); clear hb hbox hg))
  have n0_ := Z (blk_drew BK437.out)
  have n1_ := Z (below_drew1 HB.out)
  clear BK437
  clear HB
  have BK437 := n0_
  have HB := n1_
  clear n0_ n1_
  have p438 : 0 ≤ (0 : Int) := (by omega)
  have q438 : 0 < (l0.length : Int) := of_decide_eq_true Z10
  obtain ⟨ad438, e438, hx438_0⟩ := Kd.at_int HR0.out 0 p438 q438
  have hw438_0 := hx438_0
  (try rw [show ((0 : Int)).toNat = 0 from rfl] at hw438_0)
  (try rw [show 0 * 1 = 0 from rfl] at hw438_0)
  (try rw [Addr.add_zero'] at hw438_0)
  cases e438
  have qi438 : (0 < l0.length) = True := eq_true (by omega)
  (try rw [show ((0 : Int)).toNat = 0 from rfl] at hx438_0)
  (try rw [Addr.add_zero'] at hx438_0)
  replace hx438_0 := (HB.out.cell (World.block_lt_of_cell? w _ hx438_0)).trans hx438_0
  replace p438 := eq_true p438
  replace q438 := eq_true q438
  have p439 : 0 ≤ (0 : Int) := (by omega)
  have q439 : 0 < (l0.length : Int) := of_decide_eq_true Z10
  obtain ⟨ad439, e439, hx439_0⟩ := Kd.at_int HR0.out 0 p439 q439
  have hw439_0 := hx439_0
  (try rw [show ((0 : Int)).toNat = 0 from rfl] at hw439_0)
  (try rw [show 0 * 1 = 0 from rfl] at hw439_0)
  (try rw [Addr.add_zero'] at hw439_0)
  obtain rfl : ad438 = ad439 := (by injection e439)
  have qi439 : (0 < l0.length) = True := eq_true (by omega)
  (try rw [show ((0 : Int)).toNat = 0 from rfl] at hx439_0)
  (try rw [Addr.add_zero'] at hx439_0)
  replace hx439_0 := (HB.out.cell (World.block_lt_of_cell? w _ hx439_0)).trans hx439_0
  replace p439 := eq_true p439
  replace q439 := eq_true q439
  refine start_ (n := 9) (S := fun w' => w'.cell? ad438 = some (.int .u32 (rd l0 0)) ∧ w'.cell? ad438 = some (.int .u32 (rd l0 0))) (ds := []) #[false, false, false, false, false, false, false, false, false] Z0 rfl rfl ⟨((HB.out.cell (World.block_lt_of_cell? w _ hw438_0)).trans hw438_0), ((HB.out.cell (World.block_lt_of_cell? w _ hw439_0)).trans hw439_0)⟩ (fun hHeld => ?_); refine with_tabW impl_parseOne.tab1 impl_parseOne.bits1 (fun HT_ HW_ => ?_)
  generalize w4.drew = w5 at BK437 HB hx438_0 hx439_0 hHeld ⊢
  refine pure_ (i := 0) (N := some 12) (v := ?_) (a' := ?_) #[true, false, false, false, false, false, false, false, false] rfl rfl (any_of HT_.out Z0) (fun _ _ _ h => h) (Or.inl ⟨by rfl, ?_⟩) ?_ ?_
  rotate_left
  ·intro w'
   go_simp
   with_reducible rfl
  rotate_left
  ·simp only [Act.put, List.setIfInBounds_toArray, List.set_cons_zero, List.set_cons_succ, i64_w, i32_w]
   rfl
  refine pure_ (i := 1) (N := some 13) (v := ?_) (a' := ?_) #[true, true, false, false, false, false, false, false, false] rfl rfl (any_of HT_.out Z0) (fun _ _ _ h => h) (Or.inl ⟨by rfl, ?_⟩) ?_ ?_
  rotate_left
  ·intro w'
   go_simp
   with_reducible rfl
  rotate_left
  ·simp only [Act.put, List.setIfInBounds_toArray, List.set_cons_zero, List.set_cons_succ, i64_w, i32_w]
   rfl
  refine pure_ (i := 3) (N := some 15) (v := ?_) (a' := ?_) #[true, true, false, true, false, false, false, false, false] rfl rfl (any_of HT_.out Z0) (fun _ _ _ h => h) (Or.inl ⟨by rfl, ?_⟩) ?_ ?_
  rotate_left
  ·intro w'
   go_simp
   with_reducible rfl
  rotate_left
  ·simp only [Act.put, List.setIfInBounds_toArray, List.set_cons_zero, List.set_cons_succ, i64_w, i32_w]
   rfl
  refine pure_ (i := 4) (N := some 16) (v := ?_) (a' := ?_) #[true, true, false, true, true, false, false, false, false] rfl rfl (any_of HT_.out Z0) (fun _ _ _ h => h) (Or.inl ⟨by rfl, ?_⟩) ?_ ?_
  rotate_left
  ·intro w'
   go_simp
   with_reducible rfl
  rotate_left
  ·simp only [Act.put, List.setIfInBounds_toArray, List.set_cons_zero, List.set_cons_succ, i64_w, i32_w]
   rfl
  refine take_ (i := 2) (N := some 14) (v := ?_) (a' := ?_) #[true, true, true, true, true, false, false, false, false] rfl rfl (take_ofW HT_.out HW_.out Z0) (fun _ _ _ h => h) (Or.inl ⟨by rfl, ?_⟩) hHeld ?_ ?_
  rotate_left
  ·rintro w' ⟨s0, s1⟩
   go_simp
   with_reducible rfl
  rotate_left
  ·simp only [Act.put, List.setIfInBounds_toArray, List.set_cons_zero, List.set_cons_succ, i64_w, i32_w]
   rfl
  refine pure_ (i := 7) (N := some 3) (v := ?_) (a' := ?_) #[true, true, true, true, true, false, false, true, false] rfl rfl (any_of HT_.out Z0) (fun _ _ _ h => h) (Or.inl ⟨by rfl, ?_⟩) ?_ ?_
  rotate_left
  ·intro w'
   go_simp
   with_reducible rfl
  rotate_left
  ·simp only [Act.put, List.setIfInBounds_toArray, List.set_cons_zero, List.set_cons_succ, i64_w, i32_w]
   rfl
  refine take_ (i := 5) (N := some 17) (v := ?_) (a' := ?_) #[true, true, true, true, true, true, false, true, false] rfl rfl (take_ofW HT_.out HW_.out Z0) (fun _ _ _ h => h) (Or.inl ⟨by rfl, ?_⟩) hHeld ?_ ?_
  rotate_left
  ·rintro w' ⟨s0, s1⟩
   go_simp
   with_reducible rfl
  rotate_left
  ·simp only [Act.put, List.setIfInBounds_toArray, List.set_cons_zero, List.set_cons_succ, i64_w, i32_w]
   rfl
  refine pure_ (i := 6) (N := some 18) (v := ?_) (a' := ?_) #[true, true, true, true, true, true, true, true, false] rfl rfl (any_of HT_.out Z0) (fun _ _ _ h => h) (Or.inl ⟨by rfl, ?_⟩) ?_ ?_
  rotate_left
  ·intro w'
   go_simp
   with_reducible rfl
  rotate_left
  ·simp only [Act.put, List.setIfInBounds_toArray, List.set_cons_zero, List.set_cons_succ, i64_w, i32_w]
   rfl
  refine pure_ (i := 8) (N := some 4) (v := ?_) (a' := ?_) #[true, true, true, true, true, true, true, true, true] rfl rfl (any_of HT_.out Z0) (fun _ _ _ h => h) (Or.inl ⟨by rfl, ?_⟩) ?_ ?_
  rotate_left
  ·intro w'
   go_simp
   with_reducible rfl
  rotate_left
  ·simp only [Act.put, List.setIfInBounds_toArray, List.set_cons_zero, List.set_cons_succ, i64_w, i32_w]
   rfl
  refine done_ (done_of HT_.out Z0) ?_
  go_upto_if 22 with (first | ((with_reducible refine gate_dst (N := 5) rfl ?_); refine box_event (by rfl) (N := 5) (by rfl) (cs := #[.int .i64 0, .string (⟨#[]⟩ : ByteArray), .int .i32 0, .bool false, .int .u32 0]) (t := 27) Z3 ?_; intro gb440 hg w6 hbox hb; have BK440 := Z (hbox); have GW440 := Z ((Z79 : w.heap.size ≤ gb440)); have GE440 := Z ((Z79 : w.heap.size ≤ gb440)); replace HB := Z (below_step Z67 hb); have NB437_440 := Z ((Z75 : gb437 ≠ gb440)); have NB440_437 := Z ((Z76 : gb440 ≠ gb437)); replace BK437 := Z (blk_below (g := gb437) (o := .cells #[.int .i64 0, .string (⟨#[]⟩ : ByteArray), .int .i32 0, .bool false, .int .u32 0] 27 (0, 0)) (Z15 BK437) hb); clear hb hbox hg; have hnb7 := NB440_437.out; have hnc7 := NB437_440.out; have hcz8_0 : w6.cell? ⟨gb440, 0, none⟩ = some (.int .i64 0) := (blk_cell BK440.out 0).trans rfl; have hcz8_1 : w6.cell? ⟨gb440, 1, none⟩ = some (.string (⟨#[]⟩ : ByteArray)) := (blk_cell BK440.out 1).trans rfl; have hcz8_2 : w6.cell? ⟨gb440, 2, none⟩ = some (.int .i32 0) := (blk_cell BK440.out 2).trans rfl; have hcz8_3 : w6.cell? ⟨gb440, 3, none⟩ = some (.bool false) := (blk_cell BK440.out 3).trans rfl; have hcz8_4 : w6.cell? ⟨gb440, 4, none⟩ = some (.int .u32 0) := (blk_cell BK440.out 4).trans rfl; have hfz8_0 := blk_frozen BK440.out 0; have hfz8_1 := blk_frozen BK440.out 1; have hfz8_2 := blk_frozen BK440.out 2; have hfz8_3 := blk_frozen BK440.out 3; have hfz8_4 := blk_frozen BK440.out 4))
  (try simp only [Act.put, List.setIfInBounds_toArray, List.set_cons_zero, List.set_cons_succ])
  go_cut [22] (fun v22 wc => ∃ (kq : Nat) (x22_2 : Bool), v22 = .bool x22_2 ∧ Aside0 (impl_parseOne.j0 kq l0 (rd l0 0) (Go.bits .and .u32 (rd l0 0) 15) (Go.bits .and .u32 (rd l0 0) 15) x22_2 0 (⟨#[]⟩ : ByteArray) 0 false (rd l0 0) = some (r1, r2, r3, r4, r5)) ∧ Aside0 (kq ≤ k) ∧ Aside0 (wc.heap[gb437]? = some (.cells #[.int .i64 0, .string (⟨#[]⟩ : ByteArray), .int .i32 0, .bool false, .int .u32 0] 27 (0, 0))) ∧ Aside0 (wc.heap[gb440]? = some (.cells #[.int .i64 0, .string (⟨#[]⟩ : ByteArray), .int .i32 0, .bool false, .int .u32 (rd l0 0)] 27 (0, 0))) ∧ Aside0 (Below w.heap.size w wc))
  case first =>
   have H := HC3.out
   clear HC3
   by_cases c9 : (Go.bits .and .u32 (rd l0 0) 15) = 1
   ·rw [if_pos c9] at H
    have c9b0 : ((Go.bits .and .u32 (rd l0 0) 15) == 1) = true := beq_iff_eq.mpr c9
    have c9b1 : ((Go.bits .and .u32 (rd l0 0) 15) != 1) = false := bne_eq_false_iff_eq.mpr c9
    clear c9
    (first | rw [c9b0] | (simp only [i64_w, i32_w]; rw [c9b0]) | skip)
    have H' := Aside0.mk H
    clear H
    go_wp2
    go_meet
    case rel => exact ⟨_, (((Go.bits .and .u32 (rd l0 0) 15) == 1)), Z7, H', ⟨Z14⟩, ⟨(Z52 BK437)⟩, ⟨(Z25 BK440)⟩, ⟨Z67⟩⟩
   ·rw [if_neg c9] at H
    have c9b0 : ((Go.bits .and .u32 (rd l0 0) 15) == 1) = false := beq_eq_false_iff_ne.mpr c9
    have c9b1 : ((Go.bits .and .u32 (rd l0 0) 15) != 1) = true := bne_iff_ne.mpr c9
    (first | rw [c9b0] | (simp only [i64_w, i32_w]; rw [c9b0]) | skip)
    by_cases c10 : (Go.bits .and .u32 (rd l0 0) 15) = 3
    ·rw [if_pos c10] at H
     have c10b0 : ((Go.bits .and .u32 (rd l0 0) 15) == 3) = true := beq_iff_eq.mpr c10
     have c10b1 : ((Go.bits .and .u32 (rd l0 0) 15) != 3) = false := bne_eq_false_iff_eq.mpr c10
     clear c10
     have H' := Aside0.mk H
     clear H
     go_wp2
     go_meet
     case rel => exact ⟨_, (((Go.bits .and .u32 (rd l0 0) 15) == 3)), Z7, H', ⟨Z14⟩, ⟨(Z52 BK437)⟩, ⟨(Z25 BK440)⟩, ⟨Z67⟩⟩
    ·rw [if_neg c10] at H
     have c10b0 : ((Go.bits .and .u32 (rd l0 0) 15) == 3) = false := beq_eq_false_iff_ne.mpr c10
     have c10b1 : ((Go.bits .and .u32 (rd l0 0) 15) != 3) = true := bne_iff_ne.mpr c10
     by_cases c11 : (Go.bits .and .u32 (rd l0 0) 15) = 4
     ·rw [if_pos c11] at H
      have c11b0 : ((Go.bits .and .u32 (rd l0 0) 15) == 4) = true := beq_iff_eq.mpr c11
      have c11b1 : ((Go.bits .and .u32 (rd l0 0) 15) != 4) = false := bne_eq_false_iff_eq.mpr c11
      clear c11
      have H' := Aside0.mk H
      clear H
      go_wp2
      go_meet
      case rel => exact ⟨_, (((Go.bits .and .u32 (rd l0 0) 15) == 4)), Z7, H', ⟨Z14⟩, ⟨(Z52 BK437)⟩, ⟨(Z25 BK440)⟩, ⟨Z67⟩⟩
     ·rw [if_neg c11] at H
      have c11b0 : ((Go.bits .and .u32 (rd l0 0) 15) == 4) = false := beq_eq_false_iff_ne.mpr c11
      have c11b1 : ((Go.bits .and .u32 (rd l0 0) 15) != 4) = true := bne_iff_ne.mpr c11
      by_cases c12 : (Go.bits .and .u32 (rd l0 0) 15) = 9
      ·rw [if_pos c12] at H
       have c12b0 : ((Go.bits .and .u32 (rd l0 0) 15) == 9) = true := beq_iff_eq.mpr c12
       have c12b1 : ((Go.bits .and .u32 (rd l0 0) 15) != 9) = false := bne_eq_false_iff_eq.mpr c12
       clear c12
       have H' := Aside0.mk H
       clear H
       go_wp2
       go_meet
       case rel => exact ⟨_, (((Go.bits .and .u32 (rd l0 0) 15) == 9)), Z7, H', ⟨Z14⟩, ⟨(Z52 BK437)⟩, ⟨(Z25 BK440)⟩, ⟨Z67⟩⟩
      ·rw [if_neg c12] at H
       have c12b0 : ((Go.bits .and .u32 (rd l0 0) 15) == 9) = false := beq_eq_false_iff_ne.mpr c12
       have c12b1 : ((Go.bits .and .u32 (rd l0 0) 15) != 9) = true := bne_iff_ne.mpr c12
       by_cases c13 : (Go.bits .and .u32 (rd l0 0) 15) = 10
       ·rw [if_pos c13] at H
        have c13b0 : ((Go.bits .and .u32 (rd l0 0) 15) == 10) = true := beq_iff_eq.mpr c13
        have c13b1 : ((Go.bits .and .u32 (rd l0 0) 15) != 10) = false := bne_eq_false_iff_eq.mpr c13
        clear c13
        have H' := Aside0.mk H
        clear H
        go_wp2
        go_meet
        case rel => exact ⟨_, (((Go.bits .and .u32 (rd l0 0) 15) == 10)), Z7, H', ⟨Z14⟩, ⟨(Z52 BK437)⟩, ⟨(Z25 BK440)⟩, ⟨Z67⟩⟩
       ·rw [if_neg c13] at H
        have c13b0 : ((Go.bits .and .u32 (rd l0 0) 15) == 10) = false := beq_eq_false_iff_ne.mpr c13
        have c13b1 : ((Go.bits .and .u32 (rd l0 0) 15) != 10) = true := bne_iff_ne.mpr c13
        have H' := Aside0.mk H
        clear H
        go_wp2
        go_meet
        case rel => exact ⟨_, (((Go.bits .and .u32 (rd l0 0) 15) == 11)), Z7, H', ⟨Z14⟩, ⟨(Z52 BK437)⟩, ⟨(Z25 BK440)⟩, ⟨Z67⟩⟩
  case rest =>
   clear HC3
   try clear c1
   try clear c2
   try clear c2b0
   try clear c2b1
   try clear p2
   try clear c4
   try clear p4
   try clear q4
   try clear hx4
   try clear qi4
   try clear c7
   try clear c9
   try clear c9b0
   try clear c9b1
   try clear c10
   try clear c10b0
   try clear c10b1
   try clear c11
   try clear c11b0
   try clear c11b1
   try clear c12
   try clear c12b0
   try clear c12b1
   try clear c13
   try clear c13b0
   try clear c13b1
   try clear hcz8_0
   try clear hcz8_1
   try clear hcz8_2
   try clear hcz8_3
   try clear hcz8_4
   try clear hfz8_0
   try clear hfz8_1
   try clear hfz8_2
   try clear hfz8_3
   try clear hfz8_4
   try clear hx438_0
   try clear hx439_0
   try clear p438
   try clear p439
   try clear q438
   try clear q439
   obtain ⟨kq, x22_2, rfl, HA, HJ2, BK437, BK440, HB⟩ := hcut
   cases kq with
   | zero => exact absurd HA.out (by simp [impl_parseOne.j0])
   | succ kj2 =>
    have H := HA.out
    clear HA
    simp only [impl_parseOne.j0] at H
    by_cases c14 : x22_2 = true
    ·subst c14
     have H1 : (if 1 ≤ (l0.length : Int) then ((some (l0.drop 1 : List Int)).bind fun y444 => (impl_parseOne.l0 kj2 (Go.bits .and .u32 (rd l0 0) 15) (([(rd l0 0) / 16] : List Int)) y444 (y444.length : Int) 0 0 (⟨#[]⟩ : ByteArray) 0 false (rd l0 0))) else (none)) = some (r1, r2, r3, r4, r5) := Z2
     clear H
     have H := H1
     clear H1
     obtain ⟨y441, hy441⟩ : ∃ y_ : List Int, y_ = (([(rd l0 0) / 16] : List Int)) := ⟨_, rfl⟩
     replace H : (if 1 ≤ (l0.length : Int) then ((some (l0.drop 1 : List Int)).bind fun y444 => (impl_parseOne.l0 kj2 (Go.bits .and .u32 (rd l0 0) 15) y441 y444 (y444.length : Int) 0 0 (⟨#[]⟩ : ByteArray) 0 false (rd l0 0))) else (none)) = some (r1, r2, r3, r4, r5) := by first | (rw [hy441]; with_reducible exact H) | (have H2_ := (Option.bind_some _ _).symm.trans H; rw [hy441]; with_reducible exact H2_) | (have H2_ := (Option.bind_some _ _).symm.trans H; with_reducible exact H2_) | with_reducible exact H | (rw [hy441]; exact H) | exact H
     have Ny441 := Aside0.mk hy441
     clear hy441
     by_cases c15 : 1 ≤ (l0.length : Int)
     ·rw [if_pos c15] at H
      have c15b0 := eq_true c15
      have c15b1 : decide (1 ≤ (l0.length : Int)) = true := decide_eq_true c15
      clear c15
      obtain ⟨y444, hy444⟩ : ∃ y_ : List Int, y_ = (l0.drop 1) := ⟨_, rfl⟩
      replace H : (impl_parseOne.l0 kj2 (Go.bits .and .u32 (rd l0 0) 15) y441 y444 (y444.length : Int) 0 0 (⟨#[]⟩ : ByteArray) 0 false (rd l0 0)) = some (r1, r2, r3, r4, r5) := by first | (rw [hy444]; with_reducible exact H) | (have H2_ := (Option.bind_some _ _).symm.trans H; rw [hy444]; with_reducible exact H2_) | (have H2_ := (Option.bind_some _ _).symm.trans H; with_reducible exact H2_) | with_reducible exact H | (rw [hy444]; exact H) | exact H
      have Ny444 := Aside0.mk hy444
      clear hy444
      have HC16 := Aside0.mk H
      clear H
      go_upto_block 1 with (first | ((with_reducible refine gate_dst (N := 31) rfl ?_); refine Kd.R_lit (Kd.int .u32) _ 22 (by rfl) (N := 31) (by rfl) (xs := ([(rd l0 0) / 16] : List Int)) (inner := [.int .u32 ((rd l0 0) / 16)]) (ok := fun _ => True) (okp := fun _ => True) Z3 (Reps.one (show Kd.M (Kd.int .u32) _ _ _ ((rd l0 0) / 16) [.int .u32 ((rd l0 0) / 16)] from rfl) (Reps.none _ _)) (fun _ hk => hk) trivial (Below.refl _ _) (Nat.le_refl _) (by simp) ?_; intro v442 w17 ho18 hb hg_ hnew_; clear hg_ hnew_; (first | rw [← Ny441.out] at ho18 | (simp only [Int.reduceToNat] at ho18; rw [← Ny441.out] at ho18)); have HO443 := Z (Kd.R_lower ho18 (below_size Z67)); replace BK437 := Z (blk_below (g := gb437) (o := .cells #[.int .i64 0, .string (⟨#[]⟩ : ByteArray), .int .i32 0, .bool false, .int .u32 0] 27 (0, 0)) (Z15 BK437) hb); replace BK440 := Z (blk_below (g := gb440) (o := .cells #[.int .i64 0, .string (⟨#[]⟩ : ByteArray), .int .i32 0, .bool false, .int .u32 (rd l0 0)] 27 (0, 0)) (Z15 BK440) hb); replace HB := Z (below_step Z67 hb); clear hb ho18; have q19 : (1 : Int) ≤ ((l0.length : Int) : Int) := of_decide_eq_true Z10; obtain ⟨i019, hi019, _, hsz19, _⟩ := info_parts info22; have hroom19 : l0.length ≤ c0 := HC0.out; have hC19 : Kd.C (Kd.int .u32) _ (some ad438) l0.length l0 := HR0.out; have hcut19 := cut_from (P := Tryd.prog) 30 22 .i64 Tryd.underlying30 hi019 1 hsz19 (some ad438) l0.length c0 1 (by omega) q19; have hr19 := Kd.C_drop (m := (1 : Int).toNat) (c := c0) hC19 (by omega) hroom19; obtain ⟨A19, hA19⟩ : ∃ A1, A1 = (if c0 = (1 : Int).toNat then (some ad438) else ((some ad438) : Option Addr).map (·.add ((1 : Int).toNat * 1))) := ⟨_, rfl⟩; obtain ⟨c19, hc19⟩ : ∃ c1, c1 = c0 - (1 : Int).toNat := ⟨_, rfl⟩; have hy19 : y444.length = l0.length - (1 : Int).toNat := (by rw [Ny444.out, List.length_drop] <;> omega); rw [show (l0).drop (1 : Int).toNat = y444 from Ny444.out.symm] at hr19; replace hr19 : Kd.C (Kd.int .u32) _ A19 y444.length y444 := (by rw [hA19]; exact hr19); rw [← hy19, ← hA19, ← hc19] at hcut19; have HR447 := Aside0.mk hr19; have HC447 := Z (show y444.length ≤ c19 from Z53); clear hr19 hC19 hroom19 hi019 hsz19 hc19; have KY19 := Aside0.mk hy19; have KA19 := Aside0.mk hA19; clear hy19 hA19; replace q19 := eq_true q19))
      (try simp only [Act.put, List.setIfInBounds_toArray, List.set_cons_zero, List.set_cons_succ])
      go_cut [6] (fun v6 wc => ∃ (kq : Nat) (x6_15 : List Int), Aside0 (impl_parseOne.j2 kq (Go.bits .and .u32 (rd l0 0) 15) x6_15 0 (⟨#[]⟩ : ByteArray) 0 false (rd l0 0) = some (r1, r2, r3, r4, r5)) ∧ Aside0 (kq ≤ kj2) ∧ Aside0 (Kd.R (Kd.int .u32) 22 wc w.heap.size (fun _ => True) v6 x6_15) ∧ Aside0 (wc.heap[gb437]? = some (.cells #[.int .i64 0, .string (⟨#[]⟩ : ByteArray), .int .i32 0, .bool false, .int .u32 0] 27 (0, 0))) ∧ Aside0 (wc.heap[gb440]? = some (.cells #[.int .i64 0, .string (⟨#[]⟩ : ByteArray), .int .i32 0, .bool false, .int .u32 (rd l0 0)] 27 (0, 0))) ∧ Aside0 (Below w.heap.size w wc))
      case first =>
       have H := HC16.out
       clear HC16
       have H' := Aside0.mk H
       clear H
       go_wp2
       go_loopg [6, 35] kj2 (fun kq v6 v35 w' => ∃ (x6_2 : List Int) (x35_2 : Int), v35 = .int .i64 x35_2 ∧ Aside0 (impl_parseOne.l0 kq (Go.bits .and .u32 (rd l0 0) 15) x6_2 y444 (y444.length : Int) x35_2 0 (⟨#[]⟩ : ByteArray) 0 false (rd l0 0) = some (r1, r2, r3, r4, r5)) ∧ Aside0 (kq ≤ kj2) ∧ Aside0 (Kd.R (Kd.int .u32) 22 w' w.heap.size (fun _ => True) v6 x6_2) ∧ Aside0 (w'.heap[gb437]? = some (.cells #[.int .i64 0, .string (⟨#[]⟩ : ByteArray), .int .i32 0, .bool false, .int .u32 0] 27 (0, 0))) ∧ Aside0 (w'.heap[gb440]? = some (.cells #[.int .i64 0, .string (⟨#[]⟩ : ByteArray), .int .i32 0, .bool false, .int .u32 (rd l0 0)] 27 (0, 0))) ∧ Aside0 (Below w.heap.size w w'))
       case atStart => exact ⟨(y441), (0), Z7, H', ⟨Nat.le_refl _⟩, ⟨(Z6 HO443)⟩, ⟨(Z15 BK437)⟩, ⟨(Z15 BK440)⟩, ⟨Z67⟩⟩
       case round =>
        clear H'
        try clear c1
        try clear q1
        try clear c2
        try clear c2b0
        try clear c2b1
        try clear p2
        try clear c4
        try clear p4
        try clear q4
        try clear hx4
        try clear qi4
        try clear c7
        try clear c9
        try clear c9b0
        try clear c9b1
        try clear c10
        try clear c10b0
        try clear c10b1
        try clear c11
        try clear c11b0
        try clear c11b1
        try clear c12
        try clear c12b0
        try clear c12b1
        try clear c13
        try clear c13b0
        try clear c13b1
        try clear c14
        try clear c15
        try clear c15b0
        try clear c15b1
        try clear c19
        try clear q19
        try clear hcz8_0
        try clear hcz8_1
        try clear hcz8_2
        try clear hcz8_3
        try clear hcz8_4
        try clear hfz8_0
        try clear hfz8_1
        try clear hfz8_2
        try clear hfz8_3
        try clear hfz8_4
        try clear hx438_0
        try clear hx439_0
        try clear p2
        try clear p4
        try clear p438
        try clear p439
        try clear q19
        try clear q4
        try clear q438
        try clear q439
        obtain ⟨x6_2, x35_2, rfl, HA, HK2, HO_6, BK437, BK440, HB⟩ := hrel
        cases gk with
        | zero => exact absurd HA.out (by simp [impl_parseOne.l0])
        | succ k2 =>
         have H := HA.out
         clear HA
         simp only [impl_parseOne.l0] at H
         by_cases c20 : x35_2 < (y444.length : Int)
         ·rw [if_pos c20] at H
          have c20b0 : decide (x35_2 < (y444.length : Int)) = true := decide_eq_true c20
          clear c20
          (first | rw [c20b0] | (simp only [i64_w, i32_w]; rw [c20b0]) | skip)
          by_cases c21 : 0 ≤ x35_2
          ·rw [if_pos c21] at H
           have c21b0 : decide (0 ≤ x35_2) = true := decide_eq_true c21
           clear c21
           by_cases c22 : x35_2 < (y444.length : Int)
           ·rw [if_pos c22] at H
            have c22b0 : decide (x35_2 < (y444.length : Int)) = true := decide_eq_true c22
            clear c22
            by_cases c23 : (rd y444 x35_2) = 0
            ·rw [if_pos c23] at H
             have c23b0 : ((rd y444 x35_2) == 0) = true := beq_iff_eq.mpr c23
             have c23b1 : ((rd y444 x35_2) != 0) = false := bne_eq_false_iff_eq.mpr c23
             clear c23
             have H' := Aside0.mk H
             clear H
             have p448 : 0 ≤ (x35_2 : Int) := of_decide_eq_true Z10
             have q448 : x35_2 < (y444.length : Int) := of_decide_eq_true Z10
             obtain ⟨ad448, e448, hx448_0⟩ := Kd.at_int HR447.out x35_2 p448 q448
             cases e448
             replace hx448_0 := (HB.out.cell (World.block_lt_of_cell? w _ hx448_0)).trans hx448_0
             replace p448 := eq_true p448
             replace q448 := eq_true q448
             go_wp2
             go_meet
             case rel => exact ⟨_, (x6_2), H', ⟨Z54⟩, ⟨(Z6 HO_6)⟩, ⟨(Z15 BK437)⟩, ⟨(Z15 BK440)⟩, ⟨Z67⟩⟩
            ·rw [if_neg c23] at H
             have c23b0 : ((rd y444 x35_2) == 0) = false := beq_eq_false_iff_ne.mpr c23
             have c23b1 : ((rd y444 x35_2) != 0) = true := bne_iff_ne.mpr c23
             by_cases c24 : (Go.bits .and .u32 (rd y444 x35_2) 15) = 0
             ·rw [if_pos c24] at H
              have c24b0 : ((Go.bits .and .u32 (rd y444 x35_2) 15) == 0) = true := beq_iff_eq.mpr c24
              have c24b1 : ((Go.bits .and .u32 (rd y444 x35_2) 15) != 0) = false := bne_eq_false_iff_eq.mpr c24
              clear c24
              by_cases c25 : x6_2.length < 35184372088832
              ·rw [if_pos c25] at H
               have LMc25 := Aside0.mk c25
               clear c25
               obtain ⟨y449, hy449⟩ : ∃ y_ : List Int, y_ = (x6_2 ++ [(rd y444 x35_2) / 16]) := ⟨_, rfl⟩
               replace H : (impl_parseOne.l0 k2 (Go.bits .and .u32 (rd l0 0) 15) y449 y444 (y444.length : Int) (wrap64 (x35_2 + 1)) 0 (⟨#[]⟩ : ByteArray) 0 false (rd l0 0)) = some (r1, r2, r3, r4, r5) := by first | (rw [hy449]; with_reducible exact H) | (have H2_ := (Option.bind_some _ _).symm.trans H; rw [hy449]; with_reducible exact H2_) | (have H2_ := (Option.bind_some _ _).symm.trans H; with_reducible exact H2_) | with_reducible exact H | (rw [hy449]; exact H) | exact H
               have Ny449 := Aside0.mk hy449
               clear hy449
               have H' := Aside0.mk H
               clear H
               have p448 : 0 ≤ (x35_2 : Int) := of_decide_eq_true Z10
               have q448 : x35_2 < (y444.length : Int) := of_decide_eq_true Z10
               obtain ⟨ad448, e448, hx448_0⟩ := Kd.at_int HR447.out x35_2 p448 q448
               cases e448
               replace hx448_0 := (HB.out.cell (World.block_lt_of_cell? w _ hx448_0)).trans hx448_0
               replace p448 := eq_true p448
               replace q448 := eq_true q448
               go_wp2_with (first | ((with_reducible refine gate_builtin (b := .append) (xs := #[.tmp 46, .tmp 49]) rfl ?_); at_builtin; refine Kd.R_append (Kd.int .u32) (w0 := w) w.heap.size rfl (.tmp 46) (.tmp 49) 30 22 (.int .u32 0) 4 rfl Tryd.underlying30 info22 rfl (by decide) (by omega) u6 x6_2 ((rd y444 x35_2) / 16) [.int .u32 ((rd y444 x35_2) / 16)] (fun _ => True) (fun _ => False) rfl rfl ?aP (fun _ hk => hk.elim) ?aF ?aO ?aB ?aS ?aL ?_; (case aP => exact rfl); (case aB => exact Z67); (case aF => exact (fun _ _ => trivial)); (case aO => exact (Z6 HO_6)); (case aS => exact (below_size Z67)); (case aL => have := LMc25.out; omega); intro v450 w26 ho hb hg hat; rw [← Ny449.out] at ho; replace BK437 := Z (blk_grown (g := gb437) (o := .cells #[.int .i64 0, .string (⟨#[]⟩ : ByteArray), .int .i32 0, .bool false, .int .u32 0] 27 (0, 0)) (Z15 BK437) hg (Kd.R_ne HO_6.out BK437.out (by decide))); replace BK440 := Z (blk_grown (g := gb440) (o := .cells #[.int .i64 0, .string (⟨#[]⟩ : ByteArray), .int .i32 0, .bool false, .int .u32 (rd l0 0)] 27 (0, 0)) (Z15 BK440) hg (Kd.R_ne HO_6.out BK440.out (by decide))); replace HB := Z (hb); have HO451 := Z (ho); clear HO_6; clear ho hb hg hat))
               go_roundg k2
               case measure => have := HJ2.out; have := HK2.out; omega
               case rel => exact ⟨(y449), (wrap64 (x35_2 + 1)), Z7, H', ⟨by have := HJ2.out; have := HK2.out; omega⟩, ⟨(Z6 HO451)⟩, ⟨(Z15 BK437)⟩, ⟨(Z15 BK440)⟩, ⟨Z67⟩⟩
              ·rw [if_neg c25] at H
               exact absurd H (by simp)
             ·rw [if_neg c24] at H
              have c24b0 : ((Go.bits .and .u32 (rd y444 x35_2) 15) == 0) = false := beq_eq_false_iff_ne.mpr c24
              have c24b1 : ((Go.bits .and .u32 (rd y444 x35_2) 15) != 0) = true := bne_iff_ne.mpr c24
              have H' := Aside0.mk H
              clear H
              have p448 : 0 ≤ (x35_2 : Int) := of_decide_eq_true Z10
              have q448 : x35_2 < (y444.length : Int) := of_decide_eq_true Z10
              obtain ⟨ad448, e448, hx448_0⟩ := Kd.at_int HR447.out x35_2 p448 q448
              cases e448
              replace hx448_0 := (HB.out.cell (World.block_lt_of_cell? w _ hx448_0)).trans hx448_0
              replace p448 := eq_true p448
              replace q448 := eq_true q448
              go_wp2
              go_meet
              case rel => exact ⟨_, (x6_2), H', ⟨Z54⟩, ⟨(Z6 HO_6)⟩, ⟨(Z15 BK437)⟩, ⟨(Z15 BK440)⟩, ⟨Z67⟩⟩
           ·rw [if_neg c22] at H
            exact absurd H (by simp)
          ·rw [if_neg c21] at H
           exact absurd H (by simp)
         ·rw [if_neg c20] at H
          have c20b0 : decide (x35_2 < (y444.length : Int)) = false := decide_eq_false c20
          clear c20
          (first | rw [c20b0] | (simp only [i64_w, i32_w]; rw [c20b0]) | skip)
          have H' := Aside0.mk H
          clear H
          go_wp2
          go_meet
          case rel => exact ⟨_, (x6_2), H', ⟨Z54⟩, ⟨(Z6 HO_6)⟩, ⟨(Z15 BK437)⟩, ⟨(Z15 BK440)⟩, ⟨Z67⟩⟩
      case rest =>
       clear HC16
       try clear c1
       try clear q1
       try clear c2
       try clear c2b0
       try clear c2b1
       try clear p2
       try clear c4
       try clear p4
       try clear q4
       try clear hx4
       try clear qi4
       try clear p6
       try clear c7
       try clear c9
       try clear c9b0
       try clear c9b1
       try clear c10
       try clear c10b0
       try clear c10b1
       try clear c11
       try clear c11b0
       try clear c11b1
       try clear c12
       try clear c12b0
       try clear c12b1
       try clear c13
       try clear c13b0
       try clear c13b1
       try clear c14
       try clear c15
       try clear c15b0
       try clear c15b1
       try clear c19
       try clear q19
       try clear c20
       try clear c20b0
       try clear c21
       try clear c21b0
       try clear c22
       try clear c22b0
       try clear c23
       try clear c23b0
       try clear c23b1
       try clear c24
       try clear c24b0
       try clear c24b1
       try clear c25
       try clear hcz8_0
       try clear hcz8_1
       try clear hcz8_2
       try clear hcz8_3
       try clear hcz8_4
       try clear hfz8_0
       try clear hfz8_1
       try clear hfz8_2
       try clear hfz8_3
       try clear hfz8_4
       try clear hx438_0
       try clear hx439_0
       try clear hx448_0
       try clear p2
       try clear p4
       try clear p438
       try clear p439
       try clear p448
       try clear q1
       try clear q19
       try clear q4
       try clear q438
       try clear q439
       try clear q448
       obtain ⟨kq, x6_15, HA, HJ15, HO_6, BK437, BK440, HB⟩ := hcut
       cases kq with
       | zero => exact absurd HA.out (by simp [impl_parseOne.j2])
       | succ kj15 =>
        have H := HA.out
        clear HA
        simp only [impl_parseOne.j2] at H
        replace H := Option.bind_eq_some_iff.mp H
        obtain ⟨⟨t452, t453⟩, A270, H⟩ := H
        replace H : (if t453 = true then ((impl_nameKind.f kj15 (Go.bits .and .u32 (rd l0 0) 15)).bind fun t454 => (some (t454, t452, 0, false, 0))) else (some (0, (⟨#[]⟩ : ByteArray), 0, false, (rd l0 0)))) = some (r1, r2, r3, r4, r5) := H
        have A27 := Aside0.mk A270
        clear A270
        by_cases c28 : t453 = true
        ·subst c28
         have H1 : ((impl_nameKind.f kj15 (Go.bits .and .u32 (rd l0 0) 15)).bind fun t454 => (some (t454, t452, 0, false, 0))) = some (r1, r2, r3, r4, r5) := Z2
         clear H
         have H := H1
         clear H1
         replace H := Option.bind_eq_some_iff.mp H
         obtain ⟨t454, A290, H⟩ := H
         replace H : (some (t454, t452, 0, false, 0)) = some (r1, r2, r3, r4, r5) := H
         have A29 := Aside0.mk A290
         clear A290
         simp only [Option.some.injEq, Prod.mk.injEq] at H
         obtain ⟨rfl, rfl, rfl, rfl, rfl⟩ := H
         obtain ⟨Ao30, co30, eo30⟩ := Kd.R_slice HO_6.out
         subst eo30
         go_wp2_with (first | ((with_reducible refine gate_callee (f := 67) rfl ?_); refine goesL_ (some 54) rfl rfl Tryd.func67 Z0 rfl #[.slice Ao30 x6_15.length co30] rfl Z9 ?_; (with_reducible refine (impl_Unpack.calls kj15 _ _ x6_15 t452 true _ ?side1 ?side2 A27.out).mono ?_); (case side1 => exact (Z23 HO_6)); (case side2 => exact (Kd.R_reads' HO_6.out).2.1); rintro e w31 ⟨rfl, hb⟩; refine ⟨_, rfl, ?_⟩; replace HO_6 := Z (Kd.R_below (Z6 HO_6) hb); replace BK437 := Z (blk_below (g := gb437) (o := .cells #[.int .i64 0, .string (⟨#[]⟩ : ByteArray), .int .i32 0, .bool false, .int .u32 0] 27 (0, 0)) (Z15 BK437) hb); replace BK440 := Z (blk_below (g := gb440) (o := .cells #[.int .i64 0, .string (⟨#[]⟩ : ByteArray), .int .i32 0, .bool false, .int .u32 (rd l0 0)] 27 (0, 0)) (Z15 BK440) hb); replace HB := Z (below_step Z67 hb); (try clear hb); (try clear hb2); (try clear hk); (try clear hi)) | ((with_reducible refine gate_callee (f := 68) rfl ?_); refine goesL_ (some 59) rfl rfl Tryd.func68 Z0 rfl #[.int .u32 (Go.bits .and .u32 (rd l0 0) 15)] rfl Z9 ?_; (with_reducible refine (impl_nameKind.calls kj15 (Go.bits .and .u32 (rd l0 0) 15) t454 _ A29.out).mono ?_); rintro e w' ⟨rfl, ⟨nd, rfl⟩⟩; refine ⟨_, rfl, ?_⟩; (try (rw [drewN_self w31]; generalize hq_ : World.drewN w31 _ = w31; have n0_ : Aside0 (Kd.R (Kd.int .u32) 22 w31 w.heap.size (fun _ => True) (.slice Ao30 x6_15.length co30) x6_15) := ⟨by rw [← hq_]; exact (Z6 HO_6)⟩; have n1_ : Aside0 (w31.heap[gb437]? = some (.cells #[.int .i64 0, .string (⟨#[]⟩ : ByteArray), .int .i32 0, .bool false, .int .u32 0] 27 (0, 0))) := ⟨by rw [← hq_]; exact (Z15 BK437)⟩; have n2_ : Aside0 (w31.heap[gb440]? = some (.cells #[.int .i64 0, .string (⟨#[]⟩ : ByteArray), .int .i32 0, .bool false, .int .u32 (rd l0 0)] 27 (0, 0))) := ⟨by rw [← hq_]; exact (Z15 BK440)⟩; have n3_ : Aside0 (Below w.heap.size w w31) := ⟨by rw [← hq_]; exact Z67⟩; clear HO_6 BK437 BK440 HB hq_; have HO_6 := n0_; have BK437 := n1_; have BK440 := n2_; have HB := n3_; clear n0_ n1_ n2_ n3_)); have hnb32 := NB440_437.out; have hnc32 := NB437_440.out; have hcz33_0 : w31.cell? ⟨gb440, 0, none⟩ = some (.int .i64 0) := (blk_cell BK440.out 0).trans rfl; have hcz33_1 : w31.cell? ⟨gb440, 1, none⟩ = some (.string (⟨#[]⟩ : ByteArray)) := (blk_cell BK440.out 1).trans rfl; have hcz33_2 : w31.cell? ⟨gb440, 2, none⟩ = some (.int .i32 0) := (blk_cell BK440.out 2).trans rfl; have hcz33_3 : w31.cell? ⟨gb440, 3, none⟩ = some (.bool false) := (blk_cell BK440.out 3).trans rfl; have hcz33_4 : w31.cell? ⟨gb440, 4, none⟩ = some (.int .u32 (rd l0 0)) := (blk_cell BK440.out 4).trans rfl; have hfz33_0 := blk_frozen BK440.out 0; have hfz33_1 := blk_frozen BK440.out 1; have hfz33_2 := blk_frozen BK440.out 2; have hfz33_3 := blk_frozen BK440.out 3; have hfz33_4 := blk_frozen BK440.out 4; have hcz34_0 : w31.cell? ⟨gb437, 0, none⟩ = some (.int .i64 0) := (blk_cell BK437.out 0).trans rfl; have hcz34_1 : w31.cell? ⟨gb437, 1, none⟩ = some (.string (⟨#[]⟩ : ByteArray)) := (blk_cell BK437.out 1).trans rfl; have hcz34_2 : w31.cell? ⟨gb437, 2, none⟩ = some (.int .i32 0) := (blk_cell BK437.out 2).trans rfl; have hcz34_3 : w31.cell? ⟨gb437, 3, none⟩ = some (.bool false) := (blk_cell BK437.out 3).trans rfl; have hcz34_4 : w31.cell? ⟨gb437, 4, none⟩ = some (.int .u32 0) := (blk_cell BK437.out 4).trans rfl; have hfz34_0 := blk_frozen BK437.out 0; have hfz34_1 := blk_frozen BK437.out 1; have hfz34_2 := blk_frozen BK437.out 2; have hfz34_3 := blk_frozen BK437.out 3; have hfz34_4 := blk_frozen BK437.out 4))
         refine bodyPost_ret (results_cell_row rfl _ _ gb437 27 #[.int .i64 t454, .string t452, .int .i32 0, .bool false, .int .u32 0] (0, 0) _ rfl (by (with_reducible repeat (first | refine blk_drewN ?_ _ | refine blk_drew ?_ | refine blk_alloc ?_ _)); refine blk_put (cs := #[.int .i64 t454, .string t452, .int .i32 0, .bool false, .int .u32 0]) ?_ 4 _ rfl; (with_reducible repeat (first | refine blk_drewN ?_ _ | refine blk_drew ?_ | refine blk_alloc ?_ _)); refine blk_put (cs := #[.int .i64 t454, .string t452, .int .i32 0, .bool false, .int .u32 0]) ?_ 3 _ rfl; (with_reducible repeat (first | refine blk_drewN ?_ _ | refine blk_drew ?_ | refine blk_alloc ?_ _)); refine blk_put (cs := #[.int .i64 t454, .string t452, .int .i32 0, .bool false, .int .u32 0]) ?_ 2 _ rfl; (with_reducible repeat (first | refine blk_drewN ?_ _ | refine blk_drew ?_ | refine blk_alloc ?_ _)); refine blk_put (cs := #[.int .i64 t454, .string (⟨#[]⟩ : ByteArray), .int .i32 0, .bool false, .int .u32 0]) ?_ 1 _ rfl; (with_reducible repeat (first | refine blk_drewN ?_ _ | refine blk_drew ?_ | refine blk_alloc ?_ _)); refine blk_put (cs := #[.int .i64 0, .string (⟨#[]⟩ : ByteArray), .int .i32 0, .bool false, .int .u32 0]) ?_ 0 _ rfl; (with_reducible repeat (first | refine blk_drewN ?_ _ | refine blk_drew ?_ | refine blk_alloc ?_ _)); refine blk_far ?_ NB437_440.out _; (with_reducible repeat (first | refine blk_drewN ?_ _ | refine blk_drew ?_ | refine blk_alloc ?_ _)); refine blk_far ?_ NB437_440.out _; (with_reducible repeat (first | refine blk_drewN ?_ _ | refine blk_drew ?_ | refine blk_alloc ?_ _)); refine blk_far ?_ NB437_440.out _; (with_reducible repeat (first | refine blk_drewN ?_ _ | refine blk_drew ?_ | refine blk_alloc ?_ _)); refine blk_far ?_ NB437_440.out _; (with_reducible repeat (first | refine blk_drewN ?_ _ | refine blk_drew ?_ | refine blk_alloc ?_ _)); refine blk_far ?_ NB437_440.out _; (with_reducible repeat (first | refine blk_drewN ?_ _ | refine blk_drew ?_ | refine blk_alloc ?_ _)); exact BK437.out) Tryd.underlying27 rfl Z0) rfl ?_
         exact ⟨Z68, Z67⟩
        ·replace c28 := Bool.eq_false_iff.mpr c28
         subst c28
         have H1 : (some (0, (⟨#[]⟩ : ByteArray), 0, false, (rd l0 0))) = some (r1, r2, r3, r4, r5) := by rw [if_neg (show ¬ (false = true) by decide)] at H; exact H
         clear H
         have H := H1
         clear H1
         simp only [Option.some.injEq, Prod.mk.injEq] at H
         obtain ⟨rfl, rfl, rfl, rfl, rfl⟩ := H
         obtain ⟨Ao35, co35, eo35⟩ := Kd.R_slice HO_6.out
         subst eo35
         go_wp2_with (first | ((with_reducible refine gate_callee (f := 67) rfl ?_); refine goesL_ (some 54) rfl rfl Tryd.func67 Z0 rfl #[.slice Ao35 x6_15.length co35] rfl Z9 ?_; (with_reducible refine (impl_Unpack.calls kj15 _ _ x6_15 t452 false _ ?side1 ?side2 A27.out).mono ?_); (case side1 => exact (Z23 HO_6)); (case side2 => exact (Kd.R_reads' HO_6.out).2.1); rintro e w36 ⟨rfl, hb⟩; refine ⟨_, rfl, ?_⟩; replace HO_6 := Z (Kd.R_below (Z6 HO_6) hb); replace BK437 := Z (blk_below (g := gb437) (o := .cells #[.int .i64 0, .string (⟨#[]⟩ : ByteArray), .int .i32 0, .bool false, .int .u32 0] 27 (0, 0)) (Z15 BK437) hb); replace BK440 := Z (blk_below (g := gb440) (o := .cells #[.int .i64 0, .string (⟨#[]⟩ : ByteArray), .int .i32 0, .bool false, .int .u32 (rd l0 0)] 27 (0, 0)) (Z15 BK440) hb); replace HB := Z (below_step Z67 hb); (try clear hb); (try clear hb2); (try clear hk); (try clear hi); have hnb37 := NB440_437.out; have hnc37 := NB437_440.out; have hcz38_0 : w36.cell? ⟨gb440, 0, none⟩ = some (.int .i64 0) := (blk_cell BK440.out 0).trans rfl; have hcz38_1 : w36.cell? ⟨gb440, 1, none⟩ = some (.string (⟨#[]⟩ : ByteArray)) := (blk_cell BK440.out 1).trans rfl; have hcz38_2 : w36.cell? ⟨gb440, 2, none⟩ = some (.int .i32 0) := (blk_cell BK440.out 2).trans rfl; have hcz38_3 : w36.cell? ⟨gb440, 3, none⟩ = some (.bool false) := (blk_cell BK440.out 3).trans rfl; have hcz38_4 : w36.cell? ⟨gb440, 4, none⟩ = some (.int .u32 (rd l0 0)) := (blk_cell BK440.out 4).trans rfl; have hfz38_0 := blk_frozen BK440.out 0; have hfz38_1 := blk_frozen BK440.out 1; have hfz38_2 := blk_frozen BK440.out 2; have hfz38_3 := blk_frozen BK440.out 3; have hfz38_4 := blk_frozen BK440.out 4; have hcz39_0 : w36.cell? ⟨gb437, 0, none⟩ = some (.int .i64 0) := (blk_cell BK437.out 0).trans rfl; have hcz39_1 : w36.cell? ⟨gb437, 1, none⟩ = some (.string (⟨#[]⟩ : ByteArray)) := (blk_cell BK437.out 1).trans rfl; have hcz39_2 : w36.cell? ⟨gb437, 2, none⟩ = some (.int .i32 0) := (blk_cell BK437.out 2).trans rfl; have hcz39_3 : w36.cell? ⟨gb437, 3, none⟩ = some (.bool false) := (blk_cell BK437.out 3).trans rfl; have hcz39_4 : w36.cell? ⟨gb437, 4, none⟩ = some (.int .u32 0) := (blk_cell BK437.out 4).trans rfl; have hfz39_0 := blk_frozen BK437.out 0; have hfz39_1 := blk_frozen BK437.out 1; have hfz39_2 := blk_frozen BK437.out 2; have hfz39_3 := blk_frozen BK437.out 3; have hfz39_4 := blk_frozen BK437.out 4))
         refine bodyPost_ret (results_cell_row rfl _ _ gb437 27 #[.int .i64 0, .string (⟨#[]⟩ : ByteArray), .int .i32 0, .bool false, .int .u32 (rd l0 0)] (0, 0) _ rfl (Z25 BK437) Tryd.underlying27 rfl Z0) rfl ?_
         exact ⟨Z68, Z67⟩
     ·rw [if_neg c15] at H
      exact absurd H (by simp)
    ·replace c14 := Bool.eq_false_iff.mpr c14
     subst c14
     have H1 : (if (Go.bits .and .u32 (rd l0 0) 15) = 8 then (some (7, (⟨#[]⟩ : ByteArray), (wrap32 ((rd l0 0))) / 32, ((Go.bits .and .u32 (rd l0 0) 16) != 0), 0)) else (if (Go.bits .and .u32 (rd l0 0) 15) = 6 then (some (8, (⟨#[]⟩ : ByteArray), (wrap32 ((rd l0 0))) / 32, ((Go.bits .and .u32 (rd l0 0) 16) != 0), 0)) else (if (Go.bits .and .u32 (rd l0 0) 15) = 2 then (impl_parseOne.j3 kj2 l0 (rd l0 0) (Go.bits .and .u32 (rd l0 0) 15) (Go.bits .and .u32 (rd l0 0) 15) ((Go.bits .and .u32 (rd l0 0) 15) == 2) 0 (⟨#[]⟩ : ByteArray) 0 false (rd l0 0)) else (impl_parseOne.j3 kj2 l0 (rd l0 0) (Go.bits .and .u32 (rd l0 0) 15) (Go.bits .and .u32 (rd l0 0) 15) ((Go.bits .and .u32 (rd l0 0) 15) == 5) 0 (⟨#[]⟩ : ByteArray) 0 false (rd l0 0))))) = some (r1, r2, r3, r4, r5) := by rw [if_neg (show ¬ (false = true) by decide)] at H; exact H
     clear H
     have H := H1
     clear H1
     by_cases c40 : (Go.bits .and .u32 (rd l0 0) 15) = 8
     ·rw [if_pos c40] at H
      have c40b0 : ((Go.bits .and .u32 (rd l0 0) 15) == 8) = true := beq_iff_eq.mpr c40
      have c40b1 : ((Go.bits .and .u32 (rd l0 0) 15) != 8) = false := bne_eq_false_iff_eq.mpr c40
      clear c40
      simp only [Option.some.injEq, Prod.mk.injEq] at H
      obtain ⟨rfl, rfl, rfl, rfl, rfl⟩ := H
      have hnb41 := NB440_437.out
      have hnc41 := NB437_440.out
      have hcz42_0 : wc.cell? ⟨gb440, 0, none⟩ = some (.int .i64 0) := (blk_cell BK440.out 0).trans rfl
      have hcz42_1 : wc.cell? ⟨gb440, 1, none⟩ = some (.string (⟨#[]⟩ : ByteArray)) := (blk_cell BK440.out 1).trans rfl
      have hcz42_2 : wc.cell? ⟨gb440, 2, none⟩ = some (.int .i32 0) := (blk_cell BK440.out 2).trans rfl
      have hcz42_3 : wc.cell? ⟨gb440, 3, none⟩ = some (.bool false) := (blk_cell BK440.out 3).trans rfl
      have hcz42_4 : wc.cell? ⟨gb440, 4, none⟩ = some (.int .u32 (rd l0 0)) := (blk_cell BK440.out 4).trans rfl
      have hfz42_0 := blk_frozen BK440.out 0
      have hfz42_1 := blk_frozen BK440.out 1
      have hfz42_2 := blk_frozen BK440.out 2
      have hfz42_3 := blk_frozen BK440.out 3
      have hfz42_4 := blk_frozen BK440.out 4
      have hcz43_0 : wc.cell? ⟨gb437, 0, none⟩ = some (.int .i64 0) := (blk_cell BK437.out 0).trans rfl
      have hcz43_1 : wc.cell? ⟨gb437, 1, none⟩ = some (.string (⟨#[]⟩ : ByteArray)) := (blk_cell BK437.out 1).trans rfl
      have hcz43_2 : wc.cell? ⟨gb437, 2, none⟩ = some (.int .i32 0) := (blk_cell BK437.out 2).trans rfl
      have hcz43_3 : wc.cell? ⟨gb437, 3, none⟩ = some (.bool false) := (blk_cell BK437.out 3).trans rfl
      have hcz43_4 : wc.cell? ⟨gb437, 4, none⟩ = some (.int .u32 0) := (blk_cell BK437.out 4).trans rfl
      have hfz43_0 := blk_frozen BK437.out 0
      have hfz43_1 := blk_frozen BK437.out 1
      have hfz43_2 := blk_frozen BK437.out 2
      have hfz43_3 := blk_frozen BK437.out 3
      have hfz43_4 := blk_frozen BK437.out 4
      go_wp2
      refine bodyPost_ret (results_cell_row rfl _ _ gb437 27 #[.int .i64 7, .string (⟨#[]⟩ : ByteArray), .int .i32 ((wrap32 ((rd l0 0))) / 32), .bool ((Go.bits .and .u32 (rd l0 0) 16) != 0), .int .u32 0] (0, 0) _ rfl (by (with_reducible repeat (first | refine blk_drewN ?_ _ | refine blk_drew ?_ | refine blk_alloc ?_ _)); refine blk_put (cs := #[.int .i64 7, .string (⟨#[]⟩ : ByteArray), .int .i32 ((wrap32 ((rd l0 0))) / 32), .bool ((Go.bits .and .u32 (rd l0 0) 16) != 0), .int .u32 0]) ?_ 4 _ rfl; (with_reducible repeat (first | refine blk_drewN ?_ _ | refine blk_drew ?_ | refine blk_alloc ?_ _)); refine blk_put (cs := #[.int .i64 7, .string (⟨#[]⟩ : ByteArray), .int .i32 ((wrap32 ((rd l0 0))) / 32), .bool false, .int .u32 0]) ?_ 3 _ rfl; (with_reducible repeat (first | refine blk_drewN ?_ _ | refine blk_drew ?_ | refine blk_alloc ?_ _)); refine blk_put (cs := #[.int .i64 7, .string (⟨#[]⟩ : ByteArray), .int .i32 0, .bool false, .int .u32 0]) ?_ 2 _ rfl; (with_reducible repeat (first | refine blk_drewN ?_ _ | refine blk_drew ?_ | refine blk_alloc ?_ _)); refine blk_put (cs := #[.int .i64 7, .string (⟨#[]⟩ : ByteArray), .int .i32 0, .bool false, .int .u32 0]) ?_ 1 _ rfl; (with_reducible repeat (first | refine blk_drewN ?_ _ | refine blk_drew ?_ | refine blk_alloc ?_ _)); refine blk_put (cs := #[.int .i64 0, .string (⟨#[]⟩ : ByteArray), .int .i32 0, .bool false, .int .u32 0]) ?_ 0 _ rfl; (with_reducible repeat (first | refine blk_drewN ?_ _ | refine blk_drew ?_ | refine blk_alloc ?_ _)); refine blk_far ?_ NB437_440.out _; (with_reducible repeat (first | refine blk_drewN ?_ _ | refine blk_drew ?_ | refine blk_alloc ?_ _)); refine blk_far ?_ NB437_440.out _; (with_reducible repeat (first | refine blk_drewN ?_ _ | refine blk_drew ?_ | refine blk_alloc ?_ _)); refine blk_far ?_ NB437_440.out _; (with_reducible repeat (first | refine blk_drewN ?_ _ | refine blk_drew ?_ | refine blk_alloc ?_ _)); refine blk_far ?_ NB437_440.out _; (with_reducible repeat (first | refine blk_drewN ?_ _ | refine blk_drew ?_ | refine blk_alloc ?_ _)); refine blk_far ?_ NB437_440.out _; (with_reducible repeat (first | refine blk_drewN ?_ _ | refine blk_drew ?_ | refine blk_alloc ?_ _)); exact BK437.out) Tryd.underlying27 rfl Z0) rfl ?_
      exact ⟨Z68, Z67⟩
     ·rw [if_neg c40] at H
      have c40b0 : ((Go.bits .and .u32 (rd l0 0) 15) == 8) = false := beq_eq_false_iff_ne.mpr c40
      have c40b1 : ((Go.bits .and .u32 (rd l0 0) 15) != 8) = true := bne_iff_ne.mpr c40
      by_cases c44 : (Go.bits .and .u32 (rd l0 0) 15) = 6
      ·rw [if_pos c44] at H
       have c44b0 : ((Go.bits .and .u32 (rd l0 0) 15) == 6) = true := beq_iff_eq.mpr c44
       have c44b1 : ((Go.bits .and .u32 (rd l0 0) 15) != 6) = false := bne_eq_false_iff_eq.mpr c44
       clear c44
       simp only [Option.some.injEq, Prod.mk.injEq] at H
       obtain ⟨rfl, rfl, rfl, rfl, rfl⟩ := H
       have hnb45 := NB440_437.out
       have hnc45 := NB437_440.out
       have hcz46_0 : wc.cell? ⟨gb440, 0, none⟩ = some (.int .i64 0) := (blk_cell BK440.out 0).trans rfl
       have hcz46_1 : wc.cell? ⟨gb440, 1, none⟩ = some (.string (⟨#[]⟩ : ByteArray)) := (blk_cell BK440.out 1).trans rfl
       have hcz46_2 : wc.cell? ⟨gb440, 2, none⟩ = some (.int .i32 0) := (blk_cell BK440.out 2).trans rfl
       have hcz46_3 : wc.cell? ⟨gb440, 3, none⟩ = some (.bool false) := (blk_cell BK440.out 3).trans rfl
       have hcz46_4 : wc.cell? ⟨gb440, 4, none⟩ = some (.int .u32 (rd l0 0)) := (blk_cell BK440.out 4).trans rfl
       have hfz46_0 := blk_frozen BK440.out 0
       have hfz46_1 := blk_frozen BK440.out 1
       have hfz46_2 := blk_frozen BK440.out 2
       have hfz46_3 := blk_frozen BK440.out 3
       have hfz46_4 := blk_frozen BK440.out 4
       have hcz47_0 : wc.cell? ⟨gb437, 0, none⟩ = some (.int .i64 0) := (blk_cell BK437.out 0).trans rfl
       have hcz47_1 : wc.cell? ⟨gb437, 1, none⟩ = some (.string (⟨#[]⟩ : ByteArray)) := (blk_cell BK437.out 1).trans rfl
       have hcz47_2 : wc.cell? ⟨gb437, 2, none⟩ = some (.int .i32 0) := (blk_cell BK437.out 2).trans rfl
       have hcz47_3 : wc.cell? ⟨gb437, 3, none⟩ = some (.bool false) := (blk_cell BK437.out 3).trans rfl
       have hcz47_4 : wc.cell? ⟨gb437, 4, none⟩ = some (.int .u32 0) := (blk_cell BK437.out 4).trans rfl
       have hfz47_0 := blk_frozen BK437.out 0
       have hfz47_1 := blk_frozen BK437.out 1
       have hfz47_2 := blk_frozen BK437.out 2
       have hfz47_3 := blk_frozen BK437.out 3
       have hfz47_4 := blk_frozen BK437.out 4
       go_wp2
       refine bodyPost_ret (results_cell_row rfl _ _ gb437 27 #[.int .i64 8, .string (⟨#[]⟩ : ByteArray), .int .i32 ((wrap32 ((rd l0 0))) / 32), .bool ((Go.bits .and .u32 (rd l0 0) 16) != 0), .int .u32 0] (0, 0) _ rfl (by (with_reducible repeat (first | refine blk_drewN ?_ _ | refine blk_drew ?_ | refine blk_alloc ?_ _)); refine blk_put (cs := #[.int .i64 8, .string (⟨#[]⟩ : ByteArray), .int .i32 ((wrap32 ((rd l0 0))) / 32), .bool ((Go.bits .and .u32 (rd l0 0) 16) != 0), .int .u32 0]) ?_ 4 _ rfl; (with_reducible repeat (first | refine blk_drewN ?_ _ | refine blk_drew ?_ | refine blk_alloc ?_ _)); refine blk_put (cs := #[.int .i64 8, .string (⟨#[]⟩ : ByteArray), .int .i32 ((wrap32 ((rd l0 0))) / 32), .bool false, .int .u32 0]) ?_ 3 _ rfl; (with_reducible repeat (first | refine blk_drewN ?_ _ | refine blk_drew ?_ | refine blk_alloc ?_ _)); refine blk_put (cs := #[.int .i64 8, .string (⟨#[]⟩ : ByteArray), .int .i32 0, .bool false, .int .u32 0]) ?_ 2 _ rfl; (with_reducible repeat (first | refine blk_drewN ?_ _ | refine blk_drew ?_ | refine blk_alloc ?_ _)); refine blk_put (cs := #[.int .i64 8, .string (⟨#[]⟩ : ByteArray), .int .i32 0, .bool false, .int .u32 0]) ?_ 1 _ rfl; (with_reducible repeat (first | refine blk_drewN ?_ _ | refine blk_drew ?_ | refine blk_alloc ?_ _)); refine blk_put (cs := #[.int .i64 0, .string (⟨#[]⟩ : ByteArray), .int .i32 0, .bool false, .int .u32 0]) ?_ 0 _ rfl; (with_reducible repeat (first | refine blk_drewN ?_ _ | refine blk_drew ?_ | refine blk_alloc ?_ _)); refine blk_far ?_ NB437_440.out _; (with_reducible repeat (first | refine blk_drewN ?_ _ | refine blk_drew ?_ | refine blk_alloc ?_ _)); refine blk_far ?_ NB437_440.out _; (with_reducible repeat (first | refine blk_drewN ?_ _ | refine blk_drew ?_ | refine blk_alloc ?_ _)); refine blk_far ?_ NB437_440.out _; (with_reducible repeat (first | refine blk_drewN ?_ _ | refine blk_drew ?_ | refine blk_alloc ?_ _)); refine blk_far ?_ NB437_440.out _; (with_reducible repeat (first | refine blk_drewN ?_ _ | refine blk_drew ?_ | refine blk_alloc ?_ _)); refine blk_far ?_ NB437_440.out _; (with_reducible repeat (first | refine blk_drewN ?_ _ | refine blk_drew ?_ | refine blk_alloc ?_ _)); exact BK437.out) Tryd.underlying27 rfl Z0) rfl ?_
       exact ⟨Z68, Z67⟩
      ·rw [if_neg c44] at H
       have c44b0 : ((Go.bits .and .u32 (rd l0 0) 15) == 6) = false := beq_eq_false_iff_ne.mpr c44
       have c44b1 : ((Go.bits .and .u32 (rd l0 0) 15) != 6) = true := bne_iff_ne.mpr c44
       have HC48 := Aside0.mk H
       clear H
       go_upto_if 80 with (fail)
       go_cut [80] (fun v80 wc => ∃ (kq : Nat) (x80_47 : Bool), v80 = .bool x80_47 ∧ Aside0 (impl_parseOne.j3 kq l0 (rd l0 0) (Go.bits .and .u32 (rd l0 0) 15) (Go.bits .and .u32 (rd l0 0) 15) x80_47 0 (⟨#[]⟩ : ByteArray) 0 false (rd l0 0) = some (r1, r2, r3, r4, r5)) ∧ Aside0 (kq ≤ kj2) ∧ Aside0 (wc.heap[gb437]? = some (.cells #[.int .i64 0, .string (⟨#[]⟩ : ByteArray), .int .i32 0, .bool false, .int .u32 0] 27 (0, 0))) ∧ Aside0 (wc.heap[gb440]? = some (.cells #[.int .i64 0, .string (⟨#[]⟩ : ByteArray), .int .i32 0, .bool false, .int .u32 (rd l0 0)] 27 (0, 0))) ∧ Aside0 (Below w.heap.size w wc))
       case first =>
        have H := HC48.out
        clear HC48
        by_cases c49 : (Go.bits .and .u32 (rd l0 0) 15) = 2
        ·rw [if_pos c49] at H
         have c49b0 : ((Go.bits .and .u32 (rd l0 0) 15) == 2) = true := beq_iff_eq.mpr c49
         have c49b1 : ((Go.bits .and .u32 (rd l0 0) 15) != 2) = false := bne_eq_false_iff_eq.mpr c49
         clear c49
         (first | rw [c49b0] | (simp only [i64_w, i32_w]; rw [c49b0]) | skip)
         have H' := Aside0.mk H
         clear H
         go_wp2
         go_meet
         case rel => exact ⟨_, (((Go.bits .and .u32 (rd l0 0) 15) == 2)), Z7, H', ⟨by have := HJ2.out; first | omega | exact Nat.le_refl _⟩, ⟨(Z15 BK437)⟩, ⟨(Z15 BK440)⟩, ⟨Z67⟩⟩
        ·rw [if_neg c49] at H
         have c49b0 : ((Go.bits .and .u32 (rd l0 0) 15) == 2) = false := beq_eq_false_iff_ne.mpr c49
         have c49b1 : ((Go.bits .and .u32 (rd l0 0) 15) != 2) = true := bne_iff_ne.mpr c49
         (first | rw [c49b0] | (simp only [i64_w, i32_w]; rw [c49b0]) | skip)
         have H' := Aside0.mk H
         clear H
         go_wp2
         go_meet
         case rel => exact ⟨_, (((Go.bits .and .u32 (rd l0 0) 15) == 5)), Z7, H', ⟨by have := HJ2.out; first | omega | exact Nat.le_refl _⟩, ⟨(Z15 BK437)⟩, ⟨(Z15 BK440)⟩, ⟨Z67⟩⟩
       case rest =>
        clear HC48
        try clear c1
        try clear q1
        try clear c2
        try clear c2b0
        try clear c2b1
        try clear p2
        try clear c3
        try clear p3
        try clear c4
        try clear p4
        try clear q4
        try clear hx4
        try clear qi4
        try clear c6
        try clear p6
        try clear c7
        try clear c9
        try clear c9b0
        try clear c9b1
        try clear c10
        try clear c10b0
        try clear c10b1
        try clear c11
        try clear c11b0
        try clear c11b1
        try clear c12
        try clear c12b0
        try clear c12b1
        try clear c13
        try clear c13b0
        try clear c13b1
        try clear c14
        try clear c15
        try clear c15b0
        try clear c15b1
        try clear c19
        try clear q19
        try clear c20
        try clear c20b0
        try clear c21
        try clear c21b0
        try clear c22
        try clear c22b0
        try clear c23
        try clear c23b0
        try clear c23b1
        try clear c24
        try clear c24b0
        try clear c24b1
        try clear c25
        try clear c28
        try clear c32
        try clear p32
        try clear c37
        try clear c40
        try clear c40b0
        try clear c40b1
        try clear c41
        try clear p43
        try clear q43
        try clear hx43
        try clear c44
        try clear c44b0
        try clear c44b1
        try clear p44
        try clear q44
        try clear hx44
        try clear c45
        try clear c49
        try clear c49b0
        try clear c49b1
        try clear hcz33_0
        try clear hcz33_1
        try clear hcz33_2
        try clear hcz33_3
        try clear hcz33_4
        try clear hcz34_0
        try clear hcz34_1
        try clear hcz34_2
        try clear hcz34_3
        try clear hcz34_4
        try clear hcz38_0
        try clear hcz38_1
        try clear hcz38_2
        try clear hcz38_3
        try clear hcz38_4
        try clear hcz39_0
        try clear hcz39_1
        try clear hcz39_2
        try clear hcz39_3
        try clear hcz39_4
        try clear hcz42_0
        try clear hcz42_1
        try clear hcz42_2
        try clear hcz42_3
        try clear hcz42_4
        try clear hcz43_0
        try clear hcz43_1
        try clear hcz43_2
        try clear hcz43_3
        try clear hcz43_4
        try clear hcz46_0
        try clear hcz46_1
        try clear hcz46_2
        try clear hcz46_3
        try clear hcz46_4
        try clear hcz47_0
        try clear hcz47_1
        try clear hcz47_2
        try clear hcz47_3
        try clear hcz47_4
        try clear hcz8_0
        try clear hcz8_1
        try clear hcz8_2
        try clear hcz8_3
        try clear hcz8_4
        try clear hfz33_0
        try clear hfz33_1
        try clear hfz33_2
        try clear hfz33_3
        try clear hfz33_4
        try clear hfz34_0
        try clear hfz34_1
        try clear hfz34_2
        try clear hfz34_3
        try clear hfz34_4
        try clear hfz38_0
        try clear hfz38_1
        try clear hfz38_2
        try clear hfz38_3
        try clear hfz38_4
        try clear hfz39_0
        try clear hfz39_1
        try clear hfz39_2
        try clear hfz39_3
        try clear hfz39_4
        try clear hfz42_0
        try clear hfz42_1
        try clear hfz42_2
        try clear hfz42_3
        try clear hfz42_4
        try clear hfz43_0
        try clear hfz43_1
        try clear hfz43_2
        try clear hfz43_3
        try clear hfz43_4
        try clear hfz46_0
        try clear hfz46_1
        try clear hfz46_2
        try clear hfz46_3
        try clear hfz46_4
        try clear hfz47_0
        try clear hfz47_1
        try clear hfz47_2
        try clear hfz47_3
        try clear hfz47_4
        try clear hfz8_0
        try clear hfz8_1
        try clear hfz8_2
        try clear hfz8_3
        try clear hfz8_4
        try clear hx438_0
        try clear hx439_0
        try clear hx448_0
        try clear p2
        try clear p4
        try clear p438
        try clear p439
        try clear p448
        try clear p6
        try clear q1
        try clear q19
        try clear q4
        try clear q438
        try clear q439
        try clear q448
        obtain ⟨kq, x80_47, rfl, HA, HJ47, BK437, BK440, HB⟩ := hcut
        cases kq with
        | zero => exact absurd HA.out (by simp [impl_parseOne.j3])
        | succ kj47 =>
         have H := HA.out
         clear HA
         simp only [impl_parseOne.j3] at H
         by_cases c50 : x80_47 = true
         ·subst c50
          have H1 : (if (l0.length : Int) < 2 then (some (0, (⟨#[]⟩ : ByteArray), 0, false, (rd l0 0))) else (if 1 < (l0.length : Int) then (if (Go.bits .and .u32 (rd l0 0) 15) = 5 then (impl_parseOne.j4 kj47 l0 0 (⟨#[]⟩ : ByteArray) 0 false (rd l0 0) 8 (⟨#[]⟩ : ByteArray) (wrap32 (rd l0 1)) ((Go.bits .and .u32 (rd l0 0) 16) != 0) 0) else (impl_parseOne.j4 kj47 l0 0 (⟨#[]⟩ : ByteArray) 0 false (rd l0 0) 7 (⟨#[]⟩ : ByteArray) (wrap32 (rd l0 1)) ((Go.bits .and .u32 (rd l0 0) 16) != 0) 0)) else (none))) = some (r1, r2, r3, r4, r5) := Z2
          clear H
          have H := H1
          clear H1
          by_cases c51 : (l0.length : Int) < 2
          ·rw [if_pos c51] at H
           have c51b0 : decide ((l0.length : Int) < 2) = true := decide_eq_true c51
           have c51b1 : decide (l0.length < 2) = true := decide_eq_true (by omega)
           clear c51
           simp only [Option.some.injEq, Prod.mk.injEq] at H
           obtain ⟨rfl, rfl, rfl, rfl, rfl⟩ := H
           have hnb52 := NB440_437.out
           have hnc52 := NB437_440.out
           have hcz53_0 : wc.cell? ⟨gb440, 0, none⟩ = some (.int .i64 0) := (blk_cell BK440.out 0).trans rfl
           have hcz53_1 : wc.cell? ⟨gb440, 1, none⟩ = some (.string (⟨#[]⟩ : ByteArray)) := (blk_cell BK440.out 1).trans rfl
           have hcz53_2 : wc.cell? ⟨gb440, 2, none⟩ = some (.int .i32 0) := (blk_cell BK440.out 2).trans rfl
           have hcz53_3 : wc.cell? ⟨gb440, 3, none⟩ = some (.bool false) := (blk_cell BK440.out 3).trans rfl
           have hcz53_4 : wc.cell? ⟨gb440, 4, none⟩ = some (.int .u32 (rd l0 0)) := (blk_cell BK440.out 4).trans rfl
           have hfz53_0 := blk_frozen BK440.out 0
           have hfz53_1 := blk_frozen BK440.out 1
           have hfz53_2 := blk_frozen BK440.out 2
           have hfz53_3 := blk_frozen BK440.out 3
           have hfz53_4 := blk_frozen BK440.out 4
           have hcz54_0 : wc.cell? ⟨gb437, 0, none⟩ = some (.int .i64 0) := (blk_cell BK437.out 0).trans rfl
           have hcz54_1 : wc.cell? ⟨gb437, 1, none⟩ = some (.string (⟨#[]⟩ : ByteArray)) := (blk_cell BK437.out 1).trans rfl
           have hcz54_2 : wc.cell? ⟨gb437, 2, none⟩ = some (.int .i32 0) := (blk_cell BK437.out 2).trans rfl
           have hcz54_3 : wc.cell? ⟨gb437, 3, none⟩ = some (.bool false) := (blk_cell BK437.out 3).trans rfl
           have hcz54_4 : wc.cell? ⟨gb437, 4, none⟩ = some (.int .u32 0) := (blk_cell BK437.out 4).trans rfl
           have hfz54_0 := blk_frozen BK437.out 0
           have hfz54_1 := blk_frozen BK437.out 1
           have hfz54_2 := blk_frozen BK437.out 2
           have hfz54_3 := blk_frozen BK437.out 3
           have hfz54_4 := blk_frozen BK437.out 4
           go_wp2
           refine bodyPost_ret (results_cell_row rfl _ _ gb437 27 #[.int .i64 0, .string (⟨#[]⟩ : ByteArray), .int .i32 0, .bool false, .int .u32 (rd l0 0)] (0, 0) _ rfl (Z25 BK437) Tryd.underlying27 rfl Z0) rfl ?_
           exact ⟨Z68, Z67⟩
          ·rw [if_neg c51] at H
           have c51b0 : decide ((l0.length : Int) < 2) = false := decide_eq_false c51
           have c51b1 : decide (l0.length < 2) = false := decide_eq_false (by omega)
           clear c51
           by_cases c55 : 1 < (l0.length : Int)
           ·rw [if_pos c55] at H
            have c55b0 : decide (1 < (l0.length : Int)) = true := decide_eq_true c55
            have c55b1 : decide (1 < l0.length) = true := decide_eq_true (by omega)
            clear c55
            have HC56 := Aside0.mk H
            clear H
            have p455 : 0 ≤ (1 : Int) := (by omega)
            have q455 : 1 < (l0.length : Int) := of_decide_eq_true Z10
            obtain ⟨ad455, e455, hx455_0⟩ := Kd.at_int HR0.out 1 p455 q455
            obtain rfl : ad438 = ad455 := (by injection e455)
            (try simp only [show (1 : Int).toNat = 1 from rfl, Nat.reduceMul, Nat.reduceEqDiff, Go.Addr.add, ↓reduceIte] at hx455_0)
            have qi455 : (1 < l0.length) = True := eq_true (by omega)
            (try rw [show ((1 : Int)).toNat = 1 from rfl] at hx455_0)
            replace hx455_0 := (HB.out.cell (World.block_lt_of_cell? w _ hx455_0)).trans hx455_0
            replace p455 := eq_true p455
            replace q455 := eq_true q455
            go_upto_if 95 with (first | ((with_reducible refine gate_dst (N := 11) rfl ?_); refine box_event (by rfl) (N := 11) (by rfl) (cs := #[.int .i64 0, .string (⟨#[]⟩ : ByteArray), .int .i32 0, .bool false, .int .u32 0]) (t := 27) Z3 ?_; intro gb456 hg w57 hbox hb; have BK456 := Z (hbox); have GW456 := Z ((Z79 : w.heap.size ≤ gb456)); have GE456 := Z ((Z79 : w.heap.size ≤ gb456)); replace HB := Z (below_step Z67 hb); have NB437_456 := Z ((Z75 : gb437 ≠ gb456)); have NB456_437 := Z ((Z76 : gb456 ≠ gb437)); replace BK437 := Z (blk_below (g := gb437) (o := .cells #[.int .i64 0, .string (⟨#[]⟩ : ByteArray), .int .i32 0, .bool false, .int .u32 0] 27 (0, 0)) (Z15 BK437) hb); have NB440_456 := Z ((by rw [hg]; exact Nat.ne_of_lt (blk_lt (g := gb440) (o := .cells #[.int .i64 0, .string (⟨#[]⟩ : ByteArray), .int .i32 0, .bool false, .int .u32 (rd l0 0)] 27 (0, 0)) (Z15 BK440)) : gb440 ≠ gb456)); have NB456_440 := Z ((by rw [hg]; exact Nat.ne_of_gt (blk_lt (g := gb440) (o := .cells #[.int .i64 0, .string (⟨#[]⟩ : ByteArray), .int .i32 0, .bool false, .int .u32 (rd l0 0)] 27 (0, 0)) (Z15 BK440)) : gb456 ≠ gb440)); replace BK440 := Z (blk_below (g := gb440) (o := .cells #[.int .i64 0, .string (⟨#[]⟩ : ByteArray), .int .i32 0, .bool false, .int .u32 (rd l0 0)] 27 (0, 0)) (Z15 BK440) hb); clear hb hbox hg; have hnb58 := NB456_437.out; have hnc58 := NB437_456.out; have hnb59 := NB456_440.out; have hnc59 := NB440_456.out; have hcz60_0 : w57.cell? ⟨gb456, 0, none⟩ = some (.int .i64 0) := (blk_cell BK456.out 0).trans rfl; have hcz60_1 : w57.cell? ⟨gb456, 1, none⟩ = some (.string (⟨#[]⟩ : ByteArray)) := (blk_cell BK456.out 1).trans rfl; have hcz60_2 : w57.cell? ⟨gb456, 2, none⟩ = some (.int .i32 0) := (blk_cell BK456.out 2).trans rfl; have hcz60_3 : w57.cell? ⟨gb456, 3, none⟩ = some (.bool false) := (blk_cell BK456.out 3).trans rfl; have hcz60_4 : w57.cell? ⟨gb456, 4, none⟩ = some (.int .u32 0) := (blk_cell BK456.out 4).trans rfl; have hfz60_0 := blk_frozen BK456.out 0; have hfz60_1 := blk_frozen BK456.out 1; have hfz60_2 := blk_frozen BK456.out 2; have hfz60_3 := blk_frozen BK456.out 3; have hfz60_4 := blk_frozen BK456.out 4))
            (try simp only [Act.put, List.setIfInBounds_toArray, List.set_cons_zero, List.set_cons_succ])
            go_cut [] (fun wc => ∃ (kq : Nat) (x457000_55 : Int), Aside0 (impl_parseOne.j4 kq l0 0 (⟨#[]⟩ : ByteArray) 0 false (rd l0 0) x457000_55 (⟨#[]⟩ : ByteArray) (wrap32 (rd l0 1)) ((Go.bits .and .u32 (rd l0 0) 16) != 0) 0 = some (r1, r2, r3, r4, r5)) ∧ Aside0 (kq ≤ kj47) ∧ Aside0 (wc.heap[gb437]? = some (.cells #[.int .i64 0, .string (⟨#[]⟩ : ByteArray), .int .i32 0, .bool false, .int .u32 0] 27 (0, 0))) ∧ Aside0 (wc.heap[gb440]? = some (.cells #[.int .i64 0, .string (⟨#[]⟩ : ByteArray), .int .i32 0, .bool false, .int .u32 (rd l0 0)] 27 (0, 0))) ∧ Aside0 (wc.heap[gb456]? = some (.cells #[.int .i64 x457000_55, .string (⟨#[]⟩ : ByteArray), .int .i32 (wrap32 (rd l0 1)), .bool ((Go.bits .and .u32 (rd l0 0) 16) != 0), .int .u32 0] 27 (0, 0))) ∧ Aside0 (Below w.heap.size w wc))
            case first =>
             have H := HC56.out
             clear HC56
             by_cases c61 : (Go.bits .and .u32 (rd l0 0) 15) = 5
             ·rw [if_pos c61] at H
              have c61b0 : ((Go.bits .and .u32 (rd l0 0) 15) == 5) = true := beq_iff_eq.mpr c61
              have c61b1 : ((Go.bits .and .u32 (rd l0 0) 15) != 5) = false := bne_eq_false_iff_eq.mpr c61
              clear c61
              (first | rw [c61b0] | (simp only [i64_w, i32_w]; rw [c61b0]) | skip)
              have H' := Aside0.mk H
              clear H
              have hnb62 := NB456_437.out
              have hnc62 := NB437_456.out
              have hnb63 := NB456_440.out
              have hnc63 := NB440_456.out
              have hcz64_0 : w57.cell? ⟨gb456, 0, none⟩ = some (.int .i64 0) := (blk_cell BK456.out 0).trans rfl
              have hcz64_1 : w57.cell? ⟨gb456, 1, none⟩ = some (.string (⟨#[]⟩ : ByteArray)) := (blk_cell BK456.out 1).trans rfl
              have hcz64_2 : w57.cell? ⟨gb456, 2, none⟩ = some (.int .i32 0) := (blk_cell BK456.out 2).trans rfl
              have hcz64_3 : w57.cell? ⟨gb456, 3, none⟩ = some (.bool false) := (blk_cell BK456.out 3).trans rfl
              have hcz64_4 : w57.cell? ⟨gb456, 4, none⟩ = some (.int .u32 0) := (blk_cell BK456.out 4).trans rfl
              have hfz64_0 := blk_frozen BK456.out 0
              have hfz64_1 := blk_frozen BK456.out 1
              have hfz64_2 := blk_frozen BK456.out 2
              have hfz64_3 := blk_frozen BK456.out 3
              have hfz64_4 := blk_frozen BK456.out 4
              go_wp2
              go_meet
              case rel => exact ⟨_, (8), H', ⟨Z55⟩, ⟨by (with_reducible repeat (first | refine blk_drewN ?_ _ | refine blk_drew ?_ | refine blk_alloc ?_ _)); refine blk_far ?_ NB437_456.out _; (with_reducible repeat (first | refine blk_drewN ?_ _ | refine blk_drew ?_ | refine blk_alloc ?_ _)); refine blk_far ?_ NB437_456.out _; (with_reducible repeat (first | refine blk_drewN ?_ _ | refine blk_drew ?_ | refine blk_alloc ?_ _)); refine blk_far ?_ NB437_456.out _; (with_reducible repeat (first | refine blk_drewN ?_ _ | refine blk_drew ?_ | refine blk_alloc ?_ _)); refine blk_far ?_ NB437_456.out _; (with_reducible repeat (first | refine blk_drewN ?_ _ | refine blk_drew ?_ | refine blk_alloc ?_ _)); refine blk_far ?_ NB437_456.out _; (with_reducible repeat (first | refine blk_drewN ?_ _ | refine blk_drew ?_ | refine blk_alloc ?_ _)); refine blk_far ?_ NB437_456.out _; (with_reducible repeat (first | refine blk_drewN ?_ _ | refine blk_drew ?_ | refine blk_alloc ?_ _)); exact BK437.out⟩, ⟨by (with_reducible repeat (first | refine blk_drewN ?_ _ | refine blk_drew ?_ | refine blk_alloc ?_ _)); refine blk_far ?_ NB440_456.out _; (with_reducible repeat (first | refine blk_drewN ?_ _ | refine blk_drew ?_ | refine blk_alloc ?_ _)); refine blk_far ?_ NB440_456.out _; (with_reducible repeat (first | refine blk_drewN ?_ _ | refine blk_drew ?_ | refine blk_alloc ?_ _)); refine blk_far ?_ NB440_456.out _; (with_reducible repeat (first | refine blk_drewN ?_ _ | refine blk_drew ?_ | refine blk_alloc ?_ _)); refine blk_far ?_ NB440_456.out _; (with_reducible repeat (first | refine blk_drewN ?_ _ | refine blk_drew ?_ | refine blk_alloc ?_ _)); refine blk_far ?_ NB440_456.out _; (with_reducible repeat (first | refine blk_drewN ?_ _ | refine blk_drew ?_ | refine blk_alloc ?_ _)); refine blk_far ?_ NB440_456.out _; (with_reducible repeat (first | refine blk_drewN ?_ _ | refine blk_drew ?_ | refine blk_alloc ?_ _)); exact BK440.out⟩, ⟨by (with_reducible repeat (first | refine blk_drewN ?_ _ | refine blk_drew ?_ | refine blk_alloc ?_ _)); refine blk_put (cs := #[.int .i64 7, .string (⟨#[]⟩ : ByteArray), .int .i32 (wrap32 (rd l0 1)), .bool ((Go.bits .and .u32 (rd l0 0) 16) != 0), .int .u32 0]) ?_ 0 _ rfl; (with_reducible repeat (first | refine blk_drewN ?_ _ | refine blk_drew ?_ | refine blk_alloc ?_ _)); refine blk_put (cs := #[.int .i64 7, .string (⟨#[]⟩ : ByteArray), .int .i32 (wrap32 (rd l0 1)), .bool ((Go.bits .and .u32 (rd l0 0) 16) != 0), .int .u32 0]) ?_ 4 _ rfl; (with_reducible repeat (first | refine blk_drewN ?_ _ | refine blk_drew ?_ | refine blk_alloc ?_ _)); refine blk_put (cs := #[.int .i64 7, .string (⟨#[]⟩ : ByteArray), .int .i32 (wrap32 (rd l0 1)), .bool false, .int .u32 0]) ?_ 3 _ rfl; (with_reducible repeat (first | refine blk_drewN ?_ _ | refine blk_drew ?_ | refine blk_alloc ?_ _)); refine blk_put (cs := #[.int .i64 7, .string (⟨#[]⟩ : ByteArray), .int .i32 0, .bool false, .int .u32 0]) ?_ 2 _ rfl; (with_reducible repeat (first | refine blk_drewN ?_ _ | refine blk_drew ?_ | refine blk_alloc ?_ _)); refine blk_put (cs := #[.int .i64 7, .string (⟨#[]⟩ : ByteArray), .int .i32 0, .bool false, .int .u32 0]) ?_ 1 _ rfl; (with_reducible repeat (first | refine blk_drewN ?_ _ | refine blk_drew ?_ | refine blk_alloc ?_ _)); refine blk_put (cs := #[.int .i64 0, .string (⟨#[]⟩ : ByteArray), .int .i32 0, .bool false, .int .u32 0]) ?_ 0 _ rfl; (with_reducible repeat (first | refine blk_drewN ?_ _ | refine blk_drew ?_ | refine blk_alloc ?_ _)); exact BK456.out⟩, ⟨Z67⟩⟩
             ·rw [if_neg c61] at H
              have c61b0 : ((Go.bits .and .u32 (rd l0 0) 15) == 5) = false := beq_eq_false_iff_ne.mpr c61
              have c61b1 : ((Go.bits .and .u32 (rd l0 0) 15) != 5) = true := bne_iff_ne.mpr c61
              (first | rw [c61b0] | (simp only [i64_w, i32_w]; rw [c61b0]) | skip)
              have H' := Aside0.mk H
              clear H
              go_wp2
              go_meet
              case rel => exact ⟨_, (7), H', ⟨Z55⟩, ⟨by (with_reducible repeat (first | refine blk_drewN ?_ _ | refine blk_drew ?_ | refine blk_alloc ?_ _)); refine blk_far ?_ NB437_456.out _; (with_reducible repeat (first | refine blk_drewN ?_ _ | refine blk_drew ?_ | refine blk_alloc ?_ _)); refine blk_far ?_ NB437_456.out _; (with_reducible repeat (first | refine blk_drewN ?_ _ | refine blk_drew ?_ | refine blk_alloc ?_ _)); refine blk_far ?_ NB437_456.out _; (with_reducible repeat (first | refine blk_drewN ?_ _ | refine blk_drew ?_ | refine blk_alloc ?_ _)); refine blk_far ?_ NB437_456.out _; (with_reducible repeat (first | refine blk_drewN ?_ _ | refine blk_drew ?_ | refine blk_alloc ?_ _)); refine blk_far ?_ NB437_456.out _; (with_reducible repeat (first | refine blk_drewN ?_ _ | refine blk_drew ?_ | refine blk_alloc ?_ _)); exact BK437.out⟩, ⟨by (with_reducible repeat (first | refine blk_drewN ?_ _ | refine blk_drew ?_ | refine blk_alloc ?_ _)); refine blk_far ?_ NB440_456.out _; (with_reducible repeat (first | refine blk_drewN ?_ _ | refine blk_drew ?_ | refine blk_alloc ?_ _)); refine blk_far ?_ NB440_456.out _; (with_reducible repeat (first | refine blk_drewN ?_ _ | refine blk_drew ?_ | refine blk_alloc ?_ _)); refine blk_far ?_ NB440_456.out _; (with_reducible repeat (first | refine blk_drewN ?_ _ | refine blk_drew ?_ | refine blk_alloc ?_ _)); refine blk_far ?_ NB440_456.out _; (with_reducible repeat (first | refine blk_drewN ?_ _ | refine blk_drew ?_ | refine blk_alloc ?_ _)); refine blk_far ?_ NB440_456.out _; (with_reducible repeat (first | refine blk_drewN ?_ _ | refine blk_drew ?_ | refine blk_alloc ?_ _)); exact BK440.out⟩, ⟨by (with_reducible repeat (first | refine blk_drewN ?_ _ | refine blk_drew ?_ | refine blk_alloc ?_ _)); refine blk_put (cs := #[.int .i64 7, .string (⟨#[]⟩ : ByteArray), .int .i32 (wrap32 (rd l0 1)), .bool ((Go.bits .and .u32 (rd l0 0) 16) != 0), .int .u32 0]) ?_ 4 _ rfl; (with_reducible repeat (first | refine blk_drewN ?_ _ | refine blk_drew ?_ | refine blk_alloc ?_ _)); refine blk_put (cs := #[.int .i64 7, .string (⟨#[]⟩ : ByteArray), .int .i32 (wrap32 (rd l0 1)), .bool false, .int .u32 0]) ?_ 3 _ rfl; (with_reducible repeat (first | refine blk_drewN ?_ _ | refine blk_drew ?_ | refine blk_alloc ?_ _)); refine blk_put (cs := #[.int .i64 7, .string (⟨#[]⟩ : ByteArray), .int .i32 0, .bool false, .int .u32 0]) ?_ 2 _ rfl; (with_reducible repeat (first | refine blk_drewN ?_ _ | refine blk_drew ?_ | refine blk_alloc ?_ _)); refine blk_put (cs := #[.int .i64 7, .string (⟨#[]⟩ : ByteArray), .int .i32 0, .bool false, .int .u32 0]) ?_ 1 _ rfl; (with_reducible repeat (first | refine blk_drewN ?_ _ | refine blk_drew ?_ | refine blk_alloc ?_ _)); refine blk_put (cs := #[.int .i64 0, .string (⟨#[]⟩ : ByteArray), .int .i32 0, .bool false, .int .u32 0]) ?_ 0 _ rfl; (with_reducible repeat (first | refine blk_drewN ?_ _ | refine blk_drew ?_ | refine blk_alloc ?_ _)); exact BK456.out⟩, ⟨Z67⟩⟩
            case rest =>
             clear HC56
             try clear c1
             try clear q1
             try clear c2
             try clear c2b0
             try clear c2b1
             try clear p2
             try clear c3
             try clear p3
             try clear c4
             try clear p4
             try clear q4
             try clear hx4
             try clear qi4
             try clear c5
             try clear c6
             try clear p6
             try clear c7
             try clear c9
             try clear c9b0
             try clear c9b1
             try clear c10
             try clear c10b0
             try clear c10b1
             try clear c11
             try clear c11b0
             try clear c11b1
             try clear c12
             try clear c12b0
             try clear c12b1
             try clear c13
             try clear c13b0
             try clear c13b1
             try clear c14
             try clear c15
             try clear c15b0
             try clear c15b1
             try clear c19
             try clear q19
             try clear c20
             try clear c20b0
             try clear c21
             try clear c21b0
             try clear c22
             try clear c22b0
             try clear c23
             try clear c23b0
             try clear c23b1
             try clear c24
             try clear c24b0
             try clear c24b1
             try clear c25
             try clear c28
             try clear c32
             try clear p32
             try clear c37
             try clear c40
             try clear c40b0
             try clear c40b1
             try clear c41
             try clear p43
             try clear q43
             try clear hx43
             try clear c44
             try clear c44b0
             try clear c44b1
             try clear p44
             try clear q44
             try clear hx44
             try clear c45
             try clear p45
             try clear q45
             try clear hx45
             try clear qi45
             try clear c49
             try clear c49b0
             try clear c49b1
             try clear c50
             try clear c51
             try clear c51b0
             try clear c51b1
             try clear c52
             try clear c55
             try clear c55b0
             try clear c55b1
             try clear c58
             try clear c59
             try clear c61
             try clear c61b0
             try clear c61b1
             try clear c62
             try clear c63
             try clear p64
             try clear hcz33_0
             try clear hcz33_1
             try clear hcz33_2
             try clear hcz33_3
             try clear hcz33_4
             try clear hcz34_0
             try clear hcz34_1
             try clear hcz34_2
             try clear hcz34_3
             try clear hcz34_4
             try clear hcz38_0
             try clear hcz38_1
             try clear hcz38_2
             try clear hcz38_3
             try clear hcz38_4
             try clear hcz39_0
             try clear hcz39_1
             try clear hcz39_2
             try clear hcz39_3
             try clear hcz39_4
             try clear hcz42_0
             try clear hcz42_1
             try clear hcz42_2
             try clear hcz42_3
             try clear hcz42_4
             try clear hcz43_0
             try clear hcz43_1
             try clear hcz43_2
             try clear hcz43_3
             try clear hcz43_4
             try clear hcz46_0
             try clear hcz46_1
             try clear hcz46_2
             try clear hcz46_3
             try clear hcz46_4
             try clear hcz47_0
             try clear hcz47_1
             try clear hcz47_2
             try clear hcz47_3
             try clear hcz47_4
             try clear hcz53_0
             try clear hcz53_1
             try clear hcz53_2
             try clear hcz53_3
             try clear hcz53_4
             try clear hcz54_0
             try clear hcz54_1
             try clear hcz54_2
             try clear hcz54_3
             try clear hcz54_4
             try clear hcz60_0
             try clear hcz60_1
             try clear hcz60_2
             try clear hcz60_3
             try clear hcz60_4
             try clear hcz64_0
             try clear hcz64_1
             try clear hcz64_2
             try clear hcz64_3
             try clear hcz64_4
             try clear hcz8_0
             try clear hcz8_1
             try clear hcz8_2
             try clear hcz8_3
             try clear hcz8_4
             try clear hfz33_0
             try clear hfz33_1
             try clear hfz33_2
             try clear hfz33_3
             try clear hfz33_4
             try clear hfz34_0
             try clear hfz34_1
             try clear hfz34_2
             try clear hfz34_3
             try clear hfz34_4
             try clear hfz38_0
             try clear hfz38_1
             try clear hfz38_2
             try clear hfz38_3
             try clear hfz38_4
             try clear hfz39_0
             try clear hfz39_1
             try clear hfz39_2
             try clear hfz39_3
             try clear hfz39_4
             try clear hfz42_0
             try clear hfz42_1
             try clear hfz42_2
             try clear hfz42_3
             try clear hfz42_4
             try clear hfz43_0
             try clear hfz43_1
             try clear hfz43_2
             try clear hfz43_3
             try clear hfz43_4
             try clear hfz46_0
             try clear hfz46_1
             try clear hfz46_2
             try clear hfz46_3
             try clear hfz46_4
             try clear hfz47_0
             try clear hfz47_1
             try clear hfz47_2
             try clear hfz47_3
             try clear hfz47_4
             try clear hfz53_0
             try clear hfz53_1
             try clear hfz53_2
             try clear hfz53_3
             try clear hfz53_4
             try clear hfz54_0
             try clear hfz54_1
             try clear hfz54_2
             try clear hfz54_3
             try clear hfz54_4
             try clear hfz60_0
             try clear hfz60_1
             try clear hfz60_2
             try clear hfz60_3
             try clear hfz60_4
             try clear hfz64_0
             try clear hfz64_1
             try clear hfz64_2
             try clear hfz64_3
             try clear hfz64_4
             try clear hfz8_0
             try clear hfz8_1
             try clear hfz8_2
             try clear hfz8_3
             try clear hfz8_4
             try clear hx438_0
             try clear hx439_0
             try clear hx448_0
             try clear hx455_0
             try clear p2
             try clear p3
             try clear p32
             try clear p4
             try clear p43
             try clear p438
             try clear p439
             try clear p44
             try clear p448
             try clear p455
             try clear p6
             try clear q1
             try clear q19
             try clear q4
             try clear q43
             try clear q438
             try clear q439
             try clear q44
             try clear q448
             try clear q455
             obtain ⟨kq, x457000_55, HA, HJ55, BK437, BK440, BK456, HB⟩ := hcut
             cases kq with
             | zero => exact absurd HA.out (by simp [impl_parseOne.j4])
             | succ kj55 =>
              have H := HA.out
              clear HA
              simp only [impl_parseOne.j4] at H
              replace H := Option.bind_eq_some_iff.mp H
              obtain ⟨t457, A650, H⟩ := H
              replace H : (if 2 ≤ (l0.length : Int) then ((slices_Equal_uint32_uint32.f kj55 t457 (l0.take 2)).bind fun t461 => (if t461 = true then (some (x457000_55, (⟨#[]⟩ : ByteArray), (wrap32 (rd l0 1)), ((Go.bits .and .u32 (rd l0 0) 16) != 0), 0)) else (some (0, (⟨#[]⟩ : ByteArray), 0, false, (rd l0 0))))) else (none)) = some (r1, r2, r3, r4, r5) := H
              have A65 := Aside0.mk A650
              clear A650
              by_cases c66 : 2 ≤ (l0.length : Int)
              ·rw [if_pos c66] at H
               have c66b0 := eq_true c66
               have c66b1 : decide (2 ≤ (l0.length : Int)) = true := decide_eq_true c66
               clear c66
               replace H := Option.bind_eq_some_iff.mp H
               obtain ⟨t461, A670, H⟩ := H
               replace H : (if t461 = true then (some (x457000_55, (⟨#[]⟩ : ByteArray), (wrap32 (rd l0 1)), ((Go.bits .and .u32 (rd l0 0) 16) != 0), 0)) else (some (0, (⟨#[]⟩ : ByteArray), 0, false, (rd l0 0)))) = some (r1, r2, r3, r4, r5) := H
               have A67 := Aside0.mk A670
               clear A670
               by_cases c68 : t461 = true
               ·subst c68
                have H1 : (some (x457000_55, (⟨#[]⟩ : ByteArray), (wrap32 (rd l0 1)), ((Go.bits .and .u32 (rd l0 0) 16) != 0), 0)) = some (r1, r2, r3, r4, r5) := Z2
                clear H
                have H := H1
                clear H1
                simp only [Option.some.injEq, Prod.mk.injEq] at H
                obtain ⟨rfl, rfl, rfl, rfl, rfl⟩ := H
                try go_wp2
                have n0_ := Z (blk_drew BK437.out)
                have n1_ := Z (blk_drew BK440.out)
                have n2_ := Z (blk_drew BK456.out)
                have n3_ := Z (below_drew1 HB.out)
                clear BK437
                clear BK440
                clear BK456
                clear HB
                have BK437 := n0_
                have BK440 := n1_
                have BK456 := n2_
                have HB := n3_
                clear n0_ n1_ n2_ n3_
                obtain ⟨i070, hi070, _, hsz70, _⟩ := info_parts info22
                obtain ⟨hcut70, hA70, hC70⟩ := print_take_of (P := Tryd.prog) (Value.int .u32) 0 30 22 .i64 Tryd.underlying30 hi070 hsz70 (some ad438) c0 l0 2 (by omega) (of_decide_eq_true Z10) HC0.out
                have HR460 := Z (Kd.C_of_reads (h1 := fun _ => rfl) (hA70 _ (Kd.reads_of_C HR0.out)))
                have HC460 := Aside0.mk hC70
                clear hA70 hC70 hi070 hsz70
                refine start_ (n := 5) (S := fun w' => w'.cell? ⟨gb456, 0, none⟩ = some (.int .i64 x457000_55) ∧ w'.cell? ⟨gb456, 1, none⟩ = some (.string (⟨#[]⟩ : ByteArray)) ∧ w'.cell? ⟨gb456, 2, none⟩ = some (.int .i32 (wrap32 (rd l0 1))) ∧ w'.cell? ⟨gb456, 3, none⟩ = some (.bool ((Go.bits .and .u32 (rd l0 0) 16) != 0)) ∧ w'.cell? ⟨gb456, 4, none⟩ = some (.int .u32 0)) (ds := []) #[false, false, false, false, false] Z0 rfl rfl ⟨(blk_cell BK456.out 0).trans rfl, (blk_cell BK456.out 1).trans rfl, (blk_cell BK456.out 2).trans rfl, (blk_cell BK456.out 3).trans rfl, (blk_cell BK456.out 4).trans rfl⟩ (fun hHeld => ?_)
                generalize wc.drew = w69 at BK437 BK440 BK456 HB HR460 hHeld ⊢
                refine pure_ (i := 2) (N := some 99) (v := ?_) (a' := ?_) #[false, false, true, false, false] rfl rfl Z0 (fun _ _ _ h => h) (Or.inl ⟨by rfl, ?_⟩) ?_ ?_
                rotate_left
                ·intro w'
                 go_simp
                 with_reducible rfl
                rotate_left
                ·simp only [Act.put, List.setIfInBounds_toArray, List.set_cons_zero, List.set_cons_succ, i64_w, i32_w]
                 rfl
                refine pure_ (i := 3) (N := some 100) (v := ?_) (a' := ?_) #[false, false, true, true, false] rfl rfl Z0 (fun _ _ _ h => h) (Or.inl ⟨by rfl, ?_⟩) ?_ ?_
                rotate_left
                ·intro w'
                 go_simp
                 with_reducible rfl
                rotate_left
                ·simp only [Act.put, List.setIfInBounds_toArray, List.set_cons_zero, List.set_cons_succ, i64_w, i32_w]
                 rfl
                refine take_ (i := 0) (N := some 97) (v := ?_) (a' := ?_) #[true, false, true, true, false] rfl rfl Z0 (fun _ _ _ h => h) (Or.inl ⟨by rfl, ?_⟩) hHeld ?_ ?_
                rotate_left
                ·rintro w' ⟨s0, s1, s2, s3, s4⟩
                 go_simp
                 with_reducible rfl
                rotate_left
                ·simp only [Act.put, List.setIfInBounds_toArray, List.set_cons_zero, List.set_cons_succ, i64_w, i32_w]
                 rfl
                refine one_ (i := 1) (N := some 98) #[true, true, true, true, false] rfl rfl Z0 (by decide) (fun K hK => ?_)
                refine goes_ Tryd.func38 Z0 rfl #[.agg #[.int .i64 x457000_55, .string (⟨#[]⟩ : ByteArray), .int .i32 (wrap32 (rd l0 1)), .bool ((Go.bits .and .u32 (rd l0 0) 16) != 0), .int .u32 0]] (by rfl) rfl rfl Z9 ?_
                with_reducible refine (impl_CellsOf.calls kj55 x457000_55 (⟨#[]⟩ : ByteArray) (wrap32 (rd l0 1)) ((Go.bits .and .u32 (rd l0 0) 16) != 0) 0 t457 _ A65.out).mono ?_
                rintro e w71 ⟨v458, rfl, ho0, hb⟩
                refine ⟨_, rfl, ?_⟩
                have n0_ := Z (Kd.R_lower ho0 (below_size Z67))
                have n1_ := Z (blk_below (g := gb437) (o := .cells #[.int .i64 0, .string (⟨#[]⟩ : ByteArray), .int .i32 0, .bool false, .int .u32 0] 27 (0, 0)) (Z15 BK437) hb)
                have n2_ := Z (blk_below (g := gb440) (o := .cells #[.int .i64 0, .string (⟨#[]⟩ : ByteArray), .int .i32 0, .bool false, .int .u32 (rd l0 0)] 27 (0, 0)) (Z15 BK440) hb)
                have n3_ := Z (blk_below (g := gb456) (o := .cells #[.int .i64 x457000_55, .string (⟨#[]⟩ : ByteArray), .int .i32 (wrap32 (rd l0 1)), .bool ((Go.bits .and .u32 (rd l0 0) 16) != 0), .int .u32 0] 27 (0, 0)) (Z15 BK456) hb)
                have n4_ := Z (below_step Z67 hb)
                clear BK437
                clear BK440
                clear BK456
                clear HB
                have HO459 := n0_
                have BK437 := n1_
                have BK440 := n2_
                have BK456 := n3_
                have HB := n4_
                clear n0_ n1_ n2_ n3_ n4_
                (try clear hb)
                (try clear hb2)
                (try clear hk)
                (try clear hi)
                (try clear ho0)
                obtain ⟨Ao72, co72, eo72⟩ := Kd.R_slice HO459.out
                (first | subst eo72 | (injection eo72 with f1_ f2_ f3_; have f4_ := f1_.symm; have f5_ := f3_.symm; clear f1_ f2_ f3_; subst f4_; subst f5_))
                refine hK.out _ _ ⟨(blk_cell BK456.out 0).trans rfl, (blk_cell BK456.out 1).trans rfl, (blk_cell BK456.out 2).trans rfl, (blk_cell BK456.out 3).trans rfl, (blk_cell BK456.out 4).trans rfl⟩ (fun hHeld => ?_)
                clear hK K
                refine norm_ (a' := ?_) ?_ ?_
                rotate_left
                ·show Act.put _ (some 98) _ = _
                 simp only [Act.put, List.setIfInBounds_toArray, List.set_cons_zero, List.set_cons_succ, i64_w, i32_w]
                 rfl
                refine one_ (i := 4) (N := some 101) #[true, true, true, true, true] rfl rfl Z0 (by decide) (fun K hK => ?_)
                refine goes_ Tryd.func69 Z0 rfl #[.slice Ao72 t457.length co72, .slice (some ad438) (l0.take 2).length c0] (by rfl) rfl rfl Z80 ?_
                with_reducible refine (slices_Equal_uint32_uint32.calls kj55 _ _ t457 _ _ (l0.take 2) true _ ?side1 ?side2 ?side3 ?side4 A67.out).mono ?_
                (case side1 => exact (Z23 HO459))
                (case side2 => exact (Kd.R_reads' HO459.out).2.1)
                (case side3 => exact (Z24 HR460))
                (case side4 => exact HC460.out)
                rintro e w' ⟨rfl, ⟨nd, rfl⟩⟩
                refine ⟨_, rfl, ?_⟩
                refine hK.out _ _ ⟨(blk_cell BK456.out 0).trans rfl, (blk_cell BK456.out 1).trans rfl, (blk_cell BK456.out 2).trans rfl, (blk_cell BK456.out 3).trans rfl, (blk_cell BK456.out 4).trans rfl⟩ (fun hHeld => ?_)
                clear hK K
                refine norm_ (a' := ?_) ?_ ?_
                rotate_left
                ·show Act.put _ (some 101) _ = _
                 simp only [Act.put, List.setIfInBounds_toArray, List.set_cons_zero, List.set_cons_succ, i64_w, i32_w]
                 rfl
                refine done_ Z0 ?_
                have hnb73 := NB456_437.out
                have hnc73 := NB437_456.out
                have hnb74 := NB456_440.out
                have hnc74 := NB440_456.out
                have hcz75_0 : w71.cell? ⟨gb456, 0, none⟩ = some (.int .i64 x457000_55) := (blk_cell BK456.out 0).trans rfl
                have hcz75_1 : w71.cell? ⟨gb456, 1, none⟩ = some (.string (⟨#[]⟩ : ByteArray)) := (blk_cell BK456.out 1).trans rfl
                have hcz75_2 : w71.cell? ⟨gb456, 2, none⟩ = some (.int .i32 (wrap32 (rd l0 1))) := (blk_cell BK456.out 2).trans rfl
                have hcz75_3 : w71.cell? ⟨gb456, 3, none⟩ = some (.bool ((Go.bits .and .u32 (rd l0 0) 16) != 0)) := (blk_cell BK456.out 3).trans rfl
                have hcz75_4 : w71.cell? ⟨gb456, 4, none⟩ = some (.int .u32 0) := (blk_cell BK456.out 4).trans rfl
                have hfz75_0 := blk_frozen BK456.out 0
                have hfz75_1 := blk_frozen BK456.out 1
                have hfz75_2 := blk_frozen BK456.out 2
                have hfz75_3 := blk_frozen BK456.out 3
                have hfz75_4 := blk_frozen BK456.out 4
                have hnb76 := NB440_437.out
                have hnc76 := NB437_440.out
                have hcz77_0 : w71.cell? ⟨gb440, 0, none⟩ = some (.int .i64 0) := (blk_cell BK440.out 0).trans rfl
                have hcz77_1 : w71.cell? ⟨gb440, 1, none⟩ = some (.string (⟨#[]⟩ : ByteArray)) := (blk_cell BK440.out 1).trans rfl
                have hcz77_2 : w71.cell? ⟨gb440, 2, none⟩ = some (.int .i32 0) := (blk_cell BK440.out 2).trans rfl
                have hcz77_3 : w71.cell? ⟨gb440, 3, none⟩ = some (.bool false) := (blk_cell BK440.out 3).trans rfl
                have hcz77_4 : w71.cell? ⟨gb440, 4, none⟩ = some (.int .u32 (rd l0 0)) := (blk_cell BK440.out 4).trans rfl
                have hfz77_0 := blk_frozen BK440.out 0
                have hfz77_1 := blk_frozen BK440.out 1
                have hfz77_2 := blk_frozen BK440.out 2
                have hfz77_3 := blk_frozen BK440.out 3
                have hfz77_4 := blk_frozen BK440.out 4
                have hcz78_0 : w71.cell? ⟨gb437, 0, none⟩ = some (.int .i64 0) := (blk_cell BK437.out 0).trans rfl
                have hcz78_1 : w71.cell? ⟨gb437, 1, none⟩ = some (.string (⟨#[]⟩ : ByteArray)) := (blk_cell BK437.out 1).trans rfl
                have hcz78_2 : w71.cell? ⟨gb437, 2, none⟩ = some (.int .i32 0) := (blk_cell BK437.out 2).trans rfl
                have hcz78_3 : w71.cell? ⟨gb437, 3, none⟩ = some (.bool false) := (blk_cell BK437.out 3).trans rfl
                have hcz78_4 : w71.cell? ⟨gb437, 4, none⟩ = some (.int .u32 0) := (blk_cell BK437.out 4).trans rfl
                have hfz78_0 := blk_frozen BK437.out 0
                have hfz78_1 := blk_frozen BK437.out 1
                have hfz78_2 := blk_frozen BK437.out 2
                have hfz78_3 := blk_frozen BK437.out 3
                have hfz78_4 := blk_frozen BK437.out 4
                try go_wp2
                refine bodyPost_ret (results_cell_row rfl _ _ gb437 27 #[.int .i64 x457000_55, .string (⟨#[]⟩ : ByteArray), .int .i32 (wrap32 (rd l0 1)), .bool ((Go.bits .and .u32 (rd l0 0) 16) != 0), .int .u32 0] (0, 0) _ rfl (by (with_reducible repeat (first | refine blk_drewN ?_ _ | refine blk_drew ?_ | refine blk_alloc ?_ _)); refine blk_put (cs := #[.int .i64 x457000_55, .string (⟨#[]⟩ : ByteArray), .int .i32 (wrap32 (rd l0 1)), .bool ((Go.bits .and .u32 (rd l0 0) 16) != 0), .int .u32 0]) ?_ 4 _ rfl; (with_reducible repeat (first | refine blk_drewN ?_ _ | refine blk_drew ?_ | refine blk_alloc ?_ _)); refine blk_put (cs := #[.int .i64 x457000_55, .string (⟨#[]⟩ : ByteArray), .int .i32 (wrap32 (rd l0 1)), .bool false, .int .u32 0]) ?_ 3 _ rfl; (with_reducible repeat (first | refine blk_drewN ?_ _ | refine blk_drew ?_ | refine blk_alloc ?_ _)); refine blk_put (cs := #[.int .i64 x457000_55, .string (⟨#[]⟩ : ByteArray), .int .i32 0, .bool false, .int .u32 0]) ?_ 2 _ rfl; (with_reducible repeat (first | refine blk_drewN ?_ _ | refine blk_drew ?_ | refine blk_alloc ?_ _)); refine blk_put (cs := #[.int .i64 x457000_55, .string (⟨#[]⟩ : ByteArray), .int .i32 0, .bool false, .int .u32 0]) ?_ 1 _ rfl; (with_reducible repeat (first | refine blk_drewN ?_ _ | refine blk_drew ?_ | refine blk_alloc ?_ _)); refine blk_put (cs := #[.int .i64 0, .string (⟨#[]⟩ : ByteArray), .int .i32 0, .bool false, .int .u32 0]) ?_ 0 _ rfl; (with_reducible repeat (first | refine blk_drewN ?_ _ | refine blk_drew ?_ | refine blk_alloc ?_ _)); refine blk_far ?_ NB437_440.out _; (with_reducible repeat (first | refine blk_drewN ?_ _ | refine blk_drew ?_ | refine blk_alloc ?_ _)); refine blk_far ?_ NB437_440.out _; (with_reducible repeat (first | refine blk_drewN ?_ _ | refine blk_drew ?_ | refine blk_alloc ?_ _)); refine blk_far ?_ NB437_440.out _; (with_reducible repeat (first | refine blk_drewN ?_ _ | refine blk_drew ?_ | refine blk_alloc ?_ _)); refine blk_far ?_ NB437_440.out _; (with_reducible repeat (first | refine blk_drewN ?_ _ | refine blk_drew ?_ | refine blk_alloc ?_ _)); refine blk_far ?_ NB437_440.out _; (with_reducible repeat (first | refine blk_drewN ?_ _ | refine blk_drew ?_ | refine blk_alloc ?_ _)); exact BK437.out) Tryd.underlying27 rfl Z0) rfl ?_
                exact ⟨Z68, Z67⟩
               ·replace c68 := Bool.eq_false_iff.mpr c68
                subst c68
                have H1 : (some (0, (⟨#[]⟩ : ByteArray), 0, false, (rd l0 0))) = some (r1, r2, r3, r4, r5) := by rw [if_neg (show ¬ (false = true) by decide)] at H; exact H
                clear H
                have H := H1
                clear H1
                simp only [Option.some.injEq, Prod.mk.injEq] at H
                obtain ⟨rfl, rfl, rfl, rfl, rfl⟩ := H
                try go_wp2
                have n0_ := Z (blk_drew BK437.out)
                have n1_ := Z (blk_drew BK440.out)
                have n2_ := Z (blk_drew BK456.out)
                have n3_ := Z (below_drew1 HB.out)
                clear BK437
                clear BK440
                clear BK456
                clear HB
                have BK437 := n0_
                have BK440 := n1_
                have BK456 := n2_
                have HB := n3_
                clear n0_ n1_ n2_ n3_
                obtain ⟨i080, hi080, _, hsz80, _⟩ := info_parts info22
                obtain ⟨hcut80, hA80, hC80⟩ := print_take_of (P := Tryd.prog) (Value.int .u32) 0 30 22 .i64 Tryd.underlying30 hi080 hsz80 (some ad438) c0 l0 2 (by omega) (of_decide_eq_true Z10) HC0.out
                have HR460 := Z (Kd.C_of_reads (h1 := fun _ => rfl) (hA80 _ (Kd.reads_of_C HR0.out)))
                have HC460 := Aside0.mk hC80
                clear hA80 hC80 hi080 hsz80
                refine start_ (n := 5) (S := fun w' => w'.cell? ⟨gb456, 0, none⟩ = some (.int .i64 x457000_55) ∧ w'.cell? ⟨gb456, 1, none⟩ = some (.string (⟨#[]⟩ : ByteArray)) ∧ w'.cell? ⟨gb456, 2, none⟩ = some (.int .i32 (wrap32 (rd l0 1))) ∧ w'.cell? ⟨gb456, 3, none⟩ = some (.bool ((Go.bits .and .u32 (rd l0 0) 16) != 0)) ∧ w'.cell? ⟨gb456, 4, none⟩ = some (.int .u32 0)) (ds := []) #[false, false, false, false, false] Z0 rfl rfl ⟨(blk_cell BK456.out 0).trans rfl, (blk_cell BK456.out 1).trans rfl, (blk_cell BK456.out 2).trans rfl, (blk_cell BK456.out 3).trans rfl, (blk_cell BK456.out 4).trans rfl⟩ (fun hHeld => ?_)
                generalize wc.drew = w79 at BK437 BK440 BK456 HB HR460 hHeld ⊢
                refine pure_ (i := 2) (N := some 99) (v := ?_) (a' := ?_) #[false, false, true, false, false] rfl rfl Z0 (fun _ _ _ h => h) (Or.inl ⟨by rfl, ?_⟩) ?_ ?_
                rotate_left
                ·intro w'
                 go_simp
                 with_reducible rfl
                rotate_left
                ·simp only [Act.put, List.setIfInBounds_toArray, List.set_cons_zero, List.set_cons_succ, i64_w, i32_w]
                 rfl
                refine pure_ (i := 3) (N := some 100) (v := ?_) (a' := ?_) #[false, false, true, true, false] rfl rfl Z0 (fun _ _ _ h => h) (Or.inl ⟨by rfl, ?_⟩) ?_ ?_
                rotate_left
                ·intro w'
                 go_simp
                 with_reducible rfl
                rotate_left
                ·simp only [Act.put, List.setIfInBounds_toArray, List.set_cons_zero, List.set_cons_succ, i64_w, i32_w]
                 rfl
                refine take_ (i := 0) (N := some 97) (v := ?_) (a' := ?_) #[true, false, true, true, false] rfl rfl Z0 (fun _ _ _ h => h) (Or.inl ⟨by rfl, ?_⟩) hHeld ?_ ?_
                rotate_left
                ·rintro w' ⟨s0, s1, s2, s3, s4⟩
                 go_simp
                 with_reducible rfl
                rotate_left
                ·simp only [Act.put, List.setIfInBounds_toArray, List.set_cons_zero, List.set_cons_succ, i64_w, i32_w]
                 rfl
                refine one_ (i := 1) (N := some 98) #[true, true, true, true, false] rfl rfl Z0 (by decide) (fun K hK => ?_)
                refine goes_ Tryd.func38 Z0 rfl #[.agg #[.int .i64 x457000_55, .string (⟨#[]⟩ : ByteArray), .int .i32 (wrap32 (rd l0 1)), .bool ((Go.bits .and .u32 (rd l0 0) 16) != 0), .int .u32 0]] (by rfl) rfl rfl Z9 ?_
                with_reducible refine (impl_CellsOf.calls kj55 x457000_55 (⟨#[]⟩ : ByteArray) (wrap32 (rd l0 1)) ((Go.bits .and .u32 (rd l0 0) 16) != 0) 0 t457 _ A65.out).mono ?_
                rintro e w81 ⟨v458, rfl, ho0, hb⟩
                refine ⟨_, rfl, ?_⟩
                have n0_ := Z (Kd.R_lower ho0 (below_size Z67))
                have n1_ := Z (blk_below (g := gb437) (o := .cells #[.int .i64 0, .string (⟨#[]⟩ : ByteArray), .int .i32 0, .bool false, .int .u32 0] 27 (0, 0)) (Z15 BK437) hb)
                have n2_ := Z (blk_below (g := gb440) (o := .cells #[.int .i64 0, .string (⟨#[]⟩ : ByteArray), .int .i32 0, .bool false, .int .u32 (rd l0 0)] 27 (0, 0)) (Z15 BK440) hb)
                have n3_ := Z (blk_below (g := gb456) (o := .cells #[.int .i64 x457000_55, .string (⟨#[]⟩ : ByteArray), .int .i32 (wrap32 (rd l0 1)), .bool ((Go.bits .and .u32 (rd l0 0) 16) != 0), .int .u32 0] 27 (0, 0)) (Z15 BK456) hb)
                have n4_ := Z (below_step Z67 hb)
                clear BK437
                clear BK440
                clear BK456
                clear HB
                have HO459 := n0_
                have BK437 := n1_
                have BK440 := n2_
                have BK456 := n3_
                have HB := n4_
                clear n0_ n1_ n2_ n3_ n4_
                (try clear hb)
                (try clear hb2)
                (try clear hk)
                (try clear hi)
                (try clear ho0)
                obtain ⟨Ao82, co82, eo82⟩ := Kd.R_slice HO459.out
                (first | subst eo82 | (injection eo82 with f1_ f2_ f3_; have f4_ := f1_.symm; have f5_ := f3_.symm; clear f1_ f2_ f3_; subst f4_; subst f5_))
                refine hK.out _ _ ⟨(blk_cell BK456.out 0).trans rfl, (blk_cell BK456.out 1).trans rfl, (blk_cell BK456.out 2).trans rfl, (blk_cell BK456.out 3).trans rfl, (blk_cell BK456.out 4).trans rfl⟩ (fun hHeld => ?_)
                clear hK K
                refine norm_ (a' := ?_) ?_ ?_
                rotate_left
                ·show Act.put _ (some 98) _ = _
                 simp only [Act.put, List.setIfInBounds_toArray, List.set_cons_zero, List.set_cons_succ, i64_w, i32_w]
                 rfl
                refine one_ (i := 4) (N := some 101) #[true, true, true, true, true] rfl rfl Z0 (by decide) (fun K hK => ?_)
                refine goes_ Tryd.func69 Z0 rfl #[.slice Ao82 t457.length co82, .slice (some ad438) (l0.take 2).length c0] (by rfl) rfl rfl Z80 ?_
                with_reducible refine (slices_Equal_uint32_uint32.calls kj55 _ _ t457 _ _ (l0.take 2) false _ ?side1 ?side2 ?side3 ?side4 A67.out).mono ?_
                (case side1 => exact (Z23 HO459))
                (case side2 => exact (Kd.R_reads' HO459.out).2.1)
                (case side3 => exact (Z24 HR460))
                (case side4 => exact HC460.out)
                rintro e w' ⟨rfl, ⟨nd, rfl⟩⟩
                refine ⟨_, rfl, ?_⟩
                refine hK.out _ _ ⟨(blk_cell BK456.out 0).trans rfl, (blk_cell BK456.out 1).trans rfl, (blk_cell BK456.out 2).trans rfl, (blk_cell BK456.out 3).trans rfl, (blk_cell BK456.out 4).trans rfl⟩ (fun hHeld => ?_)
                clear hK K
                refine norm_ (a' := ?_) ?_ ?_
                rotate_left
                ·show Act.put _ (some 101) _ = _
                 simp only [Act.put, List.setIfInBounds_toArray, List.set_cons_zero, List.set_cons_succ, i64_w, i32_w]
                 rfl
                refine done_ Z0 ?_
                have hnb83 := NB440_437.out
                have hnc83 := NB437_440.out
                have hnb84 := NB440_456.out
                have hnc84 := NB456_440.out
                have hcz85_0 : w81.cell? ⟨gb440, 0, none⟩ = some (.int .i64 0) := (blk_cell BK440.out 0).trans rfl
                have hcz85_1 : w81.cell? ⟨gb440, 1, none⟩ = some (.string (⟨#[]⟩ : ByteArray)) := (blk_cell BK440.out 1).trans rfl
                have hcz85_2 : w81.cell? ⟨gb440, 2, none⟩ = some (.int .i32 0) := (blk_cell BK440.out 2).trans rfl
                have hcz85_3 : w81.cell? ⟨gb440, 3, none⟩ = some (.bool false) := (blk_cell BK440.out 3).trans rfl
                have hcz85_4 : w81.cell? ⟨gb440, 4, none⟩ = some (.int .u32 (rd l0 0)) := (blk_cell BK440.out 4).trans rfl
                have hfz85_0 := blk_frozen BK440.out 0
                have hfz85_1 := blk_frozen BK440.out 1
                have hfz85_2 := blk_frozen BK440.out 2
                have hfz85_3 := blk_frozen BK440.out 3
                have hfz85_4 := blk_frozen BK440.out 4
                have hnb86 := NB437_456.out
                have hnc86 := NB456_437.out
                have hcz87_0 : w81.cell? ⟨gb437, 0, none⟩ = some (.int .i64 0) := (blk_cell BK437.out 0).trans rfl
                have hcz87_1 : w81.cell? ⟨gb437, 1, none⟩ = some (.string (⟨#[]⟩ : ByteArray)) := (blk_cell BK437.out 1).trans rfl
                have hcz87_2 : w81.cell? ⟨gb437, 2, none⟩ = some (.int .i32 0) := (blk_cell BK437.out 2).trans rfl
                have hcz87_3 : w81.cell? ⟨gb437, 3, none⟩ = some (.bool false) := (blk_cell BK437.out 3).trans rfl
                have hcz87_4 : w81.cell? ⟨gb437, 4, none⟩ = some (.int .u32 0) := (blk_cell BK437.out 4).trans rfl
                have hfz87_0 := blk_frozen BK437.out 0
                have hfz87_1 := blk_frozen BK437.out 1
                have hfz87_2 := blk_frozen BK437.out 2
                have hfz87_3 := blk_frozen BK437.out 3
                have hfz87_4 := blk_frozen BK437.out 4
                try go_wp2
                refine bodyPost_ret (results_cell_row rfl _ _ gb437 27 #[.int .i64 0, .string (⟨#[]⟩ : ByteArray), .int .i32 0, .bool false, .int .u32 (rd l0 0)] (0, 0) _ rfl (Z25 BK437) Tryd.underlying27 rfl Z0) rfl ?_
                exact ⟨Z68, Z67⟩
              ·rw [if_neg c66] at H
               exact absurd H (by simp)
           ·rw [if_neg c55] at H
            exact absurd H (by simp)
         ·replace c50 := Bool.eq_false_iff.mpr c50
          subst c50
          have H1 : (if (Go.bits .and .u32 (rd l0 0) 15) = 12 then (if (l0.length : Int) > 1 then ((impl_FieldOk.f kj47 ((rd l0 0) / 16)).bind fun t462 => (if t462 = true then ((impl_UnpackOne.f kj47 ((rd l0 0) / 16)).bind fun t463 => (if 1 < (l0.length : Int) then (some (9, t463, wrap32 (rd l0 1), false, 0)) else (none))) else (some (0, (⟨#[]⟩ : ByteArray), 0, false, (rd l0 0))))) else (some (0, (⟨#[]⟩ : ByteArray), 0, false, (rd l0 0)))) else (some (0, (⟨#[]⟩ : ByteArray), 0, false, (rd l0 0)))) = some (r1, r2, r3, r4, r5) := by rw [if_neg (show ¬ (false = true) by decide)] at H; exact H
          clear H
          have H := H1
          clear H1
          by_cases c88 : (Go.bits .and .u32 (rd l0 0) 15) = 12
          ·rw [if_pos c88] at H
           have c88b0 : ((Go.bits .and .u32 (rd l0 0) 15) == 12) = true := beq_iff_eq.mpr c88
           have c88b1 : ((Go.bits .and .u32 (rd l0 0) 15) != 12) = false := bne_eq_false_iff_eq.mpr c88
           clear c88
           by_cases c89 : (l0.length : Int) > 1
           ·rw [if_pos c89] at H
            have c89b0 : decide (1 < (l0.length : Int)) = true := decide_eq_true c89
            have c89b1 : decide (1 < l0.length) = true := decide_eq_true (by omega)
            clear c89
            replace H := Option.bind_eq_some_iff.mp H
            obtain ⟨t462, A900, H⟩ := H
            replace H : (if t462 = true then ((impl_UnpackOne.f kj47 ((rd l0 0) / 16)).bind fun t463 => (if 1 < (l0.length : Int) then (some (9, t463, wrap32 (rd l0 1), false, 0)) else (none))) else (some (0, (⟨#[]⟩ : ByteArray), 0, false, (rd l0 0)))) = some (r1, r2, r3, r4, r5) := H
            have A90 := Aside0.mk A900
            clear A900
            by_cases c91 : t462 = true
            ·subst c91
             have H1 : ((impl_UnpackOne.f kj47 ((rd l0 0) / 16)).bind fun t463 => (if 1 < (l0.length : Int) then (some (9, t463, wrap32 (rd l0 1), false, 0)) else (none))) = some (r1, r2, r3, r4, r5) := Z2
             clear H
             have H := H1
             clear H1
             replace H := Option.bind_eq_some_iff.mp H
             obtain ⟨t463, A920, H⟩ := H
             replace H : (if 1 < (l0.length : Int) then (some (9, t463, wrap32 (rd l0 1), false, 0)) else (none)) = some (r1, r2, r3, r4, r5) := H
             have A92 := Aside0.mk A920
             clear A920
             by_cases c93 : 1 < (l0.length : Int)
             ·rw [if_pos c93] at H
              have c93b0 : decide (1 < (l0.length : Int)) = true := decide_eq_true c93
              have c93b1 : decide (1 < l0.length) = true := decide_eq_true (by omega)
              clear c93
              simp only [Option.some.injEq, Prod.mk.injEq] at H
              obtain ⟨rfl, rfl, rfl, rfl, rfl⟩ := H
              try go_wp2_with (first | (go_at_call 70; (with_reducible refine (impl_FieldOk.calls kj47 ((rd l0 0) / 16) true _ A90.out).mono ?_); rintro e w94 ⟨rfl, hb⟩; replace BK437 := Z (blk_below (g := gb437) (o := .cells #[.int .i64 0, .string (⟨#[]⟩ : ByteArray), .int .i32 0, .bool false, .int .u32 0] 27 (0, 0)) (Z15 BK437) hb); replace BK440 := Z (blk_below (g := gb440) (o := .cells #[.int .i64 0, .string (⟨#[]⟩ : ByteArray), .int .i32 0, .bool false, .int .u32 (rd l0 0)] 27 (0, 0)) (Z15 BK440) hb); replace HB := Z (below_step Z67 hb); (try clear hb); (try clear hb2); (try clear hk); (try clear hi)))
              have n0_ := Z (blk_drew BK437.out)
              have n1_ := Z (blk_drew BK440.out)
              have n2_ := Z (below_drew1 HB.out)
              clear BK437
              clear BK440
              clear HB
              have BK437 := n0_
              have BK440 := n1_
              have HB := n2_
              clear n0_ n1_ n2_
              have p464 : 0 ≤ (1 : Int) := (by omega)
              have q464 : 1 < (l0.length : Int) := of_decide_eq_true Z10
              obtain ⟨ad464, e464, hx464_0⟩ := Kd.at_int HR0.out 1 p464 q464
              have hw464_0 := hx464_0
              (try rw [show ((1 : Int)).toNat = 1 from rfl] at hw464_0)
              (try rw [show 1 * 1 = 1 from rfl] at hw464_0)
              (try simp only [Nat.reduceMul, Nat.reduceEqDiff, Go.Addr.add, ↓reduceIte] at hw464_0)
              obtain rfl : ad438 = ad464 := (by injection e464)
              (try simp only [show (1 : Int).toNat = 1 from rfl, Nat.reduceMul, Nat.reduceEqDiff, Go.Addr.add, ↓reduceIte] at hx464_0)
              have qi464 : (1 < l0.length) = True := eq_true (by omega)
              (try rw [show ((1 : Int)).toNat = 1 from rfl] at hx464_0)
              replace hx464_0 := (HB.out.cell (World.block_lt_of_cell? w _ hx464_0)).trans hx464_0
              replace p464 := eq_true p464
              replace q464 := eq_true q464
              refine start_ (n := 9) (S := fun w' => w'.cell? ⟨ad438.block, ad438.off + 1, none⟩ = some (.int .u32 (rd l0 1))) (ds := []) #[false, false, false, false, false, false, false, false, false] Z0 rfl rfl (((HB.out.cell (World.block_lt_of_cell? w _ hw464_0)).trans hw464_0)) (fun hHeld => ?_); refine with_tabW impl_parseOne.tab34 impl_parseOne.bits34 (fun HT_ HW_ => ?_)
              generalize w94.drew = w95 at BK437 BK440 HB hx464_0 hHeld ⊢
              refine pure_ (i := 0) (N := some 113) (v := ?_) (a' := ?_) #[true, false, false, false, false, false, false, false, false] rfl rfl (any_of HT_.out Z0) (fun _ _ _ h => h) (Or.inl ⟨by rfl, ?_⟩) ?_ ?_
              rotate_left
              ·intro w'
               go_simp
               with_reducible rfl
              rotate_left
              ·simp only [Act.put, List.setIfInBounds_toArray, List.set_cons_zero, List.set_cons_succ, i64_w, i32_w]
               rfl
              refine pure_ (i := 1) (N := some 114) (v := ?_) (a' := ?_) #[true, true, false, false, false, false, false, false, false] rfl rfl (any_of HT_.out Z0) (fun _ _ _ h => h) (Or.inl ⟨by rfl, ?_⟩) ?_ ?_
              rotate_left
              ·intro w'
               go_simp
               with_reducible rfl
              rotate_left
              ·simp only [Act.put, List.setIfInBounds_toArray, List.set_cons_zero, List.set_cons_succ, i64_w, i32_w]
               rfl
              refine pure_ (i := 3) (N := some 116) (v := ?_) (a' := ?_) #[true, true, false, true, false, false, false, false, false] rfl rfl (any_of HT_.out Z0) (fun _ _ _ h => h) (Or.inl ⟨by rfl, ?_⟩) ?_ ?_
              rotate_left
              ·intro w'
               go_simp
               with_reducible rfl
              rotate_left
              ·simp only [Act.put, List.setIfInBounds_toArray, List.set_cons_zero, List.set_cons_succ, i64_w, i32_w]
               rfl
              refine pure_ (i := 4) (N := some 117) (v := ?_) (a' := ?_) #[true, true, false, true, true, false, false, false, false] rfl rfl (any_of HT_.out Z0) (fun _ _ _ h => h) (Or.inl ⟨by rfl, ?_⟩) ?_ ?_
              rotate_left
              ·intro w'
               go_simp
               with_reducible rfl
              rotate_left
              ·simp only [Act.put, List.setIfInBounds_toArray, List.set_cons_zero, List.set_cons_succ, i64_w, i32_w]
               rfl
              refine take_ (i := 5) (N := some 118) (v := ?_) (a' := ?_) #[true, true, false, true, true, true, false, false, false] rfl rfl (take_ofW HT_.out HW_.out Z0) (fun _ _ _ h => h) (Or.inl ⟨by rfl, ?_⟩) hHeld ?_ ?_
              rotate_left
              ·intro w' s0
               go_simp
               with_reducible rfl
              rotate_left
              ·simp only [Act.put, List.setIfInBounds_toArray, List.set_cons_zero, List.set_cons_succ, i64_w, i32_w]
               rfl
              refine pure_ (i := 6) (N := some 119) (v := ?_) (a' := ?_) #[true, true, false, true, true, true, true, false, false] rfl rfl (any_of HT_.out Z0) (fun _ _ _ h => h) (Or.inl ⟨by rfl, ?_⟩) ?_ ?_
              rotate_left
              ·intro w'
               go_simp
               with_reducible rfl
              rotate_left
              ·simp only [Act.put, List.setIfInBounds_toArray, List.set_cons_zero, List.set_cons_succ, i64_w, i32_w]
               rfl
              refine one_ (i := 2) (N := some 115) #[true, true, true, true, true, true, true, false, false] rfl rfl (one_of HT_.out Z0) (by decide) (fun K hK => ?_)
              refine goes_ Tryd.func71 Z0 rfl #[.int .u32 ((rd l0 0) / 16)] (by rfl) rfl rfl Z9 ?_
              with_reducible refine (impl_UnpackOne.calls kj47 ((rd l0 0) / 16) t463 _ A92.out).mono ?_
              rintro e w96 ⟨rfl, hb⟩
              refine ⟨_, rfl, ?_⟩
              have n0_ := Z (blk_below (g := gb437) (o := .cells #[.int .i64 0, .string (⟨#[]⟩ : ByteArray), .int .i32 0, .bool false, .int .u32 0] 27 (0, 0)) (Z15 BK437) hb)
              have n1_ := Z (blk_below (g := gb440) (o := .cells #[.int .i64 0, .string (⟨#[]⟩ : ByteArray), .int .i32 0, .bool false, .int .u32 (rd l0 0)] 27 (0, 0)) (Z15 BK440) hb)
              have n2_ := Z (below_step Z67 hb)
              clear BK437
              clear BK440
              clear HB
              have BK437 := n0_
              have BK440 := n1_
              have HB := n2_
              clear n0_ n1_ n2_
              (try clear hb)
              (try clear hb2)
              (try clear hk)
              (try clear hi)
              refine hK.out _ _ (((HB.out.cell (World.block_lt_of_cell? w _ hw464_0)).trans hw464_0)) (fun hHeld => ?_)
              clear hK K
              refine norm_ (a' := ?_) ?_ ?_
              rotate_left
              ·show Act.put _ (some 115) _ = _
               simp only [Act.put, List.setIfInBounds_toArray, List.set_cons_zero, List.set_cons_succ, i64_w, i32_w]
               rfl
              refine pure_ (i := 7) (N := some 120) (v := ?_) (a' := ?_) #[true, true, true, true, true, true, true, true, false] rfl rfl (any_of HT_.out Z0) (fun _ _ _ h => h) (Or.inl ⟨by rfl, ?_⟩) ?_ ?_
              rotate_left
              ·intro w'
               go_simp
               with_reducible rfl
              rotate_left
              ·simp only [Act.put, List.setIfInBounds_toArray, List.set_cons_zero, List.set_cons_succ, i64_w, i32_w]
               rfl
              refine one_ (i := 8) (N := none) #[true, true, true, true, true, true, true, true, true] rfl rfl (one_of HT_.out Z0) (by decide) (fun K hK => ?_)
              have hs97 : w96.cell? ⟨gb440, 0, none⟩ = some (.int .i64 0) := (blk_cell BK440.out 0).trans rfl
              have hfs97 := blk_frozen BK440.out 0
              have hns97_0 := NB437_440.out
              have hms97_0 := NB440_437.out
              have hs98 : w96.cell? ⟨gb440, 1, none⟩ = some (.string (⟨#[]⟩ : ByteArray)) := (blk_cell BK440.out 1).trans rfl
              have hfs98 := blk_frozen BK440.out 1
              have hns98_0 := NB437_440.out
              have hms98_0 := NB440_437.out
              have hs99 : w96.cell? ⟨gb440, 2, none⟩ = some (.int .i32 0) := (blk_cell BK440.out 2).trans rfl
              have hfs99 := blk_frozen BK440.out 2
              have hns99_0 := NB437_440.out
              have hms99_0 := NB440_437.out
              have hs100 : w96.cell? ⟨gb440, 3, none⟩ = some (.bool false) := (blk_cell BK440.out 3).trans rfl
              have hfs100 := blk_frozen BK440.out 3
              have hns100_0 := NB437_440.out
              have hms100_0 := NB440_437.out
              have hs101 : w96.cell? ⟨gb440, 4, none⟩ = some (.int .u32 (rd l0 0)) := (blk_cell BK440.out 4).trans rfl
              have hfs101 := blk_frozen BK440.out 4
              have hns101_0 := NB437_440.out
              have hms101_0 := NB440_437.out
              refine skip_ (w1 := ?_) (by rfl) rfl ?_ ?_
              rotate_left
              ·go_simp
               rfl
              refine hK.out _ _ (((cell_far (p := ⟨gb440, _, none⟩) Z78 _).trans (((cell_far (p := ⟨gb440, _, none⟩) Z78 _).trans (((cell_far (p := ⟨gb440, _, none⟩) Z78 _).trans (((cell_far (p := ⟨gb440, _, none⟩) Z78 _).trans (((cell_far (p := ⟨gb440, _, none⟩) Z78 _).trans (hHeld))))))))))) (fun hHeld => ?_)
              clear hK K
              refine done_ (done_of HT_.out Z0) ?_
              have hnb102 := NB440_437.out
              have hnc102 := NB437_440.out
              have hcz103_0 : w96.cell? ⟨gb440, 0, none⟩ = some (.int .i64 0) := (blk_cell BK440.out 0).trans rfl
              have hcz103_1 : w96.cell? ⟨gb440, 1, none⟩ = some (.string (⟨#[]⟩ : ByteArray)) := (blk_cell BK440.out 1).trans rfl
              have hcz103_2 : w96.cell? ⟨gb440, 2, none⟩ = some (.int .i32 0) := (blk_cell BK440.out 2).trans rfl
              have hcz103_3 : w96.cell? ⟨gb440, 3, none⟩ = some (.bool false) := (blk_cell BK440.out 3).trans rfl
              have hcz103_4 : w96.cell? ⟨gb440, 4, none⟩ = some (.int .u32 (rd l0 0)) := (blk_cell BK440.out 4).trans rfl
              have hfz103_0 := blk_frozen BK440.out 0
              have hfz103_1 := blk_frozen BK440.out 1
              have hfz103_2 := blk_frozen BK440.out 2
              have hfz103_3 := blk_frozen BK440.out 3
              have hfz103_4 := blk_frozen BK440.out 4
              have hcz104_0 : w96.cell? ⟨gb437, 0, none⟩ = some (.int .i64 0) := (blk_cell BK437.out 0).trans rfl
              have hcz104_1 : w96.cell? ⟨gb437, 1, none⟩ = some (.string (⟨#[]⟩ : ByteArray)) := (blk_cell BK437.out 1).trans rfl
              have hcz104_2 : w96.cell? ⟨gb437, 2, none⟩ = some (.int .i32 0) := (blk_cell BK437.out 2).trans rfl
              have hcz104_3 : w96.cell? ⟨gb437, 3, none⟩ = some (.bool false) := (blk_cell BK437.out 3).trans rfl
              have hcz104_4 : w96.cell? ⟨gb437, 4, none⟩ = some (.int .u32 0) := (blk_cell BK437.out 4).trans rfl
              have hfz104_0 := blk_frozen BK437.out 0
              have hfz104_1 := blk_frozen BK437.out 1
              have hfz104_2 := blk_frozen BK437.out 2
              have hfz104_3 := blk_frozen BK437.out 3
              have hfz104_4 := blk_frozen BK437.out 4
              try go_wp2
              refine bodyPost_ret (results_cell_row rfl _ _ gb437 27 #[.int .i64 9, .string t463, .int .i32 (wrap32 (rd l0 1)), .bool false, .int .u32 0] (0, 0) _ rfl (by (with_reducible repeat (first | refine blk_drewN ?_ _ | refine blk_drew ?_ | refine blk_alloc ?_ _)); refine blk_put (cs := #[.int .i64 9, .string t463, .int .i32 (wrap32 (rd l0 1)), .bool false, .int .u32 0]) ?_ 4 _ rfl; (with_reducible repeat (first | refine blk_drewN ?_ _ | refine blk_drew ?_ | refine blk_alloc ?_ _)); refine blk_put (cs := #[.int .i64 9, .string t463, .int .i32 (wrap32 (rd l0 1)), .bool false, .int .u32 0]) ?_ 3 _ rfl; (with_reducible repeat (first | refine blk_drewN ?_ _ | refine blk_drew ?_ | refine blk_alloc ?_ _)); refine blk_put (cs := #[.int .i64 9, .string t463, .int .i32 0, .bool false, .int .u32 0]) ?_ 2 _ rfl; (with_reducible repeat (first | refine blk_drewN ?_ _ | refine blk_drew ?_ | refine blk_alloc ?_ _)); refine blk_put (cs := #[.int .i64 9, .string (⟨#[]⟩ : ByteArray), .int .i32 0, .bool false, .int .u32 0]) ?_ 1 _ rfl; (with_reducible repeat (first | refine blk_drewN ?_ _ | refine blk_drew ?_ | refine blk_alloc ?_ _)); refine blk_put (cs := #[.int .i64 0, .string (⟨#[]⟩ : ByteArray), .int .i32 0, .bool false, .int .u32 0]) ?_ 0 _ rfl; (with_reducible repeat (first | refine blk_drewN ?_ _ | refine blk_drew ?_ | refine blk_alloc ?_ _)); refine blk_far ?_ NB437_440.out _; (with_reducible repeat (first | refine blk_drewN ?_ _ | refine blk_drew ?_ | refine blk_alloc ?_ _)); refine blk_far ?_ NB437_440.out _; (with_reducible repeat (first | refine blk_drewN ?_ _ | refine blk_drew ?_ | refine blk_alloc ?_ _)); refine blk_far ?_ NB437_440.out _; (with_reducible repeat (first | refine blk_drewN ?_ _ | refine blk_drew ?_ | refine blk_alloc ?_ _)); refine blk_far ?_ NB437_440.out _; (with_reducible repeat (first | refine blk_drewN ?_ _ | refine blk_drew ?_ | refine blk_alloc ?_ _)); refine blk_far ?_ NB437_440.out _; (with_reducible repeat (first | refine blk_drewN ?_ _ | refine blk_drew ?_ | refine blk_alloc ?_ _)); exact BK437.out) Tryd.underlying27 rfl Z0) rfl ?_
              exact ⟨Z68, Z67⟩
             ·rw [if_neg c93] at H
              exact absurd H (by simp)
            ·replace c91 := Bool.eq_false_iff.mpr c91
             subst c91
             have H1 : (some (0, (⟨#[]⟩ : ByteArray), 0, false, (rd l0 0))) = some (r1, r2, r3, r4, r5) := by rw [if_neg (show ¬ (false = true) by decide)] at H; exact H
             clear H
             have H := H1
             clear H1
             simp only [Option.some.injEq, Prod.mk.injEq] at H
             obtain ⟨rfl, rfl, rfl, rfl, rfl⟩ := H
             go_wp2_with (first | (go_at_call 70; (with_reducible refine (impl_FieldOk.calls kj47 ((rd l0 0) / 16) false _ A90.out).mono ?_); rintro e w105 ⟨rfl, hb⟩; replace BK437 := Z (blk_below (g := gb437) (o := .cells #[.int .i64 0, .string (⟨#[]⟩ : ByteArray), .int .i32 0, .bool false, .int .u32 0] 27 (0, 0)) (Z15 BK437) hb); replace BK440 := Z (blk_below (g := gb440) (o := .cells #[.int .i64 0, .string (⟨#[]⟩ : ByteArray), .int .i32 0, .bool false, .int .u32 (rd l0 0)] 27 (0, 0)) (Z15 BK440) hb); replace HB := Z (below_step Z67 hb); (try clear hb); (try clear hb2); (try clear hk); (try clear hi); have hnb106 := NB440_437.out; have hnc106 := NB437_440.out; have hcz107_0 : w105.cell? ⟨gb440, 0, none⟩ = some (.int .i64 0) := (blk_cell BK440.out 0).trans rfl; have hcz107_1 : w105.cell? ⟨gb440, 1, none⟩ = some (.string (⟨#[]⟩ : ByteArray)) := (blk_cell BK440.out 1).trans rfl; have hcz107_2 : w105.cell? ⟨gb440, 2, none⟩ = some (.int .i32 0) := (blk_cell BK440.out 2).trans rfl; have hcz107_3 : w105.cell? ⟨gb440, 3, none⟩ = some (.bool false) := (blk_cell BK440.out 3).trans rfl; have hcz107_4 : w105.cell? ⟨gb440, 4, none⟩ = some (.int .u32 (rd l0 0)) := (blk_cell BK440.out 4).trans rfl; have hfz107_0 := blk_frozen BK440.out 0; have hfz107_1 := blk_frozen BK440.out 1; have hfz107_2 := blk_frozen BK440.out 2; have hfz107_3 := blk_frozen BK440.out 3; have hfz107_4 := blk_frozen BK440.out 4; have hcz108_0 : w105.cell? ⟨gb437, 0, none⟩ = some (.int .i64 0) := (blk_cell BK437.out 0).trans rfl; have hcz108_1 : w105.cell? ⟨gb437, 1, none⟩ = some (.string (⟨#[]⟩ : ByteArray)) := (blk_cell BK437.out 1).trans rfl; have hcz108_2 : w105.cell? ⟨gb437, 2, none⟩ = some (.int .i32 0) := (blk_cell BK437.out 2).trans rfl; have hcz108_3 : w105.cell? ⟨gb437, 3, none⟩ = some (.bool false) := (blk_cell BK437.out 3).trans rfl; have hcz108_4 : w105.cell? ⟨gb437, 4, none⟩ = some (.int .u32 0) := (blk_cell BK437.out 4).trans rfl; have hfz108_0 := blk_frozen BK437.out 0; have hfz108_1 := blk_frozen BK437.out 1; have hfz108_2 := blk_frozen BK437.out 2; have hfz108_3 := blk_frozen BK437.out 3; have hfz108_4 := blk_frozen BK437.out 4))
             refine bodyPost_ret (results_cell_row rfl _ _ gb437 27 #[.int .i64 0, .string (⟨#[]⟩ : ByteArray), .int .i32 0, .bool false, .int .u32 (rd l0 0)] (0, 0) _ rfl (Z25 BK437) Tryd.underlying27 rfl Z0) rfl ?_
             exact ⟨Z68, Z67⟩
           ·rw [if_neg c89] at H
            have c89b0 : decide (1 < (l0.length : Int)) = false := decide_eq_false c89
            have c89b1 : decide (1 < l0.length) = false := decide_eq_false (by omega)
            clear c89
            simp only [Option.some.injEq, Prod.mk.injEq] at H
            obtain ⟨rfl, rfl, rfl, rfl, rfl⟩ := H
            have hnb109 := NB440_437.out
            have hnc109 := NB437_440.out
            have hcz110_0 : wc.cell? ⟨gb440, 0, none⟩ = some (.int .i64 0) := (blk_cell BK440.out 0).trans rfl
            have hcz110_1 : wc.cell? ⟨gb440, 1, none⟩ = some (.string (⟨#[]⟩ : ByteArray)) := (blk_cell BK440.out 1).trans rfl
            have hcz110_2 : wc.cell? ⟨gb440, 2, none⟩ = some (.int .i32 0) := (blk_cell BK440.out 2).trans rfl
            have hcz110_3 : wc.cell? ⟨gb440, 3, none⟩ = some (.bool false) := (blk_cell BK440.out 3).trans rfl
            have hcz110_4 : wc.cell? ⟨gb440, 4, none⟩ = some (.int .u32 (rd l0 0)) := (blk_cell BK440.out 4).trans rfl
            have hfz110_0 := blk_frozen BK440.out 0
            have hfz110_1 := blk_frozen BK440.out 1
            have hfz110_2 := blk_frozen BK440.out 2
            have hfz110_3 := blk_frozen BK440.out 3
            have hfz110_4 := blk_frozen BK440.out 4
            have hcz111_0 : wc.cell? ⟨gb437, 0, none⟩ = some (.int .i64 0) := (blk_cell BK437.out 0).trans rfl
            have hcz111_1 : wc.cell? ⟨gb437, 1, none⟩ = some (.string (⟨#[]⟩ : ByteArray)) := (blk_cell BK437.out 1).trans rfl
            have hcz111_2 : wc.cell? ⟨gb437, 2, none⟩ = some (.int .i32 0) := (blk_cell BK437.out 2).trans rfl
            have hcz111_3 : wc.cell? ⟨gb437, 3, none⟩ = some (.bool false) := (blk_cell BK437.out 3).trans rfl
            have hcz111_4 : wc.cell? ⟨gb437, 4, none⟩ = some (.int .u32 0) := (blk_cell BK437.out 4).trans rfl
            have hfz111_0 := blk_frozen BK437.out 0
            have hfz111_1 := blk_frozen BK437.out 1
            have hfz111_2 := blk_frozen BK437.out 2
            have hfz111_3 := blk_frozen BK437.out 3
            have hfz111_4 := blk_frozen BK437.out 4
            go_wp2
            refine bodyPost_ret (results_cell_row rfl _ _ gb437 27 #[.int .i64 0, .string (⟨#[]⟩ : ByteArray), .int .i32 0, .bool false, .int .u32 (rd l0 0)] (0, 0) _ rfl (Z25 BK437) Tryd.underlying27 rfl Z0) rfl ?_
            exact ⟨Z68, Z67⟩
          ·rw [if_neg c88] at H
           have c88b0 : ((Go.bits .and .u32 (rd l0 0) 15) == 12) = false := beq_eq_false_iff_ne.mpr c88
           have c88b1 : ((Go.bits .and .u32 (rd l0 0) 15) != 12) = true := bne_iff_ne.mpr c88
           simp only [Option.some.injEq, Prod.mk.injEq] at H
           obtain ⟨rfl, rfl, rfl, rfl, rfl⟩ := H
           have hnb112 := NB440_437.out
           have hnc112 := NB437_440.out
           have hcz113_0 : wc.cell? ⟨gb440, 0, none⟩ = some (.int .i64 0) := (blk_cell BK440.out 0).trans rfl
           have hcz113_1 : wc.cell? ⟨gb440, 1, none⟩ = some (.string (⟨#[]⟩ : ByteArray)) := (blk_cell BK440.out 1).trans rfl
           have hcz113_2 : wc.cell? ⟨gb440, 2, none⟩ = some (.int .i32 0) := (blk_cell BK440.out 2).trans rfl
           have hcz113_3 : wc.cell? ⟨gb440, 3, none⟩ = some (.bool false) := (blk_cell BK440.out 3).trans rfl
           have hcz113_4 : wc.cell? ⟨gb440, 4, none⟩ = some (.int .u32 (rd l0 0)) := (blk_cell BK440.out 4).trans rfl
           have hfz113_0 := blk_frozen BK440.out 0
           have hfz113_1 := blk_frozen BK440.out 1
           have hfz113_2 := blk_frozen BK440.out 2
           have hfz113_3 := blk_frozen BK440.out 3
           have hfz113_4 := blk_frozen BK440.out 4
           have hcz114_0 : wc.cell? ⟨gb437, 0, none⟩ = some (.int .i64 0) := (blk_cell BK437.out 0).trans rfl
           have hcz114_1 : wc.cell? ⟨gb437, 1, none⟩ = some (.string (⟨#[]⟩ : ByteArray)) := (blk_cell BK437.out 1).trans rfl
           have hcz114_2 : wc.cell? ⟨gb437, 2, none⟩ = some (.int .i32 0) := (blk_cell BK437.out 2).trans rfl
           have hcz114_3 : wc.cell? ⟨gb437, 3, none⟩ = some (.bool false) := (blk_cell BK437.out 3).trans rfl
           have hcz114_4 : wc.cell? ⟨gb437, 4, none⟩ = some (.int .u32 0) := (blk_cell BK437.out 4).trans rfl
           have hfz114_0 := blk_frozen BK437.out 0
           have hfz114_1 := blk_frozen BK437.out 1
           have hfz114_2 := blk_frozen BK437.out 2
           have hfz114_3 := blk_frozen BK437.out 3
           have hfz114_4 := blk_frozen BK437.out 4
           go_wp2
           refine bodyPost_ret (results_cell_row rfl _ _ gb437 27 #[.int .i64 0, .string (⟨#[]⟩ : ByteArray), .int .i32 0, .bool false, .int .u32 (rd l0 0)] (0, 0) _ rfl (Z25 BK437) Tryd.underlying27 rfl Z0) rfl ?_
           exact ⟨Z68, Z67⟩
 ·rw [if_neg c2] at H
  exact absurd H (by simp)

end Go.Proofs.YtfjmpdcflnaogaaDoor.QFnExactExport
