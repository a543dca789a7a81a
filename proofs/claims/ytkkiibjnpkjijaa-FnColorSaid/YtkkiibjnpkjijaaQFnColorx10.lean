/-
Plain functions for the Go functions that a law reaches, each with a proof that the translation's call comes to just that; no conditions beyond those written in each.
-/
import Derived.Test.YtkkiibjnpkjijaaSFnColor
import Derived.Test.YtkkiibjnpkjijaaQFnColorx1
import Derived.Test.YtkkiibjnpkjijaaQFnColorx2
import Derived.Test.YtkkiibjnpkjijaaQFnColorx4
import Derived.Test.YtkkiibjnpkjijaaQFnColorx6
import Derived.Test.YtkkiibjnpkjijaaQFnColorx7
import Derived.Test.YtkkiibjnpkjijaaQFnColorx9
namespace Go.Proofs.Ytkkiibjnpkjijaa.QFnColor
open Go.RowKit Go.Proofs.YtkkiibjnpkjijaaW.PrintWords Go.Proofs.YtkkiibjnpkjijaaW.PrintLast Go.Proofs.YtkkiibjnpkjijaaW.PrintMore
attribute [local go_sem] max2_int min2_int max_two min_two max_three min_three max_four min_four   -- for this text's walks alone
set_option linter.unusedVariables false
set_option linter.unusedSimpArgs false

attribute [local go_sem high] eqA51
/-! ### laws_FnColor: function 8 -/
def laws_FnColor.f (k : Nat) (l0 : List Int) : Option (Bool) := (laws_big.f l0).bind fun t458 => (if t458 = true then (some true) else ((spec_DrawRecolor.f k l0).bind fun bt459 => ((impl_Recolor.f k bt459.1 bt459.2.1 bt459.2.2.1 bt459.2.2.2.1 bt459.2.2.2.2.1 bt459.2.2.2.2.2).bind fun bt466 => ((spec_Recolor.f k bt459.1 bt459.2.1 bt459.2.2.1 bt459.2.2.2.1 bt459.2.2.2.2.1 bt459.2.2.2.2.2).bind fun bt473 => (if (bt466.2.2.2.2.2 != bt473.2.2.2.2.2) = true then (some false) else (if bt466.2.2.2.2.2 = true then ((impl_Recolor.f k bt466.1 bt466.2.1 bt466.2.2.1 bt466.2.2.2.1 bt466.2.2.2.2.1 bt459.1).bind fun bt480 => (if bt480.2.2.2.2.2 = true then (if (bt480.1 == bt459.1 && (bt480.2.1.toList == bt459.2.1.toList && (bt480.2.2.1 == bt459.2.2.1 && (bt480.2.2.2.1 == bt459.2.2.2.1 && (bt480.2.2.2.2.1 == bt459.2.2.2.2.1))))) = true then ((impl_CellsOf.f k bt466.1 bt466.2.1 bt466.2.2.1 bt466.2.2.2.1 bt466.2.2.2.2.1).bind fun t487 => ((impl_CellsOf.f k bt459.1 bt459.2.1 bt459.2.2.1 bt459.2.2.2.1 bt459.2.2.2.2.1).bind fun t490 => (if (t487.length : Int) = (t490.length : Int) then (some (bt466.1 == bt459.2.2.2.2.2)) else (some false)))) else (some false)) else (some false))) else (some (bt466.1 == 0 && (bt466.2.1.toList == ([] : List UInt8) && (bt466.2.2.1 == 0 && (!bt466.2.2.2.1 && (bt466.2.2.2.2.1 == 0))))))))))))
theorem laws_FnColor.mono : ∀ a0 k, LeO (laws_FnColor.f k a0) (laws_FnColor.f (k + 1) a0) := by
 intro a0 k
 unfold laws_FnColor.f
 repeat' first
   | (with_reducible exact impl_CellsOf.mono _ _ _ _ _ _)
   | (with_reducible exact impl_Recolor.mono _ _ _ _ _ _ _)
   | (with_reducible exact spec_DrawRecolor.mono _ _)
   | (with_reducible exact spec_Recolor.mono _ _ _ _ _ _ _)
   | (with_reducible exact LeO.refl _)
   | (with_reducible exact LeO.none _)
   | (with_reducible refine LeO.ite ?_ ?_)
   | (with_reducible refine LeO.bind ?_ (fun _ => ?_))
   | exact impl_CellsOf.mono _ _ _ _ _ _
   | exact impl_Recolor.mono _ _ _ _ _ _ _
   | exact spec_DrawRecolor.mono _ _
   | exact spec_Recolor.mono _ _ _ _ _ _ _
   | exact LeO.none _
   | refine LeO.ite ?_ ?_
   | refine LeO.bind ?_ (fun _ => ?_)
def laws_FnColor.T11 : Bool × List (List Nat × List Nat) := (true, [([], []), ([0], [0]), ([1], [1]), ([1], [1]), ([2, 3, 1], [1, 2, 3]), ([1, 4], [1, 4]), ([5, 1], [5]), ([6], [6]), ([7, 6, 6], [6, 7]), ([8, 6], [6, 8]), ([6], [6]), ([10, 8, 6], [6, 10]), ([11, 6], [6, 11]), ([9, 12, 6], [6, 9, 12]), ([6, 13], [6, 13]), ([14, 11], [14]), ([15], [15]), ([16, 15], [15, 16]), ([15], [15]), ([17, 18, 15], [15, 17, 18]), ([15, 19], [15, 19]), ([20, 15, 0, 1, 2, 3, 4, 5, 6, 7, 8, 9, 10, 11, 12, 13, 14, 15, 16, 17, 18, 19, 20], [20])])
def laws_FnColor.B11 : List Nat := [0, 1, 3, 3, 15, 31, 63, 127, 255, 511, 127, 1535, 3583, 8191, 16383, 32767, 65535, 131071, 65535, 524287, 1048575, 2097151]
theorem laws_FnColor.tab11 : rtab .any (opsOf Try.f8 11) = laws_FnColor.T11 := Z0
theorem laws_FnColor.bits11 : waitsOk laws_FnColor.T11.2 laws_FnColor.B11 = true := Z0
set_option maxHeartbeats 8000000 in
set_option maxRecDepth 100000 in
theorem laws_FnColor.calls (k : Nat) (A0 : Option Addr) (c0 : Nat) (l0 : List Int) (r : Bool) (w : World) (hr0 : Kd.C (Kd.int .u8) w A0 l0.length l0) (hc0 : l0.length ≤ c0) (h : laws_FnColor.f k l0 = some r) :
  Calls Try.prog 8 #[.slice A0 l0.length c0] w fun e w' => e = .returned (.bool r) ∧ Below w.heap.size w w' := by
 have hu51 := Try.underlying51
 have HR0 := Aside0.mk hr0
 have HC0 := Aside0.mk hc0
 clear hr0 hc0
 have HB := Z (Below.refl w.heap.size w)
 have H : ((laws_big.f l0).bind fun t458 => (if t458 = true then (some true) else ((spec_DrawRecolor.f k l0).bind fun bt459 => ((impl_Recolor.f k bt459.1 bt459.2.1 bt459.2.2.1 bt459.2.2.2.1 bt459.2.2.2.2.1 bt459.2.2.2.2.2).bind fun bt466 => ((spec_Recolor.f k bt459.1 bt459.2.1 bt459.2.2.1 bt459.2.2.2.1 bt459.2.2.2.2.1 bt459.2.2.2.2.2).bind fun bt473 => (if (bt466.2.2.2.2.2 != bt473.2.2.2.2.2) = true then (some false) else (if bt466.2.2.2.2.2 = true then ((impl_Recolor.f k bt466.1 bt466.2.1 bt466.2.2.1 bt466.2.2.2.1 bt466.2.2.2.2.1 bt459.1).bind fun bt480 => (if bt480.2.2.2.2.2 = true then (if (bt480.1 == bt459.1 && (bt480.2.1.toList == bt459.2.1.toList && (bt480.2.2.1 == bt459.2.2.1 && (bt480.2.2.2.1 == bt459.2.2.2.1 && (bt480.2.2.2.2.1 == bt459.2.2.2.2.1))))) = true then ((impl_CellsOf.f k bt466.1 bt466.2.1 bt466.2.2.1 bt466.2.2.2.1 bt466.2.2.2.2.1).bind fun t487 => ((impl_CellsOf.f k bt459.1 bt459.2.1 bt459.2.2.1 bt459.2.2.2.1 bt459.2.2.2.2.1).bind fun t490 => (if (t487.length : Int) = (t490.length : Int) then (some (bt466.1 == bt459.2.2.2.2.2)) else (some false)))) else (some false)) else (some false))) else (some (bt466.1 == 0 && (bt466.2.1.toList == ([] : List UInt8) && (bt466.2.2.1 == 0 && (!bt466.2.2.2.1 && (bt466.2.2.2.2.1 == 0))))))))))))) = some r := h
 clear h
 replace H := Option.bind_eq_some_iff.mp H
 obtain ⟨t458, A20, H⟩ := H
 replace H : (if t458 = true then (some true) else ((spec_DrawRecolor.f k l0).bind fun bt459 => ((impl_Recolor.f k bt459.1 bt459.2.1 bt459.2.2.1 bt459.2.2.2.1 bt459.2.2.2.2.1 bt459.2.2.2.2.2).bind fun bt466 => ((spec_Recolor.f k bt459.1 bt459.2.1 bt459.2.2.1 bt459.2.2.2.1 bt459.2.2.2.2.1 bt459.2.2.2.2.2).bind fun bt473 => (if (bt466.2.2.2.2.2 != bt473.2.2.2.2.2) = true then (some false) else (if bt466.2.2.2.2.2 = true then ((impl_Recolor.f k bt466.1 bt466.2.1 bt466.2.2.1 bt466.2.2.2.1 bt466.2.2.2.2.1 bt459.1).bind fun bt480 => (if bt480.2.2.2.2.2 = true then (if (bt480.1 == bt459.1 && (bt480.2.1.toList == bt459.2.1.toList && (bt480.2.2.1 == bt459.2.2.1 && (bt480.2.2.2.1 == bt459.2.2.2.1 && (bt480.2.2.2.2.1 == bt459.2.2.2.2.1))))) = true then ((impl_CellsOf.f k bt466.1 bt466.2.1 bt466.2.2.1 bt466.2.2.2.1 bt466.2.2.2.2.1).bind fun t487 => ((impl_CellsOf.f k bt459.1 bt459.2.1 bt459.2.2.1 bt459.2.2.2.1 bt459.2.2.2.2.1).bind fun t490 => (if (t487.length : Int) = (t490.length : Int) then (some (bt466.1 == bt459.2.2.2.2.2)) else (some false)))) else (some false)) else (some false))) else (some (bt466.1 == 0 && (bt466.2.1.toList == ([] : List UInt8) && (bt466.2.2.1 == 0 && (!bt466.2.2.2.1 && (bt466.2.2.2.2.1 == 0)))))))))))) = some r := H
 have A2 := Aside0.mk A20
 clear A20
 by_cases c3 : t458 = true
 ·subst c3
  have H1 : (some true) = some r := Z4
  clear H
  have H := H1
  clear H1
  obtain rfl := Option.some.inj H
  go_enter Try.func8, Try.ntmps8
  go_wp2_with (first | ((with_reducible refine gate_callee (f := 13) rfl ?_); refine goesL_ (some 12) rfl rfl Try.func13 Z0 rfl #[.slice A0 l0.length c0] rfl Z9 ?_; (with_reducible refine (laws_big.calls _ _ l0 true _ ?side1 ?side2 A2.out).mono ?_); (case side1 => exact (Z36 HR0)); (case side2 => exact HC0.out); rintro e w' ⟨rfl, ⟨nd, rfl⟩⟩; refine ⟨_, rfl, ?_⟩))
  go_ret
  exact ⟨Z7, Z47⟩
 ·replace c3 := Bool.eq_false_iff.mpr c3
  subst c3
  have H1 : ((spec_DrawRecolor.f k l0).bind fun bt459 => ((impl_Recolor.f k bt459.1 bt459.2.1 bt459.2.2.1 bt459.2.2.2.1 bt459.2.2.2.2.1 bt459.2.2.2.2.2).bind fun bt466 => ((spec_Recolor.f k bt459.1 bt459.2.1 bt459.2.2.1 bt459.2.2.2.1 bt459.2.2.2.2.1 bt459.2.2.2.2.2).bind fun bt473 => (if (bt466.2.2.2.2.2 != bt473.2.2.2.2.2) = true then (some false) else (if bt466.2.2.2.2.2 = true then ((impl_Recolor.f k bt466.1 bt466.2.1 bt466.2.2.1 bt466.2.2.2.1 bt466.2.2.2.2.1 bt459.1).bind fun bt480 => (if bt480.2.2.2.2.2 = true then (if (bt480.1 == bt459.1 && (bt480.2.1.toList == bt459.2.1.toList && (bt480.2.2.1 == bt459.2.2.1 && (bt480.2.2.2.1 == bt459.2.2.2.1 && (bt480.2.2.2.2.1 == bt459.2.2.2.2.1))))) = true then ((impl_CellsOf.f k bt466.1 bt466.2.1 bt466.2.2.1 bt466.2.2.2.1 bt466.2.2.2.2.1).bind fun t487 => ((impl_CellsOf.f k bt459.1 bt459.2.1 bt459.2.2.1 bt459.2.2.2.1 bt459.2.2.2.2.1).bind fun t490 => (if (t487.length : Int) = (t490.length : Int) then (some (bt466.1 == bt459.2.2.2.2.2)) else (some false)))) else (some false)) else (some false))) else (some (bt466.1 == 0 && (bt466.2.1.toList == ([] : List UInt8) && (bt466.2.2.1 == 0 && (!bt466.2.2.2.1 && (bt466.2.2.2.2.1 == 0))))))))))) = some r := by rw [if_neg (show ¬ (false = true) by decide)] at H; exact H
  clear H
  have H := H1
  clear H1
  replace H := Option.bind_eq_some_iff.mp H
  obtain ⟨⟨t459, t460, t461, t462, t463, t464⟩, A40, H⟩ := H
  replace H : ((impl_Recolor.f k t459 t460 t461 t462 t463 t464).bind fun bt466 => ((spec_Recolor.f k t459 t460 t461 t462 t463 t464).bind fun bt473 => (if (bt466.2.2.2.2.2 != bt473.2.2.2.2.2) = true then (some false) else (if bt466.2.2.2.2.2 = true then ((impl_Recolor.f k bt466.1 bt466.2.1 bt466.2.2.1 bt466.2.2.2.1 bt466.2.2.2.2.1 t459).bind fun bt480 => (if bt480.2.2.2.2.2 = true then (if (bt480.1 == t459 && (bt480.2.1.toList == t460.toList && (bt480.2.2.1 == t461 && (bt480.2.2.2.1 == t462 && (bt480.2.2.2.2.1 == t463))))) = true then ((impl_CellsOf.f k bt466.1 bt466.2.1 bt466.2.2.1 bt466.2.2.2.1 bt466.2.2.2.2.1).bind fun t487 => ((impl_CellsOf.f k t459 t460 t461 t462 t463).bind fun t490 => (if (t487.length : Int) = (t490.length : Int) then (some (bt466.1 == t464)) else (some false)))) else (some false)) else (some false))) else (some (bt466.1 == 0 && (bt466.2.1.toList == ([] : List UInt8) && (bt466.2.2.1 == 0 && (!bt466.2.2.2.1 && (bt466.2.2.2.2.1 == 0)))))))))) = some r := H
  have A4 := Aside0.mk A40
  clear A40
  replace H := Option.bind_eq_some_iff.mp H
  obtain ⟨⟨t466, t467, t468, t469, t470, t471⟩, A50, H⟩ := H
  replace H : ((spec_Recolor.f k t459 t460 t461 t462 t463 t464).bind fun bt473 => (if (t471 != bt473.2.2.2.2.2) = true then (some false) else (if t471 = true then ((impl_Recolor.f k t466 t467 t468 t469 t470 t459).bind fun bt480 => (if bt480.2.2.2.2.2 = true then (if (bt480.1 == t459 && (bt480.2.1.toList == t460.toList && (bt480.2.2.1 == t461 && (bt480.2.2.2.1 == t462 && (bt480.2.2.2.2.1 == t463))))) = true then ((impl_CellsOf.f k t466 t467 t468 t469 t470).bind fun t487 => ((impl_CellsOf.f k t459 t460 t461 t462 t463).bind fun t490 => (if (t487.length : Int) = (t490.length : Int) then (some (t466 == t464)) else (some false)))) else (some false)) else (some false))) else (some (t466 == 0 && (t467.toList == ([] : List UInt8) && (t468 == 0 && (!t469 && (t470 == 0))))))))) = some r := H
  have A5 := Aside0.mk A50
  clear A50
  replace H := Option.bind_eq_some_iff.mp H
  obtain ⟨⟨t473, t474, t475, t476, t477, t478⟩, A60, H⟩ := H
  replace H : (if (t471 != t478) = true then (some false) else (if t471 = true then ((impl_Recolor.f k t466 t467 t468 t469 t470 t459).bind fun bt480 => (if bt480.2.2.2.2.2 = true then (if (bt480.1 == t459 && (bt480.2.1.toList == t460.toList && (bt480.2.2.1 == t461 && (bt480.2.2.2.1 == t462 && (bt480.2.2.2.2.1 == t463))))) = true then ((impl_CellsOf.f k t466 t467 t468 t469 t470).bind fun t487 => ((impl_CellsOf.f k t459 t460 t461 t462 t463).bind fun t490 => (if (t487.length : Int) = (t490.length : Int) then (some (t466 == t464)) else (some false)))) else (some false)) else (some false))) else (some (t466 == 0 && (t467.toList == ([] : List UInt8) && (t468 == 0 && (!t469 && (t470 == 0)))))))) = some r := H
  have A6 := Aside0.mk A60
  clear A60
  by_cases c7 : (t471 != t478) = true
  ·rw [if_pos c7] at H
   have c7b0 : (t471 != t478) = true := c7
   (try (have c7b1 : decide (t471 = t478) = false := by simpa using c7))
   (try (have c7b2 : (t471 == t478) = false := by simpa using c7))
   (try (have c7b3 : ¬ (t471 = t478) := by simpa using c7))
   clear c7
   obtain rfl := Option.some.inj H
   go_enter Try.func8, Try.ntmps8
   go_wp2_with (first | ((with_reducible refine gate_callee (f := 13) rfl ?_); refine goesL_ (some 12) rfl rfl Try.func13 Z0 rfl #[.slice A0 l0.length c0] rfl Z9 ?_; (with_reducible refine (laws_big.calls _ _ l0 false _ ?side1 ?side2 A2.out).mono ?_); (case side1 => exact (Z36 HR0)); (case side2 => exact HC0.out); rintro e w' ⟨rfl, ⟨nd, rfl⟩⟩; refine ⟨_, rfl, ?_⟩) | ((with_reducible refine gate_callee (f := 42) rfl ?_); refine goesL_ (some 15) rfl rfl Try.func42 Z0 rfl #[.slice A0 l0.length c0] rfl Z9 ?_; (with_reducible refine (spec_DrawRecolor.calls k _ _ l0 t459 t460 t461 t462 t463 t464 _ ?side1 ?side2 A4.out).mono ?_); (case side1 => exact (Z36 HR0)); (case side2 => exact HC0.out); rintro e w8 ⟨rfl, hb⟩; refine ⟨_, rfl, ?_⟩; replace HB := Z (below_step Z47 hb); (try clear hb); (try clear hb2); (try clear hk); (try clear hi)) | ((with_reducible refine gate_dst (N := 3) rfl ?_); (try (refine gate_guard (by rfl) ?_; dsimp only)); refine box_event (by rfl) (N := 3) (by rfl) (cs := #[.int .i64 0, .string (⟨#[]⟩ : ByteArray), .int .i32 0, .bool false, .int .u32 0]) (t := 51) Z5 ?_; intro gb465 hg w9 hbox hb; have BK465 := Z (hbox); have GW465 := Z ((Z66 : w.heap.size ≤ gb465)); have GE465 := Z ((Z66 : w.heap.size ≤ gb465)); replace HB := Z (below_step Z47 hb); clear hb hbox hg; have hcz10_0 : w9.cell? ⟨gb465, 0, none⟩ = some (.int .i64 0) := (blk_cell BK465.out 0).trans rfl; have hcz10_1 : w9.cell? ⟨gb465, 1, none⟩ = some (.string (⟨#[]⟩ : ByteArray)) := (blk_cell BK465.out 1).trans rfl; have hcz10_2 : w9.cell? ⟨gb465, 2, none⟩ = some (.int .i32 0) := (blk_cell BK465.out 2).trans rfl; have hcz10_3 : w9.cell? ⟨gb465, 3, none⟩ = some (.bool false) := (blk_cell BK465.out 3).trans rfl; have hcz10_4 : w9.cell? ⟨gb465, 4, none⟩ = some (.int .u32 0) := (blk_cell BK465.out 4).trans rfl; have hfz10_0 := blk_frozen BK465.out 0; have hfz10_1 := blk_frozen BK465.out 1; have hfz10_2 := blk_frozen BK465.out 2; have hfz10_3 := blk_frozen BK465.out 3; have hfz10_4 := blk_frozen BK465.out 4) | ((with_reducible refine gate_callee (f := 36) rfl ?_); refine goesL_ (some 21) rfl rfl Try.func36 Z0 rfl #[.agg #[.int .i64 t459, .string t460, .int .i32 t461, .bool t462, .int .u32 t463], .int .i64 t464] rfl Z9 ?_; (with_reducible refine (impl_Recolor.calls k t459 t460 t461 t462 t463 t464 t466 t467 t468 t469 t470 t471 _ A5.out).mono ?_); rintro e w11 ⟨rfl, hb⟩; refine ⟨_, rfl, ?_⟩; replace BK465 := Z (blk_below (g := gb465) (o := .cells #[.int .i64 t459, .string t460, .int .i32 t461, .bool t462, .int .u32 t463] 51 (0, 0)) (Z37 BK465) hb); replace HB := Z (below_step Z47 hb); (try clear hb); (try clear hb2); (try clear hk); (try clear hi)) | ((with_reducible refine gate_dst (N := 5) rfl ?_); (try (refine gate_guard (by rfl) ?_; dsimp only)); refine box_event (by rfl) (N := 5) (by rfl) (cs := #[.int .i64 0, .string (⟨#[]⟩ : ByteArray), .int .i32 0, .bool false, .int .u32 0]) (t := 51) Z5 ?_; intro gb472 hg w12 hbox hb; have BK472 := Z (hbox); have GW472 := Z ((Z66 : w.heap.size ≤ gb472)); have GE472 := Z ((Z66 : w.heap.size ≤ gb472)); replace HB := Z (below_step Z47 hb); have NB465_472 := Z ((Z60 : gb465 ≠ gb472)); have NB472_465 := Z ((Z61 : gb472 ≠ gb465)); replace BK465 := Z (blk_below (g := gb465) (o := .cells #[.int .i64 t459, .string t460, .int .i32 t461, .bool t462, .int .u32 t463] 51 (0, 0)) (Z13 BK465) hb); clear hb hbox hg; have hnb13 := NB472_465.out; have hnc13 := NB465_472.out; have hcz14_0 : w12.cell? ⟨gb472, 0, none⟩ = some (.int .i64 0) := (blk_cell BK472.out 0).trans rfl; have hcz14_1 : w12.cell? ⟨gb472, 1, none⟩ = some (.string (⟨#[]⟩ : ByteArray)) := (blk_cell BK472.out 1).trans rfl; have hcz14_2 : w12.cell? ⟨gb472, 2, none⟩ = some (.int .i32 0) := (blk_cell BK472.out 2).trans rfl; have hcz14_3 : w12.cell? ⟨gb472, 3, none⟩ = some (.bool false) := (blk_cell BK472.out 3).trans rfl; have hcz14_4 : w12.cell? ⟨gb472, 4, none⟩ = some (.int .u32 0) := (blk_cell BK472.out 4).trans rfl; have hfz14_0 := blk_frozen BK472.out 0; have hfz14_1 := blk_frozen BK472.out 1; have hfz14_2 := blk_frozen BK472.out 2; have hfz14_3 := blk_frozen BK472.out 3; have hfz14_4 := blk_frozen BK472.out 4; have hcz15_0 : w12.cell? ⟨gb465, 0, none⟩ = some (.int .i64 t459) := (blk_cell BK465.out 0).trans rfl; have hcz15_1 : w12.cell? ⟨gb465, 1, none⟩ = some (.string t460) := (blk_cell BK465.out 1).trans rfl; have hcz15_2 : w12.cell? ⟨gb465, 2, none⟩ = some (.int .i32 t461) := (blk_cell BK465.out 2).trans rfl; have hcz15_3 : w12.cell? ⟨gb465, 3, none⟩ = some (.bool t462) := (blk_cell BK465.out 3).trans rfl; have hcz15_4 : w12.cell? ⟨gb465, 4, none⟩ = some (.int .u32 t463) := (blk_cell BK465.out 4).trans rfl; have hfz15_0 := blk_frozen BK465.out 0; have hfz15_1 := blk_frozen BK465.out 1; have hfz15_2 := blk_frozen BK465.out 2; have hfz15_3 := blk_frozen BK465.out 3; have hfz15_4 := blk_frozen BK465.out 4) | ((with_reducible refine gate_callee (f := 34) rfl ?_); refine goesL_ (some 27) rfl rfl Try.func34 Z0 rfl #[.agg #[.int .i64 t459, .string t460, .int .i32 t461, .bool t462, .int .u32 t463], .int .i64 t464] rfl Z9 ?_; (with_reducible refine (spec_Recolor.calls k t459 t460 t461 t462 t463 t464 t473 t474 t475 t476 t477 t478 _ A6.out).mono ?_); rintro e w16 ⟨rfl, hb⟩; refine ⟨_, rfl, ?_⟩; replace BK465 := Z (blk_below (g := gb465) (o := .cells #[.int .i64 t459, .string t460, .int .i32 t461, .bool t462, .int .u32 t463] 51 (0, 0)) (Z38 BK465) hb); replace BK472 := Z (blk_below (g := gb472) (o := .cells #[.int .i64 t466, .string t467, .int .i32 t468, .bool t469, .int .u32 t470] 51 (0, 0)) (Z39 BK472) hb); replace HB := Z (below_step Z47 hb); (try clear hb); (try clear hb2); (try clear hk); (try clear hi)) | ((with_reducible refine gate_dst (N := 7) rfl ?_); (try (refine gate_guard (by rfl) ?_; dsimp only)); refine box_event (by rfl) (N := 7) (by rfl) (cs := #[.int .i64 0, .string (⟨#[]⟩ : ByteArray), .int .i32 0, .bool false, .int .u32 0]) (t := 51) Z5 ?_; intro gb479 hg w17 hbox hb; have BK479 := Z (hbox); have GW479 := Z ((Z66 : w.heap.size ≤ gb479)); have GE479 := Z ((Z66 : w.heap.size ≤ gb479)); replace HB := Z (below_step Z47 hb); have NB465_479 := Z ((Z60 : gb465 ≠ gb479)); have NB479_465 := Z ((Z61 : gb479 ≠ gb465)); replace BK465 := Z (blk_below (g := gb465) (o := .cells #[.int .i64 t459, .string t460, .int .i32 t461, .bool t462, .int .u32 t463] 51 (0, 0)) (Z13 BK465) hb); have NB472_479 := Z ((Z62 : gb472 ≠ gb479)); have NB479_472 := Z ((Z63 : gb479 ≠ gb472)); replace BK472 := Z (blk_below (g := gb472) (o := .cells #[.int .i64 t466, .string t467, .int .i32 t468, .bool t469, .int .u32 t470] 51 (0, 0)) (Z13 BK472) hb); clear hb hbox hg; have hnb18 := NB479_465.out; have hnc18 := NB465_479.out; have hnb19 := NB479_472.out; have hnc19 := NB472_479.out; have hcz20_0 : w17.cell? ⟨gb479, 0, none⟩ = some (.int .i64 0) := (blk_cell BK479.out 0).trans rfl; have hcz20_1 : w17.cell? ⟨gb479, 1, none⟩ = some (.string (⟨#[]⟩ : ByteArray)) := (blk_cell BK479.out 1).trans rfl; have hcz20_2 : w17.cell? ⟨gb479, 2, none⟩ = some (.int .i32 0) := (blk_cell BK479.out 2).trans rfl; have hcz20_3 : w17.cell? ⟨gb479, 3, none⟩ = some (.bool false) := (blk_cell BK479.out 3).trans rfl; have hcz20_4 : w17.cell? ⟨gb479, 4, none⟩ = some (.int .u32 0) := (blk_cell BK479.out 4).trans rfl; have hfz20_0 := blk_frozen BK479.out 0; have hfz20_1 := blk_frozen BK479.out 1; have hfz20_2 := blk_frozen BK479.out 2; have hfz20_3 := blk_frozen BK479.out 3; have hfz20_4 := blk_frozen BK479.out 4))
   go_ret
   exact ⟨Z7, Z47⟩
  ·rw [if_neg c7] at H
   have c7b0 : (t471 != t478) = false := by simpa using c7
   (try (have c7b1 : decide (t471 = t478) = true := by simpa using c7))
   (try (have c7b2 : (t471 == t478) = true := by simpa using c7))
   clear c7
   by_cases c21 : t471 = true
   ·subst c21
    have H1 : ((impl_Recolor.f k t466 t467 t468 t469 t470 t459).bind fun bt480 => (if bt480.2.2.2.2.2 = true then (if (bt480.1 == t459 && (bt480.2.1.toList == t460.toList && (bt480.2.2.1 == t461 && (bt480.2.2.2.1 == t462 && (bt480.2.2.2.2.1 == t463))))) = true then ((impl_CellsOf.f k t466 t467 t468 t469 t470).bind fun t487 => ((impl_CellsOf.f k t459 t460 t461 t462 t463).bind fun t490 => (if (t487.length : Int) = (t490.length : Int) then (some (t466 == t464)) else (some false)))) else (some false)) else (some false))) = some r := Z4
    clear H
    have H := H1
    clear H1
    replace H := Option.bind_eq_some_iff.mp H
    obtain ⟨⟨t480, t481, t482, t483, t484, t485⟩, A220, H⟩ := H
    replace H : (if t485 = true then (if (t480 == t459 && (t481.toList == t460.toList && (t482 == t461 && (t483 == t462 && (t484 == t463))))) = true then ((impl_CellsOf.f k t466 t467 t468 t469 t470).bind fun t487 => ((impl_CellsOf.f k t459 t460 t461 t462 t463).bind fun t490 => (if (t487.length : Int) = (t490.length : Int) then (some (t466 == t464)) else (some false)))) else (some false)) else (some false)) = some r := H
    have A22 := Aside0.mk A220
    clear A220
    by_cases c23 : t485 = true
    ·subst c23
     have H1 : (if (t480 == t459 && (t481.toList == t460.toList && (t482 == t461 && (t483 == t462 && (t484 == t463))))) = true then ((impl_CellsOf.f k t466 t467 t468 t469 t470).bind fun t487 => ((impl_CellsOf.f k t459 t460 t461 t462 t463).bind fun t490 => (if (t487.length : Int) = (t490.length : Int) then (some (t466 == t464)) else (some false)))) else (some false)) = some r := Z4
     clear H
     have H := H1
     clear H1
     by_cases c24 : (t480 == t459 && (t481.toList == t460.toList && (t482 == t461 && (t483 == t462 && (t484 == t463))))) = true
     ·rw [if_pos c24] at H
      have c24b0 : (t480 == t459 && (t481.toList == t460.toList && (t482 == t461 && (t483 == t462 && (t484 == t463))))) = true := c24
      (try (have c24b1 : decide (t480 = t459 && (t481.toList == t460.toList && (t482 == t461 && (t483 == t462 && (t484 == t463))))) = true := Z24))
      (try (have c24b2 : (t480 == t459 && (t481.toList == t460.toList && (t482 == t461 && (t483 == t462 && (t484 == t463))))) = true := Z24))
      clear c24
      replace H := Option.bind_eq_some_iff.mp H
      obtain ⟨t487, A250, H⟩ := H
      replace H : ((impl_CellsOf.f k t459 t460 t461 t462 t463).bind fun t490 => (if (t487.length : Int) = (t490.length : Int) then (some (t466 == t464)) else (some false))) = some r := H
      have A25 := Aside0.mk A250
      clear A250
      replace H := Option.bind_eq_some_iff.mp H
      obtain ⟨t490, A260, H⟩ := H
      replace H : (if (t487.length : Int) = (t490.length : Int) then (some (t466 == t464)) else (some false)) = some r := H
      have A26 := Aside0.mk A260
      clear A260
      by_cases c27 : (t487.length : Int) = (t490.length : Int)
      ·rw [if_pos c27] at H
       have c27b0 : ((t487.length : Int) == (t490.length : Int)) = true := beq_iff_eq.mpr c27
       have c27b1 : ((t487.length : Int) != (t490.length : Int)) = false := bne_eq_false_iff_eq.mpr c27
       have c27b2 : (t487.length == t490.length) = true := by first | simpa using c27 | (simp at c27 ⊢; omega)
       clear c27
       obtain rfl := Option.some.inj H
       go_enter Try.func8, Try.ntmps8
       try go_wp2_with (first | ((with_reducible refine gate_callee (f := 13) rfl ?_); refine goesL_ (some 12) rfl rfl Try.func13 Z0 rfl #[.slice A0 l0.length c0] rfl Z9 ?_; (with_reducible refine (laws_big.calls _ _ l0 false _ ?side1 ?side2 A2.out).mono ?_); (case side1 => exact (Z36 HR0)); (case side2 => exact HC0.out); rintro e w' ⟨rfl, ⟨nd, rfl⟩⟩; refine ⟨_, rfl, ?_⟩) | ((with_reducible refine gate_callee (f := 42) rfl ?_); refine goesL_ (some 15) rfl rfl Try.func42 Z0 rfl #[.slice A0 l0.length c0] rfl Z9 ?_; (with_reducible refine (spec_DrawRecolor.calls k _ _ l0 t459 t460 t461 t462 t463 t464 _ ?side1 ?side2 A4.out).mono ?_); (case side1 => exact (Z36 HR0)); (case side2 => exact HC0.out); rintro e w28 ⟨rfl, hb⟩; refine ⟨_, rfl, ?_⟩; replace HB := Z (below_step Z47 hb); (try clear hb); (try clear hb2); (try clear hk); (try clear hi)) | ((with_reducible refine gate_dst (N := 3) rfl ?_); (try (refine gate_guard (by rfl) ?_; dsimp only)); refine box_event (by rfl) (N := 3) (by rfl) (cs := #[.int .i64 0, .string (⟨#[]⟩ : ByteArray), .int .i32 0, .bool false, .int .u32 0]) (t := 51) Z5 ?_; intro gb465 hg w29 hbox hb; have BK465 := Z (hbox); have GW465 := Z ((Z66 : w.heap.size ≤ gb465)); have GE465 := Z ((Z66 : w.heap.size ≤ gb465)); replace HB := Z (below_step Z47 hb); clear hb hbox hg; have hcz30_0 : w29.cell? ⟨gb465, 0, none⟩ = some (.int .i64 0) := (blk_cell BK465.out 0).trans rfl; have hcz30_1 : w29.cell? ⟨gb465, 1, none⟩ = some (.string (⟨#[]⟩ : ByteArray)) := (blk_cell BK465.out 1).trans rfl; have hcz30_2 : w29.cell? ⟨gb465, 2, none⟩ = some (.int .i32 0) := (blk_cell BK465.out 2).trans rfl; have hcz30_3 : w29.cell? ⟨gb465, 3, none⟩ = some (.bool false) := (blk_cell BK465.out 3).trans rfl; have hcz30_4 : w29.cell? ⟨gb465, 4, none⟩ = some (.int .u32 0) := (blk_cell BK465.out 4).trans rfl; have hfz30_0 := blk_frozen BK465.out 0; have hfz30_1 := blk_frozen BK465.out 1; have hfz30_2 := blk_frozen BK465.out 2; have hfz30_3 := blk_frozen BK465.out 3; have hfz30_4 := blk_frozen BK465.out 4) | ((with_reducible refine gate_callee (f := 36) rfl ?_); refine goesL_ (some 21) rfl rfl Try.func36 Z0 rfl #[.agg #[.int .i64 t459, .string t460, .int .i32 t461, .bool t462, .int .u32 t463], .int .i64 t464] rfl Z9 ?_; (with_reducible refine (impl_Recolor.calls k t459 t460 t461 t462 t463 t464 t466 t467 t468 t469 t470 true _ A5.out).mono ?_); rintro e w31 ⟨rfl, hb⟩; refine ⟨_, rfl, ?_⟩; replace BK465 := Z (blk_below (g := gb465) (o := .cells #[.int .i64 t459, .string t460, .int .i32 t461, .bool t462, .int .u32 t463] 51 (0, 0)) (Z37 BK465) hb); replace HB := Z (below_step Z47 hb); (try clear hb); (try clear hb2); (try clear hk); (try clear hi)) | ((with_reducible refine gate_dst (N := 5) rfl ?_); (try (refine gate_guard (by rfl) ?_; dsimp only)); refine box_event (by rfl) (N := 5) (by rfl) (cs := #[.int .i64 0, .string (⟨#[]⟩ : ByteArray), .int .i32 0, .bool false, .int .u32 0]) (t := 51) Z5 ?_; intro gb472 hg w32 hbox hb; have BK472 := Z (hbox); have GW472 := Z ((Z66 : w.heap.size ≤ gb472)); have GE472 := Z ((Z66 : w.heap.size ≤ gb472)); replace HB := Z (below_step Z47 hb); have NB465_472 := Z ((Z60 : gb465 ≠ gb472)); have NB472_465 := Z ((Z61 : gb472 ≠ gb465)); replace BK465 := Z (blk_below (g := gb465) (o := .cells #[.int .i64 t459, .string t460, .int .i32 t461, .bool t462, .int .u32 t463] 51 (0, 0)) (Z13 BK465) hb); clear hb hbox hg; have hnb33 := NB472_465.out; have hnc33 := NB465_472.out; have hcz34_0 : w32.cell? ⟨gb472, 0, none⟩ = some (.int .i64 0) := (blk_cell BK472.out 0).trans rfl; have hcz34_1 : w32.cell? ⟨gb472, 1, none⟩ = some (.string (⟨#[]⟩ : ByteArray)) := (blk_cell BK472.out 1).trans rfl; have hcz34_2 : w32.cell? ⟨gb472, 2, none⟩ = some (.int .i32 0) := (blk_cell BK472.out 2).trans rfl; have hcz34_3 : w32.cell? ⟨gb472, 3, none⟩ = some (.bool false) := (blk_cell BK472.out 3).trans rfl; have hcz34_4 : w32.cell? ⟨gb472, 4, none⟩ = some (.int .u32 0) := (blk_cell BK472.out 4).trans rfl; have hfz34_0 := blk_frozen BK472.out 0; have hfz34_1 := blk_frozen BK472.out 1; have hfz34_2 := blk_frozen BK472.out 2; have hfz34_3 := blk_frozen BK472.out 3; have hfz34_4 := blk_frozen BK472.out 4; have hcz35_0 : w32.cell? ⟨gb465, 0, none⟩ = some (.int .i64 t459) := (blk_cell BK465.out 0).trans rfl; have hcz35_1 : w32.cell? ⟨gb465, 1, none⟩ = some (.string t460) := (blk_cell BK465.out 1).trans rfl; have hcz35_2 : w32.cell? ⟨gb465, 2, none⟩ = some (.int .i32 t461) := (blk_cell BK465.out 2).trans rfl; have hcz35_3 : w32.cell? ⟨gb465, 3, none⟩ = some (.bool t462) := (blk_cell BK465.out 3).trans rfl; have hcz35_4 : w32.cell? ⟨gb465, 4, none⟩ = some (.int .u32 t463) := (blk_cell BK465.out 4).trans rfl; have hfz35_0 := blk_frozen BK465.out 0; have hfz35_1 := blk_frozen BK465.out 1; have hfz35_2 := blk_frozen BK465.out 2; have hfz35_3 := blk_frozen BK465.out 3; have hfz35_4 := blk_frozen BK465.out 4) | ((with_reducible refine gate_callee (f := 34) rfl ?_); refine goesL_ (some 27) rfl rfl Try.func34 Z0 rfl #[.agg #[.int .i64 t459, .string t460, .int .i32 t461, .bool t462, .int .u32 t463], .int .i64 t464] rfl Z9 ?_; (with_reducible refine (spec_Recolor.calls k t459 t460 t461 t462 t463 t464 t473 t474 t475 t476 t477 t478 _ A6.out).mono ?_); rintro e w36 ⟨rfl, hb⟩; refine ⟨_, rfl, ?_⟩; replace BK465 := Z (blk_below (g := gb465) (o := .cells #[.int .i64 t459, .string t460, .int .i32 t461, .bool t462, .int .u32 t463] 51 (0, 0)) (Z38 BK465) hb); replace BK472 := Z (blk_below (g := gb472) (o := .cells #[.int .i64 t466, .string t467, .int .i32 t468, .bool t469, .int .u32 t470] 51 (0, 0)) (Z39 BK472) hb); replace HB := Z (below_step Z47 hb); (try clear hb); (try clear hb2); (try clear hk); (try clear hi)) | ((with_reducible refine gate_dst (N := 7) rfl ?_); (try (refine gate_guard (by rfl) ?_; dsimp only)); refine box_event (by rfl) (N := 7) (by rfl) (cs := #[.int .i64 0, .string (⟨#[]⟩ : ByteArray), .int .i32 0, .bool false, .int .u32 0]) (t := 51) Z5 ?_; intro gb479 hg w37 hbox hb; have BK479 := Z (hbox); have GW479 := Z ((Z66 : w.heap.size ≤ gb479)); have GE479 := Z ((Z66 : w.heap.size ≤ gb479)); replace HB := Z (below_step Z47 hb); have NB465_479 := Z ((Z60 : gb465 ≠ gb479)); have NB479_465 := Z ((Z61 : gb479 ≠ gb465)); replace BK465 := Z (blk_below (g := gb465) (o := .cells #[.int .i64 t459, .string t460, .int .i32 t461, .bool t462, .int .u32 t463] 51 (0, 0)) (Z13 BK465) hb); have NB472_479 := Z ((Z62 : gb472 ≠ gb479)); have NB479_472 := Z ((Z63 : gb479 ≠ gb472)); replace BK472 := Z (blk_below (g := gb472) (o := .cells #[.int .i64 t466, .string t467, .int .i32 t468, .bool t469, .int .u32 t470] 51 (0, 0)) (Z13 BK472) hb); clear hb hbox hg; have hnb38 := NB479_465.out; have hnc38 := NB465_479.out; have hnb39 := NB479_472.out; have hnc39 := NB472_479.out; have hcz40_0 : w37.cell? ⟨gb479, 0, none⟩ = some (.int .i64 0) := (blk_cell BK479.out 0).trans rfl; have hcz40_1 : w37.cell? ⟨gb479, 1, none⟩ = some (.string (⟨#[]⟩ : ByteArray)) := (blk_cell BK479.out 1).trans rfl; have hcz40_2 : w37.cell? ⟨gb479, 2, none⟩ = some (.int .i32 0) := (blk_cell BK479.out 2).trans rfl; have hcz40_3 : w37.cell? ⟨gb479, 3, none⟩ = some (.bool false) := (blk_cell BK479.out 3).trans rfl; have hcz40_4 : w37.cell? ⟨gb479, 4, none⟩ = some (.int .u32 0) := (blk_cell BK479.out 4).trans rfl; have hfz40_0 := blk_frozen BK479.out 0; have hfz40_1 := blk_frozen BK479.out 1; have hfz40_2 := blk_frozen BK479.out 2; have hfz40_3 := blk_frozen BK479.out 3; have hfz40_4 := blk_frozen BK479.out 4; have hcz41_0 : w37.cell? ⟨gb472, 0, none⟩ = some (.int .i64 t466) := (blk_cell BK472.out 0).trans rfl; have hcz41_1 : w37.cell? ⟨gb472, 1, none⟩ = some (.string t467) := (blk_cell BK472.out 1).trans rfl; have hcz41_2 : w37.cell? ⟨gb472, 2, none⟩ = some (.int .i32 t468) := (blk_cell BK472.out 2).trans rfl; have hcz41_3 : w37.cell? ⟨gb472, 3, none⟩ = some (.bool t469) := (blk_cell BK472.out 3).trans rfl; have hcz41_4 : w37.cell? ⟨gb472, 4, none⟩ = some (.int .u32 t470) := (blk_cell BK472.out 4).trans rfl; have hfz41_0 := blk_frozen BK472.out 0; have hfz41_1 := blk_frozen BK472.out 1; have hfz41_2 := blk_frozen BK472.out 2; have hfz41_3 := blk_frozen BK472.out 3; have hfz41_4 := blk_frozen BK472.out 4; have hcz42_0 : w37.cell? ⟨gb465, 0, none⟩ = some (.int .i64 t459) := (blk_cell BK465.out 0).trans rfl; have hcz42_1 : w37.cell? ⟨gb465, 1, none⟩ = some (.string t460) := (blk_cell BK465.out 1).trans rfl; have hcz42_2 : w37.cell? ⟨gb465, 2, none⟩ = some (.int .i32 t461) := (blk_cell BK465.out 2).trans rfl; have hcz42_3 : w37.cell? ⟨gb465, 3, none⟩ = some (.bool t462) := (blk_cell BK465.out 3).trans rfl; have hcz42_4 : w37.cell? ⟨gb465, 4, none⟩ = some (.int .u32 t463) := (blk_cell BK465.out 4).trans rfl; have hfz42_0 := blk_frozen BK465.out 0; have hfz42_1 := blk_frozen BK465.out 1; have hfz42_2 := blk_frozen BK465.out 2; have hfz42_3 := blk_frozen BK465.out 3; have hfz42_4 := blk_frozen BK465.out 4) | ((with_reducible refine gate_callee (f := 36) rfl ?_); refine goesL_ (some 42) rfl rfl Try.func36 Z0 rfl #[.agg #[.int .i64 t466, .string t467, .int .i32 t468, .bool t469, .int .u32 t470], .int .i64 t459] rfl Z9 ?_; (with_reducible refine (impl_Recolor.calls k t466 t467 t468 t469 t470 t459 t480 t481 t482 t483 t484 true _ A22.out).mono ?_); rintro e w43 ⟨rfl, hb⟩; refine ⟨_, rfl, ?_⟩; replace BK465 := Z (blk_below (g := gb465) (o := .cells #[.int .i64 t459, .string t460, .int .i32 t461, .bool t462, .int .u32 t463] 51 (0, 0)) (Z40 BK465) hb); replace BK472 := Z (blk_below (g := gb472) (o := .cells #[.int .i64 t466, .string t467, .int .i32 t468, .bool t469, .int .u32 t470] 51 (0, 0)) (Z41 BK472) hb); replace BK479 := Z (blk_below (g := gb479) (o := .cells #[.int .i64 t473, .string t474, .int .i32 t475, .bool t476, .int .u32 t477] 51 (0, 0)) (Z42 BK479) hb); replace HB := Z (below_step Z47 hb); (try clear hb); (try clear hb2); (try clear hk); (try clear hi)) | ((with_reducible refine gate_dst (N := 9) rfl ?_); (try (refine gate_guard (by rfl) ?_; dsimp only)); refine box_event (by rfl) (N := 9) (by rfl) (cs := #[.int .i64 0, .string (⟨#[]⟩ : ByteArray), .int .i32 0, .bool false, .int .u32 0]) (t := 51) Z5 ?_; intro gb486 hg w44 hbox hb; have BK486 := Z (hbox); have GW486 := Z ((Z66 : w.heap.size ≤ gb486)); have GE486 := Z ((Z66 : w.heap.size ≤ gb486)); replace HB := Z (below_step Z47 hb); have NB465_486 := Z ((Z60 : gb465 ≠ gb486)); have NB486_465 := Z ((Z61 : gb486 ≠ gb465)); replace BK465 := Z (blk_below (g := gb465) (o := .cells #[.int .i64 t459, .string t460, .int .i32 t461, .bool t462, .int .u32 t463] 51 (0, 0)) (Z13 BK465) hb); have NB472_486 := Z ((Z62 : gb472 ≠ gb486)); have NB486_472 := Z ((Z63 : gb486 ≠ gb472)); replace BK472 := Z (blk_below (g := gb472) (o := .cells #[.int .i64 t466, .string t467, .int .i32 t468, .bool t469, .int .u32 t470] 51 (0, 0)) (Z13 BK472) hb); have NB479_486 := Z ((Z64 : gb479 ≠ gb486)); have NB486_479 := Z ((Z65 : gb486 ≠ gb479)); replace BK479 := Z (blk_below (g := gb479) (o := .cells #[.int .i64 t473, .string t474, .int .i32 t475, .bool t476, .int .u32 t477] 51 (0, 0)) (Z13 BK479) hb); clear hb hbox hg; have hnb45 := NB486_465.out; have hnc45 := NB465_486.out; have hnb46 := NB486_472.out; have hnc46 := NB472_486.out; have hnb47 := NB486_479.out; have hnc47 := NB479_486.out; have hcz48_0 : w44.cell? ⟨gb486, 0, none⟩ = some (.int .i64 0) := (blk_cell BK486.out 0).trans rfl; have hcz48_1 : w44.cell? ⟨gb486, 1, none⟩ = some (.string (⟨#[]⟩ : ByteArray)) := (blk_cell BK486.out 1).trans rfl; have hcz48_2 : w44.cell? ⟨gb486, 2, none⟩ = some (.int .i32 0) := (blk_cell BK486.out 2).trans rfl; have hcz48_3 : w44.cell? ⟨gb486, 3, none⟩ = some (.bool false) := (blk_cell BK486.out 3).trans rfl; have hcz48_4 : w44.cell? ⟨gb486, 4, none⟩ = some (.int .u32 0) := (blk_cell BK486.out 4).trans rfl; have hfz48_0 := blk_frozen BK486.out 0; have hfz48_1 := blk_frozen BK486.out 1; have hfz48_2 := blk_frozen BK486.out 2; have hfz48_3 := blk_frozen BK486.out 3; have hfz48_4 := blk_frozen BK486.out 4))
       have n0_ : Aside0 ((((((w44.setCell ⟨gb486, 0, none⟩ (.int .i64 t480)).setCell ⟨gb486, 1, none⟩ (.string t481)).setCell ⟨gb486, 2, none⟩ (.int .i32 t482)).setCell ⟨gb486, 3, none⟩ (.bool t483)).setCell ⟨gb486, 4, none⟩ (.int .u32 t484)).heap[gb465]? = some (.cells #[.int .i64 t459, .string t460, .int .i32 t461, .bool t462, .int .u32 t463] 51 (0, 0))) := ⟨(Z43 BK465)⟩
       have n1_ : Aside0 ((((((w44.setCell ⟨gb486, 0, none⟩ (.int .i64 t480)).setCell ⟨gb486, 1, none⟩ (.string t481)).setCell ⟨gb486, 2, none⟩ (.int .i32 t482)).setCell ⟨gb486, 3, none⟩ (.bool t483)).setCell ⟨gb486, 4, none⟩ (.int .u32 t484)).heap[gb472]? = some (.cells #[.int .i64 t466, .string t467, .int .i32 t468, .bool t469, .int .u32 t470] 51 (0, 0))) := ⟨(Z44 BK472)⟩
       have n2_ : Aside0 ((((((w44.setCell ⟨gb486, 0, none⟩ (.int .i64 t480)).setCell ⟨gb486, 1, none⟩ (.string t481)).setCell ⟨gb486, 2, none⟩ (.int .i32 t482)).setCell ⟨gb486, 3, none⟩ (.bool t483)).setCell ⟨gb486, 4, none⟩ (.int .u32 t484)).heap[gb479]? = some (.cells #[.int .i64 t473, .string t474, .int .i32 t475, .bool t476, .int .u32 t477] 51 (0, 0))) := ⟨(Z45 BK479)⟩
       have n3_ : Aside0 ((((((w44.setCell ⟨gb486, 0, none⟩ (.int .i64 t480)).setCell ⟨gb486, 1, none⟩ (.string t481)).setCell ⟨gb486, 2, none⟩ (.int .i32 t482)).setCell ⟨gb486, 3, none⟩ (.bool t483)).setCell ⟨gb486, 4, none⟩ (.int .u32 t484)).heap[gb486]? = some (.cells #[.int .i64 t480, .string t481, .int .i32 t482, .bool t483, .int .u32 t484] 51 (0, 0))) := ⟨(Z46 BK486)⟩
       have n4_ : Aside0 (Below w.heap.size w (((((w44.setCell ⟨gb486, 0, none⟩ (.int .i64 t480)).setCell ⟨gb486, 1, none⟩ (.string t481)).setCell ⟨gb486, 2, none⟩ (.int .i32 t482)).setCell ⟨gb486, 3, none⟩ (.bool t483)).setCell ⟨gb486, 4, none⟩ (.int .u32 t484))) := ⟨Z47⟩
       (try clear BK465)
       (try clear BK472)
       (try clear BK479)
       (try clear BK486)
       (try clear HB)
       (try rw [show ∀ (W_ : World) (n_ : Nat) (p_ : Addr) (v_ : Value), (W_.drewN n_).setCell p_ v_ = (W_.setCell p_ v_).drewN n_ from fun _ _ _ _ => rfl])
       generalize (((((w44.setCell ⟨gb486, 0, none⟩ (.int .i64 t480)).setCell ⟨gb486, 1, none⟩ (.string t481)).setCell ⟨gb486, 2, none⟩ (.int .i32 t482)).setCell ⟨gb486, 3, none⟩ (.bool t483)).setCell ⟨gb486, 4, none⟩ (.int .u32 t484)) = w49 at n0_ n1_ n2_ n3_ n4_ ⊢
       have BK465 := n0_
       have BK472 := n1_
       have BK479 := n2_
       have BK486 := n3_
       have HB := n4_
       clear n0_ n1_ n2_ n3_ n4_
       have n0_ := Z (blk_drew BK465.out)
       have n1_ := Z (blk_drew BK472.out)
       have n2_ := Z (blk_drew BK479.out)
       have n3_ := Z (blk_drew BK486.out)
       have n4_ := Z (below_drew1 HB.out)
       clear BK465
       clear BK472
       clear BK479
       clear BK486
       clear HB
       have BK465 := n0_
       have BK472 := n1_
       have BK479 := n2_
       have BK486 := n3_
       have HB := n4_
       clear n0_ n1_ n2_ n3_ n4_
       refine start_ (n := 22) (S := fun w' => w'.cell? ⟨gb486, 0, none⟩ = some (.int .i64 t480) ∧ w'.cell? ⟨gb486, 1, none⟩ = some (.string t481) ∧ w'.cell? ⟨gb486, 2, none⟩ = some (.int .i32 t482) ∧ w'.cell? ⟨gb486, 3, none⟩ = some (.bool t483) ∧ w'.cell? ⟨gb486, 4, none⟩ = some (.int .u32 t484) ∧ w'.cell? ⟨gb465, 0, none⟩ = some (.int .i64 t459) ∧ w'.cell? ⟨gb465, 1, none⟩ = some (.string t460) ∧ w'.cell? ⟨gb465, 2, none⟩ = some (.int .i32 t461) ∧ w'.cell? ⟨gb465, 3, none⟩ = some (.bool t462) ∧ w'.cell? ⟨gb465, 4, none⟩ = some (.int .u32 t463) ∧ w'.cell? ⟨gb472, 0, none⟩ = some (.int .i64 t466) ∧ w'.cell? ⟨gb472, 1, none⟩ = some (.string t467) ∧ w'.cell? ⟨gb472, 2, none⟩ = some (.int .i32 t468) ∧ w'.cell? ⟨gb472, 3, none⟩ = some (.bool t469) ∧ w'.cell? ⟨gb472, 4, none⟩ = some (.int .u32 t470)) (ds := []) #[false, false, false, false, false, false, false, false, false, false, false, false, false, false, false, false, false, false, false, false, false, false] Z0 rfl rfl ⟨(blk_cell BK486.out 0).trans rfl, (blk_cell BK486.out 1).trans rfl, (blk_cell BK486.out 2).trans rfl, (blk_cell BK486.out 3).trans rfl, (blk_cell BK486.out 4).trans rfl, (blk_cell BK465.out 0).trans rfl, (blk_cell BK465.out 1).trans rfl, (blk_cell BK465.out 2).trans rfl, (blk_cell BK465.out 3).trans rfl, (blk_cell BK465.out 4).trans rfl, (blk_cell BK472.out 0).trans rfl, (blk_cell BK472.out 1).trans rfl, (blk_cell BK472.out 2).trans rfl, (blk_cell BK472.out 3).trans rfl, (blk_cell BK472.out 4).trans rfl⟩ (fun hHeld => ?_); refine with_tabW laws_FnColor.tab11 laws_FnColor.bits11 (fun HT_ HW_ => ?_)
       generalize w49.drew = w50 at BK465 BK472 BK479 BK486 HB hHeld ⊢
       refine pure_ (i := 0) (N := some 45) (v := ?_) (a' := ?_) #[true, false, false, false, false, false, false, false, false, false, false, false, false, false, false, false, false, false, false, false, false, false] rfl rfl (any_of HT_.out Z0) (fun _ _ _ h => h) (Or.inl ⟨by rfl, ?_⟩) ?_ ?_
       rotate_left
       ·intro w'
        go_simp
        with_reducible rfl
       rotate_left
       ·simp only [Act.put, List.setIfInBounds_toArray, List.set_cons_zero, List.set_cons_succ, i64_w, i32_w]
        rfl
       refine pure_ (i := 1) (N := some 46) (v := ?_) (a' := ?_) #[true, true, false, false, false, false, false, false, false, false, false, false, false, false, false, false, false, false, false, false, false, false] rfl rfl (any_of HT_.out Z0) (fun _ _ _ h => h) (Or.inl ⟨by rfl, ?_⟩) ?_ ?_
       rotate_left
       ·intro w'
        go_simp
        with_reducible rfl
       rotate_left
       ·simp only [Act.put, List.setIfInBounds_toArray, List.set_cons_zero, List.set_cons_succ, i64_w, i32_w]
        rfl
       refine take_ (i := 2) (N := some 47) (v := ?_) (a' := ?_) #[true, true, true, false, false, false, false, false, false, false, false, false, false, false, false, false, false, false, false, false, false, false] rfl rfl (take_ofW HT_.out HW_.out Z0) (fun _ _ _ h => h) (Or.inl ⟨by rfl, ?_⟩) hHeld ?_ ?_
       rotate_left
       ·rintro w' ⟨s0, s1, s2, s3, s4, s5, s6, s7, s8, s9, s10, s11, s12, s13, s14⟩
        go_simp
        with_reducible rfl
       rotate_left
       ·simp only [Act.put, List.setIfInBounds_toArray, List.set_cons_zero, List.set_cons_succ, i64_w, i32_w]
        rfl
       refine take_ (i := 3) (N := some 48) (v := ?_) (a' := ?_) #[true, true, true, true, false, false, false, false, false, false, false, false, false, false, false, false, false, false, false, false, false, false] rfl rfl (take_ofW HT_.out HW_.out Z0) (fun _ _ _ h => h) (Or.inl ⟨by rfl, ?_⟩) hHeld ?_ ?_
       rotate_left
       ·rintro w' ⟨s0, s1, s2, s3, s4, s5, s6, s7, s8, s9, s10, s11, s12, s13, s14⟩
        go_simp
        with_reducible rfl
       rotate_left
       ·simp only [Act.put, List.setIfInBounds_toArray, List.set_cons_zero, List.set_cons_succ, i64_w, i32_w]
        rfl
       refine pure_ (i := 4) (N := some 49) (v := ?_) (a' := ?_) #[true, true, true, true, true, false, false, false, false, false, false, false, false, false, false, false, false, false, false, false, false, false] rfl rfl (any_of HT_.out Z0) (fun _ _ _ h => h) (Or.inl ⟨by rfl, ?_⟩) ?_ ?_
       rotate_left
       ·intro w'
        go_simp
        with_reducible rfl
       rotate_left
       ·simp only [Act.put, List.setIfInBounds_toArray, List.set_cons_zero, List.set_cons_succ, i64_w, i32_w]
        rfl
       refine pure_ (i := 5) (N := some 50) (v := ?_) (a' := ?_) #[true, true, true, true, true, true, false, false, false, false, false, false, false, false, false, false, false, false, false, false, false, false] rfl rfl (any_of HT_.out Z0) (fun _ _ _ h => h) (Or.inl ⟨by rfl, ?_⟩) ?_ ?_
       rotate_left
       ·intro w'
        go_simp
        with_reducible rfl
       rotate_left
       ·simp only [Act.put, List.setIfInBounds_toArray, List.set_cons_zero, List.set_cons_succ, i64_w, i32_w]
        rfl
       refine pure_ (i := 6) (N := some 51) (v := ?_) (a' := ?_) #[true, true, true, true, true, true, true, false, false, false, false, false, false, false, false, false, false, false, false, false, false, false] rfl rfl (any_of HT_.out Z0) (fun _ _ _ h => h) (Or.inl ⟨by rfl, ?_⟩) ?_ ?_
       rotate_left
       ·intro w'
        go_simp
        with_reducible rfl
       rotate_left
       ·simp only [Act.put, List.setIfInBounds_toArray, List.set_cons_zero, List.set_cons_succ, i64_w, i32_w]
        rfl
       refine take_ (i := 7) (N := some 52) (v := ?_) (a' := ?_) #[true, true, true, true, true, true, true, true, false, false, false, false, false, false, false, false, false, false, false, false, false, false] rfl rfl (take_ofW HT_.out HW_.out Z0) (fun _ _ _ h => h) (Or.inl ⟨by rfl, ?_⟩) hHeld ?_ ?_
       rotate_left
       ·rintro w' ⟨s0, s1, s2, s3, s4, s5, s6, s7, s8, s9, s10, s11, s12, s13, s14⟩
        go_simp
        with_reducible rfl
       rotate_left
       ·simp only [Act.put, List.setIfInBounds_toArray, List.set_cons_zero, List.set_cons_succ, i64_w, i32_w]
        rfl
       refine take_ (i := 10) (N := some 55) (v := ?_) (a' := ?_) #[true, true, true, true, true, true, true, true, false, false, true, false, false, false, false, false, false, false, false, false, false, false] rfl rfl (take_ofW HT_.out HW_.out Z0) (fun _ _ _ h => h) (Or.inl ⟨by rfl, ?_⟩) hHeld ?_ ?_
       rotate_left
       ·rintro w' ⟨s0, s1, s2, s3, s4, s5, s6, s7, s8, s9, s10, s11, s12, s13, s14⟩
        go_simp
        with_reducible rfl
       rotate_left
       ·simp only [Act.put, List.setIfInBounds_toArray, List.set_cons_zero, List.set_cons_succ, i64_w, i32_w]
        rfl
       refine one_ (i := 8) (N := some 53) #[true, true, true, true, true, true, true, true, true, false, true, false, false, false, false, false, false, false, false, false, false, false] rfl rfl (one_of HT_.out Z0) (by decide) (fun K hK => ?_)
       refine goes_ Try.func43 Z0 rfl #[.agg #[.int .i64 t466, .string t467, .int .i32 t468, .bool t469, .int .u32 t470]] (by rfl) rfl rfl Z9 ?_
       with_reducible refine (impl_CellsOf.calls k t466 t467 t468 t469 t470 t487 _ A25.out).mono ?_
       rintro e w51 ⟨v488, rfl, ho0, hb⟩
       refine ⟨_, rfl, ?_⟩
       have n0_ := Z (Kd.R_lower ho0 (below_size Z47))
       have n1_ := Z (blk_below (g := gb465) (o := .cells #[.int .i64 t459, .string t460, .int .i32 t461, .bool t462, .int .u32 t463] 51 (0, 0)) (Z13 BK465) hb)
       have n2_ := Z (blk_below (g := gb472) (o := .cells #[.int .i64 t466, .string t467, .int .i32 t468, .bool t469, .int .u32 t470] 51 (0, 0)) (Z13 BK472) hb)
       have n3_ := Z (blk_below (g := gb479) (o := .cells #[.int .i64 t473, .string t474, .int .i32 t475, .bool t476, .int .u32 t477] 51 (0, 0)) (Z13 BK479) hb)
       have n4_ := Z (blk_below (g := gb486) (o := .cells #[.int .i64 t480, .string t481, .int .i32 t482, .bool t483, .int .u32 t484] 51 (0, 0)) (Z13 BK486) hb)
       have n5_ := Z (below_step Z47 hb)
       clear BK465
       clear BK472
       clear BK479
       clear BK486
       clear HB
       have HO489 := n0_
       have BK465 := n1_
       have BK472 := n2_
       have BK479 := n3_
       have BK486 := n4_
       have HB := n5_
       clear n0_ n1_ n2_ n3_ n4_ n5_
       (try clear hb)
       (try clear hb2)
       (try clear hk)
       (try clear hi)
       (try clear ho0)
       obtain ⟨Ao52, co52, eo52⟩ := Kd.R_slice HO489.out
       (first | subst eo52 | (injection eo52 with f1_ f2_ f3_; have f4_ := f1_.symm; have f5_ := f3_.symm; clear f1_ f2_ f3_; subst f4_; subst f5_))
       refine hK.out _ _ ⟨(blk_cell BK486.out 0).trans rfl, (blk_cell BK486.out 1).trans rfl, (blk_cell BK486.out 2).trans rfl, (blk_cell BK486.out 3).trans rfl, (blk_cell BK486.out 4).trans rfl, (blk_cell BK465.out 0).trans rfl, (blk_cell BK465.out 1).trans rfl, (blk_cell BK465.out 2).trans rfl, (blk_cell BK465.out 3).trans rfl, (blk_cell BK465.out 4).trans rfl, (blk_cell BK472.out 0).trans rfl, (blk_cell BK472.out 1).trans rfl, (blk_cell BK472.out 2).trans rfl, (blk_cell BK472.out 3).trans rfl, (blk_cell BK472.out 4).trans rfl⟩ (fun hHeld => ?_)
       clear hK K
       refine norm_ (a' := ?_) ?_ ?_
       rotate_left
       ·show Act.put _ (some 53) _ = _
        simp only [Act.put, List.setIfInBounds_toArray, List.set_cons_zero, List.set_cons_succ, i64_w, i32_w]
        rfl
       refine pure_ (i := 9) (N := some 54) (v := ?_) (a' := ?_) #[true, true, true, true, true, true, true, true, true, true, true, false, false, false, false, false, false, false, false, false, false, false] rfl rfl (any_of HT_.out Z0) (fun _ _ _ h => h) (Or.inl ⟨by rfl, ?_⟩) ?_ ?_
       rotate_left
       ·intro w'
        go_simp
        with_reducible rfl
       rotate_left
       ·simp only [Act.put, List.setIfInBounds_toArray, List.set_cons_zero, List.set_cons_succ, i64_w, i32_w]
        rfl
       refine one_ (i := 11) (N := some 56) #[true, true, true, true, true, true, true, true, true, true, true, true, false, false, false, false, false, false, false, false, false, false] rfl rfl (one_of HT_.out Z0) (by decide) (fun K hK => ?_)
       refine goes_ Try.func43 Z0 rfl #[.agg #[.int .i64 t459, .string t460, .int .i32 t461, .bool t462, .int .u32 t463]] (by rfl) rfl rfl Z9 ?_
       with_reducible refine (impl_CellsOf.calls k t459 t460 t461 t462 t463 t490 _ A26.out).mono ?_
       rintro e w53 ⟨v491, rfl, ho0, hb⟩
       refine ⟨_, rfl, ?_⟩
       have n0_ := Z (Kd.R_elder' (Z8 HO489) (Kd.R_base ho0) hb)
       have n1_ := Z (Kd.R_lower (Kd.R_new' ho0 (Kd.R_lt (Z8 HO489))) (below_size Z47))
       have n2_ := Z (blk_below (g := gb465) (o := .cells #[.int .i64 t459, .string t460, .int .i32 t461, .bool t462, .int .u32 t463] 51 (0, 0)) (Z13 BK465) hb)
       have n3_ := Z (blk_below (g := gb472) (o := .cells #[.int .i64 t466, .string t467, .int .i32 t468, .bool t469, .int .u32 t470] 51 (0, 0)) (Z13 BK472) hb)
       have n4_ := Z (blk_below (g := gb479) (o := .cells #[.int .i64 t473, .string t474, .int .i32 t475, .bool t476, .int .u32 t477] 51 (0, 0)) (Z13 BK479) hb)
       have n5_ := Z (blk_below (g := gb486) (o := .cells #[.int .i64 t480, .string t481, .int .i32 t482, .bool t483, .int .u32 t484] 51 (0, 0)) (Z13 BK486) hb)
       have n6_ := Z (below_step Z47 hb)
       clear HO489
       clear BK465
       clear BK472
       clear BK479
       clear BK486
       clear HB
       have HO489 := n0_
       have HO492 := n1_
       have BK465 := n2_
       have BK472 := n3_
       have BK479 := n4_
       have BK486 := n5_
       have HB := n6_
       clear n0_ n1_ n2_ n3_ n4_ n5_ n6_
       (try clear hb)
       (try clear hb2)
       (try clear hk)
       (try clear hi)
       (try clear ho0)
       obtain ⟨Ao54, co54, eo54⟩ := Kd.R_slice HO492.out
       (first | subst eo54 | (injection eo54 with f1_ f2_ f3_; have f4_ := f1_.symm; have f5_ := f3_.symm; clear f1_ f2_ f3_; subst f4_; subst f5_))
       refine hK.out _ _ ⟨(blk_cell BK486.out 0).trans rfl, (blk_cell BK486.out 1).trans rfl, (blk_cell BK486.out 2).trans rfl, (blk_cell BK486.out 3).trans rfl, (blk_cell BK486.out 4).trans rfl, (blk_cell BK465.out 0).trans rfl, (blk_cell BK465.out 1).trans rfl, (blk_cell BK465.out 2).trans rfl, (blk_cell BK465.out 3).trans rfl, (blk_cell BK465.out 4).trans rfl, (blk_cell BK472.out 0).trans rfl, (blk_cell BK472.out 1).trans rfl, (blk_cell BK472.out 2).trans rfl, (blk_cell BK472.out 3).trans rfl, (blk_cell BK472.out 4).trans rfl⟩ (fun hHeld => ?_)
       clear hK K
       refine norm_ (a' := ?_) ?_ ?_
       rotate_left
       ·show Act.put _ (some 56) _ = _
        simp only [Act.put, List.setIfInBounds_toArray, List.set_cons_zero, List.set_cons_succ, i64_w, i32_w]
        rfl
       refine pure_ (i := 12) (N := some 57) (v := ?_) (a' := ?_) #[true, true, true, true, true, true, true, true, true, true, true, true, true, false, false, false, false, false, false, false, false, false] rfl rfl (any_of HT_.out Z0) (fun _ _ _ h => h) (Or.inl ⟨by rfl, ?_⟩) ?_ ?_
       rotate_left
       ·intro w'
        go_simp
        with_reducible rfl
       rotate_left
       ·simp only [Act.put, List.setIfInBounds_toArray, List.set_cons_zero, List.set_cons_succ, i64_w, i32_w]
        rfl
       refine pure_ (i := 13) (N := some 58) (v := ?_) (a' := ?_) #[true, true, true, true, true, true, true, true, true, true, true, true, true, true, false, false, false, false, false, false, false, false] rfl rfl (any_of HT_.out Z0) (fun _ _ _ h => h) (Or.inl ⟨by rfl, ?_⟩) ?_ ?_
       rotate_left
       ·intro w'
        go_simp
        with_reducible rfl
       rotate_left
       ·simp only [Act.put, List.setIfInBounds_toArray, List.set_cons_zero, List.set_cons_succ, i64_w, i32_w]
        rfl
       refine pure_ (i := 14) (N := some 59) (v := ?_) (a' := ?_) #[true, true, true, true, true, true, true, true, true, true, true, true, true, true, true, false, false, false, false, false, false, false] rfl rfl (any_of HT_.out Z0) (fun _ _ _ h => h) (Or.inl ⟨by rfl, ?_⟩) ?_ ?_
       rotate_left
       ·intro w'
        go_simp
        with_reducible rfl
       rotate_left
       ·simp only [Act.put, List.setIfInBounds_toArray, List.set_cons_zero, List.set_cons_succ, i64_w, i32_w]
        rfl
       refine pure_ (i := 15) (N := some 60) (v := ?_) (a' := ?_) #[true, true, true, true, true, true, true, true, true, true, true, true, true, true, true, true, false, false, false, false, false, false] rfl rfl (any_of HT_.out Z0) (fun _ _ _ h => h) (Or.inl ⟨by rfl, ?_⟩) ?_ ?_
       rotate_left
       ·intro w'
        go_simp
        with_reducible rfl
       rotate_left
       ·simp only [Act.put, List.setIfInBounds_toArray, List.set_cons_zero, List.set_cons_succ, i64_w, i32_w]
        rfl
       refine pure_ (i := 16) (N := some 61) (v := ?_) (a' := ?_) #[true, true, true, true, true, true, true, true, true, true, true, true, true, true, true, true, true, false, false, false, false, false] rfl rfl (any_of HT_.out Z0) (fun _ _ _ h => h) (Or.inl ⟨by rfl, ?_⟩) ?_ ?_
       rotate_left
       ·intro w'
        go_simp
        with_reducible rfl
       rotate_left
       ·simp only [Act.put, List.setIfInBounds_toArray, List.set_cons_zero, List.set_cons_succ, i64_w, i32_w]
        rfl
       refine pure_ (i := 18) (N := some 63) (v := ?_) (a' := ?_) #[true, true, true, true, true, true, true, true, true, true, true, true, true, true, true, true, true, false, true, false, false, false] rfl rfl (any_of HT_.out Z0) (fun _ _ _ h => h) (Or.inl ⟨by rfl, ?_⟩) ?_ ?_
       rotate_left
       ·intro w'
        go_simp
        with_reducible rfl
       rotate_left
       ·simp only [Act.put, List.setIfInBounds_toArray, List.set_cons_zero, List.set_cons_succ, i64_w, i32_w]
        rfl
       refine take_ (i := 17) (N := some 62) (v := ?_) (a' := ?_) #[true, true, true, true, true, true, true, true, true, true, true, true, true, true, true, true, true, true, true, false, false, false] rfl rfl (take_ofW HT_.out HW_.out Z0) (fun _ _ _ h => h) (Or.inl ⟨by rfl, ?_⟩) hHeld ?_ ?_
       rotate_left
       ·rintro w' ⟨s0, s1, s2, s3, s4, s5, s6, s7, s8, s9, s10, s11, s12, s13, s14⟩
        go_simp
        with_reducible rfl
       rotate_left
       ·simp only [Act.put, List.setIfInBounds_toArray, List.set_cons_zero, List.set_cons_succ, i64_w, i32_w]
        rfl
       refine pure_ (i := 19) (N := some 64) (v := ?_) (a' := ?_) #[true, true, true, true, true, true, true, true, true, true, true, true, true, true, true, true, true, true, true, true, false, false] rfl rfl (any_of HT_.out Z0) (fun _ _ _ h => h) (Or.inl ⟨by rfl, ?_⟩) ?_ ?_
       rotate_left
       ·intro w'
        go_simp
        with_reducible rfl
       rotate_left
       ·simp only [Act.put, List.setIfInBounds_toArray, List.set_cons_zero, List.set_cons_succ, i64_w, i32_w]
        rfl
       refine pure_ (i := 20) (N := some 65) (v := ?_) (a' := ?_) #[true, true, true, true, true, true, true, true, true, true, true, true, true, true, true, true, true, true, true, true, true, false] rfl rfl (any_of HT_.out Z0) (fun _ _ _ h => h) (Or.inl ⟨by rfl, ?_⟩) ?_ ?_
       rotate_left
       ·intro w'
        go_simp
        with_reducible rfl
       rotate_left
       ·simp only [Act.put, List.setIfInBounds_toArray, List.set_cons_zero, List.set_cons_succ, i64_w, i32_w]
        rfl
       refine pure_ (i := 21) (N := some 2) (v := ?_) (a' := ?_) #[true, true, true, true, true, true, true, true, true, true, true, true, true, true, true, true, true, true, true, true, true, true] rfl rfl (any_of HT_.out Z0) (fun _ _ _ h => h) (Or.inl ⟨by rfl, ?_⟩) ?_ ?_
       rotate_left
       ·intro w'
        go_simp
        with_reducible rfl
       rotate_left
       ·simp only [Act.put, List.setIfInBounds_toArray, List.set_cons_zero, List.set_cons_succ, i64_w, i32_w]
        rfl
       refine done_ (done_of HT_.out Z0) ?_
       try go_wp2
       go_ret
       exact ⟨Z7, Z47⟩
      ·rw [if_neg c27] at H
       have c27b0 : ((t487.length : Int) == (t490.length : Int)) = false := beq_eq_false_iff_ne.mpr c27
       have c27b1 : ((t487.length : Int) != (t490.length : Int)) = true := bne_iff_ne.mpr c27
       have c27b2 : (t487.length == t490.length) = false := by first | simpa using c27 | (simp at c27 ⊢; omega)
       obtain rfl := Option.some.inj H
       go_enter Try.func8, Try.ntmps8
       try go_wp2_with (first | ((with_reducible refine gate_callee (f := 13) rfl ?_); refine goesL_ (some 12) rfl rfl Try.func13 Z0 rfl #[.slice A0 l0.length c0] rfl Z9 ?_; (with_reducible refine (laws_big.calls _ _ l0 false _ ?side1 ?side2 A2.out).mono ?_); (case side1 => exact (Z36 HR0)); (case side2 => exact HC0.out); rintro e w' ⟨rfl, ⟨nd, rfl⟩⟩; refine ⟨_, rfl, ?_⟩) | ((with_reducible refine gate_callee (f := 42) rfl ?_); refine goesL_ (some 15) rfl rfl Try.func42 Z0 rfl #[.slice A0 l0.length c0] rfl Z9 ?_; (with_reducible refine (spec_DrawRecolor.calls k _ _ l0 t459 t460 t461 t462 t463 t464 _ ?side1 ?side2 A4.out).mono ?_); (case side1 => exact (Z36 HR0)); (case side2 => exact HC0.out); rintro e w55 ⟨rfl, hb⟩; refine ⟨_, rfl, ?_⟩; replace HB := Z (below_step Z47 hb); (try clear hb); (try clear hb2); (try clear hk); (try clear hi)) | ((with_reducible refine gate_dst (N := 3) rfl ?_); (try (refine gate_guard (by rfl) ?_; dsimp only)); refine box_event (by rfl) (N := 3) (by rfl) (cs := #[.int .i64 0, .string (⟨#[]⟩ : ByteArray), .int .i32 0, .bool false, .int .u32 0]) (t := 51) Z5 ?_; intro gb465 hg w56 hbox hb; have BK465 := Z (hbox); have GW465 := Z ((Z66 : w.heap.size ≤ gb465)); have GE465 := Z ((Z66 : w.heap.size ≤ gb465)); replace HB := Z (below_step Z47 hb); clear hb hbox hg; have hcz57_0 : w56.cell? ⟨gb465, 0, none⟩ = some (.int .i64 0) := (blk_cell BK465.out 0).trans rfl; have hcz57_1 : w56.cell? ⟨gb465, 1, none⟩ = some (.string (⟨#[]⟩ : ByteArray)) := (blk_cell BK465.out 1).trans rfl; have hcz57_2 : w56.cell? ⟨gb465, 2, none⟩ = some (.int .i32 0) := (blk_cell BK465.out 2).trans rfl; have hcz57_3 : w56.cell? ⟨gb465, 3, none⟩ = some (.bool false) := (blk_cell BK465.out 3).trans rfl; have hcz57_4 : w56.cell? ⟨gb465, 4, none⟩ = some (.int .u32 0) := (blk_cell BK465.out 4).trans rfl; have hfz57_0 := blk_frozen BK465.out 0; have hfz57_1 := blk_frozen BK465.out 1; have hfz57_2 := blk_frozen BK465.out 2; have hfz57_3 := blk_frozen BK465.out 3; have hfz57_4 := blk_frozen BK465.out 4) | ((with_reducible refine gate_callee (f := 36) rfl ?_); refine goesL_ (some 21) rfl rfl Try.func36 Z0 rfl #[.agg #[.int .i64 t459, .string t460, .int .i32 t461, .bool t462, .int .u32 t463], .int .i64 t464] rfl Z9 ?_; (with_reducible refine (impl_Recolor.calls k t459 t460 t461 t462 t463 t464 t466 t467 t468 t469 t470 true _ A5.out).mono ?_); rintro e w58 ⟨rfl, hb⟩; refine ⟨_, rfl, ?_⟩; replace BK465 := Z (blk_below (g := gb465) (o := .cells #[.int .i64 t459, .string t460, .int .i32 t461, .bool t462, .int .u32 t463] 51 (0, 0)) (Z37 BK465) hb); replace HB := Z (below_step Z47 hb); (try clear hb); (try clear hb2); (try clear hk); (try clear hi)) | ((with_reducible refine gate_dst (N := 5) rfl ?_); (try (refine gate_guard (by rfl) ?_; dsimp only)); refine box_event (by rfl) (N := 5) (by rfl) (cs := #[.int .i64 0, .string (⟨#[]⟩ : ByteArray), .int .i32 0, .bool false, .int .u32 0]) (t := 51) Z5 ?_; intro gb472 hg w59 hbox hb; have BK472 := Z (hbox); have GW472 := Z ((Z66 : w.heap.size ≤ gb472)); have GE472 := Z ((Z66 : w.heap.size ≤ gb472)); replace HB := Z (below_step Z47 hb); have NB465_472 := Z ((Z60 : gb465 ≠ gb472)); have NB472_465 := Z ((Z61 : gb472 ≠ gb465)); replace BK465 := Z (blk_below (g := gb465) (o := .cells #[.int .i64 t459, .string t460, .int .i32 t461, .bool t462, .int .u32 t463] 51 (0, 0)) (Z13 BK465) hb); clear hb hbox hg; have hnb60 := NB472_465.out; have hnc60 := NB465_472.out; have hcz61_0 : w59.cell? ⟨gb472, 0, none⟩ = some (.int .i64 0) := (blk_cell BK472.out 0).trans rfl; have hcz61_1 : w59.cell? ⟨gb472, 1, none⟩ = some (.string (⟨#[]⟩ : ByteArray)) := (blk_cell BK472.out 1).trans rfl; have hcz61_2 : w59.cell? ⟨gb472, 2, none⟩ = some (.int .i32 0) := (blk_cell BK472.out 2).trans rfl; have hcz61_3 : w59.cell? ⟨gb472, 3, none⟩ = some (.bool false) := (blk_cell BK472.out 3).trans rfl; have hcz61_4 : w59.cell? ⟨gb472, 4, none⟩ = some (.int .u32 0) := (blk_cell BK472.out 4).trans rfl; have hfz61_0 := blk_frozen BK472.out 0; have hfz61_1 := blk_frozen BK472.out 1; have hfz61_2 := blk_frozen BK472.out 2; have hfz61_3 := blk_frozen BK472.out 3; have hfz61_4 := blk_frozen BK472.out 4; have hcz62_0 : w59.cell? ⟨gb465, 0, none⟩ = some (.int .i64 t459) := (blk_cell BK465.out 0).trans rfl; have hcz62_1 : w59.cell? ⟨gb465, 1, none⟩ = some (.string t460) := (blk_cell BK465.out 1).trans rfl; have hcz62_2 : w59.cell? ⟨gb465, 2, none⟩ = some (.int .i32 t461) := (blk_cell BK465.out 2).trans rfl; have hcz62_3 : w59.cell? ⟨gb465, 3, none⟩ = some (.bool t462) := (blk_cell BK465.out 3).trans rfl; have hcz62_4 : w59.cell? ⟨gb465, 4, none⟩ = some (.int .u32 t463) := (blk_cell BK465.out 4).trans rfl; have hfz62_0 := blk_frozen BK465.out 0; have hfz62_1 := blk_frozen BK465.out 1; have hfz62_2 := blk_frozen BK465.out 2; have hfz62_3 := blk_frozen BK465.out 3; have hfz62_4 := blk_frozen BK465.out 4) | ((with_reducible refine gate_callee (f := 34) rfl ?_); refine goesL_ (some 27) rfl rfl Try.func34 Z0 rfl #[.agg #[.int .i64 t459, .string t460, .int .i32 t461, .bool t462, .int .u32 t463], .int .i64 t464] rfl Z9 ?_; (with_reducible refine (spec_Recolor.calls k t459 t460 t461 t462 t463 t464 t473 t474 t475 t476 t477 t478 _ A6.out).mono ?_); rintro e w63 ⟨rfl, hb⟩; refine ⟨_, rfl, ?_⟩; replace BK465 := Z (blk_below (g := gb465) (o := .cells #[.int .i64 t459, .string t460, .int .i32 t461, .bool t462, .int .u32 t463] 51 (0, 0)) (Z38 BK465) hb); replace BK472 := Z (blk_below (g := gb472) (o := .cells #[.int .i64 t466, .string t467, .int .i32 t468, .bool t469, .int .u32 t470] 51 (0, 0)) (Z39 BK472) hb); replace HB := Z (below_step Z47 hb); (try clear hb); (try clear hb2); (try clear hk); (try clear hi)) | ((with_reducible refine gate_dst (N := 7) rfl ?_); (try (refine gate_guard (by rfl) ?_; dsimp only)); refine box_event (by rfl) (N := 7) (by rfl) (cs := #[.int .i64 0, .string (⟨#[]⟩ : ByteArray), .int .i32 0, .bool false, .int .u32 0]) (t := 51) Z5 ?_; intro gb479 hg w64 hbox hb; have BK479 := Z (hbox); have GW479 := Z ((Z66 : w.heap.size ≤ gb479)); have GE479 := Z ((Z66 : w.heap.size ≤ gb479)); replace HB := Z (below_step Z47 hb); have NB465_479 := Z ((Z60 : gb465 ≠ gb479)); have NB479_465 := Z ((Z61 : gb479 ≠ gb465)); replace BK465 := Z (blk_below (g := gb465) (o := .cells #[.int .i64 t459, .string t460, .int .i32 t461, .bool t462, .int .u32 t463] 51 (0, 0)) (Z13 BK465) hb); have NB472_479 := Z ((Z62 : gb472 ≠ gb479)); have NB479_472 := Z ((Z63 : gb479 ≠ gb472)); replace BK472 := Z (blk_below (g := gb472) (o := .cells #[.int .i64 t466, .string t467, .int .i32 t468, .bool t469, .int .u32 t470] 51 (0, 0)) (Z13 BK472) hb); clear hb hbox hg; have hnb65 := NB479_465.out; have hnc65 := NB465_479.out; have hnb66 := NB479_472.out; have hnc66 := NB472_479.out; have hcz67_0 : w64.cell? ⟨gb479, 0, none⟩ = some (.int .i64 0) := (blk_cell BK479.out 0).trans rfl; have hcz67_1 : w64.cell? ⟨gb479, 1, none⟩ = some (.string (⟨#[]⟩ : ByteArray)) := (blk_cell BK479.out 1).trans rfl; have hcz67_2 : w64.cell? ⟨gb479, 2, none⟩ = some (.int .i32 0) := (blk_cell BK479.out 2).trans rfl; have hcz67_3 : w64.cell? ⟨gb479, 3, none⟩ = some (.bool false) := (blk_cell BK479.out 3).trans rfl; have hcz67_4 : w64.cell? ⟨gb479, 4, none⟩ = some (.int .u32 0) := (blk_cell BK479.out 4).trans rfl; have hfz67_0 := blk_frozen BK479.out 0; have hfz67_1 := blk_frozen BK479.out 1; have hfz67_2 := blk_frozen BK479.out 2; have hfz67_3 := blk_frozen BK479.out 3; have hfz67_4 := blk_frozen BK479.out 4; have hcz68_0 : w64.cell? ⟨gb472, 0, none⟩ = some (.int .i64 t466) := (blk_cell BK472.out 0).trans rfl; have hcz68_1 : w64.cell? ⟨gb472, 1, none⟩ = some (.string t467) := (blk_cell BK472.out 1).trans rfl; have hcz68_2 : w64.cell? ⟨gb472, 2, none⟩ = some (.int .i32 t468) := (blk_cell BK472.out 2).trans rfl; have hcz68_3 : w64.cell? ⟨gb472, 3, none⟩ = some (.bool t469) := (blk_cell BK472.out 3).trans rfl; have hcz68_4 : w64.cell? ⟨gb472, 4, none⟩ = some (.int .u32 t470) := (blk_cell BK472.out 4).trans rfl; have hfz68_0 := blk_frozen BK472.out 0; have hfz68_1 := blk_frozen BK472.out 1; have hfz68_2 := blk_frozen BK472.out 2; have hfz68_3 := blk_frozen BK472.out 3; have hfz68_4 := blk_frozen BK472.out 4; have hcz69_0 : w64.cell? ⟨gb465, 0, none⟩ = some (.int .i64 t459) := (blk_cell BK465.out 0).trans rfl; have hcz69_1 : w64.cell? ⟨gb465, 1, none⟩ = some (.string t460) := (blk_cell BK465.out 1).trans rfl; have hcz69_2 : w64.cell? ⟨gb465, 2, none⟩ = some (.int .i32 t461) := (blk_cell BK465.out 2).trans rfl; have hcz69_3 : w64.cell? ⟨gb465, 3, none⟩ = some (.bool t462) := (blk_cell BK465.out 3).trans rfl; have hcz69_4 : w64.cell? ⟨gb465, 4, none⟩ = some (.int .u32 t463) := (blk_cell BK465.out 4).trans rfl; have hfz69_0 := blk_frozen BK465.out 0; have hfz69_1 := blk_frozen BK465.out 1; have hfz69_2 := blk_frozen BK465.out 2; have hfz69_3 := blk_frozen BK465.out 3; have hfz69_4 := blk_frozen BK465.out 4) | ((with_reducible refine gate_callee (f := 36) rfl ?_); refine goesL_ (some 42) rfl rfl Try.func36 Z0 rfl #[.agg #[.int .i64 t466, .string t467, .int .i32 t468, .bool t469, .int .u32 t470], .int .i64 t459] rfl Z9 ?_; (with_reducible refine (impl_Recolor.calls k t466 t467 t468 t469 t470 t459 t480 t481 t482 t483 t484 true _ A22.out).mono ?_); rintro e w70 ⟨rfl, hb⟩; refine ⟨_, rfl, ?_⟩; replace BK465 := Z (blk_below (g := gb465) (o := .cells #[.int .i64 t459, .string t460, .int .i32 t461, .bool t462, .int .u32 t463] 51 (0, 0)) (Z40 BK465) hb); replace BK472 := Z (blk_below (g := gb472) (o := .cells #[.int .i64 t466, .string t467, .int .i32 t468, .bool t469, .int .u32 t470] 51 (0, 0)) (Z41 BK472) hb); replace BK479 := Z (blk_below (g := gb479) (o := .cells #[.int .i64 t473, .string t474, .int .i32 t475, .bool t476, .int .u32 t477] 51 (0, 0)) (Z42 BK479) hb); replace HB := Z (below_step Z47 hb); (try clear hb); (try clear hb2); (try clear hk); (try clear hi)) | ((with_reducible refine gate_dst (N := 9) rfl ?_); (try (refine gate_guard (by rfl) ?_; dsimp only)); refine box_event (by rfl) (N := 9) (by rfl) (cs := #[.int .i64 0, .string (⟨#[]⟩ : ByteArray), .int .i32 0, .bool false, .int .u32 0]) (t := 51) Z5 ?_; intro gb486 hg w71 hbox hb; have BK486 := Z (hbox); have GW486 := Z ((Z66 : w.heap.size ≤ gb486)); have GE486 := Z ((Z66 : w.heap.size ≤ gb486)); replace HB := Z (below_step Z47 hb); have NB465_486 := Z ((Z60 : gb465 ≠ gb486)); have NB486_465 := Z ((Z61 : gb486 ≠ gb465)); replace BK465 := Z (blk_below (g := gb465) (o := .cells #[.int .i64 t459, .string t460, .int .i32 t461, .bool t462, .int .u32 t463] 51 (0, 0)) (Z13 BK465) hb); have NB472_486 := Z ((Z62 : gb472 ≠ gb486)); have NB486_472 := Z ((Z63 : gb486 ≠ gb472)); replace BK472 := Z (blk_below (g := gb472) (o := .cells #[.int .i64 t466, .string t467, .int .i32 t468, .bool t469, .int .u32 t470] 51 (0, 0)) (Z13 BK472) hb); have NB479_486 := Z ((Z64 : gb479 ≠ gb486)); have NB486_479 := Z ((Z65 : gb486 ≠ gb479)); replace BK479 := Z (blk_below (g := gb479) (o := .cells #[.int .i64 t473, .string t474, .int .i32 t475, .bool t476, .int .u32 t477] 51 (0, 0)) (Z13 BK479) hb); clear hb hbox hg; have hnb72 := NB486_465.out; have hnc72 := NB465_486.out; have hnb73 := NB486_472.out; have hnc73 := NB472_486.out; have hnb74 := NB486_479.out; have hnc74 := NB479_486.out; have hcz75_0 : w71.cell? ⟨gb486, 0, none⟩ = some (.int .i64 0) := (blk_cell BK486.out 0).trans rfl; have hcz75_1 : w71.cell? ⟨gb486, 1, none⟩ = some (.string (⟨#[]⟩ : ByteArray)) := (blk_cell BK486.out 1).trans rfl; have hcz75_2 : w71.cell? ⟨gb486, 2, none⟩ = some (.int .i32 0) := (blk_cell BK486.out 2).trans rfl; have hcz75_3 : w71.cell? ⟨gb486, 3, none⟩ = some (.bool false) := (blk_cell BK486.out 3).trans rfl; have hcz75_4 : w71.cell? ⟨gb486, 4, none⟩ = some (.int .u32 0) := (blk_cell BK486.out 4).trans rfl; have hfz75_0 := blk_frozen BK486.out 0; have hfz75_1 := blk_frozen BK486.out 1; have hfz75_2 := blk_frozen BK486.out 2; have hfz75_3 := blk_frozen BK486.out 3; have hfz75_4 := blk_frozen BK486.out 4))
       have n0_ : Aside0 ((((((w71.setCell ⟨gb486, 0, none⟩ (.int .i64 t480)).setCell ⟨gb486, 1, none⟩ (.string t481)).setCell ⟨gb486, 2, none⟩ (.int .i32 t482)).setCell ⟨gb486, 3, none⟩ (.bool t483)).setCell ⟨gb486, 4, none⟩ (.int .u32 t484)).heap[gb465]? = some (.cells #[.int .i64 t459, .string t460, .int .i32 t461, .bool t462, .int .u32 t463] 51 (0, 0))) := ⟨(Z43 BK465)⟩
       have n1_ : Aside0 ((((((w71.setCell ⟨gb486, 0, none⟩ (.int .i64 t480)).setCell ⟨gb486, 1, none⟩ (.string t481)).setCell ⟨gb486, 2, none⟩ (.int .i32 t482)).setCell ⟨gb486, 3, none⟩ (.bool t483)).setCell ⟨gb486, 4, none⟩ (.int .u32 t484)).heap[gb472]? = some (.cells #[.int .i64 t466, .string t467, .int .i32 t468, .bool t469, .int .u32 t470] 51 (0, 0))) := ⟨(Z44 BK472)⟩
       have n2_ : Aside0 ((((((w71.setCell ⟨gb486, 0, none⟩ (.int .i64 t480)).setCell ⟨gb486, 1, none⟩ (.string t481)).setCell ⟨gb486, 2, none⟩ (.int .i32 t482)).setCell ⟨gb486, 3, none⟩ (.bool t483)).setCell ⟨gb486, 4, none⟩ (.int .u32 t484)).heap[gb479]? = some (.cells #[.int .i64 t473, .string t474, .int .i32 t475, .bool t476, .int .u32 t477] 51 (0, 0))) := ⟨(Z45 BK479)⟩
       have n3_ : Aside0 ((((((w71.setCell ⟨gb486, 0, none⟩ (.int .i64 t480)).setCell ⟨gb486, 1, none⟩ (.string t481)).setCell ⟨gb486, 2, none⟩ (.int .i32 t482)).setCell ⟨gb486, 3, none⟩ (.bool t483)).setCell ⟨gb486, 4, none⟩ (.int .u32 t484)).heap[gb486]? = some (.cells #[.int .i64 t480, .string t481, .int .i32 t482, .bool t483, .int .u32 t484] 51 (0, 0))) := ⟨(Z46 BK486)⟩
       have n4_ : Aside0 (Below w.heap.size w (((((w71.setCell ⟨gb486, 0, none⟩ (.int .i64 t480)).setCell ⟨gb486, 1, none⟩ (.string t481)).setCell ⟨gb486, 2, none⟩ (.int .i32 t482)).setCell ⟨gb486, 3, none⟩ (.bool t483)).setCell ⟨gb486, 4, none⟩ (.int .u32 t484))) := ⟨Z47⟩
       (try clear BK465)
       (try clear BK472)
       (try clear BK479)
       (try clear BK486)
       (try clear HB)
       (try rw [show ∀ (W_ : World) (n_ : Nat) (p_ : Addr) (v_ : Value), (W_.drewN n_).setCell p_ v_ = (W_.setCell p_ v_).drewN n_ from fun _ _ _ _ => rfl])
       generalize (((((w71.setCell ⟨gb486, 0, none⟩ (.int .i64 t480)).setCell ⟨gb486, 1, none⟩ (.string t481)).setCell ⟨gb486, 2, none⟩ (.int .i32 t482)).setCell ⟨gb486, 3, none⟩ (.bool t483)).setCell ⟨gb486, 4, none⟩ (.int .u32 t484)) = w76 at n0_ n1_ n2_ n3_ n4_ ⊢
       have BK465 := n0_
       have BK472 := n1_
       have BK479 := n2_
       have BK486 := n3_
       have HB := n4_
       clear n0_ n1_ n2_ n3_ n4_
       have n0_ := Z (blk_drew BK465.out)
       have n1_ := Z (blk_drew BK472.out)
       have n2_ := Z (blk_drew BK479.out)
       have n3_ := Z (blk_drew BK486.out)
       have n4_ := Z (below_drew1 HB.out)
       clear BK465
       clear BK472
       clear BK479
       clear BK486
       clear HB
       have BK465 := n0_
       have BK472 := n1_
       have BK479 := n2_
       have BK486 := n3_
       have HB := n4_
       clear n0_ n1_ n2_ n3_ n4_
       refine start_ (n := 22) (S := fun w' => w'.cell? ⟨gb486, 0, none⟩ = some (.int .i64 t480) ∧ w'.cell? ⟨gb486, 1, none⟩ = some (.string t481) ∧ w'.cell? ⟨gb486, 2, none⟩ = some (.int .i32 t482) ∧ w'.cell? ⟨gb486, 3, none⟩ = some (.bool t483) ∧ w'.cell? ⟨gb486, 4, none⟩ = some (.int .u32 t484) ∧ w'.cell? ⟨gb465, 0, none⟩ = some (.int .i64 t459) ∧ w'.cell? ⟨gb465, 1, none⟩ = some (.string t460) ∧ w'.cell? ⟨gb465, 2, none⟩ = some (.int .i32 t461) ∧ w'.cell? ⟨gb465, 3, none⟩ = some (.bool t462) ∧ w'.cell? ⟨gb465, 4, none⟩ = some (.int .u32 t463) ∧ w'.cell? ⟨gb472, 0, none⟩ = some (.int .i64 t466) ∧ w'.cell? ⟨gb472, 1, none⟩ = some (.string t467) ∧ w'.cell? ⟨gb472, 2, none⟩ = some (.int .i32 t468) ∧ w'.cell? ⟨gb472, 3, none⟩ = some (.bool t469) ∧ w'.cell? ⟨gb472, 4, none⟩ = some (.int .u32 t470)) (ds := []) #[false, false, false, false, false, false, false, false, false, false, false, false, false, false, false, false, false, false, false, false, false, false] Z0 rfl rfl ⟨(blk_cell BK486.out 0).trans rfl, (blk_cell BK486.out 1).trans rfl, (blk_cell BK486.out 2).trans rfl, (blk_cell BK486.out 3).trans rfl, (blk_cell BK486.out 4).trans rfl, (blk_cell BK465.out 0).trans rfl, (blk_cell BK465.out 1).trans rfl, (blk_cell BK465.out 2).trans rfl, (blk_cell BK465.out 3).trans rfl, (blk_cell BK465.out 4).trans rfl, (blk_cell BK472.out 0).trans rfl, (blk_cell BK472.out 1).trans rfl, (blk_cell BK472.out 2).trans rfl, (blk_cell BK472.out 3).trans rfl, (blk_cell BK472.out 4).trans rfl⟩ (fun hHeld => ?_); refine with_tabW laws_FnColor.tab11 laws_FnColor.bits11 (fun HT_ HW_ => ?_)
       generalize w76.drew = w77 at BK465 BK472 BK479 BK486 HB hHeld ⊢
       refine pure_ (i := 0) (N := some 45) (v := ?_) (a' := ?_) #[true, false, false, false, false, false, false, false, false, false, false, false, false, false, false, false, false, false, false, false, false, false] rfl rfl (any_of HT_.out Z0) (fun _ _ _ h => h) (Or.inl ⟨by rfl, ?_⟩) ?_ ?_
       rotate_left
       ·intro w'
        go_simp
        with_reducible rfl
       rotate_left
       ·simp only [Act.put, List.setIfInBounds_toArray, List.set_cons_zero, List.set_cons_succ, i64_w, i32_w]
        rfl
       refine pure_ (i := 1) (N := some 46) (v := ?_) (a' := ?_) #[true, true, false, false, false, false, false, false, false, false, false, false, false, false, false, false, false, false, false, false, false, false] rfl rfl (any_of HT_.out Z0) (fun _ _ _ h => h) (Or.inl ⟨by rfl, ?_⟩) ?_ ?_
       rotate_left
       ·intro w'
        go_simp
        with_reducible rfl
       rotate_left
       ·simp only [Act.put, List.setIfInBounds_toArray, List.set_cons_zero, List.set_cons_succ, i64_w, i32_w]
        rfl
       refine take_ (i := 2) (N := some 47) (v := ?_) (a' := ?_) #[true, true, true, false, false, false, false, false, false, false, false, false, false, false, false, false, false, false, false, false, false, false] rfl rfl (take_ofW HT_.out HW_.out Z0) (fun _ _ _ h => h) (Or.inl ⟨by rfl, ?_⟩) hHeld ?_ ?_
       rotate_left
       ·rintro w' ⟨s0, s1, s2, s3, s4, s5, s6, s7, s8, s9, s10, s11, s12, s13, s14⟩
        go_simp
        with_reducible rfl
       rotate_left
       ·simp only [Act.put, List.setIfInBounds_toArray, List.set_cons_zero, List.set_cons_succ, i64_w, i32_w]
        rfl
       refine take_ (i := 3) (N := some 48) (v := ?_) (a' := ?_) #[true, true, true, true, false, false, false, false, false, false, false, false, false, false, false, false, false, false, false, false, false, false] rfl rfl (take_ofW HT_.out HW_.out Z0) (fun _ _ _ h => h) (Or.inl ⟨by rfl, ?_⟩) hHeld ?_ ?_
       rotate_left
       ·rintro w' ⟨s0, s1, s2, s3, s4, s5, s6, s7, s8, s9, s10, s11, s12, s13, s14⟩
        go_simp
        with_reducible rfl
       rotate_left
       ·simp only [Act.put, List.setIfInBounds_toArray, List.set_cons_zero, List.set_cons_succ, i64_w, i32_w]
        rfl
       refine pure_ (i := 4) (N := some 49) (v := ?_) (a' := ?_) #[true, true, true, true, true, false, false, false, false, false, false, false, false, false, false, false, false, false, false, false, false, false] rfl rfl (any_of HT_.out Z0) (fun _ _ _ h => h) (Or.inl ⟨by rfl, ?_⟩) ?_ ?_
       rotate_left
       ·intro w'
        go_simp
        with_reducible rfl
       rotate_left
       ·simp only [Act.put, List.setIfInBounds_toArray, List.set_cons_zero, List.set_cons_succ, i64_w, i32_w]
        rfl
       refine pure_ (i := 5) (N := some 50) (v := ?_) (a' := ?_) #[true, true, true, true, true, true, false, false, false, false, false, false, false, false, false, false, false, false, false, false, false, false] rfl rfl (any_of HT_.out Z0) (fun _ _ _ h => h) (Or.inl ⟨by rfl, ?_⟩) ?_ ?_
       rotate_left
       ·intro w'
        go_simp
        with_reducible rfl
       rotate_left
       ·simp only [Act.put, List.setIfInBounds_toArray, List.set_cons_zero, List.set_cons_succ, i64_w, i32_w]
        rfl
       refine pure_ (i := 6) (N := some 51) (v := ?_) (a' := ?_) #[true, true, true, true, true, true, true, false, false, false, false, false, false, false, false, false, false, false, false, false, false, false] rfl rfl (any_of HT_.out Z0) (fun _ _ _ h => h) (Or.inl ⟨by rfl, ?_⟩) ?_ ?_
       rotate_left
       ·intro w'
        go_simp
        with_reducible rfl
       rotate_left
       ·simp only [Act.put, List.setIfInBounds_toArray, List.set_cons_zero, List.set_cons_succ, i64_w, i32_w]
        rfl
       refine take_ (i := 7) (N := some 52) (v := ?_) (a' := ?_) #[true, true, true, true, true, true, true, true, false, false, false, false, false, false, false, false, false, false, false, false, false, false] rfl rfl (take_ofW HT_.out HW_.out Z0) (fun _ _ _ h => h) (Or.inl ⟨by rfl, ?_⟩) hHeld ?_ ?_
       rotate_left
       ·rintro w' ⟨s0, s1, s2, s3, s4, s5, s6, s7, s8, s9, s10, s11, s12, s13, s14⟩
        go_simp
        with_reducible rfl
       rotate_left
       ·simp only [Act.put, List.setIfInBounds_toArray, List.set_cons_zero, List.set_cons_succ, i64_w, i32_w]
        rfl
       refine take_ (i := 10) (N := some 55) (v := ?_) (a' := ?_) #[true, true, true, true, true, true, true, true, false, false, true, false, false, false, false, false, false, false, false, false, false, false] rfl rfl (take_ofW HT_.out HW_.out Z0) (fun _ _ _ h => h) (Or.inl ⟨by rfl, ?_⟩) hHeld ?_ ?_
       rotate_left
       ·rintro w' ⟨s0, s1, s2, s3, s4, s5, s6, s7, s8, s9, s10, s11, s12, s13, s14⟩
        go_simp
        with_reducible rfl
       rotate_left
       ·simp only [Act.put, List.setIfInBounds_toArray, List.set_cons_zero, List.set_cons_succ, i64_w, i32_w]
        rfl
       refine one_ (i := 8) (N := some 53) #[true, true, true, true, true, true, true, true, true, false, true, false, false, false, false, false, false, false, false, false, false, false] rfl rfl (one_of HT_.out Z0) (by decide) (fun K hK => ?_)
       refine goes_ Try.func43 Z0 rfl #[.agg #[.int .i64 t466, .string t467, .int .i32 t468, .bool t469, .int .u32 t470]] (by rfl) rfl rfl Z9 ?_
       with_reducible refine (impl_CellsOf.calls k t466 t467 t468 t469 t470 t487 _ A25.out).mono ?_
       rintro e w78 ⟨v488, rfl, ho0, hb⟩
       refine ⟨_, rfl, ?_⟩
       have n0_ := Z (Kd.R_lower ho0 (below_size Z47))
       have n1_ := Z (blk_below (g := gb465) (o := .cells #[.int .i64 t459, .string t460, .int .i32 t461, .bool t462, .int .u32 t463] 51 (0, 0)) (Z13 BK465) hb)
       have n2_ := Z (blk_below (g := gb472) (o := .cells #[.int .i64 t466, .string t467, .int .i32 t468, .bool t469, .int .u32 t470] 51 (0, 0)) (Z13 BK472) hb)
       have n3_ := Z (blk_below (g := gb479) (o := .cells #[.int .i64 t473, .string t474, .int .i32 t475, .bool t476, .int .u32 t477] 51 (0, 0)) (Z13 BK479) hb)
       have n4_ := Z (blk_below (g := gb486) (o := .cells #[.int .i64 t480, .string t481, .int .i32 t482, .bool t483, .int .u32 t484] 51 (0, 0)) (Z13 BK486) hb)
       have n5_ := Z (below_step Z47 hb)
       clear BK465
       clear BK472
       clear BK479
       clear BK486
       clear HB
       have HO489 := n0_
       have BK465 := n1_
       have BK472 := n2_
       have BK479 := n3_
       have BK486 := n4_
       have HB := n5_
       clear n0_ n1_ n2_ n3_ n4_ n5_
       (try clear hb)
       (try clear hb2)
       (try clear hk)
       (try clear hi)
       (try clear ho0)
       obtain ⟨Ao79, co79, eo79⟩ := Kd.R_slice HO489.out
       (first | subst eo79 | (injection eo79 with f1_ f2_ f3_; have f4_ := f1_.symm; have f5_ := f3_.symm; clear f1_ f2_ f3_; subst f4_; subst f5_))
       refine hK.out _ _ ⟨(blk_cell BK486.out 0).trans rfl, (blk_cell BK486.out 1).trans rfl, (blk_cell BK486.out 2).trans rfl, (blk_cell BK486.out 3).trans rfl, (blk_cell BK486.out 4).trans rfl, (blk_cell BK465.out 0).trans rfl, (blk_cell BK465.out 1).trans rfl, (blk_cell BK465.out 2).trans rfl, (blk_cell BK465.out 3).trans rfl, (blk_cell BK465.out 4).trans rfl, (blk_cell BK472.out 0).trans rfl, (blk_cell BK472.out 1).trans rfl, (blk_cell BK472.out 2).trans rfl, (blk_cell BK472.out 3).trans rfl, (blk_cell BK472.out 4).trans rfl⟩ (fun hHeld => ?_)
       clear hK K
       refine norm_ (a' := ?_) ?_ ?_
       rotate_left
       ·show Act.put _ (some 53) _ = _
        simp only [Act.put, List.setIfInBounds_toArray, List.set_cons_zero, List.set_cons_succ, i64_w, i32_w]
        rfl
       refine pure_ (i := 9) (N := some 54) (v := ?_) (a' := ?_) #[true, true, true, true, true, true, true, true, true, true, true, false, false, false, false, false, false, false, false, false, false, false] rfl rfl (any_of HT_.out Z0) (fun _ _ _ h => h) (Or.inl ⟨by rfl, ?_⟩) ?_ ?_
       rotate_left
       ·intro w'
        go_simp
        with_reducible rfl
       rotate_left
       ·simp only [Act.put, List.setIfInBounds_toArray, List.set_cons_zero, List.set_cons_succ, i64_w, i32_w]
        rfl
       refine one_ (i := 11) (N := some 56) #[true, true, true, true, true, true, true, true, true, true, true, true, false, false, false, false, false, false, false, false, false, false] rfl rfl (one_of HT_.out Z0) (by decide) (fun K hK => ?_)
       refine goes_ Try.func43 Z0 rfl #[.agg #[.int .i64 t459, .string t460, .int .i32 t461, .bool t462, .int .u32 t463]] (by rfl) rfl rfl Z9 ?_
       with_reducible refine (impl_CellsOf.calls k t459 t460 t461 t462 t463 t490 _ A26.out).mono ?_
       rintro e w80 ⟨v491, rfl, ho0, hb⟩
       refine ⟨_, rfl, ?_⟩
       have n0_ := Z (Kd.R_elder' (Z8 HO489) (Kd.R_base ho0) hb)
       have n1_ := Z (Kd.R_lower (Kd.R_new' ho0 (Kd.R_lt (Z8 HO489))) (below_size Z47))
       have n2_ := Z (blk_below (g := gb465) (o := .cells #[.int .i64 t459, .string t460, .int .i32 t461, .bool t462, .int .u32 t463] 51 (0, 0)) (Z13 BK465) hb)
       have n3_ := Z (blk_below (g := gb472) (o := .cells #[.int .i64 t466, .string t467, .int .i32 t468, .bool t469, .int .u32 t470] 51 (0, 0)) (Z13 BK472) hb)
       have n4_ := Z (blk_below (g := gb479) (o := .cells #[.int .i64 t473, .string t474, .int .i32 t475, .bool t476, .int .u32 t477] 51 (0, 0)) (Z13 BK479) hb)
       have n5_ := Z (blk_below (g := gb486) (o := .cells #[.int .i64 t480, .string t481, .int .i32 t482, .bool t483, .int .u32 t484] 51 (0, 0)) (Z13 BK486) hb)
       have n6_ := Z (below_step Z47 hb)
       clear HO489
       clear BK465
       clear BK472
       clear BK479
       clear BK486
       clear HB
       have HO489 := n0_
       have HO492 := n1_
       have BK465 := n2_
       have BK472 := n3_
       have BK479 := n4_
       have BK486 := n5_
       have HB := n6_
       clear n0_ n1_ n2_ n3_ n4_ n5_ n6_
       (try clear hb)
       (try clear hb2)
       (try clear hk)
       (try clear hi)
       (try clear ho0)
       obtain ⟨Ao81, co81, eo81⟩ := Kd.R_slice HO492.out
       (first | subst eo81 | (injection eo81 with f1_ f2_ f3_; have f4_ := f1_.symm; have f5_ := f3_.symm; clear f1_ f2_ f3_; subst f4_; subst f5_))
       refine hK.out _ _ ⟨(blk_cell BK486.out 0).trans rfl, (blk_cell BK486.out 1).trans rfl, (blk_cell BK486.out 2).trans rfl, (blk_cell BK486.out 3).trans rfl, (blk_cell BK486.out 4).trans rfl, (blk_cell BK465.out 0).trans rfl, (blk_cell BK465.out 1).trans rfl, (blk_cell BK465.out 2).trans rfl, (blk_cell BK465.out 3).trans rfl, (blk_cell BK465.out 4).trans rfl, (blk_cell BK472.out 0).trans rfl, (blk_cell BK472.out 1).trans rfl, (blk_cell BK472.out 2).trans rfl, (blk_cell BK472.out 3).trans rfl, (blk_cell BK472.out 4).trans rfl⟩ (fun hHeld => ?_)
       clear hK K
       refine norm_ (a' := ?_) ?_ ?_
       rotate_left
       ·show Act.put _ (some 56) _ = _
        simp only [Act.put, List.setIfInBounds_toArray, List.set_cons_zero, List.set_cons_succ, i64_w, i32_w]
        rfl
       refine pure_ (i := 12) (N := some 57) (v := ?_) (a' := ?_) #[true, true, true, true, true, true, true, true, true, true, true, true, true, false, false, false, false, false, false, false, false, false] rfl rfl (any_of HT_.out Z0) (fun _ _ _ h => h) (Or.inl ⟨by rfl, ?_⟩) ?_ ?_
       rotate_left
       ·intro w'
        go_simp
        with_reducible rfl
       rotate_left
       ·simp only [Act.put, List.setIfInBounds_toArray, List.set_cons_zero, List.set_cons_succ, i64_w, i32_w]
        rfl
       refine pure_ (i := 13) (N := some 58) (v := ?_) (a' := ?_) #[true, true, true, true, true, true, true, true, true, true, true, true, true, true, false, false, false, false, false, false, false, false] rfl rfl (any_of HT_.out Z0) (fun _ _ _ h => h) (Or.inl ⟨by rfl, ?_⟩) ?_ ?_
       rotate_left
       ·intro w'
        go_simp
        with_reducible rfl
       rotate_left
       ·simp only [Act.put, List.setIfInBounds_toArray, List.set_cons_zero, List.set_cons_succ, i64_w, i32_w]
        rfl
       refine pure_ (i := 14) (N := some 59) (v := ?_) (a' := ?_) #[true, true, true, true, true, true, true, true, true, true, true, true, true, true, true, false, false, false, false, false, false, false] rfl rfl (any_of HT_.out Z0) (fun _ _ _ h => h) (Or.inl ⟨by rfl, ?_⟩) ?_ ?_
       rotate_left
       ·intro w'
        go_simp
        with_reducible rfl
       rotate_left
       ·simp only [Act.put, List.setIfInBounds_toArray, List.set_cons_zero, List.set_cons_succ, i64_w, i32_w]
        rfl
       refine pure_ (i := 15) (N := some 60) (v := ?_) (a' := ?_) #[true, true, true, true, true, true, true, true, true, true, true, true, true, true, true, true, false, false, false, false, false, false] rfl rfl (any_of HT_.out Z0) (fun _ _ _ h => h) (Or.inl ⟨by rfl, ?_⟩) ?_ ?_
       rotate_left
       ·intro w'
        go_simp
        with_reducible rfl
       rotate_left
       ·simp only [Act.put, List.setIfInBounds_toArray, List.set_cons_zero, List.set_cons_succ, i64_w, i32_w]
        rfl
       refine pure_ (i := 16) (N := some 61) (v := undef) (a' := ?_) #[true, true, true, true, true, true, true, true, true, true, true, true, true, true, true, true, true, false, false, false, false, false] rfl rfl (any_of HT_.out Z0) (fun _ _ _ h => h) (Or.inr ⟨by rfl, rfl⟩) ?_ ?_
       rotate_left
       ·simp only [Act.put, List.setIfInBounds_toArray, List.set_cons_zero, List.set_cons_succ, i64_w, i32_w]
        rfl
       refine pure_ (i := 17) (N := some 62) (v := undef) (a' := ?_) #[true, true, true, true, true, true, true, true, true, true, true, true, true, true, true, true, true, true, false, false, false, false] rfl rfl (any_of HT_.out Z0) (fun _ _ _ h => h) (Or.inr ⟨by rfl, rfl⟩) ?_ ?_
       rotate_left
       ·simp only [Act.put, List.setIfInBounds_toArray, List.set_cons_zero, List.set_cons_succ, i64_w, i32_w]
        rfl
       refine pure_ (i := 18) (N := some 63) (v := undef) (a' := ?_) #[true, true, true, true, true, true, true, true, true, true, true, true, true, true, true, true, true, true, true, false, false, false] rfl rfl (any_of HT_.out Z0) (fun _ _ _ h => h) (Or.inr ⟨by rfl, rfl⟩) ?_ ?_
       rotate_left
       ·simp only [Act.put, List.setIfInBounds_toArray, List.set_cons_zero, List.set_cons_succ, i64_w, i32_w]
        rfl
       refine pure_ (i := 19) (N := some 64) (v := undef) (a' := ?_) #[true, true, true, true, true, true, true, true, true, true, true, true, true, true, true, true, true, true, true, true, false, false] rfl rfl (any_of HT_.out Z0) (fun _ _ _ h => h) (Or.inr ⟨by rfl, rfl⟩) ?_ ?_
       rotate_left
       ·simp only [Act.put, List.setIfInBounds_toArray, List.set_cons_zero, List.set_cons_succ, i64_w, i32_w]
        rfl
       refine pure_ (i := 20) (N := some 65) (v := ?_) (a' := ?_) #[true, true, true, true, true, true, true, true, true, true, true, true, true, true, true, true, true, true, true, true, true, false] rfl rfl (any_of HT_.out Z0) (fun _ _ _ h => h) (Or.inl ⟨by rfl, ?_⟩) ?_ ?_
       rotate_left
       ·intro w'
        go_simp
        with_reducible rfl
       rotate_left
       ·simp only [Act.put, List.setIfInBounds_toArray, List.set_cons_zero, List.set_cons_succ, i64_w, i32_w]
        rfl
       refine pure_ (i := 21) (N := some 2) (v := ?_) (a' := ?_) #[true, true, true, true, true, true, true, true, true, true, true, true, true, true, true, true, true, true, true, true, true, true] rfl rfl (any_of HT_.out Z0) (fun _ _ _ h => h) (Or.inl ⟨by rfl, ?_⟩) ?_ ?_
       rotate_left
       ·intro w'
        go_simp
        with_reducible rfl
       rotate_left
       ·simp only [Act.put, List.setIfInBounds_toArray, List.set_cons_zero, List.set_cons_succ, i64_w, i32_w]
        rfl
       refine done_ (done_of HT_.out Z0) ?_
       try go_wp2
       go_ret
       exact ⟨Z7, Z47⟩
     ·rw [if_neg c24] at H
      have c24b0 : (t480 == t459 && (t481.toList == t460.toList && (t482 == t461 && (t483 == t462 && (t484 == t463))))) = false := Z24
      (try (have c24b1 : decide (t480 = t459 && (t481.toList == t460.toList && (t482 == t461 && (t483 == t462 && (t484 == t463))))) = false := Z24))
      (try (have c24b2 : (t480 == t459 && (t481.toList == t460.toList && (t482 == t461 && (t483 == t462 && (t484 == t463))))) = false := Z24))
      (try (have c24b3 : ¬ (t480 = t459 && (t481.toList == t460.toList && (t482 == t461 && (t483 == t462 && (t484 == t463))))) := Z24))
      clear c24
      obtain rfl := Option.some.inj H
      go_enter Try.func8, Try.ntmps8
      try go_wp2_with (first | ((with_reducible refine gate_callee (f := 13) rfl ?_); refine goesL_ (some 12) rfl rfl Try.func13 Z0 rfl #[.slice A0 l0.length c0] rfl Z9 ?_; (with_reducible refine (laws_big.calls _ _ l0 false _ ?side1 ?side2 A2.out).mono ?_); (case side1 => exact (Z36 HR0)); (case side2 => exact HC0.out); rintro e w' ⟨rfl, ⟨nd, rfl⟩⟩; refine ⟨_, rfl, ?_⟩) | ((with_reducible refine gate_callee (f := 42) rfl ?_); refine goesL_ (some 15) rfl rfl Try.func42 Z0 rfl #[.slice A0 l0.length c0] rfl Z9 ?_; (with_reducible refine (spec_DrawRecolor.calls k _ _ l0 t459 t460 t461 t462 t463 t464 _ ?side1 ?side2 A4.out).mono ?_); (case side1 => exact (Z36 HR0)); (case side2 => exact HC0.out); rintro e w82 ⟨rfl, hb⟩; refine ⟨_, rfl, ?_⟩; replace HB := Z (below_step Z47 hb); (try clear hb); (try clear hb2); (try clear hk); (try clear hi)) | ((with_reducible refine gate_dst (N := 3) rfl ?_); (try (refine gate_guard (by rfl) ?_; dsimp only)); refine box_event (by rfl) (N := 3) (by rfl) (cs := #[.int .i64 0, .string (⟨#[]⟩ : ByteArray), .int .i32 0, .bool false, .int .u32 0]) (t := 51) Z5 ?_; intro gb465 hg w83 hbox hb; have BK465 := Z (hbox); have GW465 := Z ((Z66 : w.heap.size ≤ gb465)); have GE465 := Z ((Z66 : w.heap.size ≤ gb465)); replace HB := Z (below_step Z47 hb); clear hb hbox hg; have hcz84_0 : w83.cell? ⟨gb465, 0, none⟩ = some (.int .i64 0) := (blk_cell BK465.out 0).trans rfl; have hcz84_1 : w83.cell? ⟨gb465, 1, none⟩ = some (.string (⟨#[]⟩ : ByteArray)) := (blk_cell BK465.out 1).trans rfl; have hcz84_2 : w83.cell? ⟨gb465, 2, none⟩ = some (.int .i32 0) := (blk_cell BK465.out 2).trans rfl; have hcz84_3 : w83.cell? ⟨gb465, 3, none⟩ = some (.bool false) := (blk_cell BK465.out 3).trans rfl; have hcz84_4 : w83.cell? ⟨gb465, 4, none⟩ = some (.int .u32 0) := (blk_cell BK465.out 4).trans rfl; have hfz84_0 := blk_frozen BK465.out 0; have hfz84_1 := blk_frozen BK465.out 1; have hfz84_2 := blk_frozen BK465.out 2; have hfz84_3 := blk_frozen BK465.out 3; have hfz84_4 := blk_frozen BK465.out 4) | ((with_reducible refine gate_callee (f := 36) rfl ?_); refine goesL_ (some 21) rfl rfl Try.func36 Z0 rfl #[.agg #[.int .i64 t459, .string t460, .int .i32 t461, .bool t462, .int .u32 t463], .int .i64 t464] rfl Z9 ?_; (with_reducible refine (impl_Recolor.calls k t459 t460 t461 t462 t463 t464 t466 t467 t468 t469 t470 true _ A5.out).mono ?_); rintro e w85 ⟨rfl, hb⟩; refine ⟨_, rfl, ?_⟩; replace BK465 := Z (blk_below (g := gb465) (o := .cells #[.int .i64 t459, .string t460, .int .i32 t461, .bool t462, .int .u32 t463] 51 (0, 0)) (Z37 BK465) hb); replace HB := Z (below_step Z47 hb); (try clear hb); (try clear hb2); (try clear hk); (try clear hi)) | ((with_reducible refine gate_dst (N := 5) rfl ?_); (try (refine gate_guard (by rfl) ?_; dsimp only)); refine box_event (by rfl) (N := 5) (by rfl) (cs := #[.int .i64 0, .string (⟨#[]⟩ : ByteArray), .int .i32 0, .bool false, .int .u32 0]) (t := 51) Z5 ?_; intro gb472 hg w86 hbox hb; have BK472 := Z (hbox); have GW472 := Z ((Z66 : w.heap.size ≤ gb472)); have GE472 := Z ((Z66 : w.heap.size ≤ gb472)); replace HB := Z (below_step Z47 hb); have NB465_472 := Z ((Z60 : gb465 ≠ gb472)); have NB472_465 := Z ((Z61 : gb472 ≠ gb465)); replace BK465 := Z (blk_below (g := gb465) (o := .cells #[.int .i64 t459, .string t460, .int .i32 t461, .bool t462, .int .u32 t463] 51 (0, 0)) (Z13 BK465) hb); clear hb hbox hg; have hnb87 := NB472_465.out; have hnc87 := NB465_472.out; have hcz88_0 : w86.cell? ⟨gb472, 0, none⟩ = some (.int .i64 0) := (blk_cell BK472.out 0).trans rfl; have hcz88_1 : w86.cell? ⟨gb472, 1, none⟩ = some (.string (⟨#[]⟩ : ByteArray)) := (blk_cell BK472.out 1).trans rfl; have hcz88_2 : w86.cell? ⟨gb472, 2, none⟩ = some (.int .i32 0) := (blk_cell BK472.out 2).trans rfl; have hcz88_3 : w86.cell? ⟨gb472, 3, none⟩ = some (.bool false) := (blk_cell BK472.out 3).trans rfl; have hcz88_4 : w86.cell? ⟨gb472, 4, none⟩ = some (.int .u32 0) := (blk_cell BK472.out 4).trans rfl; have hfz88_0 := blk_frozen BK472.out 0; have hfz88_1 := blk_frozen BK472.out 1; have hfz88_2 := blk_frozen BK472.out 2; have hfz88_3 := blk_frozen BK472.out 3; have hfz88_4 := blk_frozen BK472.out 4; have hcz89_0 : w86.cell? ⟨gb465, 0, none⟩ = some (.int .i64 t459) := (blk_cell BK465.out 0).trans rfl; have hcz89_1 : w86.cell? ⟨gb465, 1, none⟩ = some (.string t460) := (blk_cell BK465.out 1).trans rfl; have hcz89_2 : w86.cell? ⟨gb465, 2, none⟩ = some (.int .i32 t461) := (blk_cell BK465.out 2).trans rfl; have hcz89_3 : w86.cell? ⟨gb465, 3, none⟩ = some (.bool t462) := (blk_cell BK465.out 3).trans rfl; have hcz89_4 : w86.cell? ⟨gb465, 4, none⟩ = some (.int .u32 t463) := (blk_cell BK465.out 4).trans rfl; have hfz89_0 := blk_frozen BK465.out 0; have hfz89_1 := blk_frozen BK465.out 1; have hfz89_2 := blk_frozen BK465.out 2; have hfz89_3 := blk_frozen BK465.out 3; have hfz89_4 := blk_frozen BK465.out 4) | ((with_reducible refine gate_callee (f := 34) rfl ?_); refine goesL_ (some 27) rfl rfl Try.func34 Z0 rfl #[.agg #[.int .i64 t459, .string t460, .int .i32 t461, .bool t462, .int .u32 t463], .int .i64 t464] rfl Z9 ?_; (with_reducible refine (spec_Recolor.calls k t459 t460 t461 t462 t463 t464 t473 t474 t475 t476 t477 t478 _ A6.out).mono ?_); rintro e w90 ⟨rfl, hb⟩; refine ⟨_, rfl, ?_⟩; replace BK465 := Z (blk_below (g := gb465) (o := .cells #[.int .i64 t459, .string t460, .int .i32 t461, .bool t462, .int .u32 t463] 51 (0, 0)) (Z38 BK465) hb); replace BK472 := Z (blk_below (g := gb472) (o := .cells #[.int .i64 t466, .string t467, .int .i32 t468, .bool t469, .int .u32 t470] 51 (0, 0)) (Z39 BK472) hb); replace HB := Z (below_step Z47 hb); (try clear hb); (try clear hb2); (try clear hk); (try clear hi)) | ((with_reducible refine gate_dst (N := 7) rfl ?_); (try (refine gate_guard (by rfl) ?_; dsimp only)); refine box_event (by rfl) (N := 7) (by rfl) (cs := #[.int .i64 0, .string (⟨#[]⟩ : ByteArray), .int .i32 0, .bool false, .int .u32 0]) (t := 51) Z5 ?_; intro gb479 hg w91 hbox hb; have BK479 := Z (hbox); have GW479 := Z ((Z66 : w.heap.size ≤ gb479)); have GE479 := Z ((Z66 : w.heap.size ≤ gb479)); replace HB := Z (below_step Z47 hb); have NB465_479 := Z ((Z60 : gb465 ≠ gb479)); have NB479_465 := Z ((Z61 : gb479 ≠ gb465)); replace BK465 := Z (blk_below (g := gb465) (o := .cells #[.int .i64 t459, .string t460, .int .i32 t461, .bool t462, .int .u32 t463] 51 (0, 0)) (Z13 BK465) hb); have NB472_479 := Z ((Z62 : gb472 ≠ gb479)); have NB479_472 := Z ((Z63 : gb479 ≠ gb472)); replace BK472 := Z (blk_below (g := gb472) (o := .cells #[.int .i64 t466, .string t467, .int .i32 t468, .bool t469, .int .u32 t470] 51 (0, 0)) (Z13 BK472) hb); clear hb hbox hg; have hnb92 := NB479_465.out; have hnc92 := NB465_479.out; have hnb93 := NB479_472.out; have hnc93 := NB472_479.out; have hcz94_0 : w91.cell? ⟨gb479, 0, none⟩ = some (.int .i64 0) := (blk_cell BK479.out 0).trans rfl; have hcz94_1 : w91.cell? ⟨gb479, 1, none⟩ = some (.string (⟨#[]⟩ : ByteArray)) := (blk_cell BK479.out 1).trans rfl; have hcz94_2 : w91.cell? ⟨gb479, 2, none⟩ = some (.int .i32 0) := (blk_cell BK479.out 2).trans rfl; have hcz94_3 : w91.cell? ⟨gb479, 3, none⟩ = some (.bool false) := (blk_cell BK479.out 3).trans rfl; have hcz94_4 : w91.cell? ⟨gb479, 4, none⟩ = some (.int .u32 0) := (blk_cell BK479.out 4).trans rfl; have hfz94_0 := blk_frozen BK479.out 0; have hfz94_1 := blk_frozen BK479.out 1; have hfz94_2 := blk_frozen BK479.out 2; have hfz94_3 := blk_frozen BK479.out 3; have hfz94_4 := blk_frozen BK479.out 4; have hcz95_0 : w91.cell? ⟨gb472, 0, none⟩ = some (.int .i64 t466) := (blk_cell BK472.out 0).trans rfl; have hcz95_1 : w91.cell? ⟨gb472, 1, none⟩ = some (.string t467) := (blk_cell BK472.out 1).trans rfl; have hcz95_2 : w91.cell? ⟨gb472, 2, none⟩ = some (.int .i32 t468) := (blk_cell BK472.out 2).trans rfl; have hcz95_3 : w91.cell? ⟨gb472, 3, none⟩ = some (.bool t469) := (blk_cell BK472.out 3).trans rfl; have hcz95_4 : w91.cell? ⟨gb472, 4, none⟩ = some (.int .u32 t470) := (blk_cell BK472.out 4).trans rfl; have hfz95_0 := blk_frozen BK472.out 0; have hfz95_1 := blk_frozen BK472.out 1; have hfz95_2 := blk_frozen BK472.out 2; have hfz95_3 := blk_frozen BK472.out 3; have hfz95_4 := blk_frozen BK472.out 4; have hcz96_0 : w91.cell? ⟨gb465, 0, none⟩ = some (.int .i64 t459) := (blk_cell BK465.out 0).trans rfl; have hcz96_1 : w91.cell? ⟨gb465, 1, none⟩ = some (.string t460) := (blk_cell BK465.out 1).trans rfl; have hcz96_2 : w91.cell? ⟨gb465, 2, none⟩ = some (.int .i32 t461) := (blk_cell BK465.out 2).trans rfl; have hcz96_3 : w91.cell? ⟨gb465, 3, none⟩ = some (.bool t462) := (blk_cell BK465.out 3).trans rfl; have hcz96_4 : w91.cell? ⟨gb465, 4, none⟩ = some (.int .u32 t463) := (blk_cell BK465.out 4).trans rfl; have hfz96_0 := blk_frozen BK465.out 0; have hfz96_1 := blk_frozen BK465.out 1; have hfz96_2 := blk_frozen BK465.out 2; have hfz96_3 := blk_frozen BK465.out 3; have hfz96_4 := blk_frozen BK465.out 4) | ((with_reducible refine gate_callee (f := 36) rfl ?_); refine goesL_ (some 42) rfl rfl Try.func36 Z0 rfl #[.agg #[.int .i64 t466, .string t467, .int .i32 t468, .bool t469, .int .u32 t470], .int .i64 t459] rfl Z9 ?_; (with_reducible refine (impl_Recolor.calls k t466 t467 t468 t469 t470 t459 t480 t481 t482 t483 t484 true _ A22.out).mono ?_); rintro e w97 ⟨rfl, hb⟩; refine ⟨_, rfl, ?_⟩; replace BK465 := Z (blk_below (g := gb465) (o := .cells #[.int .i64 t459, .string t460, .int .i32 t461, .bool t462, .int .u32 t463] 51 (0, 0)) (Z40 BK465) hb); replace BK472 := Z (blk_below (g := gb472) (o := .cells #[.int .i64 t466, .string t467, .int .i32 t468, .bool t469, .int .u32 t470] 51 (0, 0)) (Z41 BK472) hb); replace BK479 := Z (blk_below (g := gb479) (o := .cells #[.int .i64 t473, .string t474, .int .i32 t475, .bool t476, .int .u32 t477] 51 (0, 0)) (Z42 BK479) hb); replace HB := Z (below_step Z47 hb); (try clear hb); (try clear hb2); (try clear hk); (try clear hi)) | ((with_reducible refine gate_dst (N := 9) rfl ?_); (try (refine gate_guard (by rfl) ?_; dsimp only)); refine box_event (by rfl) (N := 9) (by rfl) (cs := #[.int .i64 0, .string (⟨#[]⟩ : ByteArray), .int .i32 0, .bool false, .int .u32 0]) (t := 51) Z5 ?_; intro gb486 hg w98 hbox hb; have BK486 := Z (hbox); have GW486 := Z ((Z66 : w.heap.size ≤ gb486)); have GE486 := Z ((Z66 : w.heap.size ≤ gb486)); replace HB := Z (below_step Z47 hb); have NB465_486 := Z ((Z60 : gb465 ≠ gb486)); have NB486_465 := Z ((Z61 : gb486 ≠ gb465)); replace BK465 := Z (blk_below (g := gb465) (o := .cells #[.int .i64 t459, .string t460, .int .i32 t461, .bool t462, .int .u32 t463] 51 (0, 0)) (Z13 BK465) hb); have NB472_486 := Z ((Z62 : gb472 ≠ gb486)); have NB486_472 := Z ((Z63 : gb486 ≠ gb472)); replace BK472 := Z (blk_below (g := gb472) (o := .cells #[.int .i64 t466, .string t467, .int .i32 t468, .bool t469, .int .u32 t470] 51 (0, 0)) (Z13 BK472) hb); have NB479_486 := Z ((Z64 : gb479 ≠ gb486)); have NB486_479 := Z ((Z65 : gb486 ≠ gb479)); replace BK479 := Z (blk_below (g := gb479) (o := .cells #[.int .i64 t473, .string t474, .int .i32 t475, .bool t476, .int .u32 t477] 51 (0, 0)) (Z13 BK479) hb); clear hb hbox hg; have hnb99 := NB486_465.out; have hnc99 := NB465_486.out; have hnb100 := NB486_472.out; have hnc100 := NB472_486.out; have hnb101 := NB486_479.out; have hnc101 := NB479_486.out; have hcz102_0 : w98.cell? ⟨gb486, 0, none⟩ = some (.int .i64 0) := (blk_cell BK486.out 0).trans rfl; have hcz102_1 : w98.cell? ⟨gb486, 1, none⟩ = some (.string (⟨#[]⟩ : ByteArray)) := (blk_cell BK486.out 1).trans rfl; have hcz102_2 : w98.cell? ⟨gb486, 2, none⟩ = some (.int .i32 0) := (blk_cell BK486.out 2).trans rfl; have hcz102_3 : w98.cell? ⟨gb486, 3, none⟩ = some (.bool false) := (blk_cell BK486.out 3).trans rfl; have hcz102_4 : w98.cell? ⟨gb486, 4, none⟩ = some (.int .u32 0) := (blk_cell BK486.out 4).trans rfl; have hfz102_0 := blk_frozen BK486.out 0; have hfz102_1 := blk_frozen BK486.out 1; have hfz102_2 := blk_frozen BK486.out 2; have hfz102_3 := blk_frozen BK486.out 3; have hfz102_4 := blk_frozen BK486.out 4))
      have n0_ : Aside0 ((((((w98.setCell ⟨gb486, 0, none⟩ (.int .i64 t480)).setCell ⟨gb486, 1, none⟩ (.string t481)).setCell ⟨gb486, 2, none⟩ (.int .i32 t482)).setCell ⟨gb486, 3, none⟩ (.bool t483)).setCell ⟨gb486, 4, none⟩ (.int .u32 t484)).heap[gb465]? = some (.cells #[.int .i64 t459, .string t460, .int .i32 t461, .bool t462, .int .u32 t463] 51 (0, 0))) := ⟨(Z43 BK465)⟩
      have n1_ : Aside0 ((((((w98.setCell ⟨gb486, 0, none⟩ (.int .i64 t480)).setCell ⟨gb486, 1, none⟩ (.string t481)).setCell ⟨gb486, 2, none⟩ (.int .i32 t482)).setCell ⟨gb486, 3, none⟩ (.bool t483)).setCell ⟨gb486, 4, none⟩ (.int .u32 t484)).heap[gb472]? = some (.cells #[.int .i64 t466, .string t467, .int .i32 t468, .bool t469, .int .u32 t470] 51 (0, 0))) := ⟨(Z44 BK472)⟩
      have n2_ : Aside0 ((((((w98.setCell ⟨gb486, 0, none⟩ (.int .i64 t480)).setCell ⟨gb486, 1, none⟩ (.string t481)).setCell ⟨gb486, 2, none⟩ (.int .i32 t482)).setCell ⟨gb486, 3, none⟩ (.bool t483)).setCell ⟨gb486, 4, none⟩ (.int .u32 t484)).heap[gb479]? = some (.cells #[.int .i64 t473, .string t474, .int .i32 t475, .bool t476, .int .u32 t477] 51 (0, 0))) := ⟨(Z45 BK479)⟩
      have n3_ : Aside0 ((((((w98.setCell ⟨gb486, 0, none⟩ (.int .i64 t480)).setCell ⟨gb486, 1, none⟩ (.string t481)).setCell ⟨gb486, 2, none⟩ (.int .i32 t482)).setCell ⟨gb486, 3, none⟩ (.bool t483)).setCell ⟨gb486, 4, none⟩ (.int .u32 t484)).heap[gb486]? = some (.cells #[.int .i64 t480, .string t481, .int .i32 t482, .bool t483, .int .u32 t484] 51 (0, 0))) := ⟨(Z46 BK486)⟩
      have n4_ : Aside0 (Below w.heap.size w (((((w98.setCell ⟨gb486, 0, none⟩ (.int .i64 t480)).setCell ⟨gb486, 1, none⟩ (.string t481)).setCell ⟨gb486, 2, none⟩ (.int .i32 t482)).setCell ⟨gb486, 3, none⟩ (.bool t483)).setCell ⟨gb486, 4, none⟩ (.int .u32 t484))) := ⟨Z47⟩
      (try clear BK465)
      (try clear BK472)
      (try clear BK479)
      (try clear BK486)
      (try clear HB)
      (try rw [show ∀ (W_ : World) (n_ : Nat) (p_ : Addr) (v_ : Value), (W_.drewN n_).setCell p_ v_ = (W_.setCell p_ v_).drewN n_ from fun _ _ _ _ => rfl])
      generalize (((((w98.setCell ⟨gb486, 0, none⟩ (.int .i64 t480)).setCell ⟨gb486, 1, none⟩ (.string t481)).setCell ⟨gb486, 2, none⟩ (.int .i32 t482)).setCell ⟨gb486, 3, none⟩ (.bool t483)).setCell ⟨gb486, 4, none⟩ (.int .u32 t484)) = w103 at n0_ n1_ n2_ n3_ n4_ ⊢
      have BK465 := n0_
      have BK472 := n1_
      have BK479 := n2_
      have BK486 := n3_
      have HB := n4_
      clear n0_ n1_ n2_ n3_ n4_
      have n0_ := Z (blk_drew BK465.out)
      have n1_ := Z (blk_drew BK472.out)
      have n2_ := Z (blk_drew BK479.out)
      have n3_ := Z (blk_drew BK486.out)
      have n4_ := Z (below_drew1 HB.out)
      clear BK465
      clear BK472
      clear BK479
      clear BK486
      clear HB
      have BK465 := n0_
      have BK472 := n1_
      have BK479 := n2_
      have BK486 := n3_
      have HB := n4_
      clear n0_ n1_ n2_ n3_ n4_
      refine start_ (n := 22) (S := fun w' => w'.cell? ⟨gb486, 0, none⟩ = some (.int .i64 t480) ∧ w'.cell? ⟨gb486, 1, none⟩ = some (.string t481) ∧ w'.cell? ⟨gb486, 2, none⟩ = some (.int .i32 t482) ∧ w'.cell? ⟨gb486, 3, none⟩ = some (.bool t483) ∧ w'.cell? ⟨gb486, 4, none⟩ = some (.int .u32 t484) ∧ w'.cell? ⟨gb465, 0, none⟩ = some (.int .i64 t459) ∧ w'.cell? ⟨gb465, 1, none⟩ = some (.string t460) ∧ w'.cell? ⟨gb465, 2, none⟩ = some (.int .i32 t461) ∧ w'.cell? ⟨gb465, 3, none⟩ = some (.bool t462) ∧ w'.cell? ⟨gb465, 4, none⟩ = some (.int .u32 t463)) (ds := []) #[false, false, false, false, false, false, false, false, false, false, false, false, false, false, false, false, false, false, false, false, false, false] Z0 rfl rfl ⟨(blk_cell BK486.out 0).trans rfl, (blk_cell BK486.out 1).trans rfl, (blk_cell BK486.out 2).trans rfl, (blk_cell BK486.out 3).trans rfl, (blk_cell BK486.out 4).trans rfl, (blk_cell BK465.out 0).trans rfl, (blk_cell BK465.out 1).trans rfl, (blk_cell BK465.out 2).trans rfl, (blk_cell BK465.out 3).trans rfl, (blk_cell BK465.out 4).trans rfl⟩ (fun hHeld => ?_); refine with_tabW laws_FnColor.tab11 laws_FnColor.bits11 (fun HT_ HW_ => ?_)
      generalize w103.drew = w104 at BK465 BK472 BK479 BK486 HB hHeld ⊢
      refine pure_ (i := 0) (N := some 45) (v := ?_) (a' := ?_) #[true, false, false, false, false, false, false, false, false, false, false, false, false, false, false, false, false, false, false, false, false, false] rfl rfl (any_of HT_.out Z0) (fun _ _ _ h => h) (Or.inl ⟨by rfl, ?_⟩) ?_ ?_
      rotate_left
      ·intro w'
       go_simp
       with_reducible rfl
      rotate_left
      ·simp only [Act.put, List.setIfInBounds_toArray, List.set_cons_zero, List.set_cons_succ, i64_w, i32_w]
       rfl
      refine pure_ (i := 1) (N := some 46) (v := ?_) (a' := ?_) #[true, true, false, false, false, false, false, false, false, false, false, false, false, false, false, false, false, false, false, false, false, false] rfl rfl (any_of HT_.out Z0) (fun _ _ _ h => h) (Or.inl ⟨by rfl, ?_⟩) ?_ ?_
      rotate_left
      ·intro w'
       go_simp
       with_reducible rfl
      rotate_left
      ·simp only [Act.put, List.setIfInBounds_toArray, List.set_cons_zero, List.set_cons_succ, i64_w, i32_w]
       rfl
      refine take_ (i := 2) (N := some 47) (v := ?_) (a' := ?_) #[true, true, true, false, false, false, false, false, false, false, false, false, false, false, false, false, false, false, false, false, false, false] rfl rfl (take_ofW HT_.out HW_.out Z0) (fun _ _ _ h => h) (Or.inl ⟨by rfl, ?_⟩) hHeld ?_ ?_
      rotate_left
      ·rintro w' ⟨s0, s1, s2, s3, s4, s5, s6, s7, s8, s9⟩
       go_simp
       with_reducible rfl
      rotate_left
      ·simp only [Act.put, List.setIfInBounds_toArray, List.set_cons_zero, List.set_cons_succ, i64_w, i32_w]
       rfl
      refine take_ (i := 3) (N := some 48) (v := ?_) (a' := ?_) #[true, true, true, true, false, false, false, false, false, false, false, false, false, false, false, false, false, false, false, false, false, false] rfl rfl (take_ofW HT_.out HW_.out Z0) (fun _ _ _ h => h) (Or.inl ⟨by rfl, ?_⟩) hHeld ?_ ?_
      rotate_left
      ·rintro w' ⟨s0, s1, s2, s3, s4, s5, s6, s7, s8, s9⟩
       go_simp
       with_reducible rfl
      rotate_left
      ·simp only [Act.put, List.setIfInBounds_toArray, List.set_cons_zero, List.set_cons_succ, i64_w, i32_w]
       rfl
      refine pure_ (i := 4) (N := some 49) (v := ?_) (a' := ?_) #[true, true, true, true, true, false, false, false, false, false, false, false, false, false, false, false, false, false, false, false, false, false] rfl rfl (any_of HT_.out Z0) (fun _ _ _ h => h) (Or.inl ⟨by rfl, ?_⟩) ?_ ?_
      rotate_left
      ·intro w'
       go_simp
       with_reducible rfl
      rotate_left
      ·simp only [Act.put, List.setIfInBounds_toArray, List.set_cons_zero, List.set_cons_succ, i64_w, i32_w]
       rfl
      refine pure_ (i := 5) (N := some 50) (v := ?_) (a' := ?_) #[true, true, true, true, true, true, false, false, false, false, false, false, false, false, false, false, false, false, false, false, false, false] rfl rfl (any_of HT_.out Z0) (fun _ _ _ h => h) (Or.inl ⟨by rfl, ?_⟩) ?_ ?_
      rotate_left
      ·intro w'
       go_simp
       with_reducible rfl
      rotate_left
      ·simp only [Act.put, List.setIfInBounds_toArray, List.set_cons_zero, List.set_cons_succ, i64_w, i32_w]
       rfl
      refine pure_ (i := 6) (N := some 51) (v := ?_) (a' := ?_) #[true, true, true, true, true, true, true, false, false, false, false, false, false, false, false, false, false, false, false, false, false, false] rfl rfl (any_of HT_.out Z0) (fun _ _ _ h => h) (Or.inl ⟨by rfl, ?_⟩) ?_ ?_
      rotate_left
      ·intro w'
       go_simp
       with_reducible rfl
      rotate_left
      ·simp only [Act.put, List.setIfInBounds_toArray, List.set_cons_zero, List.set_cons_succ, i64_w, i32_w]
       rfl
      refine pure_ (i := 7) (N := some 52) (v := undef) (a' := ?_) #[true, true, true, true, true, true, true, true, false, false, false, false, false, false, false, false, false, false, false, false, false, false] rfl rfl (any_of HT_.out Z0) (fun _ _ _ h => h) (Or.inr ⟨by rfl, rfl⟩) ?_ ?_
      rotate_left
      ·simp only [Act.put, List.setIfInBounds_toArray, List.set_cons_zero, List.set_cons_succ, i64_w, i32_w]
       rfl
      refine pure_ (i := 8) (N := some 53) (v := undef) (a' := ?_) #[true, true, true, true, true, true, true, true, true, false, false, false, false, false, false, false, false, false, false, false, false, false] rfl rfl (any_of HT_.out Z0) (fun _ _ _ h => h) (Or.inr ⟨by rfl, rfl⟩) ?_ ?_
      rotate_left
      ·simp only [Act.put, List.setIfInBounds_toArray, List.set_cons_zero, List.set_cons_succ, i64_w, i32_w]
       rfl
      refine pure_ (i := 9) (N := some 54) (v := undef) (a' := ?_) #[true, true, true, true, true, true, true, true, true, true, false, false, false, false, false, false, false, false, false, false, false, false] rfl rfl (any_of HT_.out Z0) (fun _ _ _ h => h) (Or.inr ⟨by rfl, rfl⟩) ?_ ?_
      rotate_left
      ·simp only [Act.put, List.setIfInBounds_toArray, List.set_cons_zero, List.set_cons_succ, i64_w, i32_w]
       rfl
      refine pure_ (i := 10) (N := some 55) (v := undef) (a' := ?_) #[true, true, true, true, true, true, true, true, true, true, true, false, false, false, false, false, false, false, false, false, false, false] rfl rfl (any_of HT_.out Z0) (fun _ _ _ h => h) (Or.inr ⟨by rfl, rfl⟩) ?_ ?_
      rotate_left
      ·simp only [Act.put, List.setIfInBounds_toArray, List.set_cons_zero, List.set_cons_succ, i64_w, i32_w]
       rfl
      refine pure_ (i := 11) (N := some 56) (v := undef) (a' := ?_) #[true, true, true, true, true, true, true, true, true, true, true, true, false, false, false, false, false, false, false, false, false, false] rfl rfl (any_of HT_.out Z0) (fun _ _ _ h => h) (Or.inr ⟨by rfl, rfl⟩) ?_ ?_
      rotate_left
      ·simp only [Act.put, List.setIfInBounds_toArray, List.set_cons_zero, List.set_cons_succ, i64_w, i32_w]
       rfl
      refine pure_ (i := 12) (N := some 57) (v := undef) (a' := ?_) #[true, true, true, true, true, true, true, true, true, true, true, true, true, false, false, false, false, false, false, false, false, false] rfl rfl (any_of HT_.out Z0) (fun _ _ _ h => h) (Or.inr ⟨by rfl, rfl⟩) ?_ ?_
      rotate_left
      ·simp only [Act.put, List.setIfInBounds_toArray, List.set_cons_zero, List.set_cons_succ, i64_w, i32_w]
       rfl
      refine pure_ (i := 13) (N := some 58) (v := undef) (a' := ?_) #[true, true, true, true, true, true, true, true, true, true, true, true, true, true, false, false, false, false, false, false, false, false] rfl rfl (any_of HT_.out Z0) (fun _ _ _ h => h) (Or.inr ⟨by rfl, rfl⟩) ?_ ?_
      rotate_left
      ·simp only [Act.put, List.setIfInBounds_toArray, List.set_cons_zero, List.set_cons_succ, i64_w, i32_w]
       rfl
      refine pure_ (i := 14) (N := some 59) (v := ?_) (a' := ?_) #[true, true, true, true, true, true, true, true, true, true, true, true, true, true, true, false, false, false, false, false, false, false] rfl rfl (any_of HT_.out Z0) (fun _ _ _ h => h) (Or.inl ⟨by rfl, ?_⟩) ?_ ?_
      rotate_left
      ·intro w'
       go_simp
       with_reducible rfl
      rotate_left
      ·simp only [Act.put, List.setIfInBounds_toArray, List.set_cons_zero, List.set_cons_succ, i64_w, i32_w]
       rfl
      refine pure_ (i := 15) (N := some 60) (v := ?_) (a' := ?_) #[true, true, true, true, true, true, true, true, true, true, true, true, true, true, true, true, false, false, false, false, false, false] rfl rfl (any_of HT_.out Z0) (fun _ _ _ h => h) (Or.inl ⟨by rfl, ?_⟩) ?_ ?_
      rotate_left
      ·intro w'
       go_simp
       with_reducible rfl
      rotate_left
      ·simp only [Act.put, List.setIfInBounds_toArray, List.set_cons_zero, List.set_cons_succ, i64_w, i32_w]
       rfl
      refine pure_ (i := 16) (N := some 61) (v := undef) (a' := ?_) #[true, true, true, true, true, true, true, true, true, true, true, true, true, true, true, true, true, false, false, false, false, false] rfl rfl (any_of HT_.out Z0) (fun _ _ _ h => h) (Or.inr ⟨by rfl, rfl⟩) ?_ ?_
      rotate_left
      ·simp only [Act.put, List.setIfInBounds_toArray, List.set_cons_zero, List.set_cons_succ, i64_w, i32_w]
       rfl
      refine pure_ (i := 17) (N := some 62) (v := undef) (a' := ?_) #[true, true, true, true, true, true, true, true, true, true, true, true, true, true, true, true, true, true, false, false, false, false] rfl rfl (any_of HT_.out Z0) (fun _ _ _ h => h) (Or.inr ⟨by rfl, rfl⟩) ?_ ?_
      rotate_left
      ·simp only [Act.put, List.setIfInBounds_toArray, List.set_cons_zero, List.set_cons_succ, i64_w, i32_w]
       rfl
      refine pure_ (i := 18) (N := some 63) (v := undef) (a' := ?_) #[true, true, true, true, true, true, true, true, true, true, true, true, true, true, true, true, true, true, true, false, false, false] rfl rfl (any_of HT_.out Z0) (fun _ _ _ h => h) (Or.inr ⟨by rfl, rfl⟩) ?_ ?_
      rotate_left
      ·simp only [Act.put, List.setIfInBounds_toArray, List.set_cons_zero, List.set_cons_succ, i64_w, i32_w]
       rfl
      refine pure_ (i := 19) (N := some 64) (v := undef) (a' := ?_) #[true, true, true, true, true, true, true, true, true, true, true, true, true, true, true, true, true, true, true, true, false, false] rfl rfl (any_of HT_.out Z0) (fun _ _ _ h => h) (Or.inr ⟨by rfl, rfl⟩) ?_ ?_
      rotate_left
      ·simp only [Act.put, List.setIfInBounds_toArray, List.set_cons_zero, List.set_cons_succ, i64_w, i32_w]
       rfl
      refine pure_ (i := 20) (N := some 65) (v := ?_) (a' := ?_) #[true, true, true, true, true, true, true, true, true, true, true, true, true, true, true, true, true, true, true, true, true, false] rfl rfl (any_of HT_.out Z0) (fun _ _ _ h => h) (Or.inl ⟨by rfl, ?_⟩) ?_ ?_
      rotate_left
      ·intro w'
       go_simp
       with_reducible rfl
      rotate_left
      ·simp only [Act.put, List.setIfInBounds_toArray, List.set_cons_zero, List.set_cons_succ, i64_w, i32_w]
       rfl
      refine pure_ (i := 21) (N := some 2) (v := ?_) (a' := ?_) #[true, true, true, true, true, true, true, true, true, true, true, true, true, true, true, true, true, true, true, true, true, true] rfl rfl (any_of HT_.out Z0) (fun _ _ _ h => h) (Or.inl ⟨by rfl, ?_⟩) ?_ ?_
      rotate_left
      ·intro w'
       go_simp
       with_reducible rfl
      rotate_left
      ·simp only [Act.put, List.setIfInBounds_toArray, List.set_cons_zero, List.set_cons_succ, i64_w, i32_w]
       rfl
      refine done_ (done_of HT_.out Z0) ?_
      try go_wp2
      go_ret
      exact ⟨Z7, Z47⟩
    ·replace c23 := Bool.eq_false_iff.mpr c23
     subst c23
     have H1 : (some false) = some r := by rw [if_neg (show ¬ (false = true) by decide)] at H; exact H
     clear H
     have H := H1
     clear H1
     obtain rfl := Option.some.inj H
     go_enter Try.func8, Try.ntmps8
     try go_wp2_with (first | ((with_reducible refine gate_callee (f := 13) rfl ?_); refine goesL_ (some 12) rfl rfl Try.func13 Z0 rfl #[.slice A0 l0.length c0] rfl Z9 ?_; (with_reducible refine (laws_big.calls _ _ l0 false _ ?side1 ?side2 A2.out).mono ?_); (case side1 => exact (Z36 HR0)); (case side2 => exact HC0.out); rintro e w' ⟨rfl, ⟨nd, rfl⟩⟩; refine ⟨_, rfl, ?_⟩) | ((with_reducible refine gate_callee (f := 42) rfl ?_); refine goesL_ (some 15) rfl rfl Try.func42 Z0 rfl #[.slice A0 l0.length c0] rfl Z9 ?_; (with_reducible refine (spec_DrawRecolor.calls k _ _ l0 t459 t460 t461 t462 t463 t464 _ ?side1 ?side2 A4.out).mono ?_); (case side1 => exact (Z36 HR0)); (case side2 => exact HC0.out); rintro e w105 ⟨rfl, hb⟩; refine ⟨_, rfl, ?_⟩; replace HB := Z (below_step Z47 hb); (try clear hb); (try clear hb2); (try clear hk); (try clear hi)) | ((with_reducible refine gate_dst (N := 3) rfl ?_); (try (refine gate_guard (by rfl) ?_; dsimp only)); refine box_event (by rfl) (N := 3) (by rfl) (cs := #[.int .i64 0, .string (⟨#[]⟩ : ByteArray), .int .i32 0, .bool false, .int .u32 0]) (t := 51) Z5 ?_; intro gb465 hg w106 hbox hb; have BK465 := Z (hbox); have GW465 := Z ((Z66 : w.heap.size ≤ gb465)); have GE465 := Z ((Z66 : w.heap.size ≤ gb465)); replace HB := Z (below_step Z47 hb); clear hb hbox hg; have hcz107_0 : w106.cell? ⟨gb465, 0, none⟩ = some (.int .i64 0) := (blk_cell BK465.out 0).trans rfl; have hcz107_1 : w106.cell? ⟨gb465, 1, none⟩ = some (.string (⟨#[]⟩ : ByteArray)) := (blk_cell BK465.out 1).trans rfl; have hcz107_2 : w106.cell? ⟨gb465, 2, none⟩ = some (.int .i32 0) := (blk_cell BK465.out 2).trans rfl; have hcz107_3 : w106.cell? ⟨gb465, 3, none⟩ = some (.bool false) := (blk_cell BK465.out 3).trans rfl; have hcz107_4 : w106.cell? ⟨gb465, 4, none⟩ = some (.int .u32 0) := (blk_cell BK465.out 4).trans rfl; have hfz107_0 := blk_frozen BK465.out 0; have hfz107_1 := blk_frozen BK465.out 1; have hfz107_2 := blk_frozen BK465.out 2; have hfz107_3 := blk_frozen BK465.out 3; have hfz107_4 := blk_frozen BK465.out 4) | ((with_reducible refine gate_callee (f := 36) rfl ?_); refine goesL_ (some 21) rfl rfl Try.func36 Z0 rfl #[.agg #[.int .i64 t459, .string t460, .int .i32 t461, .bool t462, .int .u32 t463], .int .i64 t464] rfl Z9 ?_; (with_reducible refine (impl_Recolor.calls k t459 t460 t461 t462 t463 t464 t466 t467 t468 t469 t470 true _ A5.out).mono ?_); rintro e w108 ⟨rfl, hb⟩; refine ⟨_, rfl, ?_⟩; replace BK465 := Z (blk_below (g := gb465) (o := .cells #[.int .i64 t459, .string t460, .int .i32 t461, .bool t462, .int .u32 t463] 51 (0, 0)) (Z37 BK465) hb); replace HB := Z (below_step Z47 hb); (try clear hb); (try clear hb2); (try clear hk); (try clear hi)) | ((with_reducible refine gate_dst (N := 5) rfl ?_); (try (refine gate_guard (by rfl) ?_; dsimp only)); refine box_event (by rfl) (N := 5) (by rfl) (cs := #[.int .i64 0, .string (⟨#[]⟩ : ByteArray), .int .i32 0, .bool false, .int .u32 0]) (t := 51) Z5 ?_; intro gb472 hg w109 hbox hb; have BK472 := Z (hbox); have GW472 := Z ((Z66 : w.heap.size ≤ gb472)); have GE472 := Z ((Z66 : w.heap.size ≤ gb472)); replace HB := Z (below_step Z47 hb); have NB465_472 := Z ((Z60 : gb465 ≠ gb472)); have NB472_465 := Z ((Z61 : gb472 ≠ gb465)); replace BK465 := Z (blk_below (g := gb465) (o := .cells #[.int .i64 t459, .string t460, .int .i32 t461, .bool t462, .int .u32 t463] 51 (0, 0)) (Z13 BK465) hb); clear hb hbox hg; have hnb110 := NB472_465.out; have hnc110 := NB465_472.out; have hcz111_0 : w109.cell? ⟨gb472, 0, none⟩ = some (.int .i64 0) := (blk_cell BK472.out 0).trans rfl; have hcz111_1 : w109.cell? ⟨gb472, 1, none⟩ = some (.string (⟨#[]⟩ : ByteArray)) := (blk_cell BK472.out 1).trans rfl; have hcz111_2 : w109.cell? ⟨gb472, 2, none⟩ = some (.int .i32 0) := (blk_cell BK472.out 2).trans rfl; have hcz111_3 : w109.cell? ⟨gb472, 3, none⟩ = some (.bool false) := (blk_cell BK472.out 3).trans rfl; have hcz111_4 : w109.cell? ⟨gb472, 4, none⟩ = some (.int .u32 0) := (blk_cell BK472.out 4).trans rfl; have hfz111_0 := blk_frozen BK472.out 0; have hfz111_1 := blk_frozen BK472.out 1; have hfz111_2 := blk_frozen BK472.out 2; have hfz111_3 := blk_frozen BK472.out 3; have hfz111_4 := blk_frozen BK472.out 4; have hcz112_0 : w109.cell? ⟨gb465, 0, none⟩ = some (.int .i64 t459) := (blk_cell BK465.out 0).trans rfl; have hcz112_1 : w109.cell? ⟨gb465, 1, none⟩ = some (.string t460) := (blk_cell BK465.out 1).trans rfl; have hcz112_2 : w109.cell? ⟨gb465, 2, none⟩ = some (.int .i32 t461) := (blk_cell BK465.out 2).trans rfl; have hcz112_3 : w109.cell? ⟨gb465, 3, none⟩ = some (.bool t462) := (blk_cell BK465.out 3).trans rfl; have hcz112_4 : w109.cell? ⟨gb465, 4, none⟩ = some (.int .u32 t463) := (blk_cell BK465.out 4).trans rfl; have hfz112_0 := blk_frozen BK465.out 0; have hfz112_1 := blk_frozen BK465.out 1; have hfz112_2 := blk_frozen BK465.out 2; have hfz112_3 := blk_frozen BK465.out 3; have hfz112_4 := blk_frozen BK465.out 4) | ((with_reducible refine gate_callee (f := 34) rfl ?_); refine goesL_ (some 27) rfl rfl Try.func34 Z0 rfl #[.agg #[.int .i64 t459, .string t460, .int .i32 t461, .bool t462, .int .u32 t463], .int .i64 t464] rfl Z9 ?_; (with_reducible refine (spec_Recolor.calls k t459 t460 t461 t462 t463 t464 t473 t474 t475 t476 t477 t478 _ A6.out).mono ?_); rintro e w113 ⟨rfl, hb⟩; refine ⟨_, rfl, ?_⟩; replace BK465 := Z (blk_below (g := gb465) (o := .cells #[.int .i64 t459, .string t460, .int .i32 t461, .bool t462, .int .u32 t463] 51 (0, 0)) (Z38 BK465) hb); replace BK472 := Z (blk_below (g := gb472) (o := .cells #[.int .i64 t466, .string t467, .int .i32 t468, .bool t469, .int .u32 t470] 51 (0, 0)) (Z39 BK472) hb); replace HB := Z (below_step Z47 hb); (try clear hb); (try clear hb2); (try clear hk); (try clear hi)) | ((with_reducible refine gate_dst (N := 7) rfl ?_); (try (refine gate_guard (by rfl) ?_; dsimp only)); refine box_event (by rfl) (N := 7) (by rfl) (cs := #[.int .i64 0, .string (⟨#[]⟩ : ByteArray), .int .i32 0, .bool false, .int .u32 0]) (t := 51) Z5 ?_; intro gb479 hg w114 hbox hb; have BK479 := Z (hbox); have GW479 := Z ((Z66 : w.heap.size ≤ gb479)); have GE479 := Z ((Z66 : w.heap.size ≤ gb479)); replace HB := Z (below_step Z47 hb); have NB465_479 := Z ((Z60 : gb465 ≠ gb479)); have NB479_465 := Z ((Z61 : gb479 ≠ gb465)); replace BK465 := Z (blk_below (g := gb465) (o := .cells #[.int .i64 t459, .string t460, .int .i32 t461, .bool t462, .int .u32 t463] 51 (0, 0)) (Z13 BK465) hb); have NB472_479 := Z ((Z62 : gb472 ≠ gb479)); have NB479_472 := Z ((Z63 : gb479 ≠ gb472)); replace BK472 := Z (blk_below (g := gb472) (o := .cells #[.int .i64 t466, .string t467, .int .i32 t468, .bool t469, .int .u32 t470] 51 (0, 0)) (Z13 BK472) hb); clear hb hbox hg; have hnb115 := NB479_465.out; have hnc115 := NB465_479.out; have hnb116 := NB479_472.out; have hnc116 := NB472_479.out; have hcz117_0 : w114.cell? ⟨gb479, 0, none⟩ = some (.int .i64 0) := (blk_cell BK479.out 0).trans rfl; have hcz117_1 : w114.cell? ⟨gb479, 1, none⟩ = some (.string (⟨#[]⟩ : ByteArray)) := (blk_cell BK479.out 1).trans rfl; have hcz117_2 : w114.cell? ⟨gb479, 2, none⟩ = some (.int .i32 0) := (blk_cell BK479.out 2).trans rfl; have hcz117_3 : w114.cell? ⟨gb479, 3, none⟩ = some (.bool false) := (blk_cell BK479.out 3).trans rfl; have hcz117_4 : w114.cell? ⟨gb479, 4, none⟩ = some (.int .u32 0) := (blk_cell BK479.out 4).trans rfl; have hfz117_0 := blk_frozen BK479.out 0; have hfz117_1 := blk_frozen BK479.out 1; have hfz117_2 := blk_frozen BK479.out 2; have hfz117_3 := blk_frozen BK479.out 3; have hfz117_4 := blk_frozen BK479.out 4; have hcz118_0 : w114.cell? ⟨gb472, 0, none⟩ = some (.int .i64 t466) := (blk_cell BK472.out 0).trans rfl; have hcz118_1 : w114.cell? ⟨gb472, 1, none⟩ = some (.string t467) := (blk_cell BK472.out 1).trans rfl; have hcz118_2 : w114.cell? ⟨gb472, 2, none⟩ = some (.int .i32 t468) := (blk_cell BK472.out 2).trans rfl; have hcz118_3 : w114.cell? ⟨gb472, 3, none⟩ = some (.bool t469) := (blk_cell BK472.out 3).trans rfl; have hcz118_4 : w114.cell? ⟨gb472, 4, none⟩ = some (.int .u32 t470) := (blk_cell BK472.out 4).trans rfl; have hfz118_0 := blk_frozen BK472.out 0; have hfz118_1 := blk_frozen BK472.out 1; have hfz118_2 := blk_frozen BK472.out 2; have hfz118_3 := blk_frozen BK472.out 3; have hfz118_4 := blk_frozen BK472.out 4; have hcz119_0 : w114.cell? ⟨gb465, 0, none⟩ = some (.int .i64 t459) := (blk_cell BK465.out 0).trans rfl; have hcz119_1 : w114.cell? ⟨gb465, 1, none⟩ = some (.string t460) := (blk_cell BK465.out 1).trans rfl; have hcz119_2 : w114.cell? ⟨gb465, 2, none⟩ = some (.int .i32 t461) := (blk_cell BK465.out 2).trans rfl; have hcz119_3 : w114.cell? ⟨gb465, 3, none⟩ = some (.bool t462) := (blk_cell BK465.out 3).trans rfl; have hcz119_4 : w114.cell? ⟨gb465, 4, none⟩ = some (.int .u32 t463) := (blk_cell BK465.out 4).trans rfl; have hfz119_0 := blk_frozen BK465.out 0; have hfz119_1 := blk_frozen BK465.out 1; have hfz119_2 := blk_frozen BK465.out 2; have hfz119_3 := blk_frozen BK465.out 3; have hfz119_4 := blk_frozen BK465.out 4) | ((with_reducible refine gate_callee (f := 36) rfl ?_); refine goesL_ (some 42) rfl rfl Try.func36 Z0 rfl #[.agg #[.int .i64 t466, .string t467, .int .i32 t468, .bool t469, .int .u32 t470], .int .i64 t459] rfl Z9 ?_; (with_reducible refine (impl_Recolor.calls k t466 t467 t468 t469 t470 t459 t480 t481 t482 t483 t484 false _ A22.out).mono ?_); rintro e w120 ⟨rfl, hb⟩; refine ⟨_, rfl, ?_⟩; replace BK465 := Z (blk_below (g := gb465) (o := .cells #[.int .i64 t459, .string t460, .int .i32 t461, .bool t462, .int .u32 t463] 51 (0, 0)) (Z40 BK465) hb); replace BK472 := Z (blk_below (g := gb472) (o := .cells #[.int .i64 t466, .string t467, .int .i32 t468, .bool t469, .int .u32 t470] 51 (0, 0)) (Z41 BK472) hb); replace BK479 := Z (blk_below (g := gb479) (o := .cells #[.int .i64 t473, .string t474, .int .i32 t475, .bool t476, .int .u32 t477] 51 (0, 0)) (Z42 BK479) hb); replace HB := Z (below_step Z47 hb); (try clear hb); (try clear hb2); (try clear hk); (try clear hi)) | ((with_reducible refine gate_dst (N := 9) rfl ?_); (try (refine gate_guard (by rfl) ?_; dsimp only)); refine box_event (by rfl) (N := 9) (by rfl) (cs := #[.int .i64 0, .string (⟨#[]⟩ : ByteArray), .int .i32 0, .bool false, .int .u32 0]) (t := 51) Z5 ?_; intro gb486 hg w121 hbox hb; have BK486 := Z (hbox); have GW486 := Z ((Z66 : w.heap.size ≤ gb486)); have GE486 := Z ((Z66 : w.heap.size ≤ gb486)); replace HB := Z (below_step Z47 hb); have NB465_486 := Z ((Z60 : gb465 ≠ gb486)); have NB486_465 := Z ((Z61 : gb486 ≠ gb465)); replace BK465 := Z (blk_below (g := gb465) (o := .cells #[.int .i64 t459, .string t460, .int .i32 t461, .bool t462, .int .u32 t463] 51 (0, 0)) (Z13 BK465) hb); have NB472_486 := Z ((Z62 : gb472 ≠ gb486)); have NB486_472 := Z ((Z63 : gb486 ≠ gb472)); replace BK472 := Z (blk_below (g := gb472) (o := .cells #[.int .i64 t466, .string t467, .int .i32 t468, .bool t469, .int .u32 t470] 51 (0, 0)) (Z13 BK472) hb); have NB479_486 := Z ((Z64 : gb479 ≠ gb486)); have NB486_479 := Z ((Z65 : gb486 ≠ gb479)); replace BK479 := Z (blk_below (g := gb479) (o := .cells #[.int .i64 t473, .string t474, .int .i32 t475, .bool t476, .int .u32 t477] 51 (0, 0)) (Z13 BK479) hb); clear hb hbox hg; have hnb122 := NB486_465.out; have hnc122 := NB465_486.out; have hnb123 := NB486_472.out; have hnc123 := NB472_486.out; have hnb124 := NB486_479.out; have hnc124 := NB479_486.out; have hcz125_0 : w121.cell? ⟨gb486, 0, none⟩ = some (.int .i64 0) := (blk_cell BK486.out 0).trans rfl; have hcz125_1 : w121.cell? ⟨gb486, 1, none⟩ = some (.string (⟨#[]⟩ : ByteArray)) := (blk_cell BK486.out 1).trans rfl; have hcz125_2 : w121.cell? ⟨gb486, 2, none⟩ = some (.int .i32 0) := (blk_cell BK486.out 2).trans rfl; have hcz125_3 : w121.cell? ⟨gb486, 3, none⟩ = some (.bool false) := (blk_cell BK486.out 3).trans rfl; have hcz125_4 : w121.cell? ⟨gb486, 4, none⟩ = some (.int .u32 0) := (blk_cell BK486.out 4).trans rfl; have hfz125_0 := blk_frozen BK486.out 0; have hfz125_1 := blk_frozen BK486.out 1; have hfz125_2 := blk_frozen BK486.out 2; have hfz125_3 := blk_frozen BK486.out 3; have hfz125_4 := blk_frozen BK486.out 4))
     have n0_ : Aside0 ((((((w121.setCell ⟨gb486, 0, none⟩ (.int .i64 t480)).setCell ⟨gb486, 1, none⟩ (.string t481)).setCell ⟨gb486, 2, none⟩ (.int .i32 t482)).setCell ⟨gb486, 3, none⟩ (.bool t483)).setCell ⟨gb486, 4, none⟩ (.int .u32 t484)).heap[gb465]? = some (.cells #[.int .i64 t459, .string t460, .int .i32 t461, .bool t462, .int .u32 t463] 51 (0, 0))) := ⟨(Z43 BK465)⟩
     have n1_ : Aside0 ((((((w121.setCell ⟨gb486, 0, none⟩ (.int .i64 t480)).setCell ⟨gb486, 1, none⟩ (.string t481)).setCell ⟨gb486, 2, none⟩ (.int .i32 t482)).setCell ⟨gb486, 3, none⟩ (.bool t483)).setCell ⟨gb486, 4, none⟩ (.int .u32 t484)).heap[gb472]? = some (.cells #[.int .i64 t466, .string t467, .int .i32 t468, .bool t469, .int .u32 t470] 51 (0, 0))) := ⟨(Z44 BK472)⟩
     have n2_ : Aside0 ((((((w121.setCell ⟨gb486, 0, none⟩ (.int .i64 t480)).setCell ⟨gb486, 1, none⟩ (.string t481)).setCell ⟨gb486, 2, none⟩ (.int .i32 t482)).setCell ⟨gb486, 3, none⟩ (.bool t483)).setCell ⟨gb486, 4, none⟩ (.int .u32 t484)).heap[gb479]? = some (.cells #[.int .i64 t473, .string t474, .int .i32 t475, .bool t476, .int .u32 t477] 51 (0, 0))) := ⟨(Z45 BK479)⟩
     have n3_ : Aside0 ((((((w121.setCell ⟨gb486, 0, none⟩ (.int .i64 t480)).setCell ⟨gb486, 1, none⟩ (.string t481)).setCell ⟨gb486, 2, none⟩ (.int .i32 t482)).setCell ⟨gb486, 3, none⟩ (.bool t483)).setCell ⟨gb486, 4, none⟩ (.int .u32 t484)).heap[gb486]? = some (.cells #[.int .i64 t480, .string t481, .int .i32 t482, .bool t483, .int .u32 t484] 51 (0, 0))) := ⟨(Z46 BK486)⟩
     have n4_ : Aside0 (Below w.heap.size w (((((w121.setCell ⟨gb486, 0, none⟩ (.int .i64 t480)).setCell ⟨gb486, 1, none⟩ (.string t481)).setCell ⟨gb486, 2, none⟩ (.int .i32 t482)).setCell ⟨gb486, 3, none⟩ (.bool t483)).setCell ⟨gb486, 4, none⟩ (.int .u32 t484))) := ⟨Z47⟩
     (try clear BK465)
     (try clear BK472)
     (try clear BK479)
     (try clear BK486)
     (try clear HB)
     (try rw [show ∀ (W_ : World) (n_ : Nat) (p_ : Addr) (v_ : Value), (W_.drewN n_).setCell p_ v_ = (W_.setCell p_ v_).drewN n_ from fun _ _ _ _ => rfl])
     generalize (((((w121.setCell ⟨gb486, 0, none⟩ (.int .i64 t480)).setCell ⟨gb486, 1, none⟩ (.string t481)).setCell ⟨gb486, 2, none⟩ (.int .i32 t482)).setCell ⟨gb486, 3, none⟩ (.bool t483)).setCell ⟨gb486, 4, none⟩ (.int .u32 t484)) = w126 at n0_ n1_ n2_ n3_ n4_ ⊢
     have BK465 := n0_
     have BK472 := n1_
     have BK479 := n2_
     have BK486 := n3_
     have HB := n4_
     clear n0_ n1_ n2_ n3_ n4_
     have n0_ := Z (blk_drew BK465.out)
     have n1_ := Z (blk_drew BK472.out)
     have n2_ := Z (blk_drew BK479.out)
     have n3_ := Z (blk_drew BK486.out)
     have n4_ := Z (below_drew1 HB.out)
     clear BK465
     clear BK472
     clear BK479
     clear BK486
     clear HB
     have BK465 := n0_
     have BK472 := n1_
     have BK479 := n2_
     have BK486 := n3_
     have HB := n4_
     clear n0_ n1_ n2_ n3_ n4_
     refine start_ (n := 22) (S := fun w' => True) (ds := []) #[false, false, false, false, false, false, false, false, false, false, false, false, false, false, false, false, false, false, false, false, false, false] Z0 rfl rfl trivial (fun hHeld => ?_); refine with_tabW laws_FnColor.tab11 laws_FnColor.bits11 (fun HT_ HW_ => ?_)
     generalize w126.drew = w127 at BK465 BK472 BK479 BK486 HB hHeld ⊢
     refine pure_ (i := 0) (N := some 45) (v := ?_) (a' := ?_) #[true, false, false, false, false, false, false, false, false, false, false, false, false, false, false, false, false, false, false, false, false, false] rfl rfl (any_of HT_.out Z0) (fun _ _ _ h => h) (Or.inl ⟨by rfl, ?_⟩) ?_ ?_
     rotate_left
     ·intro w'
      go_simp
      with_reducible rfl
     rotate_left
     ·simp only [Act.put, List.setIfInBounds_toArray, List.set_cons_zero, List.set_cons_succ, i64_w, i32_w]
      rfl
     refine pure_ (i := 1) (N := some 46) (v := ?_) (a' := ?_) #[true, true, false, false, false, false, false, false, false, false, false, false, false, false, false, false, false, false, false, false, false, false] rfl rfl (any_of HT_.out Z0) (fun _ _ _ h => h) (Or.inl ⟨by rfl, ?_⟩) ?_ ?_
     rotate_left
     ·intro w'
      go_simp
      with_reducible rfl
     rotate_left
     ·simp only [Act.put, List.setIfInBounds_toArray, List.set_cons_zero, List.set_cons_succ, i64_w, i32_w]
      rfl
     refine pure_ (i := 2) (N := some 47) (v := undef) (a' := ?_) #[true, true, true, false, false, false, false, false, false, false, false, false, false, false, false, false, false, false, false, false, false, false] rfl rfl (any_of HT_.out Z0) (fun _ _ _ h => h) (Or.inr ⟨by rfl, rfl⟩) ?_ ?_
     rotate_left
     ·simp only [Act.put, List.setIfInBounds_toArray, List.set_cons_zero, List.set_cons_succ, i64_w, i32_w]
      rfl
     refine pure_ (i := 3) (N := some 48) (v := undef) (a' := ?_) #[true, true, true, true, false, false, false, false, false, false, false, false, false, false, false, false, false, false, false, false, false, false] rfl rfl (any_of HT_.out Z0) (fun _ _ _ h => h) (Or.inr ⟨by rfl, rfl⟩) ?_ ?_
     rotate_left
     ·simp only [Act.put, List.setIfInBounds_toArray, List.set_cons_zero, List.set_cons_succ, i64_w, i32_w]
      rfl
     refine pure_ (i := 4) (N := some 49) (v := undef) (a' := ?_) #[true, true, true, true, true, false, false, false, false, false, false, false, false, false, false, false, false, false, false, false, false, false] rfl rfl (any_of HT_.out Z0) (fun _ _ _ h => h) (Or.inr ⟨by rfl, rfl⟩) ?_ ?_
     rotate_left
     ·simp only [Act.put, List.setIfInBounds_toArray, List.set_cons_zero, List.set_cons_succ, i64_w, i32_w]
      rfl
     refine pure_ (i := 5) (N := some 50) (v := ?_) (a' := ?_) #[true, true, true, true, true, true, false, false, false, false, false, false, false, false, false, false, false, false, false, false, false, false] rfl rfl (any_of HT_.out Z0) (fun _ _ _ h => h) (Or.inl ⟨by rfl, ?_⟩) ?_ ?_
     rotate_left
     ·intro w'
      go_simp
      with_reducible rfl
     rotate_left
     ·simp only [Act.put, List.setIfInBounds_toArray, List.set_cons_zero, List.set_cons_succ, i64_w, i32_w]
      rfl
     refine pure_ (i := 6) (N := some 51) (v := ?_) (a' := ?_) #[true, true, true, true, true, true, true, false, false, false, false, false, false, false, false, false, false, false, false, false, false, false] rfl rfl (any_of HT_.out Z0) (fun _ _ _ h => h) (Or.inl ⟨by rfl, ?_⟩) ?_ ?_
     rotate_left
     ·intro w'
      go_simp
      with_reducible rfl
     rotate_left
     ·simp only [Act.put, List.setIfInBounds_toArray, List.set_cons_zero, List.set_cons_succ, i64_w, i32_w]
      rfl
     refine pure_ (i := 7) (N := some 52) (v := undef) (a' := ?_) #[true, true, true, true, true, true, true, true, false, false, false, false, false, false, false, false, false, false, false, false, false, false] rfl rfl (any_of HT_.out Z0) (fun _ _ _ h => h) (Or.inr ⟨by rfl, rfl⟩) ?_ ?_
     rotate_left
     ·simp only [Act.put, List.setIfInBounds_toArray, List.set_cons_zero, List.set_cons_succ, i64_w, i32_w]
      rfl
     refine pure_ (i := 8) (N := some 53) (v := undef) (a' := ?_) #[true, true, true, true, true, true, true, true, true, false, false, false, false, false, false, false, false, false, false, false, false, false] rfl rfl (any_of HT_.out Z0) (fun _ _ _ h => h) (Or.inr ⟨by rfl, rfl⟩) ?_ ?_
     rotate_left
     ·simp only [Act.put, List.setIfInBounds_toArray, List.set_cons_zero, List.set_cons_succ, i64_w, i32_w]
      rfl
     refine pure_ (i := 9) (N := some 54) (v := undef) (a' := ?_) #[true, true, true, true, true, true, true, true, true, true, false, false, false, false, false, false, false, false, false, false, false, false] rfl rfl (any_of HT_.out Z0) (fun _ _ _ h => h) (Or.inr ⟨by rfl, rfl⟩) ?_ ?_
     rotate_left
     ·simp only [Act.put, List.setIfInBounds_toArray, List.set_cons_zero, List.set_cons_succ, i64_w, i32_w]
      rfl
     refine pure_ (i := 10) (N := some 55) (v := undef) (a' := ?_) #[true, true, true, true, true, true, true, true, true, true, true, false, false, false, false, false, false, false, false, false, false, false] rfl rfl (any_of HT_.out Z0) (fun _ _ _ h => h) (Or.inr ⟨by rfl, rfl⟩) ?_ ?_
     rotate_left
     ·simp only [Act.put, List.setIfInBounds_toArray, List.set_cons_zero, List.set_cons_succ, i64_w, i32_w]
      rfl
     refine pure_ (i := 11) (N := some 56) (v := undef) (a' := ?_) #[true, true, true, true, true, true, true, true, true, true, true, true, false, false, false, false, false, false, false, false, false, false] rfl rfl (any_of HT_.out Z0) (fun _ _ _ h => h) (Or.inr ⟨by rfl, rfl⟩) ?_ ?_
     rotate_left
     ·simp only [Act.put, List.setIfInBounds_toArray, List.set_cons_zero, List.set_cons_succ, i64_w, i32_w]
      rfl
     refine pure_ (i := 12) (N := some 57) (v := undef) (a' := ?_) #[true, true, true, true, true, true, true, true, true, true, true, true, true, false, false, false, false, false, false, false, false, false] rfl rfl (any_of HT_.out Z0) (fun _ _ _ h => h) (Or.inr ⟨by rfl, rfl⟩) ?_ ?_
     rotate_left
     ·simp only [Act.put, List.setIfInBounds_toArray, List.set_cons_zero, List.set_cons_succ, i64_w, i32_w]
      rfl
     refine pure_ (i := 13) (N := some 58) (v := undef) (a' := ?_) #[true, true, true, true, true, true, true, true, true, true, true, true, true, true, false, false, false, false, false, false, false, false] rfl rfl (any_of HT_.out Z0) (fun _ _ _ h => h) (Or.inr ⟨by rfl, rfl⟩) ?_ ?_
     rotate_left
     ·simp only [Act.put, List.setIfInBounds_toArray, List.set_cons_zero, List.set_cons_succ, i64_w, i32_w]
      rfl
     refine pure_ (i := 14) (N := some 59) (v := ?_) (a' := ?_) #[true, true, true, true, true, true, true, true, true, true, true, true, true, true, true, false, false, false, false, false, false, false] rfl rfl (any_of HT_.out Z0) (fun _ _ _ h => h) (Or.inl ⟨by rfl, ?_⟩) ?_ ?_
     rotate_left
     ·intro w'
      go_simp
      with_reducible rfl
     rotate_left
     ·simp only [Act.put, List.setIfInBounds_toArray, List.set_cons_zero, List.set_cons_succ, i64_w, i32_w]
      rfl
     refine pure_ (i := 15) (N := some 60) (v := ?_) (a' := ?_) #[true, true, true, true, true, true, true, true, true, true, true, true, true, true, true, true, false, false, false, false, false, false] rfl rfl (any_of HT_.out Z0) (fun _ _ _ h => h) (Or.inl ⟨by rfl, ?_⟩) ?_ ?_
     rotate_left
     ·intro w'
      go_simp
      with_reducible rfl
     rotate_left
     ·simp only [Act.put, List.setIfInBounds_toArray, List.set_cons_zero, List.set_cons_succ, i64_w, i32_w]
      rfl
     refine pure_ (i := 16) (N := some 61) (v := undef) (a' := ?_) #[true, true, true, true, true, true, true, true, true, true, true, true, true, true, true, true, true, false, false, false, false, false] rfl rfl (any_of HT_.out Z0) (fun _ _ _ h => h) (Or.inr ⟨by rfl, rfl⟩) ?_ ?_
     rotate_left
     ·simp only [Act.put, List.setIfInBounds_toArray, List.set_cons_zero, List.set_cons_succ, i64_w, i32_w]
      rfl
     refine pure_ (i := 17) (N := some 62) (v := undef) (a' := ?_) #[true, true, true, true, true, true, true, true, true, true, true, true, true, true, true, true, true, true, false, false, false, false] rfl rfl (any_of HT_.out Z0) (fun _ _ _ h => h) (Or.inr ⟨by rfl, rfl⟩) ?_ ?_
     rotate_left
     ·simp only [Act.put, List.setIfInBounds_toArray, List.set_cons_zero, List.set_cons_succ, i64_w, i32_w]
      rfl
     refine pure_ (i := 18) (N := some 63) (v := undef) (a' := ?_) #[true, true, true, true, true, true, true, true, true, true, true, true, true, true, true, true, true, true, true, false, false, false] rfl rfl (any_of HT_.out Z0) (fun _ _ _ h => h) (Or.inr ⟨by rfl, rfl⟩) ?_ ?_
     rotate_left
     ·simp only [Act.put, List.setIfInBounds_toArray, List.set_cons_zero, List.set_cons_succ, i64_w, i32_w]
      rfl
     refine pure_ (i := 19) (N := some 64) (v := undef) (a' := ?_) #[true, true, true, true, true, true, true, true, true, true, true, true, true, true, true, true, true, true, true, true, false, false] rfl rfl (any_of HT_.out Z0) (fun _ _ _ h => h) (Or.inr ⟨by rfl, rfl⟩) ?_ ?_
     rotate_left
     ·simp only [Act.put, List.setIfInBounds_toArray, List.set_cons_zero, List.set_cons_succ, i64_w, i32_w]
      rfl
     refine pure_ (i := 20) (N := some 65) (v := ?_) (a' := ?_) #[true, true, true, true, true, true, true, true, true, true, true, true, true, true, true, true, true, true, true, true, true, false] rfl rfl (any_of HT_.out Z0) (fun _ _ _ h => h) (Or.inl ⟨by rfl, ?_⟩) ?_ ?_
     rotate_left
     ·intro w'
      go_simp
      with_reducible rfl
     rotate_left
     ·simp only [Act.put, List.setIfInBounds_toArray, List.set_cons_zero, List.set_cons_succ, i64_w, i32_w]
      rfl
     refine pure_ (i := 21) (N := some 2) (v := ?_) (a' := ?_) #[true, true, true, true, true, true, true, true, true, true, true, true, true, true, true, true, true, true, true, true, true, true] rfl rfl (any_of HT_.out Z0) (fun _ _ _ h => h) (Or.inl ⟨by rfl, ?_⟩) ?_ ?_
     rotate_left
     ·intro w'
      go_simp
      with_reducible rfl
     rotate_left
     ·simp only [Act.put, List.setIfInBounds_toArray, List.set_cons_zero, List.set_cons_succ, i64_w, i32_w]
      rfl
     refine done_ (done_of HT_.out Z0) ?_
     try go_wp2
     go_ret
     exact ⟨Z7, Z47⟩
   ·replace c21 := Bool.eq_false_iff.mpr c21
    subst c21
    have H1 : (some (t466 == 0 && (t467.toList == ([] : List UInt8) && (t468 == 0 && (!t469 && (t470 == 0)))))) = some r := by rw [if_neg (show ¬ (false = true) by decide)] at H; exact H
    clear H
    have H := H1
    clear H1
    obtain rfl := Option.some.inj H
    go_enter Try.func8, Try.ntmps8
    go_wp2_with (first | ((with_reducible refine gate_callee (f := 13) rfl ?_); refine goesL_ (some 12) rfl rfl Try.func13 Z0 rfl #[.slice A0 l0.length c0] rfl Z9 ?_; (with_reducible refine (laws_big.calls _ _ l0 false _ ?side1 ?side2 A2.out).mono ?_); (case side1 => exact (Z36 HR0)); (case side2 => exact HC0.out); rintro e w' ⟨rfl, ⟨nd, rfl⟩⟩; refine ⟨_, rfl, ?_⟩) | ((with_reducible refine gate_callee (f := 42) rfl ?_); refine goesL_ (some 15) rfl rfl Try.func42 Z0 rfl #[.slice A0 l0.length c0] rfl Z9 ?_; (with_reducible refine (spec_DrawRecolor.calls k _ _ l0 t459 t460 t461 t462 t463 t464 _ ?side1 ?side2 A4.out).mono ?_); (case side1 => exact (Z36 HR0)); (case side2 => exact HC0.out); rintro e w128 ⟨rfl, hb⟩; refine ⟨_, rfl, ?_⟩; replace HB := Z (below_step Z47 hb); (try clear hb); (try clear hb2); (try clear hk); (try clear hi)) | ((with_reducible refine gate_dst (N := 3) rfl ?_); (try (refine gate_guard (by rfl) ?_; dsimp only)); refine box_event (by rfl) (N := 3) (by rfl) (cs := #[.int .i64 0, .string (⟨#[]⟩ : ByteArray), .int .i32 0, .bool false, .int .u32 0]) (t := 51) Z5 ?_; intro gb465 hg w129 hbox hb; have BK465 := Z (hbox); have GW465 := Z ((Z66 : w.heap.size ≤ gb465)); have GE465 := Z ((Z66 : w.heap.size ≤ gb465)); replace HB := Z (below_step Z47 hb); clear hb hbox hg; have hcz130_0 : w129.cell? ⟨gb465, 0, none⟩ = some (.int .i64 0) := (blk_cell BK465.out 0).trans rfl; have hcz130_1 : w129.cell? ⟨gb465, 1, none⟩ = some (.string (⟨#[]⟩ : ByteArray)) := (blk_cell BK465.out 1).trans rfl; have hcz130_2 : w129.cell? ⟨gb465, 2, none⟩ = some (.int .i32 0) := (blk_cell BK465.out 2).trans rfl; have hcz130_3 : w129.cell? ⟨gb465, 3, none⟩ = some (.bool false) := (blk_cell BK465.out 3).trans rfl; have hcz130_4 : w129.cell? ⟨gb465, 4, none⟩ = some (.int .u32 0) := (blk_cell BK465.out 4).trans rfl; have hfz130_0 := blk_frozen BK465.out 0; have hfz130_1 := blk_frozen BK465.out 1; have hfz130_2 := blk_frozen BK465.out 2; have hfz130_3 := blk_frozen BK465.out 3; have hfz130_4 := blk_frozen BK465.out 4) | ((with_reducible refine gate_callee (f := 36) rfl ?_); refine goesL_ (some 21) rfl rfl Try.func36 Z0 rfl #[.agg #[.int .i64 t459, .string t460, .int .i32 t461, .bool t462, .int .u32 t463], .int .i64 t464] rfl Z9 ?_; (with_reducible refine (impl_Recolor.calls k t459 t460 t461 t462 t463 t464 t466 t467 t468 t469 t470 false _ A5.out).mono ?_); rintro e w131 ⟨rfl, hb⟩; refine ⟨_, rfl, ?_⟩; replace BK465 := Z (blk_below (g := gb465) (o := .cells #[.int .i64 t459, .string t460, .int .i32 t461, .bool t462, .int .u32 t463] 51 (0, 0)) (Z37 BK465) hb); replace HB := Z (below_step Z47 hb); (try clear hb); (try clear hb2); (try clear hk); (try clear hi)) | ((with_reducible refine gate_dst (N := 5) rfl ?_); (try (refine gate_guard (by rfl) ?_; dsimp only)); refine box_event (by rfl) (N := 5) (by rfl) (cs := #[.int .i64 0, .string (⟨#[]⟩ : ByteArray), .int .i32 0, .bool false, .int .u32 0]) (t := 51) Z5 ?_; intro gb472 hg w132 hbox hb; have BK472 := Z (hbox); have GW472 := Z ((Z66 : w.heap.size ≤ gb472)); have GE472 := Z ((Z66 : w.heap.size ≤ gb472)); replace HB := Z (below_step Z47 hb); have NB465_472 := Z ((Z60 : gb465 ≠ gb472)); have NB472_465 := Z ((Z61 : gb472 ≠ gb465)); replace BK465 := Z (blk_below (g := gb465) (o := .cells #[.int .i64 t459, .string t460, .int .i32 t461, .bool t462, .int .u32 t463] 51 (0, 0)) (Z13 BK465) hb); clear hb hbox hg; have hnb133 := NB472_465.out; have hnc133 := NB465_472.out; have hcz134_0 : w132.cell? ⟨gb472, 0, none⟩ = some (.int .i64 0) := (blk_cell BK472.out 0).trans rfl; have hcz134_1 : w132.cell? ⟨gb472, 1, none⟩ = some (.string (⟨#[]⟩ : ByteArray)) := (blk_cell BK472.out 1).trans rfl; have hcz134_2 : w132.cell? ⟨gb472, 2, none⟩ = some (.int .i32 0) := (blk_cell BK472.out 2).trans rfl; have hcz134_3 : w132.cell? ⟨gb472, 3, none⟩ = some (.bool false) := (blk_cell BK472.out 3).trans rfl; have hcz134_4 : w132.cell? ⟨gb472, 4, none⟩ = some (.int .u32 0) := (blk_cell BK472.out 4).trans rfl; have hfz134_0 := blk_frozen BK472.out 0; have hfz134_1 := blk_frozen BK472.out 1; have hfz134_2 := blk_frozen BK472.out 2; have hfz134_3 := blk_frozen BK472.out 3; have hfz134_4 := blk_frozen BK472.out 4; have hcz135_0 : w132.cell? ⟨gb465, 0, none⟩ = some (.int .i64 t459) := (blk_cell BK465.out 0).trans rfl; have hcz135_1 : w132.cell? ⟨gb465, 1, none⟩ = some (.string t460) := (blk_cell BK465.out 1).trans rfl; have hcz135_2 : w132.cell? ⟨gb465, 2, none⟩ = some (.int .i32 t461) := (blk_cell BK465.out 2).trans rfl; have hcz135_3 : w132.cell? ⟨gb465, 3, none⟩ = some (.bool t462) := (blk_cell BK465.out 3).trans rfl; have hcz135_4 : w132.cell? ⟨gb465, 4, none⟩ = some (.int .u32 t463) := (blk_cell BK465.out 4).trans rfl; have hfz135_0 := blk_frozen BK465.out 0; have hfz135_1 := blk_frozen BK465.out 1; have hfz135_2 := blk_frozen BK465.out 2; have hfz135_3 := blk_frozen BK465.out 3; have hfz135_4 := blk_frozen BK465.out 4) | ((with_reducible refine gate_callee (f := 34) rfl ?_); refine goesL_ (some 27) rfl rfl Try.func34 Z0 rfl #[.agg #[.int .i64 t459, .string t460, .int .i32 t461, .bool t462, .int .u32 t463], .int .i64 t464] rfl Z9 ?_; (with_reducible refine (spec_Recolor.calls k t459 t460 t461 t462 t463 t464 t473 t474 t475 t476 t477 t478 _ A6.out).mono ?_); rintro e w136 ⟨rfl, hb⟩; refine ⟨_, rfl, ?_⟩; replace BK465 := Z (blk_below (g := gb465) (o := .cells #[.int .i64 t459, .string t460, .int .i32 t461, .bool t462, .int .u32 t463] 51 (0, 0)) (Z38 BK465) hb); replace BK472 := Z (blk_below (g := gb472) (o := .cells #[.int .i64 t466, .string t467, .int .i32 t468, .bool t469, .int .u32 t470] 51 (0, 0)) (Z39 BK472) hb); replace HB := Z (below_step Z47 hb); (try clear hb); (try clear hb2); (try clear hk); (try clear hi)) | ((with_reducible refine gate_dst (N := 7) rfl ?_); (try (refine gate_guard (by rfl) ?_; dsimp only)); refine box_event (by rfl) (N := 7) (by rfl) (cs := #[.int .i64 0, .string (⟨#[]⟩ : ByteArray), .int .i32 0, .bool false, .int .u32 0]) (t := 51) Z5 ?_; intro gb479 hg w137 hbox hb; have BK479 := Z (hbox); have GW479 := Z ((Z66 : w.heap.size ≤ gb479)); have GE479 := Z ((Z66 : w.heap.size ≤ gb479)); replace HB := Z (below_step Z47 hb); have NB465_479 := Z ((Z60 : gb465 ≠ gb479)); have NB479_465 := Z ((Z61 : gb479 ≠ gb465)); replace BK465 := Z (blk_below (g := gb465) (o := .cells #[.int .i64 t459, .string t460, .int .i32 t461, .bool t462, .int .u32 t463] 51 (0, 0)) (Z13 BK465) hb); have NB472_479 := Z ((Z62 : gb472 ≠ gb479)); have NB479_472 := Z ((Z63 : gb479 ≠ gb472)); replace BK472 := Z (blk_below (g := gb472) (o := .cells #[.int .i64 t466, .string t467, .int .i32 t468, .bool t469, .int .u32 t470] 51 (0, 0)) (Z13 BK472) hb); clear hb hbox hg; have hnb138 := NB479_465.out; have hnc138 := NB465_479.out; have hnb139 := NB479_472.out; have hnc139 := NB472_479.out; have hcz140_0 : w137.cell? ⟨gb479, 0, none⟩ = some (.int .i64 0) := (blk_cell BK479.out 0).trans rfl; have hcz140_1 : w137.cell? ⟨gb479, 1, none⟩ = some (.string (⟨#[]⟩ : ByteArray)) := (blk_cell BK479.out 1).trans rfl; have hcz140_2 : w137.cell? ⟨gb479, 2, none⟩ = some (.int .i32 0) := (blk_cell BK479.out 2).trans rfl; have hcz140_3 : w137.cell? ⟨gb479, 3, none⟩ = some (.bool false) := (blk_cell BK479.out 3).trans rfl; have hcz140_4 : w137.cell? ⟨gb479, 4, none⟩ = some (.int .u32 0) := (blk_cell BK479.out 4).trans rfl; have hfz140_0 := blk_frozen BK479.out 0; have hfz140_1 := blk_frozen BK479.out 1; have hfz140_2 := blk_frozen BK479.out 2; have hfz140_3 := blk_frozen BK479.out 3; have hfz140_4 := blk_frozen BK479.out 4; have hcz141_0 : w137.cell? ⟨gb472, 0, none⟩ = some (.int .i64 t466) := (blk_cell BK472.out 0).trans rfl; have hcz141_1 : w137.cell? ⟨gb472, 1, none⟩ = some (.string t467) := (blk_cell BK472.out 1).trans rfl; have hcz141_2 : w137.cell? ⟨gb472, 2, none⟩ = some (.int .i32 t468) := (blk_cell BK472.out 2).trans rfl; have hcz141_3 : w137.cell? ⟨gb472, 3, none⟩ = some (.bool t469) := (blk_cell BK472.out 3).trans rfl; have hcz141_4 : w137.cell? ⟨gb472, 4, none⟩ = some (.int .u32 t470) := (blk_cell BK472.out 4).trans rfl; have hfz141_0 := blk_frozen BK472.out 0; have hfz141_1 := blk_frozen BK472.out 1; have hfz141_2 := blk_frozen BK472.out 2; have hfz141_3 := blk_frozen BK472.out 3; have hfz141_4 := blk_frozen BK472.out 4))
    go_ret
    exact ⟨Z7, Z47⟩

/-- THE ONE PURE STATEMENT of laws_FnColor: yours. -/
def laws_FnColor.Pure : Prop := ∀ (l0 : List Int), l0.length ≤ maxLen → l0.length * 1 ≤ 140737488351232 → (∀ x ∈ l0, (Lit.int .u8 x).wf = true) → ∃ k, laws_FnColor.f k l0 = some true
theorem laws_FnColor.walk (P : laws_FnColor.Pure) (a0 : Option Addr) (len0 cap0 : Nat) (z0 : List Int) (w : World) (w0 : (a0 = none ∧ len0 = 0 ∧ cap0 = 0 ∧ z0 = []) ∨ ∃ x, a0 = some x ∧ len0 ≤ cap0 ∧ cap0 ≤ maxLen ∧ z0.length = cap0 ∧ (∀ i, i < z0.length → w.cell? (x.add i) = some (.int .u8 (z0.getD i 0))) ∧ ∀ n ∈ z0, (Lit.int .u8 n).wf = true) (y0 : len0 * 1 ≤ 140737488351232) :
  Calls Try.prog 8 #[.slice a0 len0 cap0] w fun e w' => e = .returned (.bool true) ∧ Below w.heap.size w w' := by
 obtain ⟨l0, rfl, hr0, hm0, hw0, hc0⟩ := ReadsInt.ofRowC w0
 obtain ⟨k, h⟩ := P l0 hm0 y0 hw0
 refine (laws_FnColor.calls k _ _ l0 true w (Kd.C_of_reads (d := (0 : Int)) (h1 := fun _ => rfl) hr0) hc0 h).mono ?_
 rintro e w' ⟨rfl, hd⟩
 exact ⟨rfl, hd⟩

end Go.Proofs.Ytkkiibjnpkjijaa.QFnColor
