/-
Plain functions for the Go functions that a law reaches, each with a proof that the translation's call comes to just that; no conditions beyond those written in each.
-/
import Derived.Test.YtkkiibjnpkjijaaSFnColor
import Derived.Test.YtkkiibjnpkjijaaQFnColorx2
import Derived.Test.YtkkiibjnpkjijaaQFnColorx3
namespace Go.Proofs.Ytkkiibjnpkjijaa.QFnColor
open Go.RowKit Go.Proofs.YtkkiibjnpkjijaaW.PrintWords Go.Proofs.YtkkiibjnpkjijaaW.PrintLast Go.Proofs.YtkkiibjnpkjijaaW.PrintMore
attribute [local go_sem] max2_int min2_int max_two min_two max_three min_three max_four min_four   -- for this text's walks alone
set_option linter.unusedVariables false
set_option linter.unusedSimpArgs false

/-! ### spec_ItemOk: function 69 -/
def spec_ItemOk.f (k : Nat) (a0_0 : Int) (a0_1 : ByteArray) (a0_2 : Int) (a0_3 : Bool) (a0_4 : Int) : Option (Bool) := (spec_CellsOf.f k a0_0 a0_1 a0_2 a0_3 a0_4).bind fun t202 => (some (decide ((t202.length : Int) > 0)))
theorem spec_ItemOk.mono : ∀ a0 a1 a2 a3 a4 k, LeO (spec_ItemOk.f k a0 a1 a2 a3 a4) (spec_ItemOk.f (k + 1) a0 a1 a2 a3 a4) := by
 intro a0 a1 a2 a3 a4 k
 unfold spec_ItemOk.f
 repeat' first
   | (with_reducible exact spec_CellsOf.mono _ _ _ _ _ _)
   | (with_reducible exact LeO.refl _)
   | (with_reducible exact LeO.none _)
   | (with_reducible refine LeO.ite ?_ ?_)
   | (with_reducible refine LeO.bind ?_ (fun _ => ?_))
   | exact spec_CellsOf.mono _ _ _ _ _ _
   | exact LeO.none _
   | refine LeO.ite ?_ ?_
   | refine LeO.bind ?_ (fun _ => ?_)
set_option maxHeartbeats 8000000 in
set_option maxRecDepth 100000 in
theorem spec_ItemOk.calls (k : Nat) (a0_0 : Int) (a0_1 : ByteArray) (a0_2 : Int) (a0_3 : Bool) (a0_4 : Int) (r : Bool) (w : World) (h : spec_ItemOk.f k a0_0 a0_1 a0_2 a0_3 a0_4 = some r) :
  Calls Try.prog 69 #[.agg #[.int .i64 a0_0, .string a0_1, .int .i32 a0_2, .bool a0_3, .int .u32 a0_4]] w fun e w' => e = .returned (.bool r) ∧ Below w.heap.size w w' := by
 have hu51 := Try.underlying51
 have HB := Z (Below.refl w.heap.size w)
 have H : ((spec_CellsOf.f k a0_0 a0_1 a0_2 a0_3 a0_4).bind fun t202 => (some (decide ((t202.length : Int) > 0)))) = some r := h
 clear h
 replace H := Option.bind_eq_some_iff.mp H
 obtain ⟨t202, A20, H⟩ := H
 replace H : (some (decide ((t202.length : Int) > 0))) = some r := H
 have A2 := Aside0.mk A20
 clear A20
 obtain rfl := Option.some.inj H
 go_enter Try.func69, Try.ntmps69
 go_wp2_with (first | ((with_reducible refine gate_dst (N := 1) rfl ?_); refine box_event (by rfl) (N := 1) (by rfl) (cs := #[.int .i64 a0_0, .string a0_1, .int .i32 a0_2, .bool a0_3, .int .u32 a0_4]) (t := 51) Z5 ?_; intro gb201 hg w3 hbox hb; have BK201 := Z (hbox); have GW201 := Z ((Z66 : w.heap.size ≤ gb201)); have GE201 := Z ((Z66 : w.heap.size ≤ gb201)); replace HB := Z (below_step Z47 hb); clear hb hbox hg; have hcz4_0 : w3.cell? ⟨gb201, 0, none⟩ = some (.int .i64 a0_0) := (blk_cell BK201.out 0).trans rfl; have hcz4_1 : w3.cell? ⟨gb201, 1, none⟩ = some (.string a0_1) := (blk_cell BK201.out 1).trans rfl; have hcz4_2 : w3.cell? ⟨gb201, 2, none⟩ = some (.int .i32 a0_2) := (blk_cell BK201.out 2).trans rfl; have hcz4_3 : w3.cell? ⟨gb201, 3, none⟩ = some (.bool a0_3) := (blk_cell BK201.out 3).trans rfl; have hcz4_4 : w3.cell? ⟨gb201, 4, none⟩ = some (.int .u32 a0_4) := (blk_cell BK201.out 4).trans rfl; have hfz4_0 := blk_frozen BK201.out 0; have hfz4_1 := blk_frozen BK201.out 1; have hfz4_2 := blk_frozen BK201.out 2; have hfz4_3 := blk_frozen BK201.out 3; have hfz4_4 := blk_frozen BK201.out 4) | ((with_reducible refine gate_callee (f := 83) rfl ?_); refine goesL_ (some 4) rfl rfl Try.func83 Z0 rfl #[.agg #[.int .i64 a0_0, .string a0_1, .int .i32 a0_2, .bool a0_3, .int .u32 a0_4]] rfl Z9 ?_; (with_reducible refine (spec_CellsOf.calls k a0_0 a0_1 a0_2 a0_3 a0_4 t202 _ A2.out).mono ?_); rintro e w5 ⟨v203, rfl, ho0, hb⟩; refine ⟨_, rfl, ?_⟩; have HO204 := Z (Kd.R_lower ho0 (below_size Z47)); replace BK201 := Z (blk_below (g := gb201) (o := .cells #[.int .i64 a0_0, .string a0_1, .int .i32 a0_2, .bool a0_3, .int .u32 a0_4] 51 (0, 0)) (Z13 BK201) hb); replace HB := Z (below_step Z47 hb); (try clear hb); (try clear hb2); (try clear hk); (try clear hi); (try clear ho0); obtain ⟨Ao6, co6, eo6⟩ := Kd.R_slice HO204.out; subst eo6))
 go_ret
 exact ⟨Z7, Z47⟩

/-! ### spec_Recolor: function 34 -/
def spec_Recolor.j0 : Nat → Int → Bool → Int → ByteArray → Int → Bool → Int → Option (Int × ByteArray × Int × Bool × Int × Bool)
 | 0, _, _, _, _, _, _, _ => none
 | k + 1, x1, x6, x206000, x206001, x206002, x206003, x206004 => (spec_l01In.f x206000 7 8).bind fun t209 => (if t209 = true then ((spec_l01In.f x1 7 8).bind fun t210 => ((spec_ItemOk.f k x206000 x206001 x206002 x206003 x206004).bind fun t211 => (if t211 = true then (if x6 = true then (some (x1, x206001, x206002, x206003, x206004, true)) else (if t210 = true then (some (x1, x206001, x206002, x206003, x206004, true)) else (if x206000 = x1 then (some (x1, x206001, x206002, x206003, x206004, true)) else (some (0, (⟨#[]⟩ : ByteArray), 0, false, 0, false))))) else (some (0, (⟨#[]⟩ : ByteArray), 0, false, 0, false))))) else ((spec_ItemOk.f k x206000 x206001 x206002 x206003 x206004).bind fun t212 => (if t212 = true then (if x6 = true then (some (x1, x206001, x206002, x206003, x206004, true)) else (if x206000 = x1 then (some (x1, x206001, x206002, x206003, x206004, true)) else (some (0, (⟨#[]⟩ : ByteArray), 0, false, 0, false)))) else (some (0, (⟨#[]⟩ : ByteArray), 0, false, 0, false)))))
def spec_Recolor.f (k : Nat) (a0_0 : Int) (a0_1 : ByteArray) (a0_2 : Int) (a0_3 : Bool) (a0_4 : Int) (a1 : Int) : Option (Int × ByteArray × Int × Bool × Int × Bool) := (spec_l01In.f a0_0 1 6).bind fun t207 => (if t207 = true then ((spec_l01In.f a1 1 6).bind fun t208 => (spec_Recolor.j0 k a1 t208 a0_0 a0_1 a0_2 a0_3 a0_4)) else (spec_Recolor.j0 k a1 false a0_0 a0_1 a0_2 a0_3 a0_4))
theorem spec_Recolor.mono_l : ∀ k, (∀ y0 y1 y2 y3 y4 y5 y6, LeO (spec_Recolor.j0 k y0 y1 y2 y3 y4 y5 y6) (spec_Recolor.j0 (k + 1) y0 y1 y2 y3 y4 y5 y6))
 | 0 => fun _ _ _ _ _ _ _ r h => by simp [spec_Recolor.j0] at h
 | k + 1 => by
  have ih0 := spec_Recolor.mono_l k
  ·intro y0 y1 y2 y3 y4 y5 y6
   unfold spec_Recolor.j0
   repeat' first
   | (with_reducible exact ih0 _ _ _ _ _ _ _)
   | (with_reducible exact spec_ItemOk.mono _ _ _ _ _ _)
   | (with_reducible exact LeO.refl _)
   | (with_reducible exact LeO.none _)
   | (with_reducible refine LeO.ite ?_ ?_)
   | (with_reducible refine LeO.bind ?_ (fun _ => ?_))
   | exact ih0 _ _ _ _ _ _ _
   | exact spec_ItemOk.mono _ _ _ _ _ _
   | exact LeO.none _
   | refine LeO.ite ?_ ?_
   | refine LeO.bind ?_ (fun _ => ?_)
theorem spec_Recolor.mono : ∀ a0 a1 a2 a3 a4 a5 k, LeO (spec_Recolor.f k a0 a1 a2 a3 a4 a5) (spec_Recolor.f (k + 1) a0 a1 a2 a3 a4 a5) := by
 intro a0 a1 a2 a3 a4 a5 k
 have ih0 := spec_Recolor.mono_l k
 unfold spec_Recolor.f
 repeat' first
   | (with_reducible exact ih0 _ _ _ _ _ _ _)
   | (with_reducible exact spec_ItemOk.mono _ _ _ _ _ _)
   | (with_reducible exact LeO.refl _)
   | (with_reducible exact LeO.none _)
   | (with_reducible refine LeO.ite ?_ ?_)
   | (with_reducible refine LeO.bind ?_ (fun _ => ?_))
   | exact ih0 _ _ _ _ _ _ _
   | exact spec_ItemOk.mono _ _ _ _ _ _
   | exact LeO.none _
   | refine LeO.ite ?_ ?_
   | refine LeO.bind ?_ (fun _ => ?_)
set_option maxHeartbeats 8000000 in
set_option maxRecDepth 100000 in
theorem spec_Recolor.calls (k : Nat) (a0_0 : Int) (a0_1 : ByteArray) (a0_2 : Int) (a0_3 : Bool) (a0_4 : Int) (a1 : Int) (r1 : Int) (r2 : ByteArray) (r3 : Int) (r4 : Bool) (r5 : Int) (r6 : Bool) (w : World) (h : spec_Recolor.f k a0_0 a0_1 a0_2 a0_3 a0_4 a1 = some (r1, r2, r3, r4, r5, r6)) :
  Calls Try.prog 34 #[.agg #[.int .i64 a0_0, .string a0_1, .int .i32 a0_2, .bool a0_3, .int .u32 a0_4], .int .i64 a1] w fun e w' => e = .returned (.tuple #[.agg #[.int .i64 r1, .string r2, .int .i32 r3, .bool r4, .int .u32 r5], .bool r6]) ∧ Below w.heap.size w w' := by
 have hu51 := Try.underlying51
 have HB := Z (Below.refl w.heap.size w)
 have H : ((spec_l01In.f a0_0 1 6).bind fun t207 => (if t207 = true then ((spec_l01In.f a1 1 6).bind fun t208 => (spec_Recolor.j0 k a1 t208 a0_0 a0_1 a0_2 a0_3 a0_4)) else (spec_Recolor.j0 k a1 false a0_0 a0_1 a0_2 a0_3 a0_4))) = some (r1, r2, r3, r4, r5, r6) := h
 clear h
 have HC3 := Aside0.mk H
 clear H
 go_enter Try.func34, Try.ntmps34
 go_upto_region 1 with (first | ((with_reducible refine gate_dst (N := 2) rfl ?_); refine box_event (by rfl) (N := 2) (by rfl) (cs := #[.int .i64 a0_0, .string a0_1, .int .i32 a0_2, .bool a0_3, .int .u32 a0_4]) (t := 51) Z5 ?_; intro gb205 hg w4 hbox hb; have BK205 := Z (hbox); have GW205 := Z ((Z66 : w.heap.size ≤ gb205)); have GE205 := Z ((Z66 : w.heap.size ≤ gb205)); replace HB := Z (below_step Z47 hb); clear hb hbox hg) | ((with_reducible refine gate_dst (N := 4) rfl ?_); refine box_event (by rfl) (N := 4) (by rfl) (cs := #[.int .i64 0, .string (⟨#[]⟩ : ByteArray), .int .i32 0, .bool false, .int .u32 0]) (t := 51) Z5 ?_; intro gb206 hg w5 hbox hb; have BK206 := Z (hbox); have GW206 := Z ((Z66 : w.heap.size ≤ gb206)); have GE206 := Z ((Z66 : w.heap.size ≤ gb206)); replace HB := Z (below_step Z47 hb); have NB205_206 := Z ((by rw [hg]; exact Nat.ne_of_lt (blk_lt (g := gb205) (o := .cells #[.int .i64 a0_0, .string a0_1, .int .i32 a0_2, .bool a0_3, .int .u32 a0_4] 51 (0, 0)) (Z13 BK205)) : gb205 ≠ gb206)); have NB206_205 := Z ((by rw [hg]; exact Nat.ne_of_gt (blk_lt (g := gb205) (o := .cells #[.int .i64 a0_0, .string a0_1, .int .i32 a0_2, .bool a0_3, .int .u32 a0_4] 51 (0, 0)) (Z13 BK205)) : gb206 ≠ gb205)); replace BK205 := Z (blk_below (g := gb205) (o := .cells #[.int .i64 a0_0, .string a0_1, .int .i32 a0_2, .bool a0_3, .int .u32 a0_4] 51 (0, 0)) (Z13 BK205) hb); clear hb hbox hg))
 (try simp only [Act.put, List.setIfInBounds_toArray, List.set_cons_zero, List.set_cons_succ])
 go_cut [6] (fun v6 wc => ∃ (kq : Nat) (x6_2 : Bool), v6 = .bool x6_2 ∧ Aside0 (spec_Recolor.j0 kq a1 x6_2 a0_0 a0_1 a0_2 a0_3 a0_4 = some (r1, r2, r3, r4, r5, r6)) ∧ Aside0 (kq ≤ k) ∧ Aside0 (wc.heap[gb205]? = some (.cells #[.int .i64 a0_0, .string a0_1, .int .i32 a0_2, .bool a0_3, .int .u32 a0_4] 51 (0, 0))) ∧ Aside0 (wc.heap[gb206]? = some (.cells #[.int .i64 0, .string (⟨#[]⟩ : ByteArray), .int .i32 0, .bool false, .int .u32 0] 51 (0, 0))) ∧ Aside0 (Below w.heap.size w wc))
 case first =>
  have H := HC3.out
  clear HC3
  replace H := Option.bind_eq_some_iff.mp H
  obtain ⟨t207, A60, H⟩ := H
  replace H : (if t207 = true then ((spec_l01In.f a1 1 6).bind fun t208 => (spec_Recolor.j0 k a1 t208 a0_0 a0_1 a0_2 a0_3 a0_4)) else (spec_Recolor.j0 k a1 false a0_0 a0_1 a0_2 a0_3 a0_4)) = some (r1, r2, r3, r4, r5, r6) := H
  have A6 := Aside0.mk A60
  clear A60
  by_cases c7 : t207 = true
  ·subst c7
   have H1 : ((spec_l01In.f a1 1 6).bind fun t208 => (spec_Recolor.j0 k a1 t208 a0_0 a0_1 a0_2 a0_3 a0_4)) = some (r1, r2, r3, r4, r5, r6) := Z4
   clear H
   have H := H1
   clear H1
   replace H := Option.bind_eq_some_iff.mp H
   obtain ⟨t208, A80, H⟩ := H
   replace H : (spec_Recolor.j0 k a1 t208 a0_0 a0_1 a0_2 a0_3 a0_4) = some (r1, r2, r3, r4, r5, r6) := H
   have A8 := Aside0.mk A80
   clear A80
   have H' := Aside0.mk H
   clear H
   have hnb9 := NB205_206.out
   have hnc9 := NB206_205.out
   have hcz10_0 : w5.cell? ⟨gb205, 0, none⟩ = some (.int .i64 a0_0) := (blk_cell BK205.out 0).trans rfl
   have hcz10_1 : w5.cell? ⟨gb205, 1, none⟩ = some (.string a0_1) := (blk_cell BK205.out 1).trans rfl
   have hcz10_2 : w5.cell? ⟨gb205, 2, none⟩ = some (.int .i32 a0_2) := (blk_cell BK205.out 2).trans rfl
   have hcz10_3 : w5.cell? ⟨gb205, 3, none⟩ = some (.bool a0_3) := (blk_cell BK205.out 3).trans rfl
   have hcz10_4 : w5.cell? ⟨gb205, 4, none⟩ = some (.int .u32 a0_4) := (blk_cell BK205.out 4).trans rfl
   have hfz10_0 := blk_frozen BK205.out 0
   have hfz10_1 := blk_frozen BK205.out 1
   have hfz10_2 := blk_frozen BK205.out 2
   have hfz10_3 := blk_frozen BK205.out 3
   have hfz10_4 := blk_frozen BK205.out 4
   go_wp2_with (first | ((with_reducible refine gate_callee (f := 68) rfl ?_); refine goesL_ (some 10) rfl rfl Try.func68 Z0 rfl #[.int .i64 a0_0, .int .i64 1, .int .i64 6] rfl Z9 ?_; (with_reducible refine (spec_l01In.calls a0_0 1 6 true _ A6.out).mono ?_); rintro e w' ⟨rfl, ⟨nd, rfl⟩⟩; refine ⟨_, rfl, ?_⟩) | (go_at_call 68; (with_reducible refine (spec_l01In.calls a1 1 6 t208 _ A8.out).mono ?_); rintro e w' ⟨rfl, ⟨nd, rfl⟩⟩))
   go_meet
   case rel => exact ⟨_, (t208), Z2, H', ⟨Z12⟩, ⟨(Z13 BK205)⟩, ⟨(Z13 BK206)⟩, ⟨Z47⟩⟩
  ·replace c7 := Bool.eq_false_iff.mpr c7
   subst c7
   have H1 : (spec_Recolor.j0 k a1 false a0_0 a0_1 a0_2 a0_3 a0_4) = some (r1, r2, r3, r4, r5, r6) := by rw [if_neg (show ¬ (false = true) by decide)] at H; exact H
   clear H
   have H := H1
   clear H1
   have H' := Aside0.mk H
   clear H
   have hnb11 := NB205_206.out
   have hnc11 := NB206_205.out
   have hcz12_0 : w5.cell? ⟨gb205, 0, none⟩ = some (.int .i64 a0_0) := (blk_cell BK205.out 0).trans rfl
   have hcz12_1 : w5.cell? ⟨gb205, 1, none⟩ = some (.string a0_1) := (blk_cell BK205.out 1).trans rfl
   have hcz12_2 : w5.cell? ⟨gb205, 2, none⟩ = some (.int .i32 a0_2) := (blk_cell BK205.out 2).trans rfl
   have hcz12_3 : w5.cell? ⟨gb205, 3, none⟩ = some (.bool a0_3) := (blk_cell BK205.out 3).trans rfl
   have hcz12_4 : w5.cell? ⟨gb205, 4, none⟩ = some (.int .u32 a0_4) := (blk_cell BK205.out 4).trans rfl
   have hfz12_0 := blk_frozen BK205.out 0
   have hfz12_1 := blk_frozen BK205.out 1
   have hfz12_2 := blk_frozen BK205.out 2
   have hfz12_3 := blk_frozen BK205.out 3
   have hfz12_4 := blk_frozen BK205.out 4
   go_wp2_with (first | ((with_reducible refine gate_callee (f := 68) rfl ?_); refine goesL_ (some 10) rfl rfl Try.func68 Z0 rfl #[.int .i64 a0_0, .int .i64 1, .int .i64 6] rfl Z9 ?_; (with_reducible refine (spec_l01In.calls a0_0 1 6 false _ A6.out).mono ?_); rintro e w' ⟨rfl, ⟨nd, rfl⟩⟩; refine ⟨_, rfl, ?_⟩))
   go_meet
   case rel => exact ⟨_, (false), Z2, H', ⟨Z12⟩, ⟨(Z13 BK205)⟩, ⟨(Z13 BK206)⟩, ⟨Z47⟩⟩
 case rest =>
  clear HC3
  try clear c1
  try clear p2
  try clear c3
  try clear c6
  try clear c7
  try clear c9
  try clear c11
  try clear hcz10_0
  try clear hcz10_1
  try clear hcz10_2
  try clear hcz10_3
  try clear hcz10_4
  try clear hcz12_0
  try clear hcz12_1
  try clear hcz12_2
  try clear hcz12_3
  try clear hcz12_4
  try clear hfz10_0
  try clear hfz10_1
  try clear hfz10_2
  try clear hfz10_3
  try clear hfz10_4
  try clear hfz12_0
  try clear hfz12_1
  try clear hfz12_2
  try clear hfz12_3
  try clear hfz12_4
  obtain ⟨kq, x6_2, rfl, HA, HJ2, BK205, BK206, HB⟩ := hcut
  cases kq with
  | zero => exact absurd HA.out (by simp [spec_Recolor.j0])
  | succ kj2 =>
   have H := HA.out
   clear HA
   simp only [spec_Recolor.j0] at H
   replace H := Option.bind_eq_some_iff.mp H
   obtain ⟨t209, A130, H⟩ := H
   replace H : (if t209 = true then ((spec_l01In.f a1 7 8).bind fun t210 => ((spec_ItemOk.f kj2 a0_0 a0_1 a0_2 a0_3 a0_4).bind fun t211 => (if t211 = true then (if x6_2 = true then (some (a1, a0_1, a0_2, a0_3, a0_4, true)) else (if t210 = true then (some (a1, a0_1, a0_2, a0_3, a0_4, true)) else (if a0_0 = a1 then (some (a1, a0_1, a0_2, a0_3, a0_4, true)) else (some (0, (⟨#[]⟩ : ByteArray), 0, false, 0, false))))) else (some (0, (⟨#[]⟩ : ByteArray), 0, false, 0, false))))) else ((spec_ItemOk.f kj2 a0_0 a0_1 a0_2 a0_3 a0_4).bind fun t212 => (if t212 = true then (if x6_2 = true then (some (a1, a0_1, a0_2, a0_3, a0_4, true)) else (if a0_0 = a1 then (some (a1, a0_1, a0_2, a0_3, a0_4, true)) else (some (0, (⟨#[]⟩ : ByteArray), 0, false, 0, false)))) else (some (0, (⟨#[]⟩ : ByteArray), 0, false, 0, false))))) = some (r1, r2, r3, r4, r5, r6) := H
   have A13 := Aside0.mk A130
   clear A130
   by_cases c14 : t209 = true
   ·subst c14
    have H1 : ((spec_l01In.f a1 7 8).bind fun t210 => ((spec_ItemOk.f kj2 a0_0 a0_1 a0_2 a0_3 a0_4).bind fun t211 => (if t211 = true then (if x6_2 = true then (some (a1, a0_1, a0_2, a0_3, a0_4, true)) else (if t210 = true then (some (a1, a0_1, a0_2, a0_3, a0_4, true)) else (if a0_0 = a1 then (some (a1, a0_1, a0_2, a0_3, a0_4, true)) else (some (0, (⟨#[]⟩ : ByteArray), 0, false, 0, false))))) else (some (0, (⟨#[]⟩ : ByteArray), 0, false, 0, false))))) = some (r1, r2, r3, r4, r5, r6) := Z4
    clear H
    have H := H1
    clear H1
    replace H := Option.bind_eq_some_iff.mp H
    obtain ⟨t210, A150, H⟩ := H
    replace H : ((spec_ItemOk.f kj2 a0_0 a0_1 a0_2 a0_3 a0_4).bind fun t211 => (if t211 = true then (if x6_2 = true then (some (a1, a0_1, a0_2, a0_3, a0_4, true)) else (if t210 = true then (some (a1, a0_1, a0_2, a0_3, a0_4, true)) else (if a0_0 = a1 then (some (a1, a0_1, a0_2, a0_3, a0_4, true)) else (some (0, (⟨#[]⟩ : ByteArray), 0, false, 0, false))))) else (some (0, (⟨#[]⟩ : ByteArray), 0, false, 0, false)))) = some (r1, r2, r3, r4, r5, r6) := H
    have A15 := Aside0.mk A150
    clear A150
    replace H := Option.bind_eq_some_iff.mp H
    obtain ⟨t211, A160, H⟩ := H
    replace H : (if t211 = true then (if x6_2 = true then (some (a1, a0_1, a0_2, a0_3, a0_4, true)) else (if t210 = true then (some (a1, a0_1, a0_2, a0_3, a0_4, true)) else (if a0_0 = a1 then (some (a1, a0_1, a0_2, a0_3, a0_4, true)) else (some (0, (⟨#[]⟩ : ByteArray), 0, false, 0, false))))) else (some (0, (⟨#[]⟩ : ByteArray), 0, false, 0, false))) = some (r1, r2, r3, r4, r5, r6) := H
    have A16 := Aside0.mk A160
    clear A160
    by_cases c17 : t211 = true
    ·subst c17
     have H1 : (if x6_2 = true then (some (a1, a0_1, a0_2, a0_3, a0_4, true)) else (if t210 = true then (some (a1, a0_1, a0_2, a0_3, a0_4, true)) else (if a0_0 = a1 then (some (a1, a0_1, a0_2, a0_3, a0_4, true)) else (some (0, (⟨#[]⟩ : ByteArray), 0, false, 0, false))))) = some (r1, r2, r3, r4, r5, r6) := Z4
     clear H
     have H := H1
     clear H1
     by_cases c18 : x6_2 = true
     ·subst c18
      have H1 : (some (a1, a0_1, a0_2, a0_3, a0_4, true)) = some (r1, r2, r3, r4, r5, r6) := Z4
      clear H
      have H := H1
      clear H1
      simp only [Option.some.injEq, Prod.mk.injEq] at H
      obtain ⟨rfl, rfl, rfl, rfl, rfl, rfl⟩ := H
      have hnb19 := NB205_206.out
      have hnc19 := NB206_205.out
      have hcz20_0 : wc.cell? ⟨gb205, 0, none⟩ = some (.int .i64 a0_0) := (blk_cell BK205.out 0).trans rfl
      have hcz20_1 : wc.cell? ⟨gb205, 1, none⟩ = some (.string a0_1) := (blk_cell BK205.out 1).trans rfl
      have hcz20_2 : wc.cell? ⟨gb205, 2, none⟩ = some (.int .i32 a0_2) := (blk_cell BK205.out 2).trans rfl
      have hcz20_3 : wc.cell? ⟨gb205, 3, none⟩ = some (.bool a0_3) := (blk_cell BK205.out 3).trans rfl
      have hcz20_4 : wc.cell? ⟨gb205, 4, none⟩ = some (.int .u32 a0_4) := (blk_cell BK205.out 4).trans rfl
      have hfz20_0 := blk_frozen BK205.out 0
      have hfz20_1 := blk_frozen BK205.out 1
      have hfz20_2 := blk_frozen BK205.out 2
      have hfz20_3 := blk_frozen BK205.out 3
      have hfz20_4 := blk_frozen BK205.out 4
      go_wp2_with (first | ((with_reducible refine gate_callee (f := 68) rfl ?_); refine goesL_ (some 17) rfl rfl Try.func68 Z0 rfl #[.int .i64 a0_0, .int .i64 7, .int .i64 8] rfl Z9 ?_; (with_reducible refine (spec_l01In.calls a0_0 7 8 true _ A13.out).mono ?_); rintro e w' ⟨rfl, ⟨nd, rfl⟩⟩; refine ⟨_, rfl, ?_⟩; (try (rw [drewN_self wc]; generalize hq_ : World.drewN wc _ = wc; have n0_ : Aside0 (wc.heap[gb205]? = some (.cells #[.int .i64 a0_0, .string a0_1, .int .i32 a0_2, .bool a0_3, .int .u32 a0_4] 51 (0, 0))) := ⟨Z48⟩; have n1_ : Aside0 (wc.heap[gb206]? = some (.cells #[.int .i64 0, .string (⟨#[]⟩ : ByteArray), .int .i32 0, .bool false, .int .u32 0] 51 (0, 0))) := ⟨Z49⟩; have n2_ : Aside0 (Below w.heap.size w wc) := ⟨Z67⟩; (try replace hcz20_0 := cell_at hq_ hcz20_0); (try replace hfz20_0 : wc.frozen? ⟨gb205, 0, none⟩ = false := by rw [← hq_]; exact hfz20_0); (try replace hcz20_1 := cell_at hq_ hcz20_1); (try replace hfz20_1 : wc.frozen? ⟨gb205, 1, none⟩ = false := by rw [← hq_]; exact hfz20_1); (try replace hcz20_2 := cell_at hq_ hcz20_2); (try replace hfz20_2 : wc.frozen? ⟨gb205, 2, none⟩ = false := by rw [← hq_]; exact hfz20_2); (try replace hcz20_3 := cell_at hq_ hcz20_3); (try replace hfz20_3 : wc.frozen? ⟨gb205, 3, none⟩ = false := by rw [← hq_]; exact hfz20_3); (try replace hcz20_4 := cell_at hq_ hcz20_4); (try replace hfz20_4 : wc.frozen? ⟨gb205, 4, none⟩ = false := by rw [← hq_]; exact hfz20_4); clear BK205 BK206 HB hq_; have BK205 := n0_; have BK206 := n1_; have HB := n2_; clear n0_ n1_ n2_))) | (go_at_call 68; (with_reducible refine (spec_l01In.calls a1 7 8 t210 _ A15.out).mono ?_); rintro e w' ⟨rfl, ⟨nd, rfl⟩⟩; (try (rw [drewN_self wc]; generalize hq_ : World.drewN wc _ = wc; have n0_ : Aside0 (wc.heap[gb205]? = some (.cells #[.int .i64 a0_0, .string a0_1, .int .i32 a0_2, .bool a0_3, .int .u32 a0_4] 51 (0, 0))) := ⟨Z48⟩; have n1_ : Aside0 (wc.heap[gb206]? = some (.cells #[.int .i64 0, .string (⟨#[]⟩ : ByteArray), .int .i32 0, .bool false, .int .u32 0] 51 (0, 0))) := ⟨Z49⟩; have n2_ : Aside0 (Below w.heap.size w wc) := ⟨Z67⟩; (try replace hcz20_0 := cell_at hq_ hcz20_0); (try replace hfz20_0 : wc.frozen? ⟨gb205, 0, none⟩ = false := by rw [← hq_]; exact hfz20_0); (try replace hcz20_1 := cell_at hq_ hcz20_1); (try replace hfz20_1 : wc.frozen? ⟨gb205, 1, none⟩ = false := by rw [← hq_]; exact hfz20_1); (try replace hcz20_2 := cell_at hq_ hcz20_2); (try replace hfz20_2 : wc.frozen? ⟨gb205, 2, none⟩ = false := by rw [← hq_]; exact hfz20_2); (try replace hcz20_3 := cell_at hq_ hcz20_3); (try replace hfz20_3 : wc.frozen? ⟨gb205, 3, none⟩ = false := by rw [← hq_]; exact hfz20_3); (try replace hcz20_4 := cell_at hq_ hcz20_4); (try replace hfz20_4 : wc.frozen? ⟨gb205, 4, none⟩ = false := by rw [← hq_]; exact hfz20_4); clear BK205 BK206 HB hq_; have BK205 := n0_; have BK206 := n1_; have HB := n2_; clear n0_ n1_ n2_))) | ((with_reducible refine gate_callee (f := 69) rfl ?_); refine goesL_ (some 23) rfl rfl Try.func69 Z0 rfl #[.agg #[.int .i64 a0_0, .string a0_1, .int .i32 a0_2, .bool a0_3, .int .u32 a0_4]] rfl Z9 ?_; (with_reducible refine (spec_ItemOk.calls kj2 a0_0 a0_1 a0_2 a0_3 a0_4 true _ A16.out).mono ?_); rintro e w21 ⟨rfl, hb⟩; refine ⟨_, rfl, ?_⟩; replace BK205 := Z (blk_below (g := gb205) (o := .cells #[.int .i64 a0_0, .string a0_1, .int .i32 a0_2, .bool a0_3, .int .u32 a0_4] 51 (0, 0)) (Z13 BK205) hb); replace BK206 := Z (blk_below (g := gb206) (o := .cells #[.int .i64 0, .string (⟨#[]⟩ : ByteArray), .int .i32 0, .bool false, .int .u32 0] 51 (0, 0)) (Z13 BK206) hb); replace HB := Z (below_step Z47 hb); (try clear hb); (try clear hb2); (try clear hk); (try clear hi); have hcz22_0 : w21.cell? ⟨gb205, 0, none⟩ = some (.int .i64 a0_0) := (blk_cell BK205.out 0).trans rfl; have hcz22_1 : w21.cell? ⟨gb205, 1, none⟩ = some (.string a0_1) := (blk_cell BK205.out 1).trans rfl; have hcz22_2 : w21.cell? ⟨gb205, 2, none⟩ = some (.int .i32 a0_2) := (blk_cell BK205.out 2).trans rfl; have hcz22_3 : w21.cell? ⟨gb205, 3, none⟩ = some (.bool a0_3) := (blk_cell BK205.out 3).trans rfl; have hcz22_4 : w21.cell? ⟨gb205, 4, none⟩ = some (.int .u32 a0_4) := (blk_cell BK205.out 4).trans rfl; have hfz22_0 := blk_frozen BK205.out 0; have hfz22_1 := blk_frozen BK205.out 1; have hfz22_2 := blk_frozen BK205.out 2; have hfz22_3 := blk_frozen BK205.out 3; have hfz22_4 := blk_frozen BK205.out 4; have hcz23_0 : w21.cell? ⟨gb206, 0, none⟩ = some (.int .i64 0) := (blk_cell BK206.out 0).trans rfl; have hcz23_1 : w21.cell? ⟨gb206, 1, none⟩ = some (.string (⟨#[]⟩ : ByteArray)) := (blk_cell BK206.out 1).trans rfl; have hcz23_2 : w21.cell? ⟨gb206, 2, none⟩ = some (.int .i32 0) := (blk_cell BK206.out 2).trans rfl; have hcz23_3 : w21.cell? ⟨gb206, 3, none⟩ = some (.bool false) := (blk_cell BK206.out 3).trans rfl; have hcz23_4 : w21.cell? ⟨gb206, 4, none⟩ = some (.int .u32 0) := (blk_cell BK206.out 4).trans rfl; have hfz23_0 := blk_frozen BK206.out 0; have hfz23_1 := blk_frozen BK206.out 1; have hfz23_2 := blk_frozen BK206.out 2; have hfz23_3 := blk_frozen BK206.out 3; have hfz23_4 := blk_frozen BK206.out 4))
      refine bodyPost_ret (results_ct rfl _ _ gb206 51 #[.int .i64 a1, .string a0_1, .int .i32 a0_2, .bool a0_3, .int .u32 a0_4] (0, 0) _ rfl (Z15 BK206) Try.underlying51 rfl Z0) rfl ?_
      exact ⟨Z7, Z47⟩
     ·replace c18 := Bool.eq_false_iff.mpr c18
      subst c18
      have H1 : (if t210 = true then (some (a1, a0_1, a0_2, a0_3, a0_4, true)) else (if a0_0 = a1 then (some (a1, a0_1, a0_2, a0_3, a0_4, true)) else (some (0, (⟨#[]⟩ : ByteArray), 0, false, 0, false)))) = some (r1, r2, r3, r4, r5, r6) := by rw [if_neg (show ¬ (false = true) by decide)] at H; exact H
      clear H
      have H := H1
      clear H1
      by_cases c24 : t210 = true
      ·subst c24
       have H1 : (some (a1, a0_1, a0_2, a0_3, a0_4, true)) = some (r1, r2, r3, r4, r5, r6) := Z4
       clear H
       have H := H1
       clear H1
       simp only [Option.some.injEq, Prod.mk.injEq] at H
       obtain ⟨rfl, rfl, rfl, rfl, rfl, rfl⟩ := H
       have hnb25 := NB205_206.out
       have hnc25 := NB206_205.out
       have hcz26_0 : wc.cell? ⟨gb205, 0, none⟩ = some (.int .i64 a0_0) := (blk_cell BK205.out 0).trans rfl
       have hcz26_1 : wc.cell? ⟨gb205, 1, none⟩ = some (.string a0_1) := (blk_cell BK205.out 1).trans rfl
       have hcz26_2 : wc.cell? ⟨gb205, 2, none⟩ = some (.int .i32 a0_2) := (blk_cell BK205.out 2).trans rfl
       have hcz26_3 : wc.cell? ⟨gb205, 3, none⟩ = some (.bool a0_3) := (blk_cell BK205.out 3).trans rfl
       have hcz26_4 : wc.cell? ⟨gb205, 4, none⟩ = some (.int .u32 a0_4) := (blk_cell BK205.out 4).trans rfl
       have hfz26_0 := blk_frozen BK205.out 0
       have hfz26_1 := blk_frozen BK205.out 1
       have hfz26_2 := blk_frozen BK205.out 2
       have hfz26_3 := blk_frozen BK205.out 3
       have hfz26_4 := blk_frozen BK205.out 4
       go_wp2_with (first | ((with_reducible refine gate_callee (f := 68) rfl ?_); refine goesL_ (some 17) rfl rfl Try.func68 Z0 rfl #[.int .i64 a0_0, .int .i64 7, .int .i64 8] rfl Z9 ?_; (with_reducible refine (spec_l01In.calls a0_0 7 8 true _ A13.out).mono ?_); rintro e w' ⟨rfl, ⟨nd, rfl⟩⟩; refine ⟨_, rfl, ?_⟩; (try (rw [drewN_self wc]; generalize hq_ : World.drewN wc _ = wc; have n0_ : Aside0 (wc.heap[gb205]? = some (.cells #[.int .i64 a0_0, .string a0_1, .int .i32 a0_2, .bool a0_3, .int .u32 a0_4] 51 (0, 0))) := ⟨Z48⟩; have n1_ : Aside0 (wc.heap[gb206]? = some (.cells #[.int .i64 0, .string (⟨#[]⟩ : ByteArray), .int .i32 0, .bool false, .int .u32 0] 51 (0, 0))) := ⟨Z49⟩; have n2_ : Aside0 (Below w.heap.size w wc) := ⟨Z67⟩; (try replace hcz26_0 := cell_at hq_ hcz26_0); (try replace hfz26_0 : wc.frozen? ⟨gb205, 0, none⟩ = false := by rw [← hq_]; exact hfz26_0); (try replace hcz26_1 := cell_at hq_ hcz26_1); (try replace hfz26_1 : wc.frozen? ⟨gb205, 1, none⟩ = false := by rw [← hq_]; exact hfz26_1); (try replace hcz26_2 := cell_at hq_ hcz26_2); (try replace hfz26_2 : wc.frozen? ⟨gb205, 2, none⟩ = false := by rw [← hq_]; exact hfz26_2); (try replace hcz26_3 := cell_at hq_ hcz26_3); (try replace hfz26_3 : wc.frozen? ⟨gb205, 3, none⟩ = false := by rw [← hq_]; exact hfz26_3); (try replace hcz26_4 := cell_at hq_ hcz26_4); (try replace hfz26_4 : wc.frozen? ⟨gb205, 4, none⟩ = false := by rw [← hq_]; exact hfz26_4); clear BK205 BK206 HB hq_; have BK205 := n0_; have BK206 := n1_; have HB := n2_; clear n0_ n1_ n2_))) | (go_at_call 68; (with_reducible refine (spec_l01In.calls a1 7 8 true _ A15.out).mono ?_); rintro e w' ⟨rfl, ⟨nd, rfl⟩⟩; (try (rw [drewN_self wc]; generalize hq_ : World.drewN wc _ = wc; have n0_ : Aside0 (wc.heap[gb205]? = some (.cells #[.int .i64 a0_0, .string a0_1, .int .i32 a0_2, .bool a0_3, .int .u32 a0_4] 51 (0, 0))) := ⟨Z48⟩; have n1_ : Aside0 (wc.heap[gb206]? = some (.cells #[.int .i64 0, .string (⟨#[]⟩ : ByteArray), .int .i32 0, .bool false, .int .u32 0] 51 (0, 0))) := ⟨Z49⟩; have n2_ : Aside0 (Below w.heap.size w wc) := ⟨Z67⟩; (try replace hcz26_0 := cell_at hq_ hcz26_0); (try replace hfz26_0 : wc.frozen? ⟨gb205, 0, none⟩ = false := by rw [← hq_]; exact hfz26_0); (try replace hcz26_1 := cell_at hq_ hcz26_1); (try replace hfz26_1 : wc.frozen? ⟨gb205, 1, none⟩ = false := by rw [← hq_]; exact hfz26_1); (try replace hcz26_2 := cell_at hq_ hcz26_2); (try replace hfz26_2 : wc.frozen? ⟨gb205, 2, none⟩ = false := by rw [← hq_]; exact hfz26_2); (try replace hcz26_3 := cell_at hq_ hcz26_3); (try replace hfz26_3 : wc.frozen? ⟨gb205, 3, none⟩ = false := by rw [← hq_]; exact hfz26_3); (try replace hcz26_4 := cell_at hq_ hcz26_4); (try replace hfz26_4 : wc.frozen? ⟨gb205, 4, none⟩ = false := by rw [← hq_]; exact hfz26_4); clear BK205 BK206 HB hq_; have BK205 := n0_; have BK206 := n1_; have HB := n2_; clear n0_ n1_ n2_))) | ((with_reducible refine gate_callee (f := 69) rfl ?_); refine goesL_ (some 23) rfl rfl Try.func69 Z0 rfl #[.agg #[.int .i64 a0_0, .string a0_1, .int .i32 a0_2, .bool a0_3, .int .u32 a0_4]] rfl Z9 ?_; (with_reducible refine (spec_ItemOk.calls kj2 a0_0 a0_1 a0_2 a0_3 a0_4 true _ A16.out).mono ?_); rintro e w27 ⟨rfl, hb⟩; refine ⟨_, rfl, ?_⟩; replace BK205 := Z (blk_below (g := gb205) (o := .cells #[.int .i64 a0_0, .string a0_1, .int .i32 a0_2, .bool a0_3, .int .u32 a0_4] 51 (0, 0)) (Z13 BK205) hb); replace BK206 := Z (blk_below (g := gb206) (o := .cells #[.int .i64 0, .string (⟨#[]⟩ : ByteArray), .int .i32 0, .bool false, .int .u32 0] 51 (0, 0)) (Z13 BK206) hb); replace HB := Z (below_step Z47 hb); (try clear hb); (try clear hb2); (try clear hk); (try clear hi); have hcz28_0 : w27.cell? ⟨gb205, 0, none⟩ = some (.int .i64 a0_0) := (blk_cell BK205.out 0).trans rfl; have hcz28_1 : w27.cell? ⟨gb205, 1, none⟩ = some (.string a0_1) := (blk_cell BK205.out 1).trans rfl; have hcz28_2 : w27.cell? ⟨gb205, 2, none⟩ = some (.int .i32 a0_2) := (blk_cell BK205.out 2).trans rfl; have hcz28_3 : w27.cell? ⟨gb205, 3, none⟩ = some (.bool a0_3) := (blk_cell BK205.out 3).trans rfl; have hcz28_4 : w27.cell? ⟨gb205, 4, none⟩ = some (.int .u32 a0_4) := (blk_cell BK205.out 4).trans rfl; have hfz28_0 := blk_frozen BK205.out 0; have hfz28_1 := blk_frozen BK205.out 1; have hfz28_2 := blk_frozen BK205.out 2; have hfz28_3 := blk_frozen BK205.out 3; have hfz28_4 := blk_frozen BK205.out 4; have hcz29_0 : w27.cell? ⟨gb206, 0, none⟩ = some (.int .i64 0) := (blk_cell BK206.out 0).trans rfl; have hcz29_1 : w27.cell? ⟨gb206, 1, none⟩ = some (.string (⟨#[]⟩ : ByteArray)) := (blk_cell BK206.out 1).trans rfl; have hcz29_2 : w27.cell? ⟨gb206, 2, none⟩ = some (.int .i32 0) := (blk_cell BK206.out 2).trans rfl; have hcz29_3 : w27.cell? ⟨gb206, 3, none⟩ = some (.bool false) := (blk_cell BK206.out 3).trans rfl; have hcz29_4 : w27.cell? ⟨gb206, 4, none⟩ = some (.int .u32 0) := (blk_cell BK206.out 4).trans rfl; have hfz29_0 := blk_frozen BK206.out 0; have hfz29_1 := blk_frozen BK206.out 1; have hfz29_2 := blk_frozen BK206.out 2; have hfz29_3 := blk_frozen BK206.out 3; have hfz29_4 := blk_frozen BK206.out 4))
       refine bodyPost_ret (results_ct rfl _ _ gb206 51 #[.int .i64 a1, .string a0_1, .int .i32 a0_2, .bool a0_3, .int .u32 a0_4] (0, 0) _ rfl (Z15 BK206) Try.underlying51 rfl Z0) rfl ?_
       exact ⟨Z7, Z47⟩
      ·replace c24 := Bool.eq_false_iff.mpr c24
       subst c24
       have H1 : (if a0_0 = a1 then (some (a1, a0_1, a0_2, a0_3, a0_4, true)) else (some (0, (⟨#[]⟩ : ByteArray), 0, false, 0, false))) = some (r1, r2, r3, r4, r5, r6) := by rw [if_neg (show ¬ (false = true) by decide)] at H; exact H
       clear H
       have H := H1
       clear H1
       by_cases c30 : a0_0 = a1
       ·rw [if_pos c30] at H
        have c30b0 : (a0_0 == a1) = true := beq_iff_eq.mpr c30
        have c30b1 : (a0_0 != a1) = false := bne_eq_false_iff_eq.mpr c30
        clear c30
        simp only [Option.some.injEq, Prod.mk.injEq] at H
        obtain ⟨rfl, rfl, rfl, rfl, rfl, rfl⟩ := H
        have hnb31 := NB205_206.out
        have hnc31 := NB206_205.out
        have hcz32_0 : wc.cell? ⟨gb205, 0, none⟩ = some (.int .i64 a0_0) := (blk_cell BK205.out 0).trans rfl
        have hcz32_1 : wc.cell? ⟨gb205, 1, none⟩ = some (.string a0_1) := (blk_cell BK205.out 1).trans rfl
        have hcz32_2 : wc.cell? ⟨gb205, 2, none⟩ = some (.int .i32 a0_2) := (blk_cell BK205.out 2).trans rfl
        have hcz32_3 : wc.cell? ⟨gb205, 3, none⟩ = some (.bool a0_3) := (blk_cell BK205.out 3).trans rfl
        have hcz32_4 : wc.cell? ⟨gb205, 4, none⟩ = some (.int .u32 a0_4) := (blk_cell BK205.out 4).trans rfl
        have hfz32_0 := blk_frozen BK205.out 0
        have hfz32_1 := blk_frozen BK205.out 1
        have hfz32_2 := blk_frozen BK205.out 2
        have hfz32_3 := blk_frozen BK205.out 3
        have hfz32_4 := blk_frozen BK205.out 4
        go_wp2_with (first | ((with_reducible refine gate_callee (f := 68) rfl ?_); refine goesL_ (some 17) rfl rfl Try.func68 Z0 rfl #[.int .i64 a0_0, .int .i64 7, .int .i64 8] rfl Z9 ?_; (with_reducible refine (spec_l01In.calls a0_0 7 8 true _ A13.out).mono ?_); rintro e w' ⟨rfl, ⟨nd, rfl⟩⟩; refine ⟨_, rfl, ?_⟩; (try (rw [drewN_self wc]; generalize hq_ : World.drewN wc _ = wc; have n0_ : Aside0 (wc.heap[gb205]? = some (.cells #[.int .i64 a0_0, .string a0_1, .int .i32 a0_2, .bool a0_3, .int .u32 a0_4] 51 (0, 0))) := ⟨Z48⟩; have n1_ : Aside0 (wc.heap[gb206]? = some (.cells #[.int .i64 0, .string (⟨#[]⟩ : ByteArray), .int .i32 0, .bool false, .int .u32 0] 51 (0, 0))) := ⟨Z49⟩; have n2_ : Aside0 (Below w.heap.size w wc) := ⟨Z67⟩; (try replace hcz32_0 := cell_at hq_ hcz32_0); (try replace hfz32_0 : wc.frozen? ⟨gb205, 0, none⟩ = false := by rw [← hq_]; exact hfz32_0); (try replace hcz32_1 := cell_at hq_ hcz32_1); (try replace hfz32_1 : wc.frozen? ⟨gb205, 1, none⟩ = false := by rw [← hq_]; exact hfz32_1); (try replace hcz32_2 := cell_at hq_ hcz32_2); (try replace hfz32_2 : wc.frozen? ⟨gb205, 2, none⟩ = false := by rw [← hq_]; exact hfz32_2); (try replace hcz32_3 := cell_at hq_ hcz32_3); (try replace hfz32_3 : wc.frozen? ⟨gb205, 3, none⟩ = false := by rw [← hq_]; exact hfz32_3); (try replace hcz32_4 := cell_at hq_ hcz32_4); (try replace hfz32_4 : wc.frozen? ⟨gb205, 4, none⟩ = false := by rw [← hq_]; exact hfz32_4); clear BK205 BK206 HB hq_; have BK205 := n0_; have BK206 := n1_; have HB := n2_; clear n0_ n1_ n2_))) | (go_at_call 68; (with_reducible refine (spec_l01In.calls a1 7 8 false _ A15.out).mono ?_); rintro e w' ⟨rfl, ⟨nd, rfl⟩⟩; (try (rw [drewN_self wc]; generalize hq_ : World.drewN wc _ = wc; have n0_ : Aside0 (wc.heap[gb205]? = some (.cells #[.int .i64 a0_0, .string a0_1, .int .i32 a0_2, .bool a0_3, .int .u32 a0_4] 51 (0, 0))) := ⟨Z48⟩; have n1_ : Aside0 (wc.heap[gb206]? = some (.cells #[.int .i64 0, .string (⟨#[]⟩ : ByteArray), .int .i32 0, .bool false, .int .u32 0] 51 (0, 0))) := ⟨Z49⟩; have n2_ : Aside0 (Below w.heap.size w wc) := ⟨Z67⟩; (try replace hcz32_0 := cell_at hq_ hcz32_0); (try replace hfz32_0 : wc.frozen? ⟨gb205, 0, none⟩ = false := by rw [← hq_]; exact hfz32_0); (try replace hcz32_1 := cell_at hq_ hcz32_1); (try replace hfz32_1 : wc.frozen? ⟨gb205, 1, none⟩ = false := by rw [← hq_]; exact hfz32_1); (try replace hcz32_2 := cell_at hq_ hcz32_2); (try replace hfz32_2 : wc.frozen? ⟨gb205, 2, none⟩ = false := by rw [← hq_]; exact hfz32_2); (try replace hcz32_3 := cell_at hq_ hcz32_3); (try replace hfz32_3 : wc.frozen? ⟨gb205, 3, none⟩ = false := by rw [← hq_]; exact hfz32_3); (try replace hcz32_4 := cell_at hq_ hcz32_4); (try replace hfz32_4 : wc.frozen? ⟨gb205, 4, none⟩ = false := by rw [← hq_]; exact hfz32_4); clear BK205 BK206 HB hq_; have BK205 := n0_; have BK206 := n1_; have HB := n2_; clear n0_ n1_ n2_))) | ((with_reducible refine gate_callee (f := 69) rfl ?_); refine goesL_ (some 23) rfl rfl Try.func69 Z0 rfl #[.agg #[.int .i64 a0_0, .string a0_1, .int .i32 a0_2, .bool a0_3, .int .u32 a0_4]] rfl Z9 ?_; (with_reducible refine (spec_ItemOk.calls kj2 a0_0 a0_1 a0_2 a0_3 a0_4 true _ A16.out).mono ?_); rintro e w33 ⟨rfl, hb⟩; refine ⟨_, rfl, ?_⟩; replace BK205 := Z (blk_below (g := gb205) (o := .cells #[.int .i64 a0_0, .string a0_1, .int .i32 a0_2, .bool a0_3, .int .u32 a0_4] 51 (0, 0)) (Z13 BK205) hb); replace BK206 := Z (blk_below (g := gb206) (o := .cells #[.int .i64 0, .string (⟨#[]⟩ : ByteArray), .int .i32 0, .bool false, .int .u32 0] 51 (0, 0)) (Z13 BK206) hb); replace HB := Z (below_step Z47 hb); (try clear hb); (try clear hb2); (try clear hk); (try clear hi); have hcz34_0 : w33.cell? ⟨gb205, 0, none⟩ = some (.int .i64 a0_0) := (blk_cell BK205.out 0).trans rfl; have hcz34_1 : w33.cell? ⟨gb205, 1, none⟩ = some (.string a0_1) := (blk_cell BK205.out 1).trans rfl; have hcz34_2 : w33.cell? ⟨gb205, 2, none⟩ = some (.int .i32 a0_2) := (blk_cell BK205.out 2).trans rfl; have hcz34_3 : w33.cell? ⟨gb205, 3, none⟩ = some (.bool a0_3) := (blk_cell BK205.out 3).trans rfl; have hcz34_4 : w33.cell? ⟨gb205, 4, none⟩ = some (.int .u32 a0_4) := (blk_cell BK205.out 4).trans rfl; have hfz34_0 := blk_frozen BK205.out 0; have hfz34_1 := blk_frozen BK205.out 1; have hfz34_2 := blk_frozen BK205.out 2; have hfz34_3 := blk_frozen BK205.out 3; have hfz34_4 := blk_frozen BK205.out 4; have hcz35_0 : w33.cell? ⟨gb206, 0, none⟩ = some (.int .i64 0) := (blk_cell BK206.out 0).trans rfl; have hcz35_1 : w33.cell? ⟨gb206, 1, none⟩ = some (.string (⟨#[]⟩ : ByteArray)) := (blk_cell BK206.out 1).trans rfl; have hcz35_2 : w33.cell? ⟨gb206, 2, none⟩ = some (.int .i32 0) := (blk_cell BK206.out 2).trans rfl; have hcz35_3 : w33.cell? ⟨gb206, 3, none⟩ = some (.bool false) := (blk_cell BK206.out 3).trans rfl; have hcz35_4 : w33.cell? ⟨gb206, 4, none⟩ = some (.int .u32 0) := (blk_cell BK206.out 4).trans rfl; have hfz35_0 := blk_frozen BK206.out 0; have hfz35_1 := blk_frozen BK206.out 1; have hfz35_2 := blk_frozen BK206.out 2; have hfz35_3 := blk_frozen BK206.out 3; have hfz35_4 := blk_frozen BK206.out 4))
        refine bodyPost_ret (results_ct rfl _ _ gb206 51 #[.int .i64 a1, .string a0_1, .int .i32 a0_2, .bool a0_3, .int .u32 a0_4] (0, 0) _ rfl (Z15 BK206) Try.underlying51 rfl Z0) rfl ?_
        exact ⟨Z7, Z47⟩
       ·rw [if_neg c30] at H
        have c30b0 : (a0_0 == a1) = false := beq_eq_false_iff_ne.mpr c30
        have c30b1 : (a0_0 != a1) = true := bne_iff_ne.mpr c30
        simp only [Option.some.injEq, Prod.mk.injEq] at H
        obtain ⟨rfl, rfl, rfl, rfl, rfl, rfl⟩ := H
        have hnb36 := NB205_206.out
        have hnc36 := NB206_205.out
        have hcz37_0 : wc.cell? ⟨gb205, 0, none⟩ = some (.int .i64 a0_0) := (blk_cell BK205.out 0).trans rfl
        have hcz37_1 : wc.cell? ⟨gb205, 1, none⟩ = some (.string a0_1) := (blk_cell BK205.out 1).trans rfl
        have hcz37_2 : wc.cell? ⟨gb205, 2, none⟩ = some (.int .i32 a0_2) := (blk_cell BK205.out 2).trans rfl
        have hcz37_3 : wc.cell? ⟨gb205, 3, none⟩ = some (.bool a0_3) := (blk_cell BK205.out 3).trans rfl
        have hcz37_4 : wc.cell? ⟨gb205, 4, none⟩ = some (.int .u32 a0_4) := (blk_cell BK205.out 4).trans rfl
        have hfz37_0 := blk_frozen BK205.out 0
        have hfz37_1 := blk_frozen BK205.out 1
        have hfz37_2 := blk_frozen BK205.out 2
        have hfz37_3 := blk_frozen BK205.out 3
        have hfz37_4 := blk_frozen BK205.out 4
        go_wp2_with (first | ((with_reducible refine gate_callee (f := 68) rfl ?_); refine goesL_ (some 17) rfl rfl Try.func68 Z0 rfl #[.int .i64 a0_0, .int .i64 7, .int .i64 8] rfl Z9 ?_; (with_reducible refine (spec_l01In.calls a0_0 7 8 true _ A13.out).mono ?_); rintro e w' ⟨rfl, ⟨nd, rfl⟩⟩; refine ⟨_, rfl, ?_⟩; (try (rw [drewN_self wc]; generalize hq_ : World.drewN wc _ = wc; have n0_ : Aside0 (wc.heap[gb205]? = some (.cells #[.int .i64 a0_0, .string a0_1, .int .i32 a0_2, .bool a0_3, .int .u32 a0_4] 51 (0, 0))) := ⟨Z48⟩; have n1_ : Aside0 (wc.heap[gb206]? = some (.cells #[.int .i64 0, .string (⟨#[]⟩ : ByteArray), .int .i32 0, .bool false, .int .u32 0] 51 (0, 0))) := ⟨Z49⟩; have n2_ : Aside0 (Below w.heap.size w wc) := ⟨Z67⟩; (try replace hcz37_0 := cell_at hq_ hcz37_0); (try replace hfz37_0 : wc.frozen? ⟨gb205, 0, none⟩ = false := Z16); (try replace hcz37_1 := cell_at hq_ hcz37_1); (try replace hfz37_1 : wc.frozen? ⟨gb205, 1, none⟩ = false := Z17); (try replace hcz37_2 := cell_at hq_ hcz37_2); (try replace hfz37_2 : wc.frozen? ⟨gb205, 2, none⟩ = false := Z18); (try replace hcz37_3 := cell_at hq_ hcz37_3); (try replace hfz37_3 : wc.frozen? ⟨gb205, 3, none⟩ = false := Z19); (try replace hcz37_4 := cell_at hq_ hcz37_4); (try replace hfz37_4 : wc.frozen? ⟨gb205, 4, none⟩ = false := Z20); clear BK205 BK206 HB hq_; have BK205 := n0_; have BK206 := n1_; have HB := n2_; clear n0_ n1_ n2_))) | (go_at_call 68; (with_reducible refine (spec_l01In.calls a1 7 8 false _ A15.out).mono ?_); rintro e w' ⟨rfl, ⟨nd, rfl⟩⟩; (try (rw [drewN_self wc]; generalize hq_ : World.drewN wc _ = wc; have n0_ : Aside0 (wc.heap[gb205]? = some (.cells #[.int .i64 a0_0, .string a0_1, .int .i32 a0_2, .bool a0_3, .int .u32 a0_4] 51 (0, 0))) := ⟨Z48⟩; have n1_ : Aside0 (wc.heap[gb206]? = some (.cells #[.int .i64 0, .string (⟨#[]⟩ : ByteArray), .int .i32 0, .bool false, .int .u32 0] 51 (0, 0))) := ⟨Z49⟩; have n2_ : Aside0 (Below w.heap.size w wc) := ⟨Z67⟩; (try replace hcz37_0 := cell_at hq_ hcz37_0); (try replace hfz37_0 : wc.frozen? ⟨gb205, 0, none⟩ = false := Z16); (try replace hcz37_1 := cell_at hq_ hcz37_1); (try replace hfz37_1 : wc.frozen? ⟨gb205, 1, none⟩ = false := Z17); (try replace hcz37_2 := cell_at hq_ hcz37_2); (try replace hfz37_2 : wc.frozen? ⟨gb205, 2, none⟩ = false := Z18); (try replace hcz37_3 := cell_at hq_ hcz37_3); (try replace hfz37_3 : wc.frozen? ⟨gb205, 3, none⟩ = false := Z19); (try replace hcz37_4 := cell_at hq_ hcz37_4); (try replace hfz37_4 : wc.frozen? ⟨gb205, 4, none⟩ = false := Z20); clear BK205 BK206 HB hq_; have BK205 := n0_; have BK206 := n1_; have HB := n2_; clear n0_ n1_ n2_))) | ((with_reducible refine gate_callee (f := 69) rfl ?_); refine goesL_ (some 23) rfl rfl Try.func69 Z0 rfl #[.agg #[.int .i64 a0_0, .string a0_1, .int .i32 a0_2, .bool a0_3, .int .u32 a0_4]] rfl Z9 ?_; (with_reducible refine (spec_ItemOk.calls kj2 a0_0 a0_1 a0_2 a0_3 a0_4 true _ A16.out).mono ?_); rintro e w38 ⟨rfl, hb⟩; refine ⟨_, rfl, ?_⟩; replace BK205 := Z (blk_below (g := gb205) (o := .cells #[.int .i64 a0_0, .string a0_1, .int .i32 a0_2, .bool a0_3, .int .u32 a0_4] 51 (0, 0)) (Z13 BK205) hb); replace BK206 := Z (blk_below (g := gb206) (o := .cells #[.int .i64 0, .string (⟨#[]⟩ : ByteArray), .int .i32 0, .bool false, .int .u32 0] 51 (0, 0)) (Z13 BK206) hb); replace HB := Z (below_step Z47 hb); (try clear hb); (try clear hb2); (try clear hk); (try clear hi); have hcz39_0 : w38.cell? ⟨gb205, 0, none⟩ = some (.int .i64 a0_0) := (blk_cell BK205.out 0).trans rfl; have hcz39_1 : w38.cell? ⟨gb205, 1, none⟩ = some (.string a0_1) := (blk_cell BK205.out 1).trans rfl; have hcz39_2 : w38.cell? ⟨gb205, 2, none⟩ = some (.int .i32 a0_2) := (blk_cell BK205.out 2).trans rfl; have hcz39_3 : w38.cell? ⟨gb205, 3, none⟩ = some (.bool a0_3) := (blk_cell BK205.out 3).trans rfl; have hcz39_4 : w38.cell? ⟨gb205, 4, none⟩ = some (.int .u32 a0_4) := (blk_cell BK205.out 4).trans rfl; have hfz39_0 := blk_frozen BK205.out 0; have hfz39_1 := blk_frozen BK205.out 1; have hfz39_2 := blk_frozen BK205.out 2; have hfz39_3 := blk_frozen BK205.out 3; have hfz39_4 := blk_frozen BK205.out 4; have hcz40_0 : w38.cell? ⟨gb206, 0, none⟩ = some (.int .i64 0) := (blk_cell BK206.out 0).trans rfl; have hcz40_1 : w38.cell? ⟨gb206, 1, none⟩ = some (.string (⟨#[]⟩ : ByteArray)) := (blk_cell BK206.out 1).trans rfl; have hcz40_2 : w38.cell? ⟨gb206, 2, none⟩ = some (.int .i32 0) := (blk_cell BK206.out 2).trans rfl; have hcz40_3 : w38.cell? ⟨gb206, 3, none⟩ = some (.bool false) := (blk_cell BK206.out 3).trans rfl; have hcz40_4 : w38.cell? ⟨gb206, 4, none⟩ = some (.int .u32 0) := (blk_cell BK206.out 4).trans rfl; have hfz40_0 := blk_frozen BK206.out 0; have hfz40_1 := blk_frozen BK206.out 1; have hfz40_2 := blk_frozen BK206.out 2; have hfz40_3 := blk_frozen BK206.out 3; have hfz40_4 := blk_frozen BK206.out 4))
        refine bodyPost_ret (results_ct rfl _ _ gb206 51 #[.int .i64 0, .string (⟨#[]⟩ : ByteArray), .int .i32 0, .bool false, .int .u32 0] (0, 0) _ rfl (Z21 BK206) Try.underlying51 rfl Z0) rfl ?_
        exact ⟨Z7, Z47⟩
    ·replace c17 := Bool.eq_false_iff.mpr c17
     subst c17
     have H1 : (some (0, (⟨#[]⟩ : ByteArray), 0, false, 0, false)) = some (r1, r2, r3, r4, r5, r6) := by rw [if_neg (show ¬ (false = true) by decide)] at H; exact H
     clear H
     have H := H1
     clear H1
     simp only [Option.some.injEq, Prod.mk.injEq] at H
     obtain ⟨rfl, rfl, rfl, rfl, rfl, rfl⟩ := H
     have hnb41 := NB205_206.out
     have hnc41 := NB206_205.out
     have hcz42_0 : wc.cell? ⟨gb205, 0, none⟩ = some (.int .i64 a0_0) := (blk_cell BK205.out 0).trans rfl
     have hcz42_1 : wc.cell? ⟨gb205, 1, none⟩ = some (.string a0_1) := (blk_cell BK205.out 1).trans rfl
     have hcz42_2 : wc.cell? ⟨gb205, 2, none⟩ = some (.int .i32 a0_2) := (blk_cell BK205.out 2).trans rfl
     have hcz42_3 : wc.cell? ⟨gb205, 3, none⟩ = some (.bool a0_3) := (blk_cell BK205.out 3).trans rfl
     have hcz42_4 : wc.cell? ⟨gb205, 4, none⟩ = some (.int .u32 a0_4) := (blk_cell BK205.out 4).trans rfl
     have hfz42_0 := blk_frozen BK205.out 0
     have hfz42_1 := blk_frozen BK205.out 1
     have hfz42_2 := blk_frozen BK205.out 2
     have hfz42_3 := blk_frozen BK205.out 3
     have hfz42_4 := blk_frozen BK205.out 4
     go_wp2_with (first | ((with_reducible refine gate_callee (f := 68) rfl ?_); refine goesL_ (some 17) rfl rfl Try.func68 Z0 rfl #[.int .i64 a0_0, .int .i64 7, .int .i64 8] rfl Z9 ?_; (with_reducible refine (spec_l01In.calls a0_0 7 8 true _ A13.out).mono ?_); rintro e w' ⟨rfl, ⟨nd, rfl⟩⟩; refine ⟨_, rfl, ?_⟩; (try (rw [drewN_self wc]; generalize hq_ : World.drewN wc _ = wc; have n0_ : Aside0 (wc.heap[gb205]? = some (.cells #[.int .i64 a0_0, .string a0_1, .int .i32 a0_2, .bool a0_3, .int .u32 a0_4] 51 (0, 0))) := ⟨Z48⟩; have n1_ : Aside0 (wc.heap[gb206]? = some (.cells #[.int .i64 0, .string (⟨#[]⟩ : ByteArray), .int .i32 0, .bool false, .int .u32 0] 51 (0, 0))) := ⟨Z49⟩; have n2_ : Aside0 (Below w.heap.size w wc) := ⟨Z67⟩; (try replace hcz42_0 := cell_at hq_ hcz42_0); (try replace hfz42_0 : wc.frozen? ⟨gb205, 0, none⟩ = false := by rw [← hq_]; exact hfz42_0); (try replace hcz42_1 := cell_at hq_ hcz42_1); (try replace hfz42_1 : wc.frozen? ⟨gb205, 1, none⟩ = false := by rw [← hq_]; exact hfz42_1); (try replace hcz42_2 := cell_at hq_ hcz42_2); (try replace hfz42_2 : wc.frozen? ⟨gb205, 2, none⟩ = false := by rw [← hq_]; exact hfz42_2); (try replace hcz42_3 := cell_at hq_ hcz42_3); (try replace hfz42_3 : wc.frozen? ⟨gb205, 3, none⟩ = false := by rw [← hq_]; exact hfz42_3); (try replace hcz42_4 := cell_at hq_ hcz42_4); (try replace hfz42_4 : wc.frozen? ⟨gb205, 4, none⟩ = false := by rw [← hq_]; exact hfz42_4); clear BK205 BK206 HB hq_; have BK205 := n0_; have BK206 := n1_; have HB := n2_; clear n0_ n1_ n2_))) | (go_at_call 68; (with_reducible refine (spec_l01In.calls a1 7 8 t210 _ A15.out).mono ?_); rintro e w' ⟨rfl, ⟨nd, rfl⟩⟩; (try (rw [drewN_self wc]; generalize hq_ : World.drewN wc _ = wc; have n0_ : Aside0 (wc.heap[gb205]? = some (.cells #[.int .i64 a0_0, .string a0_1, .int .i32 a0_2, .bool a0_3, .int .u32 a0_4] 51 (0, 0))) := ⟨Z48⟩; have n1_ : Aside0 (wc.heap[gb206]? = some (.cells #[.int .i64 0, .string (⟨#[]⟩ : ByteArray), .int .i32 0, .bool false, .int .u32 0] 51 (0, 0))) := ⟨Z49⟩; have n2_ : Aside0 (Below w.heap.size w wc) := ⟨Z67⟩; (try replace hcz42_0 := cell_at hq_ hcz42_0); (try replace hfz42_0 : wc.frozen? ⟨gb205, 0, none⟩ = false := by rw [← hq_]; exact hfz42_0); (try replace hcz42_1 := cell_at hq_ hcz42_1); (try replace hfz42_1 : wc.frozen? ⟨gb205, 1, none⟩ = false := by rw [← hq_]; exact hfz42_1); (try replace hcz42_2 := cell_at hq_ hcz42_2); (try replace hfz42_2 : wc.frozen? ⟨gb205, 2, none⟩ = false := by rw [← hq_]; exact hfz42_2); (try replace hcz42_3 := cell_at hq_ hcz42_3); (try replace hfz42_3 : wc.frozen? ⟨gb205, 3, none⟩ = false := by rw [← hq_]; exact hfz42_3); (try replace hcz42_4 := cell_at hq_ hcz42_4); (try replace hfz42_4 : wc.frozen? ⟨gb205, 4, none⟩ = false := by rw [← hq_]; exact hfz42_4); clear BK205 BK206 HB hq_; have BK205 := n0_; have BK206 := n1_; have HB := n2_; clear n0_ n1_ n2_))) | ((with_reducible refine gate_callee (f := 69) rfl ?_); refine goesL_ (some 23) rfl rfl Try.func69 Z0 rfl #[.agg #[.int .i64 a0_0, .string a0_1, .int .i32 a0_2, .bool a0_3, .int .u32 a0_4]] rfl Z9 ?_; (with_reducible refine (spec_ItemOk.calls kj2 a0_0 a0_1 a0_2 a0_3 a0_4 false _ A16.out).mono ?_); rintro e w43 ⟨rfl, hb⟩; refine ⟨_, rfl, ?_⟩; replace BK205 := Z (blk_below (g := gb205) (o := .cells #[.int .i64 a0_0, .string a0_1, .int .i32 a0_2, .bool a0_3, .int .u32 a0_4] 51 (0, 0)) (Z13 BK205) hb); replace BK206 := Z (blk_below (g := gb206) (o := .cells #[.int .i64 0, .string (⟨#[]⟩ : ByteArray), .int .i32 0, .bool false, .int .u32 0] 51 (0, 0)) (Z13 BK206) hb); replace HB := Z (below_step Z47 hb); (try clear hb); (try clear hb2); (try clear hk); (try clear hi); have hcz44_0 : w43.cell? ⟨gb206, 0, none⟩ = some (.int .i64 0) := (blk_cell BK206.out 0).trans rfl; have hcz44_1 : w43.cell? ⟨gb206, 1, none⟩ = some (.string (⟨#[]⟩ : ByteArray)) := (blk_cell BK206.out 1).trans rfl; have hcz44_2 : w43.cell? ⟨gb206, 2, none⟩ = some (.int .i32 0) := (blk_cell BK206.out 2).trans rfl; have hcz44_3 : w43.cell? ⟨gb206, 3, none⟩ = some (.bool false) := (blk_cell BK206.out 3).trans rfl; have hcz44_4 : w43.cell? ⟨gb206, 4, none⟩ = some (.int .u32 0) := (blk_cell BK206.out 4).trans rfl; have hfz44_0 := blk_frozen BK206.out 0; have hfz44_1 := blk_frozen BK206.out 1; have hfz44_2 := blk_frozen BK206.out 2; have hfz44_3 := blk_frozen BK206.out 3; have hfz44_4 := blk_frozen BK206.out 4))
     refine bodyPost_ret (results_ct rfl _ _ gb206 51 #[.int .i64 0, .string (⟨#[]⟩ : ByteArray), .int .i32 0, .bool false, .int .u32 0] (0, 0) _ rfl (Z21 BK206) Try.underlying51 rfl Z0) rfl ?_
     exact ⟨Z7, Z47⟩
   ·replace c14 := Bool.eq_false_iff.mpr c14
    subst c14
    have H1 : ((spec_ItemOk.f kj2 a0_0 a0_1 a0_2 a0_3 a0_4).bind fun t212 => (if t212 = true then (if x6_2 = true then (some (a1, a0_1, a0_2, a0_3, a0_4, true)) else (if a0_0 = a1 then (some (a1, a0_1, a0_2, a0_3, a0_4, true)) else (some (0, (⟨#[]⟩ : ByteArray), 0, false, 0, false)))) else (some (0, (⟨#[]⟩ : ByteArray), 0, false, 0, false)))) = some (r1, r2, r3, r4, r5, r6) := by rw [if_neg (show ¬ (false = true) by decide)] at H; exact H
    clear H
    have H := H1
    clear H1
    replace H := Option.bind_eq_some_iff.mp H
    obtain ⟨t212, A450, H⟩ := H
    replace H : (if t212 = true then (if x6_2 = true then (some (a1, a0_1, a0_2, a0_3, a0_4, true)) else (if a0_0 = a1 then (some (a1, a0_1, a0_2, a0_3, a0_4, true)) else (some (0, (⟨#[]⟩ : ByteArray), 0, false, 0, false)))) else (some (0, (⟨#[]⟩ : ByteArray), 0, false, 0, false))) = some (r1, r2, r3, r4, r5, r6) := H
    have A45 := Aside0.mk A450
    clear A450
    by_cases c46 : t212 = true
    ·subst c46
     have H1 : (if x6_2 = true then (some (a1, a0_1, a0_2, a0_3, a0_4, true)) else (if a0_0 = a1 then (some (a1, a0_1, a0_2, a0_3, a0_4, true)) else (some (0, (⟨#[]⟩ : ByteArray), 0, false, 0, false)))) = some (r1, r2, r3, r4, r5, r6) := Z4
     clear H
     have H := H1
     clear H1
     by_cases c47 : x6_2 = true
     ·subst c47
      have H1 : (some (a1, a0_1, a0_2, a0_3, a0_4, true)) = some (r1, r2, r3, r4, r5, r6) := Z4
      clear H
      have H := H1
      clear H1
      simp only [Option.some.injEq, Prod.mk.injEq] at H
      obtain ⟨rfl, rfl, rfl, rfl, rfl, rfl⟩ := H
      have hnb48 := NB205_206.out
      have hnc48 := NB206_205.out
      have hcz49_0 : wc.cell? ⟨gb205, 0, none⟩ = some (.int .i64 a0_0) := (blk_cell BK205.out 0).trans rfl
      have hcz49_1 : wc.cell? ⟨gb205, 1, none⟩ = some (.string a0_1) := (blk_cell BK205.out 1).trans rfl
      have hcz49_2 : wc.cell? ⟨gb205, 2, none⟩ = some (.int .i32 a0_2) := (blk_cell BK205.out 2).trans rfl
      have hcz49_3 : wc.cell? ⟨gb205, 3, none⟩ = some (.bool a0_3) := (blk_cell BK205.out 3).trans rfl
      have hcz49_4 : wc.cell? ⟨gb205, 4, none⟩ = some (.int .u32 a0_4) := (blk_cell BK205.out 4).trans rfl
      have hfz49_0 := blk_frozen BK205.out 0
      have hfz49_1 := blk_frozen BK205.out 1
      have hfz49_2 := blk_frozen BK205.out 2
      have hfz49_3 := blk_frozen BK205.out 3
      have hfz49_4 := blk_frozen BK205.out 4
      go_wp2_with (first | ((with_reducible refine gate_callee (f := 68) rfl ?_); refine goesL_ (some 17) rfl rfl Try.func68 Z0 rfl #[.int .i64 a0_0, .int .i64 7, .int .i64 8] rfl Z9 ?_; (with_reducible refine (spec_l01In.calls a0_0 7 8 false _ A13.out).mono ?_); rintro e w' ⟨rfl, ⟨nd, rfl⟩⟩; refine ⟨_, rfl, ?_⟩; (try (rw [drewN_self wc]; generalize hq_ : World.drewN wc _ = wc; have n0_ : Aside0 (wc.heap[gb205]? = some (.cells #[.int .i64 a0_0, .string a0_1, .int .i32 a0_2, .bool a0_3, .int .u32 a0_4] 51 (0, 0))) := ⟨Z48⟩; have n1_ : Aside0 (wc.heap[gb206]? = some (.cells #[.int .i64 0, .string (⟨#[]⟩ : ByteArray), .int .i32 0, .bool false, .int .u32 0] 51 (0, 0))) := ⟨Z49⟩; have n2_ : Aside0 (Below w.heap.size w wc) := ⟨Z67⟩; (try replace hcz49_0 := cell_at hq_ hcz49_0); (try replace hfz49_0 : wc.frozen? ⟨gb205, 0, none⟩ = false := by rw [← hq_]; exact hfz49_0); (try replace hcz49_1 := cell_at hq_ hcz49_1); (try replace hfz49_1 : wc.frozen? ⟨gb205, 1, none⟩ = false := by rw [← hq_]; exact hfz49_1); (try replace hcz49_2 := cell_at hq_ hcz49_2); (try replace hfz49_2 : wc.frozen? ⟨gb205, 2, none⟩ = false := by rw [← hq_]; exact hfz49_2); (try replace hcz49_3 := cell_at hq_ hcz49_3); (try replace hfz49_3 : wc.frozen? ⟨gb205, 3, none⟩ = false := by rw [← hq_]; exact hfz49_3); (try replace hcz49_4 := cell_at hq_ hcz49_4); (try replace hfz49_4 : wc.frozen? ⟨gb205, 4, none⟩ = false := by rw [← hq_]; exact hfz49_4); clear BK205 BK206 HB hq_; have BK205 := n0_; have BK206 := n1_; have HB := n2_; clear n0_ n1_ n2_))) | ((with_reducible refine gate_callee (f := 69) rfl ?_); refine goesL_ (some 23) rfl rfl Try.func69 Z0 rfl #[.agg #[.int .i64 a0_0, .string a0_1, .int .i32 a0_2, .bool a0_3, .int .u32 a0_4]] rfl Z9 ?_; (with_reducible refine (spec_ItemOk.calls kj2 a0_0 a0_1 a0_2 a0_3 a0_4 true _ A45.out).mono ?_); rintro e w50 ⟨rfl, hb⟩; refine ⟨_, rfl, ?_⟩; replace BK205 := Z (blk_below (g := gb205) (o := .cells #[.int .i64 a0_0, .string a0_1, .int .i32 a0_2, .bool a0_3, .int .u32 a0_4] 51 (0, 0)) (Z13 BK205) hb); replace BK206 := Z (blk_below (g := gb206) (o := .cells #[.int .i64 0, .string (⟨#[]⟩ : ByteArray), .int .i32 0, .bool false, .int .u32 0] 51 (0, 0)) (Z13 BK206) hb); replace HB := Z (below_step Z47 hb); (try clear hb); (try clear hb2); (try clear hk); (try clear hi); have hcz51_0 : w50.cell? ⟨gb205, 0, none⟩ = some (.int .i64 a0_0) := (blk_cell BK205.out 0).trans rfl; have hcz51_1 : w50.cell? ⟨gb205, 1, none⟩ = some (.string a0_1) := (blk_cell BK205.out 1).trans rfl; have hcz51_2 : w50.cell? ⟨gb205, 2, none⟩ = some (.int .i32 a0_2) := (blk_cell BK205.out 2).trans rfl; have hcz51_3 : w50.cell? ⟨gb205, 3, none⟩ = some (.bool a0_3) := (blk_cell BK205.out 3).trans rfl; have hcz51_4 : w50.cell? ⟨gb205, 4, none⟩ = some (.int .u32 a0_4) := (blk_cell BK205.out 4).trans rfl; have hfz51_0 := blk_frozen BK205.out 0; have hfz51_1 := blk_frozen BK205.out 1; have hfz51_2 := blk_frozen BK205.out 2; have hfz51_3 := blk_frozen BK205.out 3; have hfz51_4 := blk_frozen BK205.out 4; have hcz52_0 : w50.cell? ⟨gb206, 0, none⟩ = some (.int .i64 0) := (blk_cell BK206.out 0).trans rfl; have hcz52_1 : w50.cell? ⟨gb206, 1, none⟩ = some (.string (⟨#[]⟩ : ByteArray)) := (blk_cell BK206.out 1).trans rfl; have hcz52_2 : w50.cell? ⟨gb206, 2, none⟩ = some (.int .i32 0) := (blk_cell BK206.out 2).trans rfl; have hcz52_3 : w50.cell? ⟨gb206, 3, none⟩ = some (.bool false) := (blk_cell BK206.out 3).trans rfl; have hcz52_4 : w50.cell? ⟨gb206, 4, none⟩ = some (.int .u32 0) := (blk_cell BK206.out 4).trans rfl; have hfz52_0 := blk_frozen BK206.out 0; have hfz52_1 := blk_frozen BK206.out 1; have hfz52_2 := blk_frozen BK206.out 2; have hfz52_3 := blk_frozen BK206.out 3; have hfz52_4 := blk_frozen BK206.out 4))
      refine bodyPost_ret (results_ct rfl _ _ gb206 51 #[.int .i64 a1, .string a0_1, .int .i32 a0_2, .bool a0_3, .int .u32 a0_4] (0, 0) _ rfl (Z15 BK206) Try.underlying51 rfl Z0) rfl ?_
      exact ⟨Z7, Z47⟩
     ·replace c47 := Bool.eq_false_iff.mpr c47
      subst c47
      have H1 : (if a0_0 = a1 then (some (a1, a0_1, a0_2, a0_3, a0_4, true)) else (some (0, (⟨#[]⟩ : ByteArray), 0, false, 0, false))) = some (r1, r2, r3, r4, r5, r6) := by rw [if_neg (show ¬ (false = true) by decide)] at H; exact H
      clear H
      have H := H1
      clear H1
      by_cases c53 : a0_0 = a1
      ·rw [if_pos c53] at H
       have c53b0 : (a0_0 == a1) = true := beq_iff_eq.mpr c53
       have c53b1 : (a0_0 != a1) = false := bne_eq_false_iff_eq.mpr c53
       clear c53
       simp only [Option.some.injEq, Prod.mk.injEq] at H
       obtain ⟨rfl, rfl, rfl, rfl, rfl, rfl⟩ := H
       have hnb54 := NB205_206.out
       have hnc54 := NB206_205.out
       have hcz55_0 : wc.cell? ⟨gb205, 0, none⟩ = some (.int .i64 a0_0) := (blk_cell BK205.out 0).trans rfl
       have hcz55_1 : wc.cell? ⟨gb205, 1, none⟩ = some (.string a0_1) := (blk_cell BK205.out 1).trans rfl
       have hcz55_2 : wc.cell? ⟨gb205, 2, none⟩ = some (.int .i32 a0_2) := (blk_cell BK205.out 2).trans rfl
       have hcz55_3 : wc.cell? ⟨gb205, 3, none⟩ = some (.bool a0_3) := (blk_cell BK205.out 3).trans rfl
       have hcz55_4 : wc.cell? ⟨gb205, 4, none⟩ = some (.int .u32 a0_4) := (blk_cell BK205.out 4).trans rfl
       have hfz55_0 := blk_frozen BK205.out 0
       have hfz55_1 := blk_frozen BK205.out 1
       have hfz55_2 := blk_frozen BK205.out 2
       have hfz55_3 := blk_frozen BK205.out 3
       have hfz55_4 := blk_frozen BK205.out 4
       go_wp2_with (first | ((with_reducible refine gate_callee (f := 68) rfl ?_); refine goesL_ (some 17) rfl rfl Try.func68 Z0 rfl #[.int .i64 a0_0, .int .i64 7, .int .i64 8] rfl Z9 ?_; (with_reducible refine (spec_l01In.calls a0_0 7 8 false _ A13.out).mono ?_); rintro e w' ⟨rfl, ⟨nd, rfl⟩⟩; refine ⟨_, rfl, ?_⟩; (try (rw [drewN_self wc]; generalize hq_ : World.drewN wc _ = wc; have n0_ : Aside0 (wc.heap[gb205]? = some (.cells #[.int .i64 a0_0, .string a0_1, .int .i32 a0_2, .bool a0_3, .int .u32 a0_4] 51 (0, 0))) := ⟨Z48⟩; have n1_ : Aside0 (wc.heap[gb206]? = some (.cells #[.int .i64 0, .string (⟨#[]⟩ : ByteArray), .int .i32 0, .bool false, .int .u32 0] 51 (0, 0))) := ⟨Z49⟩; have n2_ : Aside0 (Below w.heap.size w wc) := ⟨Z67⟩; (try replace hcz55_0 := cell_at hq_ hcz55_0); (try replace hfz55_0 : wc.frozen? ⟨gb205, 0, none⟩ = false := by rw [← hq_]; exact hfz55_0); (try replace hcz55_1 := cell_at hq_ hcz55_1); (try replace hfz55_1 : wc.frozen? ⟨gb205, 1, none⟩ = false := by rw [← hq_]; exact hfz55_1); (try replace hcz55_2 := cell_at hq_ hcz55_2); (try replace hfz55_2 : wc.frozen? ⟨gb205, 2, none⟩ = false := by rw [← hq_]; exact hfz55_2); (try replace hcz55_3 := cell_at hq_ hcz55_3); (try replace hfz55_3 : wc.frozen? ⟨gb205, 3, none⟩ = false := by rw [← hq_]; exact hfz55_3); (try replace hcz55_4 := cell_at hq_ hcz55_4); (try replace hfz55_4 : wc.frozen? ⟨gb205, 4, none⟩ = false := by rw [← hq_]; exact hfz55_4); clear BK205 BK206 HB hq_; have BK205 := n0_; have BK206 := n1_; have HB := n2_; clear n0_ n1_ n2_))) | ((with_reducible refine gate_callee (f := 69) rfl ?_); refine goesL_ (some 23) rfl rfl Try.func69 Z0 rfl #[.agg #[.int .i64 a0_0, .string a0_1, .int .i32 a0_2, .bool a0_3, .int .u32 a0_4]] rfl Z9 ?_; (with_reducible refine (spec_ItemOk.calls kj2 a0_0 a0_1 a0_2 a0_3 a0_4 true _ A45.out).mono ?_); rintro e w56 ⟨rfl, hb⟩; refine ⟨_, rfl, ?_⟩; replace BK205 := Z (blk_below (g := gb205) (o := .cells #[.int .i64 a0_0, .string a0_1, .int .i32 a0_2, .bool a0_3, .int .u32 a0_4] 51 (0, 0)) (Z13 BK205) hb); replace BK206 := Z (blk_below (g := gb206) (o := .cells #[.int .i64 0, .string (⟨#[]⟩ : ByteArray), .int .i32 0, .bool false, .int .u32 0] 51 (0, 0)) (Z13 BK206) hb); replace HB := Z (below_step Z47 hb); (try clear hb); (try clear hb2); (try clear hk); (try clear hi); have hcz57_0 : w56.cell? ⟨gb205, 0, none⟩ = some (.int .i64 a0_0) := (blk_cell BK205.out 0).trans rfl; have hcz57_1 : w56.cell? ⟨gb205, 1, none⟩ = some (.string a0_1) := (blk_cell BK205.out 1).trans rfl; have hcz57_2 : w56.cell? ⟨gb205, 2, none⟩ = some (.int .i32 a0_2) := (blk_cell BK205.out 2).trans rfl; have hcz57_3 : w56.cell? ⟨gb205, 3, none⟩ = some (.bool a0_3) := (blk_cell BK205.out 3).trans rfl; have hcz57_4 : w56.cell? ⟨gb205, 4, none⟩ = some (.int .u32 a0_4) := (blk_cell BK205.out 4).trans rfl; have hfz57_0 := blk_frozen BK205.out 0; have hfz57_1 := blk_frozen BK205.out 1; have hfz57_2 := blk_frozen BK205.out 2; have hfz57_3 := blk_frozen BK205.out 3; have hfz57_4 := blk_frozen BK205.out 4; have hcz58_0 : w56.cell? ⟨gb206, 0, none⟩ = some (.int .i64 0) := (blk_cell BK206.out 0).trans rfl; have hcz58_1 : w56.cell? ⟨gb206, 1, none⟩ = some (.string (⟨#[]⟩ : ByteArray)) := (blk_cell BK206.out 1).trans rfl; have hcz58_2 : w56.cell? ⟨gb206, 2, none⟩ = some (.int .i32 0) := (blk_cell BK206.out 2).trans rfl; have hcz58_3 : w56.cell? ⟨gb206, 3, none⟩ = some (.bool false) := (blk_cell BK206.out 3).trans rfl; have hcz58_4 : w56.cell? ⟨gb206, 4, none⟩ = some (.int .u32 0) := (blk_cell BK206.out 4).trans rfl; have hfz58_0 := blk_frozen BK206.out 0; have hfz58_1 := blk_frozen BK206.out 1; have hfz58_2 := blk_frozen BK206.out 2; have hfz58_3 := blk_frozen BK206.out 3; have hfz58_4 := blk_frozen BK206.out 4))
       refine bodyPost_ret (results_ct rfl _ _ gb206 51 #[.int .i64 a1, .string a0_1, .int .i32 a0_2, .bool a0_3, .int .u32 a0_4] (0, 0) _ rfl (Z15 BK206) Try.underlying51 rfl Z0) rfl ?_
       exact ⟨Z7, Z47⟩
      ·rw [if_neg c53] at H
       have c53b0 : (a0_0 == a1) = false := beq_eq_false_iff_ne.mpr c53
       have c53b1 : (a0_0 != a1) = true := bne_iff_ne.mpr c53
       simp only [Option.some.injEq, Prod.mk.injEq] at H
       obtain ⟨rfl, rfl, rfl, rfl, rfl, rfl⟩ := H
       have hnb59 := NB205_206.out
       have hnc59 := NB206_205.out
       have hcz60_0 : wc.cell? ⟨gb205, 0, none⟩ = some (.int .i64 a0_0) := (blk_cell BK205.out 0).trans rfl
       have hcz60_1 : wc.cell? ⟨gb205, 1, none⟩ = some (.string a0_1) := (blk_cell BK205.out 1).trans rfl
       have hcz60_2 : wc.cell? ⟨gb205, 2, none⟩ = some (.int .i32 a0_2) := (blk_cell BK205.out 2).trans rfl
       have hcz60_3 : wc.cell? ⟨gb205, 3, none⟩ = some (.bool a0_3) := (blk_cell BK205.out 3).trans rfl
       have hcz60_4 : wc.cell? ⟨gb205, 4, none⟩ = some (.int .u32 a0_4) := (blk_cell BK205.out 4).trans rfl
       have hfz60_0 := blk_frozen BK205.out 0
       have hfz60_1 := blk_frozen BK205.out 1
       have hfz60_2 := blk_frozen BK205.out 2
       have hfz60_3 := blk_frozen BK205.out 3
       have hfz60_4 := blk_frozen BK205.out 4
       go_wp2_with (first | ((with_reducible refine gate_callee (f := 68) rfl ?_); refine goesL_ (some 17) rfl rfl Try.func68 Z0 rfl #[.int .i64 a0_0, .int .i64 7, .int .i64 8] rfl Z9 ?_; (with_reducible refine (spec_l01In.calls a0_0 7 8 false _ A13.out).mono ?_); rintro e w' ⟨rfl, ⟨nd, rfl⟩⟩; refine ⟨_, rfl, ?_⟩; (try (rw [drewN_self wc]; generalize hq_ : World.drewN wc _ = wc; have n0_ : Aside0 (wc.heap[gb205]? = some (.cells #[.int .i64 a0_0, .string a0_1, .int .i32 a0_2, .bool a0_3, .int .u32 a0_4] 51 (0, 0))) := ⟨Z48⟩; have n1_ : Aside0 (wc.heap[gb206]? = some (.cells #[.int .i64 0, .string (⟨#[]⟩ : ByteArray), .int .i32 0, .bool false, .int .u32 0] 51 (0, 0))) := ⟨Z49⟩; have n2_ : Aside0 (Below w.heap.size w wc) := ⟨Z67⟩; (try replace hcz60_0 := cell_at hq_ hcz60_0); (try replace hfz60_0 : wc.frozen? ⟨gb205, 0, none⟩ = false := by rw [← hq_]; exact hfz60_0); (try replace hcz60_1 := cell_at hq_ hcz60_1); (try replace hfz60_1 : wc.frozen? ⟨gb205, 1, none⟩ = false := by rw [← hq_]; exact hfz60_1); (try replace hcz60_2 := cell_at hq_ hcz60_2); (try replace hfz60_2 : wc.frozen? ⟨gb205, 2, none⟩ = false := by rw [← hq_]; exact hfz60_2); (try replace hcz60_3 := cell_at hq_ hcz60_3); (try replace hfz60_3 : wc.frozen? ⟨gb205, 3, none⟩ = false := by rw [← hq_]; exact hfz60_3); (try replace hcz60_4 := cell_at hq_ hcz60_4); (try replace hfz60_4 : wc.frozen? ⟨gb205, 4, none⟩ = false := by rw [← hq_]; exact hfz60_4); clear BK205 BK206 HB hq_; have BK205 := n0_; have BK206 := n1_; have HB := n2_; clear n0_ n1_ n2_))) | ((with_reducible refine gate_callee (f := 69) rfl ?_); refine goesL_ (some 23) rfl rfl Try.func69 Z0 rfl #[.agg #[.int .i64 a0_0, .string a0_1, .int .i32 a0_2, .bool a0_3, .int .u32 a0_4]] rfl Z9 ?_; (with_reducible refine (spec_ItemOk.calls kj2 a0_0 a0_1 a0_2 a0_3 a0_4 true _ A45.out).mono ?_); rintro e w61 ⟨rfl, hb⟩; refine ⟨_, rfl, ?_⟩; replace BK205 := Z (blk_below (g := gb205) (o := .cells #[.int .i64 a0_0, .string a0_1, .int .i32 a0_2, .bool a0_3, .int .u32 a0_4] 51 (0, 0)) (Z13 BK205) hb); replace BK206 := Z (blk_below (g := gb206) (o := .cells #[.int .i64 0, .string (⟨#[]⟩ : ByteArray), .int .i32 0, .bool false, .int .u32 0] 51 (0, 0)) (Z13 BK206) hb); replace HB := Z (below_step Z47 hb); (try clear hb); (try clear hb2); (try clear hk); (try clear hi); have hcz62_0 : w61.cell? ⟨gb205, 0, none⟩ = some (.int .i64 a0_0) := (blk_cell BK205.out 0).trans rfl; have hcz62_1 : w61.cell? ⟨gb205, 1, none⟩ = some (.string a0_1) := (blk_cell BK205.out 1).trans rfl; have hcz62_2 : w61.cell? ⟨gb205, 2, none⟩ = some (.int .i32 a0_2) := (blk_cell BK205.out 2).trans rfl; have hcz62_3 : w61.cell? ⟨gb205, 3, none⟩ = some (.bool a0_3) := (blk_cell BK205.out 3).trans rfl; have hcz62_4 : w61.cell? ⟨gb205, 4, none⟩ = some (.int .u32 a0_4) := (blk_cell BK205.out 4).trans rfl; have hfz62_0 := blk_frozen BK205.out 0; have hfz62_1 := blk_frozen BK205.out 1; have hfz62_2 := blk_frozen BK205.out 2; have hfz62_3 := blk_frozen BK205.out 3; have hfz62_4 := blk_frozen BK205.out 4; have hcz63_0 : w61.cell? ⟨gb206, 0, none⟩ = some (.int .i64 0) := (blk_cell BK206.out 0).trans rfl; have hcz63_1 : w61.cell? ⟨gb206, 1, none⟩ = some (.string (⟨#[]⟩ : ByteArray)) := (blk_cell BK206.out 1).trans rfl; have hcz63_2 : w61.cell? ⟨gb206, 2, none⟩ = some (.int .i32 0) := (blk_cell BK206.out 2).trans rfl; have hcz63_3 : w61.cell? ⟨gb206, 3, none⟩ = some (.bool false) := (blk_cell BK206.out 3).trans rfl; have hcz63_4 : w61.cell? ⟨gb206, 4, none⟩ = some (.int .u32 0) := (blk_cell BK206.out 4).trans rfl; have hfz63_0 := blk_frozen BK206.out 0; have hfz63_1 := blk_frozen BK206.out 1; have hfz63_2 := blk_frozen BK206.out 2; have hfz63_3 := blk_frozen BK206.out 3; have hfz63_4 := blk_frozen BK206.out 4))
       refine bodyPost_ret (results_ct rfl _ _ gb206 51 #[.int .i64 0, .string (⟨#[]⟩ : ByteArray), .int .i32 0, .bool false, .int .u32 0] (0, 0) _ rfl (Z21 BK206) Try.underlying51 rfl Z0) rfl ?_
       exact ⟨Z7, Z47⟩
    ·replace c46 := Bool.eq_false_iff.mpr c46
     subst c46
     have H1 : (some (0, (⟨#[]⟩ : ByteArray), 0, false, 0, false)) = some (r1, r2, r3, r4, r5, r6) := by rw [if_neg (show ¬ (false = true) by decide)] at H; exact H
     clear H
     have H := H1
     clear H1
     simp only [Option.some.injEq, Prod.mk.injEq] at H
     obtain ⟨rfl, rfl, rfl, rfl, rfl, rfl⟩ := H
     have hnb64 := NB205_206.out
     have hnc64 := NB206_205.out
     have hcz65_0 : wc.cell? ⟨gb205, 0, none⟩ = some (.int .i64 a0_0) := (blk_cell BK205.out 0).trans rfl
     have hcz65_1 : wc.cell? ⟨gb205, 1, none⟩ = some (.string a0_1) := (blk_cell BK205.out 1).trans rfl
     have hcz65_2 : wc.cell? ⟨gb205, 2, none⟩ = some (.int .i32 a0_2) := (blk_cell BK205.out 2).trans rfl
     have hcz65_3 : wc.cell? ⟨gb205, 3, none⟩ = some (.bool a0_3) := (blk_cell BK205.out 3).trans rfl
     have hcz65_4 : wc.cell? ⟨gb205, 4, none⟩ = some (.int .u32 a0_4) := (blk_cell BK205.out 4).trans rfl
     have hfz65_0 := blk_frozen BK205.out 0
     have hfz65_1 := blk_frozen BK205.out 1
     have hfz65_2 := blk_frozen BK205.out 2
     have hfz65_3 := blk_frozen BK205.out 3
     have hfz65_4 := blk_frozen BK205.out 4
     go_wp2_with (first | ((with_reducible refine gate_callee (f := 68) rfl ?_); refine goesL_ (some 17) rfl rfl Try.func68 Z0 rfl #[.int .i64 a0_0, .int .i64 7, .int .i64 8] rfl Z9 ?_; (with_reducible refine (spec_l01In.calls a0_0 7 8 false _ A13.out).mono ?_); rintro e w' ⟨rfl, ⟨nd, rfl⟩⟩; refine ⟨_, rfl, ?_⟩; (try (rw [drewN_self wc]; generalize hq_ : World.drewN wc _ = wc; have n0_ : Aside0 (wc.heap[gb205]? = some (.cells #[.int .i64 a0_0, .string a0_1, .int .i32 a0_2, .bool a0_3, .int .u32 a0_4] 51 (0, 0))) := ⟨Z48⟩; have n1_ : Aside0 (wc.heap[gb206]? = some (.cells #[.int .i64 0, .string (⟨#[]⟩ : ByteArray), .int .i32 0, .bool false, .int .u32 0] 51 (0, 0))) := ⟨Z49⟩; have n2_ : Aside0 (Below w.heap.size w wc) := ⟨Z67⟩; (try replace hcz65_0 := cell_at hq_ hcz65_0); (try replace hfz65_0 : wc.frozen? ⟨gb205, 0, none⟩ = false := by rw [← hq_]; exact hfz65_0); (try replace hcz65_1 := cell_at hq_ hcz65_1); (try replace hfz65_1 : wc.frozen? ⟨gb205, 1, none⟩ = false := by rw [← hq_]; exact hfz65_1); (try replace hcz65_2 := cell_at hq_ hcz65_2); (try replace hfz65_2 : wc.frozen? ⟨gb205, 2, none⟩ = false := by rw [← hq_]; exact hfz65_2); (try replace hcz65_3 := cell_at hq_ hcz65_3); (try replace hfz65_3 : wc.frozen? ⟨gb205, 3, none⟩ = false := by rw [← hq_]; exact hfz65_3); (try replace hcz65_4 := cell_at hq_ hcz65_4); (try replace hfz65_4 : wc.frozen? ⟨gb205, 4, none⟩ = false := by rw [← hq_]; exact hfz65_4); clear BK205 BK206 HB hq_; have BK205 := n0_; have BK206 := n1_; have HB := n2_; clear n0_ n1_ n2_))) | ((with_reducible refine gate_callee (f := 69) rfl ?_); refine goesL_ (some 23) rfl rfl Try.func69 Z0 rfl #[.agg #[.int .i64 a0_0, .string a0_1, .int .i32 a0_2, .bool a0_3, .int .u32 a0_4]] rfl Z9 ?_; (with_reducible refine (spec_ItemOk.calls kj2 a0_0 a0_1 a0_2 a0_3 a0_4 false _ A45.out).mono ?_); rintro e w66 ⟨rfl, hb⟩; refine ⟨_, rfl, ?_⟩; replace BK205 := Z (blk_below (g := gb205) (o := .cells #[.int .i64 a0_0, .string a0_1, .int .i32 a0_2, .bool a0_3, .int .u32 a0_4] 51 (0, 0)) (Z13 BK205) hb); replace BK206 := Z (blk_below (g := gb206) (o := .cells #[.int .i64 0, .string (⟨#[]⟩ : ByteArray), .int .i32 0, .bool false, .int .u32 0] 51 (0, 0)) (Z13 BK206) hb); replace HB := Z (below_step Z47 hb); (try clear hb); (try clear hb2); (try clear hk); (try clear hi); have hcz67_0 : w66.cell? ⟨gb206, 0, none⟩ = some (.int .i64 0) := (blk_cell BK206.out 0).trans rfl; have hcz67_1 : w66.cell? ⟨gb206, 1, none⟩ = some (.string (⟨#[]⟩ : ByteArray)) := (blk_cell BK206.out 1).trans rfl; have hcz67_2 : w66.cell? ⟨gb206, 2, none⟩ = some (.int .i32 0) := (blk_cell BK206.out 2).trans rfl; have hcz67_3 : w66.cell? ⟨gb206, 3, none⟩ = some (.bool false) := (blk_cell BK206.out 3).trans rfl; have hcz67_4 : w66.cell? ⟨gb206, 4, none⟩ = some (.int .u32 0) := (blk_cell BK206.out 4).trans rfl; have hfz67_0 := blk_frozen BK206.out 0; have hfz67_1 := blk_frozen BK206.out 1; have hfz67_2 := blk_frozen BK206.out 2; have hfz67_3 := blk_frozen BK206.out 3; have hfz67_4 := blk_frozen BK206.out 4))
     refine bodyPost_ret (results_ct rfl _ _ gb206 51 #[.int .i64 0, .string (⟨#[]⟩ : ByteArray), .int .i32 0, .bool false, .int .u32 0] (0, 0) _ rfl (Z21 BK206) Try.underlying51 rfl Z0) rfl ?_
     exact ⟨Z7, Z47⟩

/-! ### impl_nameTag: function 70 -/
def impl_nameTag.f (a0 : Int) : Option (Int) := if a0 = 1 then (some 1) else (if a0 = 2 then (some 3) else (if a0 = 3 then (some 4) else (if a0 = 4 then (some 9) else (if a0 = 5 then (some 10) else (if a0 = 6 then (some 11) else (some 0))))))
set_option maxHeartbeats 8000000 in
set_option maxRecDepth 100000 in
theorem impl_nameTag.calls (a0 : Int) (r : Int) (w : World) (h : impl_nameTag.f a0 = some r) :
  Calls Try.prog 70 #[.int .i64 a0] w fun e w' => e = .returned (.int .u32 r) ∧ Drawn0 w w' := by
 have H : (if a0 = 1 then (some 1) else (if a0 = 2 then (some 3) else (if a0 = 3 then (some 4) else (if a0 = 4 then (some 9) else (if a0 = 5 then (some 10) else (if a0 = 6 then (some 11) else (some 0))))))) = some r := h
 clear h
 by_cases c2 : a0 = 1
 ·rw [if_pos c2] at H
  have c2b0 : (a0 == 1) = true := beq_iff_eq.mpr c2
  have c2b1 : (a0 != 1) = false := bne_eq_false_iff_eq.mpr c2
  clear c2
  obtain rfl := Option.some.inj H
  go_enter Try.func70, Try.ntmps70
  go_wp2
  go_ret
  exact ⟨Z2, Z3⟩
 ·rw [if_neg c2] at H
  have c2b0 : (a0 == 1) = false := beq_eq_false_iff_ne.mpr c2
  have c2b1 : (a0 != 1) = true := bne_iff_ne.mpr c2
  by_cases c3 : a0 = 2
  ·rw [if_pos c3] at H
   have c3b0 : (a0 == 2) = true := beq_iff_eq.mpr c3
   have c3b1 : (a0 != 2) = false := bne_eq_false_iff_eq.mpr c3
   clear c3
   obtain rfl := Option.some.inj H
   go_enter Try.func70, Try.ntmps70
   go_wp2
   go_ret
   exact ⟨Z2, Z3⟩
  ·rw [if_neg c3] at H
   have c3b0 : (a0 == 2) = false := beq_eq_false_iff_ne.mpr c3
   have c3b1 : (a0 != 2) = true := bne_iff_ne.mpr c3
   by_cases c4 : a0 = 3
   ·rw [if_pos c4] at H
    have c4b0 : (a0 == 3) = true := beq_iff_eq.mpr c4
    have c4b1 : (a0 != 3) = false := bne_eq_false_iff_eq.mpr c4
    clear c4
    obtain rfl := Option.some.inj H
    go_enter Try.func70, Try.ntmps70
    go_wp2
    go_ret
    exact ⟨Z2, Z3⟩
   ·rw [if_neg c4] at H
    have c4b0 : (a0 == 3) = false := beq_eq_false_iff_ne.mpr c4
    have c4b1 : (a0 != 3) = true := bne_iff_ne.mpr c4
    by_cases c5 : a0 = 4
    ·rw [if_pos c5] at H
     have c5b0 : (a0 == 4) = true := beq_iff_eq.mpr c5
     have c5b1 : (a0 != 4) = false := bne_eq_false_iff_eq.mpr c5
     clear c5
     obtain rfl := Option.some.inj H
     go_enter Try.func70, Try.ntmps70
     go_wp2
     go_ret
     exact ⟨Z2, Z3⟩
    ·rw [if_neg c5] at H
     have c5b0 : (a0 == 4) = false := beq_eq_false_iff_ne.mpr c5
     have c5b1 : (a0 != 4) = true := bne_iff_ne.mpr c5
     by_cases c6 : a0 = 5
     ·rw [if_pos c6] at H
      have c6b0 : (a0 == 5) = true := beq_iff_eq.mpr c6
      have c6b1 : (a0 != 5) = false := bne_eq_false_iff_eq.mpr c6
      clear c6
      obtain rfl := Option.some.inj H
      go_enter Try.func70, Try.ntmps70
      go_wp2
      go_ret
      exact ⟨Z2, Z3⟩
     ·rw [if_neg c6] at H
      have c6b0 : (a0 == 5) = false := beq_eq_false_iff_ne.mpr c6
      have c6b1 : (a0 != 5) = true := bne_iff_ne.mpr c6
      by_cases c7 : a0 = 6
      ·rw [if_pos c7] at H
       have c7b0 : (a0 == 6) = true := beq_iff_eq.mpr c7
       have c7b1 : (a0 != 6) = false := bne_eq_false_iff_eq.mpr c7
       clear c7
       obtain rfl := Option.some.inj H
       go_enter Try.func70, Try.ntmps70
       go_wp2
       go_ret
       exact ⟨Z2, Z3⟩
      ·rw [if_neg c7] at H
       have c7b0 : (a0 == 6) = false := beq_eq_false_iff_ne.mpr c7
       have c7b1 : (a0 != 6) = true := bne_iff_ne.mpr c7
       obtain rfl := Option.some.inj H
       go_enter Try.func70, Try.ntmps70
       go_wp2
       go_ret
       exact ⟨Z2, Z3⟩

/-! ### impl_within: function 103 -/
def impl_within.f (a0 : Int) (a1 : Int) (a2 : Int) : Option (Bool) := if a1 ≤ a0 then (some (decide (a0 ≤ a2))) else (some false)
set_option maxHeartbeats 8000000 in
set_option maxRecDepth 100000 in
theorem impl_within.calls (a0 : Int) (a1 : Int) (a2 : Int) (r : Bool) (w : World) (h : impl_within.f a0 a1 a2 = some r) :
  Calls Try.prog 103 #[.int .i64 a0, .int .i64 a1, .int .i64 a2] w fun e w' => e = .returned (.bool r) ∧ Drawn0 w w' := by
 have H : (if a1 ≤ a0 then (some (decide (a0 ≤ a2))) else (some false)) = some r := h
 clear h
 by_cases c4 : a1 ≤ a0
 ·rw [if_pos c4] at H
  have c4b0 : decide (a1 ≤ a0) = true := decide_eq_true c4
  clear c4
  obtain rfl := Option.some.inj H
  go_enter Try.func103, Try.ntmps103
  go_wp2
  go_ret
  exact ⟨Z2, Z3⟩
 ·rw [if_neg c4] at H
  have c4b0 : decide (a1 ≤ a0) = false := decide_eq_false c4
  clear c4
  obtain rfl := Option.some.inj H
  go_enter Try.func103, Try.ntmps103
  go_wp2
  go_ret
  exact ⟨Z2, Z3⟩

/-! ### impl_letters: function 124 -/
def impl_letters.f  : Option (ByteArray) := some (⟨#[32, 114, 116, 111, 101, 97, 110, 105, 115, 109, 99, 121, 108, 103, 102, 119, 100, 118, 112, 98, 104, 120, 117, 113, 48, 49, 50, 51, 52, 53, 54, 55, 56, 57, 106, 45, 107, 46, 122, 47, 59, 39, 33, 43, 64, 42, 44, 63]⟩ : ByteArray)
set_option maxHeartbeats 8000000 in
set_option maxRecDepth 100000 in
theorem impl_letters.calls  (r : ByteArray) (w : World) (h : impl_letters.f  = some r) :
  Calls Try.prog 124 #[] w fun e w' => e = .returned (.string r) ∧ Drawn0 w w' := by
 have H : (some (⟨#[32, 114, 116, 111, 101, 97, 110, 105, 115, 109, 99, 121, 108, 103, 102, 119, 100, 118, 112, 98, 104, 120, 117, 113, 48, 49, 50, 51, 52, 53, 54, 55, 56, 57, 106, 45, 107, 46, 122, 47, 59, 39, 33, 43, 64, 42, 44, 63]⟩ : ByteArray)) = some r := h
 clear h
 obtain rfl := Option.some.inj H
 go_enter Try.func124, Try.ntmps124
 go_wp2
 go_ret
 exact ⟨Z2, Z3⟩

-- NOT PRINTED: function 134 (bytealg_IndexByteString)

/-! ### stringslite_IndexByte: function 133 (by hand: it calls an entry without a body) -/
def stringslite_IndexByte.f (a0 : ByteArray) (a1 : Int) : Option (Int) := some (Lib.indexByte a0.data.toList a1.toNat.toUInt8)
set_option maxHeartbeats 1000000 in
set_option maxRecDepth 100000 in
theorem stringslite_IndexByte.calls (a0 : ByteArray) (a1 : Int) (r : Int) (w : World) (h : stringslite_IndexByte.f a0 a1 = some r) :
  Calls Try.prog 133 #[.string a0, .int .u8 a1] w fun e w' => e = .returned (.int .i64 r) ∧ Drawn0 w w' := by
 obtain rfl := Option.some.inj h
 go_enter Try.func133, Try.ntmps133
 go_wp2
 rw [run_callFunc_extern Try.func134 Z0 Z0 Z0 (e := Extern.BytealgIndexByte.indexByte) Z0, Lib.run_indexByteString]
 simp only [Result.andThen]
 rw [Oper.upon_value]
 go_wp2
 go_ret
 exact ⟨rfl, Drawn0.refl _⟩

/-! ### strings_IndexByte: function 131 -/
def strings_IndexByte.f (a0 : ByteArray) (a1 : Int) : Option (Int) := (stringslite_IndexByte.f a0 a1).bind fun t213 => (some t213)
set_option maxHeartbeats 8000000 in
set_option maxRecDepth 100000 in
theorem strings_IndexByte.calls (a0 : ByteArray) (a1 : Int) (r : Int) (w : World) (h : strings_IndexByte.f a0 a1 = some r) :
  Calls Try.prog 131 #[.string a0, .int .u8 a1] w fun e w' => e = .returned (.int .i64 r) ∧ Drawn0 w w' := by
 have H : ((stringslite_IndexByte.f a0 a1).bind fun t213 => (some t213)) = some r := h
 clear h
 replace H := Option.bind_eq_some_iff.mp H
 obtain ⟨t213, A30, H⟩ := H
 replace H : (some t213) = some r := H
 have A3 := Aside0.mk A30
 clear A30
 obtain rfl := Option.some.inj H
 go_enter Try.func131, Try.ntmps131
 go_wp2_with (first | ((with_reducible refine gate_callee (f := 133) rfl ?_); refine goesL_ (some 7) rfl rfl Try.func133 Z0 rfl #[.string a0, .int .u8 a1] rfl Z9 ?_; (with_reducible refine (stringslite_IndexByte.calls a0 a1 t213 _ A3.out).mono ?_); rintro e w' ⟨rfl, ⟨nd, rfl⟩⟩; refine ⟨_, rfl, ?_⟩))
 go_ret
 exact ⟨Z2, Z3⟩

/-! ### impl_LetterOf: function 121 -/
def impl_LetterOf.f (a0 : Int) : Option (Int) := (impl_letters.f).bind fun t214 => ((strings_IndexByte.f t214 a0).bind fun t215 => (some t215))
set_option maxHeartbeats 8000000 in
set_option maxRecDepth 100000 in
theorem impl_LetterOf.calls (a0 : Int) (r : Int) (w : World) (h : impl_LetterOf.f a0 = some r) :
  Calls Try.prog 121 #[.int .u8 a0] w fun e w' => e = .returned (.int .i64 r) ∧ Drawn0 w w' := by
 have H : ((impl_letters.f).bind fun t214 => ((strings_IndexByte.f t214 a0).bind fun t215 => (some t215))) = some r := h
 clear h
 replace H := Option.bind_eq_some_iff.mp H
 obtain ⟨t214, A20, H⟩ := H
 replace H : ((strings_IndexByte.f t214 a0).bind fun t215 => (some t215)) = some r := H
 have A2 := Aside0.mk A20
 clear A20
 replace H := Option.bind_eq_some_iff.mp H
 obtain ⟨t215, A30, H⟩ := H
 replace H : (some t215) = some r := H
 have A3 := Aside0.mk A30
 clear A30
 obtain rfl := Option.some.inj H
 go_enter Try.func121, Try.ntmps121
 go_wp2_with (first | ((with_reducible refine gate_callee (f := 124) rfl ?_); refine goesL_ (some 3) rfl rfl Try.func124 Z0 rfl #[] rfl Z9 ?_; (with_reducible refine (impl_letters.calls  t214 _ A2.out).mono ?_); rintro e w' ⟨rfl, ⟨nd, rfl⟩⟩; refine ⟨_, rfl, ?_⟩) | ((with_reducible refine gate_callee (f := 131) rfl ?_); refine goesL_ (some 5) rfl rfl Try.func131 Z0 rfl #[.string t214, .int .u8 a0] rfl Z9 ?_; (with_reducible refine (strings_IndexByte.calls t214 a0 t215 _ A3.out).mono ?_); rintro e w' ⟨rfl, ⟨nd, rfl⟩⟩; refine ⟨_, rfl, ?_⟩))
 go_ret
 exact ⟨Z2, Z3⟩

/-! ### impl_NameOk: function 106 -/
def impl_NameOk.l0 : Nat → ByteArray → Int → Int → Option (Bool)
 | 0, _, _, _ => none
 | k + 1, x0, x5, x6 => if x6 < x5 then (if 0 ≤ x6 then (if x6 < (x0.size : Int) then ((impl_LetterOf.f (bt x0 x6)).bind fun t216 => (if t216 < 1 then (some false) else (impl_NameOk.l0 k x0 x5 (wrap64 (x6 + 1))))) else (none)) else (none)) else ((impl_within.f (x0.size : Int) 1 24).bind fun t217 => (some t217))
def impl_NameOk.f (k : Nat) (a0 : ByteArray) : Option (Bool) := impl_NameOk.l0 k a0 (a0.size : Int) 0
theorem impl_NameOk.mono_l : ∀ k, (∀ y0 y1 y2, LeO (impl_NameOk.l0 k y0 y1 y2) (impl_NameOk.l0 (k + 1) y0 y1 y2))
 | 0 => fun _ _ _ r h => by simp [impl_NameOk.l0] at h
 | k + 1 => by
  have ih0 := impl_NameOk.mono_l k
  ·intro y0 y1 y2
   unfold impl_NameOk.l0
   repeat' first
   | (with_reducible exact ih0 _ _ _)
   | (with_reducible exact LeO.refl _)
   | (with_reducible exact LeO.none _)
   | (with_reducible refine LeO.ite ?_ ?_)
   | (with_reducible refine LeO.bind ?_ (fun _ => ?_))
   | exact ih0 _ _ _
   | exact LeO.none _
   | refine LeO.ite ?_ ?_
   | refine LeO.bind ?_ (fun _ => ?_)
theorem impl_NameOk.mono : ∀ a0 k, LeO (impl_NameOk.f k a0) (impl_NameOk.f (k + 1) a0) := by
 intro a0 k
 have ih0 := impl_NameOk.mono_l k
 unfold impl_NameOk.f
 repeat' first
   | (with_reducible exact ih0 _ _ _)
   | (with_reducible exact LeO.refl _)
   | (with_reducible exact LeO.none _)
   | (with_reducible refine LeO.ite ?_ ?_)
   | (with_reducible refine LeO.bind ?_ (fun _ => ?_))
   | exact ih0 _ _ _
   | exact LeO.none _
   | refine LeO.ite ?_ ?_
   | refine LeO.bind ?_ (fun _ => ?_)
set_option maxHeartbeats 8000000 in
set_option maxRecDepth 100000 in
theorem impl_NameOk.calls (k : Nat) (a0 : ByteArray) (r : Bool) (w : World) (h : impl_NameOk.f k a0 = some r) :
  Calls Try.prog 106 #[.string a0] w fun e w' => e = .returned (.bool r) ∧ Drawn0 w w' := by
 have H : (impl_NameOk.l0 k a0 (a0.size : Int) 0) = some r := h
 clear h
 have H' := Aside0.mk H
 clear H
 go_enter Try.func106, Try.ntmps106
 go_wp2
 go_loopg [6] k (fun kq v6 w' => ∃ (x6_1 : Int), v6 = .int .i64 x6_1 ∧ Aside0 (impl_NameOk.l0 kq a0 (a0.size : Int) x6_1 = some r) ∧ Aside0 (kq ≤ k) ∧ Drawn0 w w')
 case atStart => exact ⟨(0), Z2, H', ⟨Nat.le_refl _⟩, Z3⟩
 case round =>
  clear H'
  try clear c1
  obtain ⟨x6_1, rfl, HA, HK1, ⟨m1, rfl⟩⟩ := hrel
  cases gk with
  | zero => exact absurd HA.out (by simp [impl_NameOk.l0])
  | succ k1 =>
   have H := HA.out
   clear HA
   simp only [impl_NameOk.l0] at H
   by_cases c2 : x6_1 < (a0.size : Int)
   ·rw [if_pos c2] at H
    have c2b0 : decide (x6_1 < (a0.size : Int)) = true := decide_eq_true c2
    clear c2
    by_cases c3 : 0 ≤ x6_1
    ·rw [if_pos c3] at H
     have c3b0 : decide (0 ≤ x6_1) = true := decide_eq_true c3
     clear c3
     by_cases c4 : x6_1 < (a0.size : Int)
     ·rw [if_pos c4] at H
      have c4b0 : decide (x6_1 < (a0.size : Int)) = true := decide_eq_true c4
      clear c4
      replace H := Option.bind_eq_some_iff.mp H
      obtain ⟨t216, A60, H⟩ := H
      replace H : (if t216 < 1 then (some false) else (impl_NameOk.l0 k1 a0 (a0.size : Int) (wrap64 (x6_1 + 1)))) = some r := H
      have A6 := Aside0.mk A60
      clear A60
      by_cases c7 : t216 < 1
      ·rw [if_pos c7] at H
       have c7b0 : decide (t216 < 1) = true := decide_eq_true c7
       clear c7
       obtain rfl := Option.some.inj H
       have p5 : 0 ≤ (x6_1 : Int) := of_decide_eq_true Z10
       have q5 : x6_1 < (a0.size : Int) := of_decide_eq_true Z10
       have hx5 := bt_at a0 x6_1
       replace p5 := eq_true p5
       replace q5 := eq_true q5
       go_wp2_with (first | ((with_reducible refine gate_callee (f := 121) rfl ?_); refine goesL_ (some 12) rfl rfl Try.func121 Z0 rfl #[.int .u8 (bt a0 x6_1)] rfl Z9 ?_; (with_reducible refine (impl_LetterOf.calls (bt a0 x6_1) t216 _ A6.out).mono ?_); rintro e w' ⟨rfl, ⟨nd, rfl⟩⟩; refine ⟨_, rfl, ?_⟩))
       go_ret
       exact ⟨Z2, Z3⟩
      ·rw [if_neg c7] at H
       have c7b0 : decide (t216 < 1) = false := decide_eq_false c7
       clear c7
       have H' := Aside0.mk H
       clear H
       have p5 : 0 ≤ (x6_1 : Int) := of_decide_eq_true Z10
       have q5 : x6_1 < (a0.size : Int) := of_decide_eq_true Z10
       have hx5 := bt_at a0 x6_1
       replace p5 := eq_true p5
       replace q5 := eq_true q5
       go_wp2_with (first | ((with_reducible refine gate_callee (f := 121) rfl ?_); refine goesL_ (some 12) rfl rfl Try.func121 Z0 rfl #[.int .u8 (bt a0 x6_1)] rfl Z9 ?_; (with_reducible refine (impl_LetterOf.calls (bt a0 x6_1) t216 _ A6.out).mono ?_); rintro e w' ⟨rfl, ⟨nd, rfl⟩⟩; refine ⟨_, rfl, ?_⟩))
       go_roundg k1
       case measure => have := HK1.out; omega
       case rel => exact ⟨(wrap64 (x6_1 + 1)), Z2, H', ⟨Z11⟩, Z3⟩
     ·rw [if_neg c4] at H
      exact absurd H (by simp)
    ·rw [if_neg c3] at H
     exact absurd H (by simp)
   ·rw [if_neg c2] at H
    have c2b0 : decide (x6_1 < (a0.size : Int)) = false := decide_eq_false c2
    clear c2
    replace H := Option.bind_eq_some_iff.mp H
    obtain ⟨t217, A80, H⟩ := H
    replace H : (some t217) = some r := H
    have A8 := Aside0.mk A80
    clear A80
    obtain rfl := Option.some.inj H
    go_wp2_with (first | ((with_reducible refine gate_callee (f := 103) rfl ?_); refine goesL_ (some 17) rfl rfl Try.func103 Z0 rfl #[.int .i64 (a0.size : Int), .int .i64 1, .int .i64 24] rfl Z9 ?_; (with_reducible refine (impl_within.calls (a0.size : Int) 1 24 t217 _ A8.out).mono ?_); rintro e w' ⟨rfl, ⟨nd, rfl⟩⟩; refine ⟨_, rfl, ?_⟩))
    go_ret
    exact ⟨Z2, Z3⟩

/-! ### impl_WidthOf: function 122 -/
def impl_WidthOf.f (a0 : Int) : Option (Int) := (impl_within.f a0 0 7).bind fun t218 => (if t218 = true then (some 4) else ((impl_within.f a0 8 15).bind fun t219 => (if t219 = true then (some 5) else ((impl_within.f a0 16 47).bind fun t220 => (if t220 = true then (some 7) else (some 0))))))
set_option maxHeartbeats 8000000 in
set_option maxRecDepth 100000 in
theorem impl_WidthOf.calls (a0 : Int) (r : Int) (w : World) (h : impl_WidthOf.f a0 = some r) :
  Calls Try.prog 122 #[.int .i64 a0] w fun e w' => e = .returned (.int .i64 r) ∧ Drawn0 w w' := by
 have H : ((impl_within.f a0 0 7).bind fun t218 => (if t218 = true then (some 4) else ((impl_within.f a0 8 15).bind fun t219 => (if t219 = true then (some 5) else ((impl_within.f a0 16 47).bind fun t220 => (if t220 = true then (some 7) else (some 0))))))) = some r := h
 clear h
 replace H := Option.bind_eq_some_iff.mp H
 obtain ⟨t218, A20, H⟩ := H
 replace H : (if t218 = true then (some 4) else ((impl_within.f a0 8 15).bind fun t219 => (if t219 = true then (some 5) else ((impl_within.f a0 16 47).bind fun t220 => (if t220 = true then (some 7) else (some 0)))))) = some r := H
 have A2 := Aside0.mk A20
 clear A20
 by_cases c3 : t218 = true
 ·subst c3
  have H1 : (some 4) = some r := Z4
  clear H
  have H := H1
  clear H1
  obtain rfl := Option.some.inj H
  go_enter Try.func122, Try.ntmps122
  go_wp2_with (first | ((with_reducible refine gate_callee (f := 103) rfl ?_); refine goesL_ (some 5) rfl rfl Try.func103 Z0 rfl #[.int .i64 a0, .int .i64 0, .int .i64 7] rfl Z9 ?_; (with_reducible refine (impl_within.calls a0 0 7 true _ A2.out).mono ?_); rintro e w' ⟨rfl, ⟨nd, rfl⟩⟩; refine ⟨_, rfl, ?_⟩))
  go_ret
  exact ⟨Z2, Z3⟩
 ·replace c3 := Bool.eq_false_iff.mpr c3
  subst c3
  have H1 : ((impl_within.f a0 8 15).bind fun t219 => (if t219 = true then (some 5) else ((impl_within.f a0 16 47).bind fun t220 => (if t220 = true then (some 7) else (some 0))))) = some r := by rw [if_neg (show ¬ (false = true) by decide)] at H; exact H
  clear H
  have H := H1
  clear H1
  replace H := Option.bind_eq_some_iff.mp H
  obtain ⟨t219, A40, H⟩ := H
  replace H : (if t219 = true then (some 5) else ((impl_within.f a0 16 47).bind fun t220 => (if t220 = true then (some 7) else (some 0)))) = some r := H
  have A4 := Aside0.mk A40
  clear A40
  by_cases c5 : t219 = true
  ·subst c5
   have H1 : (some 5) = some r := Z4
   clear H
   have H := H1
   clear H1
   obtain rfl := Option.some.inj H
   go_enter Try.func122, Try.ntmps122
   go_wp2_with (first | ((with_reducible refine gate_callee (f := 103) rfl ?_); refine goesL_ (some 5) rfl rfl Try.func103 Z0 rfl #[.int .i64 a0, .int .i64 0, .int .i64 7] rfl Z9 ?_; (with_reducible refine (impl_within.calls a0 0 7 false _ A2.out).mono ?_); rintro e w' ⟨rfl, ⟨nd, rfl⟩⟩; refine ⟨_, rfl, ?_⟩) | ((with_reducible refine gate_callee (f := 103) rfl ?_); refine goesL_ (some 8) rfl rfl Try.func103 Z0 rfl #[.int .i64 a0, .int .i64 8, .int .i64 15] rfl Z9 ?_; (with_reducible refine (impl_within.calls a0 8 15 true _ A4.out).mono ?_); rintro e w' ⟨rfl, ⟨nd, rfl⟩⟩; refine ⟨_, rfl, ?_⟩))
   go_ret
   exact ⟨Z2, Z3⟩
  ·replace c5 := Bool.eq_false_iff.mpr c5
   subst c5
   have H1 : ((impl_within.f a0 16 47).bind fun t220 => (if t220 = true then (some 7) else (some 0))) = some r := by rw [if_neg (show ¬ (false = true) by decide)] at H; exact H
   clear H
   have H := H1
   clear H1
   replace H := Option.bind_eq_some_iff.mp H
   obtain ⟨t220, A60, H⟩ := H
   replace H : (if t220 = true then (some 7) else (some 0)) = some r := H
   have A6 := Aside0.mk A60
   clear A60
   by_cases c7 : t220 = true
   ·subst c7
    have H1 : (some 7) = some r := Z4
    clear H
    have H := H1
    clear H1
    obtain rfl := Option.some.inj H
    go_enter Try.func122, Try.ntmps122
    go_wp2_with (first | ((with_reducible refine gate_callee (f := 103) rfl ?_); refine goesL_ (some 5) rfl rfl Try.func103 Z0 rfl #[.int .i64 a0, .int .i64 0, .int .i64 7] rfl Z9 ?_; (with_reducible refine (impl_within.calls a0 0 7 false _ A2.out).mono ?_); rintro e w' ⟨rfl, ⟨nd, rfl⟩⟩; refine ⟨_, rfl, ?_⟩) | ((with_reducible refine gate_callee (f := 103) rfl ?_); refine goesL_ (some 8) rfl rfl Try.func103 Z0 rfl #[.int .i64 a0, .int .i64 8, .int .i64 15] rfl Z9 ?_; (with_reducible refine (impl_within.calls a0 8 15 false _ A4.out).mono ?_); rintro e w' ⟨rfl, ⟨nd, rfl⟩⟩; refine ⟨_, rfl, ?_⟩) | ((with_reducible refine gate_callee (f := 103) rfl ?_); refine goesL_ (some 11) rfl rfl Try.func103 Z0 rfl #[.int .i64 a0, .int .i64 16, .int .i64 47] rfl Z9 ?_; (with_reducible refine (impl_within.calls a0 16 47 true _ A6.out).mono ?_); rintro e w' ⟨rfl, ⟨nd, rfl⟩⟩; refine ⟨_, rfl, ?_⟩))
    go_ret
    exact ⟨Z2, Z3⟩
   ·replace c7 := Bool.eq_false_iff.mpr c7
    subst c7
    have H1 : (some 0) = some r := by rw [if_neg (show ¬ (false = true) by decide)] at H; exact H
    clear H
    have H := H1
    clear H1
    obtain rfl := Option.some.inj H
    go_enter Try.func122, Try.ntmps122
    go_wp2_with (first | ((with_reducible refine gate_callee (f := 103) rfl ?_); refine goesL_ (some 5) rfl rfl Try.func103 Z0 rfl #[.int .i64 a0, .int .i64 0, .int .i64 7] rfl Z9 ?_; (with_reducible refine (impl_within.calls a0 0 7 false _ A2.out).mono ?_); rintro e w' ⟨rfl, ⟨nd, rfl⟩⟩; refine ⟨_, rfl, ?_⟩) | ((with_reducible refine gate_callee (f := 103) rfl ?_); refine goesL_ (some 8) rfl rfl Try.func103 Z0 rfl #[.int .i64 a0, .int .i64 8, .int .i64 15] rfl Z9 ?_; (with_reducible refine (impl_within.calls a0 8 15 false _ A4.out).mono ?_); rintro e w' ⟨rfl, ⟨nd, rfl⟩⟩; refine ⟨_, rfl, ?_⟩) | ((with_reducible refine gate_callee (f := 103) rfl ?_); refine goesL_ (some 11) rfl rfl Try.func103 Z0 rfl #[.int .i64 a0, .int .i64 16, .int .i64 47] rfl Z9 ?_; (with_reducible refine (impl_within.calls a0 16 47 false _ A6.out).mono ?_); rintro e w' ⟨rfl, ⟨nd, rfl⟩⟩; refine ⟨_, rfl, ?_⟩))
    go_ret
    exact ⟨Z2, Z3⟩

/-! ### impl_BitsOf: function 123 -/
def impl_BitsOf.f (a0 : Int) : Option (Int) := (impl_WidthOf.f a0).bind fun t221 => (if t221 = 4 then (some ((a0) % 4294967296)) else (if t221 = 5 then (some ((((a0) % 4294967296) + 8) % 4294967296)) else (if t221 = 7 then (some ((((a0) % 4294967296) + 80) % 4294967296)) else (some 0))))
set_option maxHeartbeats 8000000 in
set_option maxRecDepth 100000 in
theorem impl_BitsOf.calls (a0 : Int) (r : Int) (w : World) (h : impl_BitsOf.f a0 = some r) :
  Calls Try.prog 123 #[.int .i64 a0] w fun e w' => e = .returned (.int .u32 r) ∧ Drawn0 w w' := by
 have H : ((impl_WidthOf.f a0).bind fun t221 => (if t221 = 4 then (some ((a0) % 4294967296)) else (if t221 = 5 then (some ((((a0) % 4294967296) + 8) % 4294967296)) else (if t221 = 7 then (some ((((a0) % 4294967296) + 80) % 4294967296)) else (some 0))))) = some r := h
 clear h
 replace H := Option.bind_eq_some_iff.mp H
 obtain ⟨t221, A20, H⟩ := H
 replace H : (if t221 = 4 then (some ((a0) % 4294967296)) else (if t221 = 5 then (some ((((a0) % 4294967296) + 8) % 4294967296)) else (if t221 = 7 then (some ((((a0) % 4294967296) + 80) % 4294967296)) else (some 0)))) = some r := H
 have A2 := Aside0.mk A20
 clear A20
 by_cases c3 : t221 = 4
 ·rw [if_pos c3] at H
  have c3b0 : (t221 == 4) = true := beq_iff_eq.mpr c3
  have c3b1 : (t221 != 4) = false := bne_eq_false_iff_eq.mpr c3
  clear c3
  obtain rfl := Option.some.inj H
  go_enter Try.func123, Try.ntmps123
  go_wp2_with (first | ((with_reducible refine gate_callee (f := 122) rfl ?_); refine goesL_ (some 4) rfl rfl Try.func122 Z0 rfl #[.int .i64 a0] rfl Z9 ?_; (with_reducible refine (impl_WidthOf.calls a0 t221 _ A2.out).mono ?_); rintro e w' ⟨rfl, ⟨nd, rfl⟩⟩; refine ⟨_, rfl, ?_⟩))
  go_ret
  exact ⟨Z2, Z3⟩
 ·rw [if_neg c3] at H
  have c3b0 : (t221 == 4) = false := beq_eq_false_iff_ne.mpr c3
  have c3b1 : (t221 != 4) = true := bne_iff_ne.mpr c3
  by_cases c4 : t221 = 5
  ·rw [if_pos c4] at H
   have c4b0 : (t221 == 5) = true := beq_iff_eq.mpr c4
   have c4b1 : (t221 != 5) = false := bne_eq_false_iff_eq.mpr c4
   clear c4
   obtain rfl := Option.some.inj H
   go_enter Try.func123, Try.ntmps123
   go_wp2_with (first | ((with_reducible refine gate_callee (f := 122) rfl ?_); refine goesL_ (some 4) rfl rfl Try.func122 Z0 rfl #[.int .i64 a0] rfl Z9 ?_; (with_reducible refine (impl_WidthOf.calls a0 t221 _ A2.out).mono ?_); rintro e w' ⟨rfl, ⟨nd, rfl⟩⟩; refine ⟨_, rfl, ?_⟩))
   go_ret
   exact ⟨Z2, Z3⟩
  ·rw [if_neg c4] at H
   have c4b0 : (t221 == 5) = false := beq_eq_false_iff_ne.mpr c4
   have c4b1 : (t221 != 5) = true := bne_iff_ne.mpr c4
   by_cases c5 : t221 = 7
   ·rw [if_pos c5] at H
    have c5b0 : (t221 == 7) = true := beq_iff_eq.mpr c5
    have c5b1 : (t221 != 7) = false := bne_eq_false_iff_eq.mpr c5
    clear c5
    obtain rfl := Option.some.inj H
    go_enter Try.func123, Try.ntmps123
    go_wp2_with (first | ((with_reducible refine gate_callee (f := 122) rfl ?_); refine goesL_ (some 4) rfl rfl Try.func122 Z0 rfl #[.int .i64 a0] rfl Z9 ?_; (with_reducible refine (impl_WidthOf.calls a0 t221 _ A2.out).mono ?_); rintro e w' ⟨rfl, ⟨nd, rfl⟩⟩; refine ⟨_, rfl, ?_⟩))
    go_ret
    exact ⟨Z2, Z3⟩
   ·rw [if_neg c5] at H
    have c5b0 : (t221 == 7) = false := beq_eq_false_iff_ne.mpr c5
    have c5b1 : (t221 != 7) = true := bne_iff_ne.mpr c5
    obtain rfl := Option.some.inj H
    go_enter Try.func123, Try.ntmps123
    go_wp2_with (first | ((with_reducible refine gate_callee (f := 122) rfl ?_); refine goesL_ (some 4) rfl rfl Try.func122 Z0 rfl #[.int .i64 a0] rfl Z9 ?_; (with_reducible refine (impl_WidthOf.calls a0 t221 _ A2.out).mono ?_); rintro e w' ⟨rfl, ⟨nd, rfl⟩⟩; refine ⟨_, rfl, ?_⟩))
    go_ret
    exact ⟨Z2, Z3⟩

end Go.Proofs.Ytkkiibjnpkjijaa.QFnColor
