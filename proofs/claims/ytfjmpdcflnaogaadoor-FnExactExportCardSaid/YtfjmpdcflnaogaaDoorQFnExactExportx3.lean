/-
Plain functions for the Go functions that a law reaches, each with a proof that the translation's call comes to just that; no conditions beyond those written in each.
-/
import Derived.Test.YtfjmpdcflnaogaaDoorSFnExactExport
import Derived.Test.YtfjmpdcflnaogaaDoorQFnExactExportx1
import Derived.Test.YtfjmpdcflnaogaaDoorQFnExactExportx2
namespace Go.Proofs.YtfjmpdcflnaogaaDoor.QFnExactExport
open Go.RowKit Go.Proofs.YtfjmpdcflnaogaaDoorW.PrintWords Go.Proofs.YtfjmpdcflnaogaaDoorW.PrintLast Go.Proofs.YtfjmpdcflnaogaaDoorW.PrintMore
attribute [local go_sem] max2_int min2_int max_two min_two max_three min_three max_four min_four   -- for this text's walks alone
set_option linter.unusedVariables false
set_option linter.unusedSimpArgs false

/-! ### spec_l04Number: function 64 -/
mutual
def spec_l04Number.j0 : Nat → List Int → Int → Int → Int → Bool → Int → ByteArray → Int → Bool → Int → Option (Int × ByteArray × Int × Bool × Int × Int)
 | 0, _, _, _, _, _, _, _, _, _, _ => none
 | k + 1, x0, x1, x6, x7, x24, x256000, x256001, x256002, x256003, x256004 => if x24 = true then (spec_l04Number.j1 k x0 x1 x6 x7 8 x256001 x256002 x256003 x256004) else (spec_l04Number.j1 k x0 x1 x6 x7 x256000 x256001 x256002 x256003 x256004)
def spec_l04Number.j1 : Nat → List Int → Int → Int → Int → Int → ByteArray → Int → Bool → Int → Option (Int × ByteArray × Int × Bool × Int × Int)
 | 0, _, _, _, _, _, _, _, _, _ => none
 | k + 1, x0, x1, x6, x7, x256000, x256001, x256002, x256003, x256004 => if x7 = 8 then (spec_l04Number.j2 k x0 x1 x6 true x256000 x256001 x256002 x256003 x256004) else (spec_l04Number.j2 k x0 x1 x6 (x7 == 6) x256000 x256001 x256002 x256003 x256004)
def spec_l04Number.j2 : Nat → List Int → Int → Int → Bool → Int → ByteArray → Int → Bool → Int → Option (Int × ByteArray × Int × Bool × Int × Int)
 | 0, _, _, _, _, _, _, _, _, _ => none
 | k + 1, x0, x1, x6, x31, x256000, x256001, x256002, x256003, x256004 => if x31 = true then (some (x256000, x256001, (wrap32 (x6)) / 32, x256003, x256004, 1)) else (if (wrap64 (x1 + 1)) ≥ (x0.length : Int) then (some (0, (⟨#[]⟩ : ByteArray), 0, false, 0, 0)) else (if ((Int.tdiv x6 32) % 4294967296) = 0 then (if 0 ≤ (wrap64 (x1 + 1)) then (if (wrap64 (x1 + 1)) < (x0.length : Int) then ((spec_CellsOf.f k x256000 x256001 (wrap32 (rd x0 (wrap64 (x1 + 1)))) x256003 x256004).bind fun t257 => (some (x256000, x256001, wrap32 (rd x0 (wrap64 (x1 + 1))), x256003, x256004, wrap64 ((wrap64 ((t257.length : Int) / 2)) * 2)))) else (none)) else (none)) else (some (0, (⟨#[]⟩ : ByteArray), 0, false, 0, 0))))
end
def spec_l04Number.f (k : Nat) (l0 : List Int) (a1 : Int) : Option (Int × ByteArray × Int × Bool × Int × Int) := if 0 ≤ a1 then (if a1 < (l0.length : Int) then (if (Int.tmod (rd l0 a1) 16) = 6 then (spec_l04Number.j0 k l0 a1 (rd l0 a1) (Int.tmod (rd l0 a1) 16) true 7 (⟨#[]⟩ : ByteArray) 0 ((Go.bits .and .u32 (rd l0 a1) 16) != 0) 0) else (spec_l04Number.j0 k l0 a1 (rd l0 a1) (Int.tmod (rd l0 a1) 16) ((Int.tmod (rd l0 a1) 16) == 5) 7 (⟨#[]⟩ : ByteArray) 0 ((Go.bits .and .u32 (rd l0 a1) 16) != 0) 0)) else (none)) else (none)
theorem spec_l04Number.mono_l : ∀ k, (∀ y0 y1 y2 y3 y4 y5 y6 y7 y8 y9, LeO (spec_l04Number.j0 k y0 y1 y2 y3 y4 y5 y6 y7 y8 y9) (spec_l04Number.j0 (k + 1) y0 y1 y2 y3 y4 y5 y6 y7 y8 y9)) ∧ (∀ y0 y1 y2 y3 y4 y5 y6 y7 y8, LeO (spec_l04Number.j1 k y0 y1 y2 y3 y4 y5 y6 y7 y8) (spec_l04Number.j1 (k + 1) y0 y1 y2 y3 y4 y5 y6 y7 y8)) ∧ (∀ y0 y1 y2 y3 y4 y5 y6 y7 y8, LeO (spec_l04Number.j2 k y0 y1 y2 y3 y4 y5 y6 y7 y8) (spec_l04Number.j2 (k + 1) y0 y1 y2 y3 y4 y5 y6 y7 y8))
 | 0 => ⟨fun _ _ _ _ _ _ _ _ _ _ r h => by simp [spec_l04Number.j0] at h, fun _ _ _ _ _ _ _ _ _ r h => by simp [spec_l04Number.j1] at h, fun _ _ _ _ _ _ _ _ _ r h => by simp [spec_l04Number.j2] at h⟩
 | k + 1 => by
  obtain ⟨ih0, ih1, ih2⟩ := spec_l04Number.mono_l k
  refine ⟨?_, ?_, ?_⟩
  ·intro y0 y1 y2 y3 y4 y5 y6 y7 y8 y9
   unfold spec_l04Number.j0
   repeat' first
   | (with_reducible exact ih0 _ _ _ _ _ _ _ _ _ _)
   | (with_reducible exact ih1 _ _ _ _ _ _ _ _ _)
   | (with_reducible exact ih2 _ _ _ _ _ _ _ _ _)
   | (with_reducible exact spec_CellsOf.mono _ _ _ _ _ _)
   | (with_reducible exact LeO.refl _)
   | (with_reducible exact LeO.none _)
   | (with_reducible refine LeO.ite ?_ ?_)
   | (with_reducible refine LeO.bind ?_ (fun _ => ?_))
   | exact ih0 _ _ _ _ _ _ _ _ _ _
   | exact ih1 _ _ _ _ _ _ _ _ _
   | exact ih2 _ _ _ _ _ _ _ _ _
   | exact spec_CellsOf.mono _ _ _ _ _ _
   | exact LeO.none _
   | refine LeO.ite ?_ ?_
   | refine LeO.bind ?_ (fun _ => ?_)
  ·intro y0 y1 y2 y3 y4 y5 y6 y7 y8
   unfold spec_l04Number.j1
   repeat' first
   | (with_reducible exact ih0 _ _ _ _ _ _ _ _ _ _)
   | (with_reducible exact ih1 _ _ _ _ _ _ _ _ _)
   | (with_reducible exact ih2 _ _ _ _ _ _ _ _ _)
   | (with_reducible exact spec_CellsOf.mono _ _ _ _ _ _)
   | (with_reducible exact LeO.refl _)
   | (with_reducible exact LeO.none _)
   | (with_reducible refine LeO.ite ?_ ?_)
   | (with_reducible refine LeO.bind ?_ (fun _ => ?_))
   | exact ih0 _ _ _ _ _ _ _ _ _ _
   | exact ih1 _ _ _ _ _ _ _ _ _
   | exact ih2 _ _ _ _ _ _ _ _ _
   | exact spec_CellsOf.mono _ _ _ _ _ _
   | exact LeO.none _
   | refine LeO.ite ?_ ?_
   | refine LeO.bind ?_ (fun _ => ?_)
  ·intro y0 y1 y2 y3 y4 y5 y6 y7 y8
   unfold spec_l04Number.j2
   repeat' first
   | (with_reducible exact ih0 _ _ _ _ _ _ _ _ _ _)
   | (with_reducible exact ih1 _ _ _ _ _ _ _ _ _)
   | (with_reducible exact ih2 _ _ _ _ _ _ _ _ _)
   | (with_reducible exact spec_CellsOf.mono _ _ _ _ _ _)
   | (with_reducible exact LeO.refl _)
   | (with_reducible exact LeO.none _)
   | (with_reducible refine LeO.ite ?_ ?_)
   | (with_reducible refine LeO.bind ?_ (fun _ => ?_))
   | exact ih0 _ _ _ _ _ _ _ _ _ _
   | exact ih1 _ _ _ _ _ _ _ _ _
   | exact ih2 _ _ _ _ _ _ _ _ _
   | exact spec_CellsOf.mono _ _ _ _ _ _
   | exact LeO.none _
   | refine LeO.ite ?_ ?_
   | refine LeO.bind ?_ (fun _ => ?_)
theorem spec_l04Number.mono : ∀ a0 a1 k, LeO (spec_l04Number.f k a0 a1) (spec_l04Number.f (k + 1) a0 a1) := by
 intro a0 a1 k
 obtain ⟨ih0, ih1, ih2⟩ := spec_l04Number.mono_l k
 unfold spec_l04Number.f
 repeat' first
   | (with_reducible exact ih0 _ _ _ _ _ _ _ _ _ _)
   | (with_reducible exact ih1 _ _ _ _ _ _ _ _ _)
   | (with_reducible exact ih2 _ _ _ _ _ _ _ _ _)
   | (with_reducible exact spec_CellsOf.mono _ _ _ _ _ _)
   | (with_reducible exact LeO.refl _)
   | (with_reducible exact LeO.none _)
   | (with_reducible refine LeO.ite ?_ ?_)
   | (with_reducible refine LeO.bind ?_ (fun _ => ?_))
   | exact ih0 _ _ _ _ _ _ _ _ _ _
   | exact ih1 _ _ _ _ _ _ _ _ _
   | exact ih2 _ _ _ _ _ _ _ _ _
   | exact spec_CellsOf.mono _ _ _ _ _ _
   | exact LeO.none _
   | refine LeO.ite ?_ ?_
   | refine LeO.bind ?_ (fun _ => ?_)
def spec_l04Number.T12 : Bool × List (List Nat × List Nat) := (true, [([], []), ([], []), ([1], [1]), ([2], [2]), ([3], [3]), ([4], [4]), ([0, 2, 0], [0]), ([5, 6, 0, 1, 2, 3, 4, 5, 6], [5])])
def spec_l04Number.B12 : List Nat := [0, 0, 2, 6, 14, 30, 7, 127]
theorem spec_l04Number.tab12 : rtab .any (opsOf Tryd.f64 12) = spec_l04Number.T12 := Z0
theorem spec_l04Number.bits12 : waitsOk spec_l04Number.T12.2 spec_l04Number.B12 = true := Z0
set_option maxHeartbeats 8000000 in
set_option maxRecDepth 100000 in
theorem spec_l04Number.calls (k : Nat) (A0 : Option Addr) (c0 : Nat) (l0 : List Int) (a1 : Int) (r1 : Int) (r2 : ByteArray) (r3 : Int) (r4 : Bool) (r5 : Int) (r6 : Int) (w : World) (hr0 : Kd.C (Kd.int .u32) w A0 l0.length l0) (hc0 : l0.length ≤ c0) (h : spec_l04Number.f k l0 a1 = some (r1, r2, r3, r4, r5, r6)) :
  Calls Tryd.prog 64 #[.slice A0 l0.length c0, .int .i64 a1] w fun e w' => e = .returned (.tuple #[.agg #[.int .i64 r1, .string r2, .int .i32 r3, .bool r4, .int .u32 r5], .int .i64 r6]) ∧ Below w.heap.size w w' := by
 have hu27 := Tryd.underlying27
 have HR0 := Aside0.mk hr0
 have HC0 := Aside0.mk hc0
 clear hr0 hc0
 have HB := Z (Below.refl w.heap.size w)
 have H : (if 0 ≤ a1 then (if a1 < (l0.length : Int) then (if (Int.tmod (rd l0 a1) 16) = 6 then (spec_l04Number.j0 k l0 a1 (rd l0 a1) (Int.tmod (rd l0 a1) 16) true 7 (⟨#[]⟩ : ByteArray) 0 ((Go.bits .and .u32 (rd l0 a1) 16) != 0) 0) else (spec_l04Number.j0 k l0 a1 (rd l0 a1) (Int.tmod (rd l0 a1) 16) ((Int.tmod (rd l0 a1) 16) == 5) 7 (⟨#[]⟩ : ByteArray) 0 ((Go.bits .and .u32 (rd l0 a1) 16) != 0) 0)) else (none)) else (none)) = some (r1, r2, r3, r4, r5, r6) := h
 clear h
 by_cases c3 : 0 ≤ a1
 ·rw [if_pos c3] at H
  have c3b0 : decide (0 ≤ a1) = true := decide_eq_true c3
  clear c3
  by_cases c4 : a1 < (l0.length : Int)
  ·rw [if_pos c4] at H
   have c4b0 : decide (a1 < (l0.length : Int)) = true := decide_eq_true c4
   clear c4
   have HC5 := Aside0.mk H
   clear H
   go_enter Tryd.func64, Tryd.ntmps64
   go_upto_region 4 with (first | ((with_reducible refine gate_dst (N := 4) rfl ?_); refine box_event (by rfl) (N := 4) (by rfl) (cs := #[.int .i64 0, .string (⟨#[]⟩ : ByteArray), .int .i32 0, .bool false, .int .u32 0]) (t := 27) Z3 ?_; intro gb253 hg w6 hbox hb; have BK253 := Z (hbox); have GW253 := Z ((Z79 : w.heap.size ≤ gb253)); have GE253 := Z ((Z79 : w.heap.size ≤ gb253)); replace HB := Z (below_step Z67 hb); clear hb hbox hg; have p254 : 0 ≤ (a1 : Int) := of_decide_eq_true Z10; have q254 : a1 < (l0.length : Int) := of_decide_eq_true Z10; obtain ⟨ad254, e254, hx254_0⟩ := Kd.at_int HR0.out a1 p254 q254; cases e254; replace hx254_0 := (HB.out.cell (World.block_lt_of_cell? w _ hx254_0)).trans hx254_0; replace p254 := eq_true p254; replace q254 := eq_true q254) | ((with_reducible refine gate_dst (N := 8) rfl ?_); refine box_event (by rfl) (N := 8) (by rfl) (cs := #[.int .i64 0, .string (⟨#[]⟩ : ByteArray), .int .i32 0, .bool false, .int .u32 0]) (t := 27) Z3 ?_; intro gb255 hg w7 hbox hb; have BK255 := Z (hbox); have GW255 := Z ((Z79 : w.heap.size ≤ gb255)); have GE255 := Z ((Z79 : w.heap.size ≤ gb255)); replace HB := Z (below_step Z67 hb); have NB253_255 := Z ((by rw [hg]; exact Nat.ne_of_lt (blk_lt (g := gb253) (o := .cells #[.int .i64 0, .string (⟨#[]⟩ : ByteArray), .int .i32 0, .bool false, .int .u32 0] 27 (0, 0)) (Z15 BK253)) : gb253 ≠ gb255)); have NB255_253 := Z ((by rw [hg]; exact Nat.ne_of_gt (blk_lt (g := gb253) (o := .cells #[.int .i64 0, .string (⟨#[]⟩ : ByteArray), .int .i32 0, .bool false, .int .u32 0] 27 (0, 0)) (Z15 BK253)) : gb255 ≠ gb253)); replace BK253 := Z (blk_below (g := gb253) (o := .cells #[.int .i64 0, .string (⟨#[]⟩ : ByteArray), .int .i32 0, .bool false, .int .u32 0] 27 (0, 0)) (Z15 BK253) hb); clear hb hbox hg; have hnb8 := NB255_253.out; have hnc8 := NB253_255.out; have hcz9_0 : w7.cell? ⟨gb255, 0, none⟩ = some (.int .i64 0) := (blk_cell BK255.out 0).trans rfl; have hcz9_1 : w7.cell? ⟨gb255, 1, none⟩ = some (.string (⟨#[]⟩ : ByteArray)) := (blk_cell BK255.out 1).trans rfl; have hcz9_2 : w7.cell? ⟨gb255, 2, none⟩ = some (.int .i32 0) := (blk_cell BK255.out 2).trans rfl; have hcz9_3 : w7.cell? ⟨gb255, 3, none⟩ = some (.bool false) := (blk_cell BK255.out 3).trans rfl; have hcz9_4 : w7.cell? ⟨gb255, 4, none⟩ = some (.int .u32 0) := (blk_cell BK255.out 4).trans rfl; have hfz9_0 := blk_frozen BK255.out 0; have hfz9_1 := blk_frozen BK255.out 1; have hfz9_2 := blk_frozen BK255.out 2; have hfz9_3 := blk_frozen BK255.out 3; have hfz9_4 := blk_frozen BK255.out 4))
   (try simp only [Act.put, List.setIfInBounds_toArray, List.set_cons_zero, List.set_cons_succ])
   go_cut [24] (fun v24 wc => ∃ (kq : Nat) (x24_4 : Bool), v24 = .bool x24_4 ∧ Aside0 (spec_l04Number.j0 kq l0 a1 (rd l0 a1) (Int.tmod (rd l0 a1) 16) x24_4 7 (⟨#[]⟩ : ByteArray) 0 ((Go.bits .and .u32 (rd l0 a1) 16) != 0) 0 = some (r1, r2, r3, r4, r5, r6)) ∧ Aside0 (kq ≤ k) ∧ Aside0 (wc.heap[gb253]? = some (.cells #[.int .i64 0, .string (⟨#[]⟩ : ByteArray), .int .i32 0, .bool false, .int .u32 0] 27 (0, 0))) ∧ Aside0 (wc.heap[gb255]? = some (.cells #[.int .i64 7, .string (⟨#[]⟩ : ByteArray), .int .i32 0, .bool ((Go.bits .and .u32 (rd l0 a1) 16) != 0), .int .u32 0] 27 (0, 0))) ∧ Aside0 (Below w.heap.size w wc))
   case first =>
    have H := HC5.out
    clear HC5
    by_cases c10 : (Int.tmod (rd l0 a1) 16) = 6
    ·rw [if_pos c10] at H
     have c10b0 : ((Int.tmod (rd l0 a1) 16) == 6) = true := beq_iff_eq.mpr c10
     have c10b1 : ((Int.tmod (rd l0 a1) 16) != 6) = false := bne_eq_false_iff_eq.mpr c10
     clear c10
     (first | rw [c10b0] | (simp only [i64_w, i32_w]; rw [c10b0]) | skip)
     have H' := Aside0.mk H
     clear H
     go_wp2
     go_meet
     case rel => exact ⟨_, (true), Z7, H', ⟨Z14⟩, ⟨(Z26 BK253)⟩, ⟨(Z27 BK255)⟩, ⟨Z67⟩⟩
    ·rw [if_neg c10] at H
     have c10b0 : ((Int.tmod (rd l0 a1) 16) == 6) = false := beq_eq_false_iff_ne.mpr c10
     have c10b1 : ((Int.tmod (rd l0 a1) 16) != 6) = true := bne_iff_ne.mpr c10
     (first | rw [c10b0] | (simp only [i64_w, i32_w]; rw [c10b0]) | skip)
     have H' := Aside0.mk H
     clear H
     go_wp2
     go_meet
     case rel => exact ⟨_, (((Int.tmod (rd l0 a1) 16) == 5)), Z7, H', ⟨Z14⟩, ⟨(Z26 BK253)⟩, ⟨(Z27 BK255)⟩, ⟨Z67⟩⟩
   case rest =>
    clear HC5
    try clear c1
    try clear p2
    try clear q2
    try clear hx2
    try clear c3
    try clear c3b0
    try clear c4
    try clear c4b0
    try clear c6
    try clear c8
    try clear c10
    try clear c10b0
    try clear c10b1
    try clear hcz9_0
    try clear hcz9_1
    try clear hcz9_2
    try clear hcz9_3
    try clear hcz9_4
    try clear hfz9_0
    try clear hfz9_1
    try clear hfz9_2
    try clear hfz9_3
    try clear hfz9_4
    try clear hx254_0
    try clear p254
    try clear q254
    obtain ⟨kq, x24_4, rfl, HA, HJ4, BK253, BK255, HB⟩ := hcut
    cases kq with
    | zero => exact absurd HA.out (by simp [spec_l04Number.j0])
    | succ kj4 =>
     have H := HA.out
     clear HA
     simp only [spec_l04Number.j0] at H
     have HC11 := Aside0.mk H
     clear H
     go_upto_if 24 with (fail)
     go_cut [] (fun wc => ∃ (kq : Nat) (x256000_10 : Int), Aside0 (spec_l04Number.j1 kq l0 a1 (rd l0 a1) (Int.tmod (rd l0 a1) 16) x256000_10 (⟨#[]⟩ : ByteArray) 0 ((Go.bits .and .u32 (rd l0 a1) 16) != 0) 0 = some (r1, r2, r3, r4, r5, r6)) ∧ Aside0 (kq ≤ kj4) ∧ Aside0 (wc.heap[gb253]? = some (.cells #[.int .i64 0, .string (⟨#[]⟩ : ByteArray), .int .i32 0, .bool false, .int .u32 0] 27 (0, 0))) ∧ Aside0 (wc.heap[gb255]? = some (.cells #[.int .i64 x256000_10, .string (⟨#[]⟩ : ByteArray), .int .i32 0, .bool ((Go.bits .and .u32 (rd l0 a1) 16) != 0), .int .u32 0] 27 (0, 0))) ∧ Aside0 (Below w.heap.size w wc))
     case first =>
      have H := HC11.out
      clear HC11
      by_cases c12 : x24_4 = true
      ·subst c12
       have H1 : (spec_l04Number.j1 kj4 l0 a1 (rd l0 a1) (Int.tmod (rd l0 a1) 16) 8 (⟨#[]⟩ : ByteArray) 0 ((Go.bits .and .u32 (rd l0 a1) 16) != 0) 0) = some (r1, r2, r3, r4, r5, r6) := Z2
       clear H
       have H := H1
       clear H1
       have H' := Aside0.mk H
       clear H
       have hnb13 := NB255_253.out
       have hnc13 := NB253_255.out
       have hcz14_0 : wc.cell? ⟨gb255, 0, none⟩ = some (.int .i64 7) := (blk_cell BK255.out 0).trans rfl
       have hcz14_1 : wc.cell? ⟨gb255, 1, none⟩ = some (.string (⟨#[]⟩ : ByteArray)) := (blk_cell BK255.out 1).trans rfl
       have hcz14_2 : wc.cell? ⟨gb255, 2, none⟩ = some (.int .i32 0) := (blk_cell BK255.out 2).trans rfl
       have hcz14_3 : wc.cell? ⟨gb255, 3, none⟩ = some (.bool ((Go.bits .and .u32 (rd l0 a1) 16) != 0)) := (blk_cell BK255.out 3).trans rfl
       have hcz14_4 : wc.cell? ⟨gb255, 4, none⟩ = some (.int .u32 0) := (blk_cell BK255.out 4).trans rfl
       have hfz14_0 := blk_frozen BK255.out 0
       have hfz14_1 := blk_frozen BK255.out 1
       have hfz14_2 := blk_frozen BK255.out 2
       have hfz14_3 := blk_frozen BK255.out 3
       have hfz14_4 := blk_frozen BK255.out 4
       go_wp2
       go_meet
       case rel => exact ⟨_, (8), H', ⟨by have := HJ4.out; first | omega | exact Nat.le_refl _⟩, ⟨(Z28 BK253)⟩, ⟨by (with_reducible repeat (first | refine blk_drewN ?_ _ | refine blk_drew ?_ | refine blk_alloc ?_ _)); refine blk_put (cs := #[.int .i64 7, .string (⟨#[]⟩ : ByteArray), .int .i32 0, .bool ((Go.bits .and .u32 (rd l0 a1) 16) != 0), .int .u32 0]) ?_ 0 _ rfl; (with_reducible repeat (first | refine blk_drewN ?_ _ | refine blk_drew ?_ | refine blk_alloc ?_ _)); exact BK255.out⟩, ⟨Z67⟩⟩
      ·replace c12 := Bool.eq_false_iff.mpr c12
       subst c12
       have H1 : (spec_l04Number.j1 kj4 l0 a1 (rd l0 a1) (Int.tmod (rd l0 a1) 16) 7 (⟨#[]⟩ : ByteArray) 0 ((Go.bits .and .u32 (rd l0 a1) 16) != 0) 0) = some (r1, r2, r3, r4, r5, r6) := by rw [if_neg (show ¬ (false = true) by decide)] at H; exact H
       clear H
       have H := H1
       clear H1
       have H' := Aside0.mk H
       clear H
       go_wp2
       go_meet
       case rel => exact ⟨_, (7), H', ⟨by have := HJ4.out; first | omega | exact Nat.le_refl _⟩, ⟨(Z15 BK253)⟩, ⟨(Z15 BK255)⟩, ⟨Z67⟩⟩
     case rest =>
      clear HC11
      try clear c1
      try clear p2
      try clear q2
      try clear hx2
      try clear c3
      try clear c3b0
      try clear c4
      try clear c4b0
      try clear c6
      try clear c8
      try clear c10
      try clear c10b0
      try clear c10b1
      try clear c12
      try clear c13
      try clear hcz14_0
      try clear hcz14_1
      try clear hcz14_2
      try clear hcz14_3
      try clear hcz14_4
      try clear hcz9_0
      try clear hcz9_1
      try clear hcz9_2
      try clear hcz9_3
      try clear hcz9_4
      try clear hfz14_0
      try clear hfz14_1
      try clear hfz14_2
      try clear hfz14_3
      try clear hfz14_4
      try clear hfz9_0
      try clear hfz9_1
      try clear hfz9_2
      try clear hfz9_3
      try clear hfz9_4
      try clear hx254_0
      try clear p2
      try clear p254
      try clear q2
      try clear q254
      obtain ⟨kq, x256000_10, HA, HJ10, BK253, BK255, HB⟩ := hcut
      cases kq with
      | zero => exact absurd HA.out (by simp [spec_l04Number.j1])
      | succ kj10 =>
       have H := HA.out
       clear HA
       simp only [spec_l04Number.j1] at H
       have HC15 := Aside0.mk H
       clear H
       go_upto_region 6 with (fail)
       go_cut [31] (fun v31 wc => ∃ (kq : Nat) (x31_14 : Bool), v31 = .bool x31_14 ∧ Aside0 (spec_l04Number.j2 kq l0 a1 (rd l0 a1) x31_14 x256000_10 (⟨#[]⟩ : ByteArray) 0 ((Go.bits .and .u32 (rd l0 a1) 16) != 0) 0 = some (r1, r2, r3, r4, r5, r6)) ∧ Aside0 (kq ≤ kj10) ∧ Aside0 (wc.heap[gb253]? = some (.cells #[.int .i64 0, .string (⟨#[]⟩ : ByteArray), .int .i32 0, .bool false, .int .u32 0] 27 (0, 0))) ∧ Aside0 (wc.heap[gb255]? = some (.cells #[.int .i64 x256000_10, .string (⟨#[]⟩ : ByteArray), .int .i32 0, .bool ((Go.bits .and .u32 (rd l0 a1) 16) != 0), .int .u32 0] 27 (0, 0))) ∧ Aside0 (Below w.heap.size w wc))
       case first =>
        have H := HC15.out
        clear HC15
        by_cases c16 : (Int.tmod (rd l0 a1) 16) = 8
        ·rw [if_pos c16] at H
         have c16b0 : ((Int.tmod (rd l0 a1) 16) == 8) = true := beq_iff_eq.mpr c16
         have c16b1 : ((Int.tmod (rd l0 a1) 16) != 8) = false := bne_eq_false_iff_eq.mpr c16
         clear c16
         (first | rw [c16b0] | (simp only [i64_w, i32_w]; rw [c16b0]) | skip)
         have H' := Aside0.mk H
         clear H
         go_wp2
         go_meet
         case rel => exact ⟨_, (true), Z7, H', ⟨Z29⟩, ⟨(Z15 BK253)⟩, ⟨(Z15 BK255)⟩, ⟨Z67⟩⟩
        ·rw [if_neg c16] at H
         have c16b0 : ((Int.tmod (rd l0 a1) 16) == 8) = false := beq_eq_false_iff_ne.mpr c16
         have c16b1 : ((Int.tmod (rd l0 a1) 16) != 8) = true := bne_iff_ne.mpr c16
         (first | rw [c16b0] | (simp only [i64_w, i32_w]; rw [c16b0]) | skip)
         have H' := Aside0.mk H
         clear H
         go_wp2
         go_meet
         case rel => exact ⟨_, (((Int.tmod (rd l0 a1) 16) == 6)), Z7, H', ⟨Z29⟩, ⟨(Z15 BK253)⟩, ⟨(Z15 BK255)⟩, ⟨Z67⟩⟩
       case rest =>
        clear HC15
        try clear c1
        try clear p2
        try clear q2
        try clear hx2
        try clear c3
        try clear c3b0
        try clear c4
        try clear c4b0
        try clear c6
        try clear c8
        try clear c10
        try clear c10b0
        try clear c10b1
        try clear c12
        try clear c13
        try clear c16
        try clear c16b0
        try clear c16b1
        try clear hcz14_0
        try clear hcz14_1
        try clear hcz14_2
        try clear hcz14_3
        try clear hcz14_4
        try clear hcz9_0
        try clear hcz9_1
        try clear hcz9_2
        try clear hcz9_3
        try clear hcz9_4
        try clear hfz14_0
        try clear hfz14_1
        try clear hfz14_2
        try clear hfz14_3
        try clear hfz14_4
        try clear hfz9_0
        try clear hfz9_1
        try clear hfz9_2
        try clear hfz9_3
        try clear hfz9_4
        try clear hx254_0
        try clear p2
        try clear p254
        try clear q2
        try clear q254
        obtain ⟨kq, x31_14, rfl, HA, HJ14, BK253, BK255, HB⟩ := hcut
        cases kq with
        | zero => exact absurd HA.out (by simp [spec_l04Number.j2])
        | succ kj14 =>
         have H := HA.out
         clear HA
         simp only [spec_l04Number.j2] at H
         by_cases c17 : x31_14 = true
         ·subst c17
          have H1 : (some (x256000_10, (⟨#[]⟩ : ByteArray), (wrap32 ((rd l0 a1))) / 32, ((Go.bits .and .u32 (rd l0 a1) 16) != 0), 0, 1)) = some (r1, r2, r3, r4, r5, r6) := Z2
          clear H
          have H := H1
          clear H1
          simp only [Option.some.injEq, Prod.mk.injEq] at H
          obtain ⟨rfl, rfl, rfl, rfl, rfl, rfl⟩ := H
          have hnb18 := NB255_253.out
          have hnc18 := NB253_255.out
          have hcz19_0 : wc.cell? ⟨gb255, 0, none⟩ = some (.int .i64 x256000_10) := (blk_cell BK255.out 0).trans rfl
          have hcz19_1 : wc.cell? ⟨gb255, 1, none⟩ = some (.string (⟨#[]⟩ : ByteArray)) := (blk_cell BK255.out 1).trans rfl
          have hcz19_2 : wc.cell? ⟨gb255, 2, none⟩ = some (.int .i32 0) := (blk_cell BK255.out 2).trans rfl
          have hcz19_3 : wc.cell? ⟨gb255, 3, none⟩ = some (.bool ((Go.bits .and .u32 (rd l0 a1) 16) != 0)) := (blk_cell BK255.out 3).trans rfl
          have hcz19_4 : wc.cell? ⟨gb255, 4, none⟩ = some (.int .u32 0) := (blk_cell BK255.out 4).trans rfl
          have hfz19_0 := blk_frozen BK255.out 0
          have hfz19_1 := blk_frozen BK255.out 1
          have hfz19_2 := blk_frozen BK255.out 2
          have hfz19_3 := blk_frozen BK255.out 3
          have hfz19_4 := blk_frozen BK255.out 4
          have hcz20_0 : wc.cell? ⟨gb253, 0, none⟩ = some (.int .i64 0) := (blk_cell BK253.out 0).trans rfl
          have hcz20_1 : wc.cell? ⟨gb253, 1, none⟩ = some (.string (⟨#[]⟩ : ByteArray)) := (blk_cell BK253.out 1).trans rfl
          have hcz20_2 : wc.cell? ⟨gb253, 2, none⟩ = some (.int .i32 0) := (blk_cell BK253.out 2).trans rfl
          have hcz20_3 : wc.cell? ⟨gb253, 3, none⟩ = some (.bool false) := (blk_cell BK253.out 3).trans rfl
          have hcz20_4 : wc.cell? ⟨gb253, 4, none⟩ = some (.int .u32 0) := (blk_cell BK253.out 4).trans rfl
          have hfz20_0 := blk_frozen BK253.out 0
          have hfz20_1 := blk_frozen BK253.out 1
          have hfz20_2 := blk_frozen BK253.out 2
          have hfz20_3 := blk_frozen BK253.out 3
          have hfz20_4 := blk_frozen BK253.out 4
          go_wp2
          refine bodyPost_ret (results_ct rfl _ _ gb253 27 #[.int .i64 x256000_10, .string (⟨#[]⟩ : ByteArray), .int .i32 ((wrap32 ((rd l0 a1))) / 32), .bool ((Go.bits .and .u32 (rd l0 a1) 16) != 0), .int .u32 0] (0, 0) _ rfl (by (with_reducible repeat (first | refine blk_drewN ?_ _ | refine blk_drew ?_ | refine blk_alloc ?_ _)); refine blk_put (cs := #[.int .i64 x256000_10, .string (⟨#[]⟩ : ByteArray), .int .i32 ((wrap32 ((rd l0 a1))) / 32), .bool ((Go.bits .and .u32 (rd l0 a1) 16) != 0), .int .u32 0]) ?_ 4 _ rfl; (with_reducible repeat (first | refine blk_drewN ?_ _ | refine blk_drew ?_ | refine blk_alloc ?_ _)); refine blk_put (cs := #[.int .i64 x256000_10, .string (⟨#[]⟩ : ByteArray), .int .i32 ((wrap32 ((rd l0 a1))) / 32), .bool false, .int .u32 0]) ?_ 3 _ rfl; (with_reducible repeat (first | refine blk_drewN ?_ _ | refine blk_drew ?_ | refine blk_alloc ?_ _)); refine blk_put (cs := #[.int .i64 x256000_10, .string (⟨#[]⟩ : ByteArray), .int .i32 0, .bool false, .int .u32 0]) ?_ 2 _ rfl; (with_reducible repeat (first | refine blk_drewN ?_ _ | refine blk_drew ?_ | refine blk_alloc ?_ _)); refine blk_put (cs := #[.int .i64 x256000_10, .string (⟨#[]⟩ : ByteArray), .int .i32 0, .bool false, .int .u32 0]) ?_ 1 _ rfl; (with_reducible repeat (first | refine blk_drewN ?_ _ | refine blk_drew ?_ | refine blk_alloc ?_ _)); refine blk_put (cs := #[.int .i64 0, .string (⟨#[]⟩ : ByteArray), .int .i32 0, .bool false, .int .u32 0]) ?_ 0 _ rfl; (with_reducible repeat (first | refine blk_drewN ?_ _ | refine blk_drew ?_ | refine blk_alloc ?_ _)); refine blk_far ?_ NB253_255.out _; (with_reducible repeat (first | refine blk_drewN ?_ _ | refine blk_drew ?_ | refine blk_alloc ?_ _)); exact BK253.out) Tryd.underlying27 rfl Z0) rfl ?_
          exact ⟨Z68, Z67⟩
         ·replace c17 := Bool.eq_false_iff.mpr c17
          subst c17
          have H1 : (if (wrap64 (a1 + 1)) ≥ (l0.length : Int) then (some (0, (⟨#[]⟩ : ByteArray), 0, false, 0, 0)) else (if ((Int.tdiv (rd l0 a1) 32) % 4294967296) = 0 then (if 0 ≤ (wrap64 (a1 + 1)) then (if (wrap64 (a1 + 1)) < (l0.length : Int) then ((spec_CellsOf.f kj14 x256000_10 (⟨#[]⟩ : ByteArray) (wrap32 (rd l0 (wrap64 (a1 + 1)))) ((Go.bits .and .u32 (rd l0 a1) 16) != 0) 0).bind fun t257 => (some (x256000_10, (⟨#[]⟩ : ByteArray), wrap32 (rd l0 (wrap64 (a1 + 1))), ((Go.bits .and .u32 (rd l0 a1) 16) != 0), 0, wrap64 ((wrap64 ((t257.length : Int) / 2)) * 2)))) else (none)) else (none)) else (some (0, (⟨#[]⟩ : ByteArray), 0, false, 0, 0)))) = some (r1, r2, r3, r4, r5, r6) := by rw [if_neg (show ¬ (false = true) by decide)] at H; exact H
          clear H
          have H := H1
          clear H1
          by_cases c21 : (wrap64 (a1 + 1)) ≥ (l0.length : Int)
          ·rw [if_pos c21] at H
           have c21b0 : decide ((l0.length : Int) ≤ (wrap64 (a1 + 1))) = true := decide_eq_true c21
           clear c21
           simp only [Option.some.injEq, Prod.mk.injEq] at H
           obtain ⟨rfl, rfl, rfl, rfl, rfl, rfl⟩ := H
           have hnb22 := NB253_255.out
           have hnc22 := NB255_253.out
           have hcz23_0 : wc.cell? ⟨gb253, 0, none⟩ = some (.int .i64 0) := (blk_cell BK253.out 0).trans rfl
           have hcz23_1 : wc.cell? ⟨gb253, 1, none⟩ = some (.string (⟨#[]⟩ : ByteArray)) := (blk_cell BK253.out 1).trans rfl
           have hcz23_2 : wc.cell? ⟨gb253, 2, none⟩ = some (.int .i32 0) := (blk_cell BK253.out 2).trans rfl
           have hcz23_3 : wc.cell? ⟨gb253, 3, none⟩ = some (.bool false) := (blk_cell BK253.out 3).trans rfl
           have hcz23_4 : wc.cell? ⟨gb253, 4, none⟩ = some (.int .u32 0) := (blk_cell BK253.out 4).trans rfl
           have hfz23_0 := blk_frozen BK253.out 0
           have hfz23_1 := blk_frozen BK253.out 1
           have hfz23_2 := blk_frozen BK253.out 2
           have hfz23_3 := blk_frozen BK253.out 3
           have hfz23_4 := blk_frozen BK253.out 4
           go_wp2
           refine bodyPost_ret (results_ct rfl _ _ gb253 27 #[.int .i64 0, .string (⟨#[]⟩ : ByteArray), .int .i32 0, .bool false, .int .u32 0] (0, 0) _ rfl (Z25 BK253) Tryd.underlying27 rfl Z0) rfl ?_
           exact ⟨Z68, Z67⟩
          ·rw [if_neg c21] at H
           have c21b0 : decide ((l0.length : Int) ≤ (wrap64 (a1 + 1))) = false := decide_eq_false c21
           clear c21
           by_cases c24 : ((Int.tdiv (rd l0 a1) 32) % 4294967296) = 0
           ·rw [if_pos c24] at H
            have c24b0 : (((Int.tdiv (rd l0 a1) 32) % 4294967296) == 0) = true := beq_iff_eq.mpr c24
            have c24b1 : (((Int.tdiv (rd l0 a1) 32) % 4294967296) != 0) = false := bne_eq_false_iff_eq.mpr c24
            clear c24
            obtain ⟨ji25, hji25⟩ : ∃ j_ : Int, (wrap64 (a1 + 1)) = j_ := ⟨_, rfl⟩
            replace H : (if 0 ≤ (ji25) then (if (ji25) < (l0.length : Int) then ((spec_CellsOf.f kj14 x256000_10 (⟨#[]⟩ : ByteArray) (wrap32 (rd l0 (ji25))) ((Go.bits .and .u32 (rd l0 a1) 16) != 0) 0).bind fun t257 => (some (x256000_10, (⟨#[]⟩ : ByteArray), wrap32 (rd l0 (ji25)), ((Go.bits .and .u32 (rd l0 a1) 16) != 0), 0, wrap64 ((wrap64 ((t257.length : Int) / 2)) * 2)))) else (none)) else (none)) = some (r1, r2, r3, r4, r5, r6) := by first | (rw [hji25] at H; exact H) | (simp only [hji25] at H ⊢; exact H)
            (try rw [hji25] at c21b0)
            have hji25w : (IntKind.i64.wrap (a1 + 1)) = ji25 := (i64_w _).trans hji25
            by_cases c26 : 0 ≤ (ji25)
            ·rw [if_pos c26] at H
             have c26b0 : decide (0 ≤ (ji25)) = true := decide_eq_true c26
             clear c26
             by_cases c27 : (ji25) < (l0.length : Int)
             ·rw [if_pos c27] at H
              have c27b0 : decide ((ji25) < (l0.length : Int)) = true := decide_eq_true c27
              clear c27
              replace H := Option.bind_eq_some_iff.mp H
              obtain ⟨t257, A280, H⟩ := H
              replace H : (some (x256000_10, (⟨#[]⟩ : ByteArray), wrap32 (rd l0 (ji25)), ((Go.bits .and .u32 (rd l0 a1) 16) != 0), 0, wrap64 ((wrap64 ((t257.length : Int) / 2)) * 2))) = some (r1, r2, r3, r4, r5, r6) := H
              have A28 := Aside0.mk A280
              clear A280
              simp only [Option.some.injEq, Prod.mk.injEq] at H
              obtain ⟨rfl, rfl, rfl, rfl, rfl, rfl⟩ := H
              have p256 : 0 ≤ ((ji25) : Int) := of_decide_eq_true Z10
              have q256 : (ji25) < (l0.length : Int) := of_decide_eq_true Z10
              obtain ⟨ad256, e256, hx256_0⟩ := Kd.at_int HR0.out (ji25) p256 q256
              obtain rfl : ad254 = ad256 := (by injection e256)
              replace hx256_0 := (HB.out.cell (World.block_lt_of_cell? w _ hx256_0)).trans hx256_0
              replace p256 := eq_true p256
              replace q256 := eq_true q256
              have hnb29 := NB255_253.out
              have hnc29 := NB253_255.out
              have hcz30_0 : wc.cell? ⟨gb255, 0, none⟩ = some (.int .i64 x256000_10) := (blk_cell BK255.out 0).trans rfl
              have hcz30_1 : wc.cell? ⟨gb255, 1, none⟩ = some (.string (⟨#[]⟩ : ByteArray)) := (blk_cell BK255.out 1).trans rfl
              have hcz30_2 : wc.cell? ⟨gb255, 2, none⟩ = some (.int .i32 0) := (blk_cell BK255.out 2).trans rfl
              have hcz30_3 : wc.cell? ⟨gb255, 3, none⟩ = some (.bool ((Go.bits .and .u32 (rd l0 a1) 16) != 0)) := (blk_cell BK255.out 3).trans rfl
              have hcz30_4 : wc.cell? ⟨gb255, 4, none⟩ = some (.int .u32 0) := (blk_cell BK255.out 4).trans rfl
              have hfz30_0 := blk_frozen BK255.out 0
              have hfz30_1 := blk_frozen BK255.out 1
              have hfz30_2 := blk_frozen BK255.out 2
              have hfz30_3 := blk_frozen BK255.out 3
              have hfz30_4 := blk_frozen BK255.out 4
              try go_wp2
              have n0_ : Aside0 ((wc.setCell ⟨gb255, 2, none⟩ (.int .i32 (wrap32 (rd l0 (ji25))))).heap[gb253]? = some (.cells #[.int .i64 0, .string (⟨#[]⟩ : ByteArray), .int .i32 0, .bool false, .int .u32 0] 27 (0, 0))) := ⟨(Z28 BK253)⟩
              have n1_ : Aside0 ((wc.setCell ⟨gb255, 2, none⟩ (.int .i32 (wrap32 (rd l0 (ji25))))).heap[gb255]? = some (.cells #[.int .i64 x256000_10, .string (⟨#[]⟩ : ByteArray), .int .i32 (wrap32 (rd l0 (ji25))), .bool ((Go.bits .and .u32 (rd l0 a1) 16) != 0), .int .u32 0] 27 (0, 0))) := ⟨by (with_reducible repeat (first | refine blk_drewN ?_ _ | refine blk_drew ?_ | refine blk_alloc ?_ _)); refine blk_put (cs := #[.int .i64 x256000_10, .string (⟨#[]⟩ : ByteArray), .int .i32 0, .bool ((Go.bits .and .u32 (rd l0 a1) 16) != 0), .int .u32 0]) ?_ 2 _ rfl; (with_reducible repeat (first | refine blk_drewN ?_ _ | refine blk_drew ?_ | refine blk_alloc ?_ _)); exact BK255.out⟩
              have n2_ : Aside0 (Below w.heap.size w (wc.setCell ⟨gb255, 2, none⟩ (.int .i32 (wrap32 (rd l0 (ji25)))))) := ⟨Z67⟩
              (try clear BK253)
              (try clear BK255)
              (try clear HB)
              (try rw [show ∀ (W_ : World) (n_ : Nat) (p_ : Addr) (v_ : Value), (W_.drewN n_).setCell p_ v_ = (W_.setCell p_ v_).drewN n_ from fun _ _ _ _ => rfl])
              generalize (wc.setCell ⟨gb255, 2, none⟩ (.int .i32 (wrap32 (rd l0 (ji25))))) = w31 at n0_ n1_ n2_ ⊢
              have BK253 := n0_
              have BK255 := n1_
              have HB := n2_
              clear n0_ n1_ n2_
              have n0_ := Z (blk_drew BK253.out)
              have n1_ := Z (blk_drew BK255.out)
              have n2_ := Z (below_drew1 HB.out)
              clear BK253
              clear BK255
              clear HB
              have BK253 := n0_
              have BK255 := n1_
              have HB := n2_
              clear n0_ n1_ n2_
              refine start_ (n := 8) (S := fun w' => w'.cell? ⟨gb255, 0, none⟩ = some (.int .i64 x256000_10) ∧ w'.cell? ⟨gb255, 1, none⟩ = some (.string (⟨#[]⟩ : ByteArray)) ∧ w'.cell? ⟨gb255, 2, none⟩ = some (.int .i32 (wrap32 (rd l0 (ji25)))) ∧ w'.cell? ⟨gb255, 3, none⟩ = some (.bool ((Go.bits .and .u32 (rd l0 a1) 16) != 0)) ∧ w'.cell? ⟨gb255, 4, none⟩ = some (.int .u32 0)) (ds := []) #[false, false, false, false, false, false, false, false] Z0 rfl rfl ⟨(blk_cell BK255.out 0).trans rfl, (blk_cell BK255.out 1).trans rfl, (blk_cell BK255.out 2).trans rfl, (blk_cell BK255.out 3).trans rfl, (blk_cell BK255.out 4).trans rfl⟩ (fun hHeld => ?_); refine with_tabW spec_l04Number.tab12 spec_l04Number.bits12 (fun HT_ HW_ => ?_)
              generalize w31.drew = w32 at BK253 BK255 HB hHeld ⊢
              refine take_ (i := 0) (N := some 55) (v := ?_) (a' := ?_) #[true, false, false, false, false, false, false, false] rfl rfl (take_ofW HT_.out HW_.out Z0) (fun _ _ _ h => h) (Or.inl ⟨by rfl, ?_⟩) hHeld ?_ ?_
              rotate_left
              ·rintro w' ⟨s0, s1, s2, s3, s4⟩
               go_simp
               with_reducible rfl
              rotate_left
              ·simp only [Act.put, List.setIfInBounds_toArray, List.set_cons_zero, List.set_cons_succ, i64_w, i32_w]
               rfl
              refine take_ (i := 1) (N := some 56) (v := ?_) (a' := ?_) #[true, true, false, false, false, false, false, false] rfl rfl (take_ofW HT_.out HW_.out Z0) (fun _ _ _ h => h) (Or.inl ⟨by rfl, ?_⟩) hHeld ?_ ?_
              rotate_left
              ·rintro w' ⟨s0, s1, s2, s3, s4⟩
               go_simp
               with_reducible rfl
              rotate_left
              ·simp only [Act.put, List.setIfInBounds_toArray, List.set_cons_zero, List.set_cons_succ, i64_w, i32_w]
               rfl
              refine one_ (i := 2) (N := some 57) #[true, true, true, false, false, false, false, false] rfl rfl (one_of HT_.out Z0) (by decide) (fun K hK => ?_)
              refine goes_ Tryd.func36 Z0 rfl #[.agg #[.int .i64 x256000_10, .string (⟨#[]⟩ : ByteArray), .int .i32 (wrap32 (rd l0 (ji25))), .bool ((Go.bits .and .u32 (rd l0 a1) 16) != 0), .int .u32 0]] (by rfl) rfl rfl (by (try simp only [List.map_toArray, List.map_cons, List.map_nil]); first | done | (simp only [hji25]; rfl) | rfl | (simp only [List.length_drop, List.length_take]; rfl)) ?_
              with_reducible refine (spec_CellsOf.calls kj14 x256000_10 (⟨#[]⟩ : ByteArray) (wrap32 (rd l0 (ji25))) ((Go.bits .and .u32 (rd l0 a1) 16) != 0) 0 t257 _ A28.out).mono ?_
              rintro e w33 ⟨v258, rfl, ho0, hb⟩
              refine ⟨_, rfl, ?_⟩
              have n0_ := Z (Kd.R_lower ho0 (below_size Z67))
              have n1_ := Z (blk_below (g := gb253) (o := .cells #[.int .i64 0, .string (⟨#[]⟩ : ByteArray), .int .i32 0, .bool false, .int .u32 0] 27 (0, 0)) (Z15 BK253) hb)
              have n2_ := Z (blk_below (g := gb255) (o := .cells #[.int .i64 x256000_10, .string (⟨#[]⟩ : ByteArray), .int .i32 (wrap32 (rd l0 (ji25))), .bool ((Go.bits .and .u32 (rd l0 a1) 16) != 0), .int .u32 0] 27 (0, 0)) (Z15 BK255) hb)
              have n3_ := Z (below_step Z67 hb)
              clear BK253
              clear BK255
              clear HB
              have HO259 := n0_
              have BK253 := n1_
              have BK255 := n2_
              have HB := n3_
              clear n0_ n1_ n2_ n3_
              (try clear hb)
              (try clear hb2)
              (try clear hk)
              (try clear hi)
              (try clear ho0)
              obtain ⟨Ao34, co34, eo34⟩ := Kd.R_slice HO259.out
              (first | subst eo34 | (injection eo34 with f1_ f2_ f3_; have f4_ := f1_.symm; have f5_ := f3_.symm; clear f1_ f2_ f3_; subst f4_; subst f5_))
              refine hK.out _ _ ⟨(blk_cell BK255.out 0).trans rfl, (blk_cell BK255.out 1).trans rfl, (blk_cell BK255.out 2).trans rfl, (blk_cell BK255.out 3).trans rfl, (blk_cell BK255.out 4).trans rfl⟩ (fun hHeld => ?_)
              clear hK K
              refine norm_ (a' := ?_) ?_ ?_
              rotate_left
              ·show Act.put _ (some 57) _ = _
               simp only [Act.put, List.setIfInBounds_toArray, List.set_cons_zero, List.set_cons_succ, i64_w, i32_w]
               rfl
              refine pure_ (i := 3) (N := some 58) (v := ?_) (a' := ?_) #[true, true, true, true, false, false, false, false] rfl rfl (any_of HT_.out Z0) (fun _ _ _ h => h) (Or.inl ⟨by rfl, ?_⟩) ?_ ?_
              rotate_left
              ·intro w'
               go_simp
               with_reducible rfl
              rotate_left
              ·simp only [Act.put, List.setIfInBounds_toArray, List.set_cons_zero, List.set_cons_succ, i64_w, i32_w]
               rfl
              refine pure_ (i := 4) (N := some 59) (v := ?_) (a' := ?_) #[true, true, true, true, true, false, false, false] rfl rfl (any_of HT_.out Z0) (fun _ _ _ h => h) (Or.inl ⟨by rfl, ?_⟩) ?_ ?_
              rotate_left
              ·intro w'
               go_simp
               with_reducible rfl
              rotate_left
              ·simp only [Act.put, List.setIfInBounds_toArray, List.set_cons_zero, List.set_cons_succ, i64_w, i32_w]
               rfl
              refine pure_ (i := 5) (N := some 60) (v := ?_) (a' := ?_) #[true, true, true, true, true, true, false, false] rfl rfl (any_of HT_.out Z0) (fun _ _ _ h => h) (Or.inl ⟨by rfl, ?_⟩) ?_ ?_
              rotate_left
              ·intro w'
               go_simp
               with_reducible rfl
              rotate_left
              ·simp only [Act.put, List.setIfInBounds_toArray, List.set_cons_zero, List.set_cons_succ, i64_w, i32_w]
               rfl
              refine one_ (i := 6) (N := none) #[true, true, true, true, true, true, true, false] rfl rfl (one_of HT_.out Z0) (by decide) (fun K hK => ?_)
              have hs35 : w33.cell? ⟨gb253, 0, none⟩ = some (.int .i64 0) := (blk_cell BK253.out 0).trans rfl
              have hfs35 := blk_frozen BK253.out 0
              have hns35_1 := NB255_253.out
              have hms35_1 := NB253_255.out
              have hs36 : w33.cell? ⟨gb253, 1, none⟩ = some (.string (⟨#[]⟩ : ByteArray)) := (blk_cell BK253.out 1).trans rfl
              have hfs36 := blk_frozen BK253.out 1
              have hns36_1 := NB255_253.out
              have hms36_1 := NB253_255.out
              have hs37 : w33.cell? ⟨gb253, 2, none⟩ = some (.int .i32 0) := (blk_cell BK253.out 2).trans rfl
              have hfs37 := blk_frozen BK253.out 2
              have hns37_1 := NB255_253.out
              have hms37_1 := NB253_255.out
              have hs38 : w33.cell? ⟨gb253, 3, none⟩ = some (.bool false) := (blk_cell BK253.out 3).trans rfl
              have hfs38 := blk_frozen BK253.out 3
              have hns38_1 := NB255_253.out
              have hms38_1 := NB253_255.out
              have hs39 : w33.cell? ⟨gb253, 4, none⟩ = some (.int .u32 0) := (blk_cell BK253.out 4).trans rfl
              have hfs39 := blk_frozen BK253.out 4
              have hns39_1 := NB255_253.out
              have hms39_1 := NB253_255.out
              refine skip_ (w1 := ?_) (by rfl) rfl ?_ ?_
              rotate_left
              ·go_simp
               rfl
              refine hK.out _ _ ⟨((cell_far (p := ⟨gb253, _, none⟩) NB255_253.out _).trans (((cell_far (p := ⟨gb253, _, none⟩) NB255_253.out _).trans (((cell_far (p := ⟨gb253, _, none⟩) NB255_253.out _).trans (((cell_far (p := ⟨gb253, _, none⟩) NB255_253.out _).trans (((cell_far (p := ⟨gb253, _, none⟩) NB255_253.out _).trans (hHeld.1)))))))))), ((cell_far (p := ⟨gb253, _, none⟩) NB255_253.out _).trans (((cell_far (p := ⟨gb253, _, none⟩) NB255_253.out _).trans (((cell_far (p := ⟨gb253, _, none⟩) NB255_253.out _).trans (((cell_far (p := ⟨gb253, _, none⟩) NB255_253.out _).trans (((cell_far (p := ⟨gb253, _, none⟩) NB255_253.out _).trans (hHeld.2.1)))))))))), ((cell_far (p := ⟨gb253, _, none⟩) NB255_253.out _).trans (((cell_far (p := ⟨gb253, _, none⟩) NB255_253.out _).trans (((cell_far (p := ⟨gb253, _, none⟩) NB255_253.out _).trans (((cell_far (p := ⟨gb253, _, none⟩) NB255_253.out _).trans (((cell_far (p := ⟨gb253, _, none⟩) NB255_253.out _).trans (hHeld.2.2.1)))))))))), ((cell_far (p := ⟨gb253, _, none⟩) NB255_253.out _).trans (((cell_far (p := ⟨gb253, _, none⟩) NB255_253.out _).trans (((cell_far (p := ⟨gb253, _, none⟩) NB255_253.out _).trans (((cell_far (p := ⟨gb253, _, none⟩) NB255_253.out _).trans (((cell_far (p := ⟨gb253, _, none⟩) NB255_253.out _).trans (hHeld.2.2.2.1)))))))))), ((cell_far (p := ⟨gb253, _, none⟩) NB255_253.out _).trans (((cell_far (p := ⟨gb253, _, none⟩) NB255_253.out _).trans (((cell_far (p := ⟨gb253, _, none⟩) NB255_253.out _).trans (((cell_far (p := ⟨gb253, _, none⟩) NB255_253.out _).trans (((cell_far (p := ⟨gb253, _, none⟩) NB255_253.out _).trans (hHeld.2.2.2.2))))))))))⟩ (fun hHeld => ?_)
              clear hK K
              refine pure_ (i := 7) (N := some 5) (v := ?_) (a' := ?_) #[true, true, true, true, true, true, true, true] rfl rfl (any_of HT_.out Z0) (fun _ _ _ h => h) (Or.inl ⟨by rfl, ?_⟩) ?_ ?_
              rotate_left
              ·intro w'
               go_simp
               with_reducible rfl
              rotate_left
              ·simp only [Act.put, List.setIfInBounds_toArray, List.set_cons_zero, List.set_cons_succ, i64_w, i32_w]
               rfl
              refine done_ (done_of HT_.out Z0) ?_
              try go_wp2
              refine bodyPost_ret (results_ct rfl _ _ gb253 27 #[.int .i64 x256000_10, .string (⟨#[]⟩ : ByteArray), .int .i32 (wrap32 (rd l0 (ji25))), .bool ((Go.bits .and .u32 (rd l0 a1) 16) != 0), .int .u32 0] (0, 0) _ rfl (by (with_reducible repeat (first | refine blk_drewN ?_ _ | refine blk_drew ?_ | refine blk_alloc ?_ _)); refine blk_put (cs := #[.int .i64 x256000_10, .string (⟨#[]⟩ : ByteArray), .int .i32 (wrap32 (rd l0 (ji25))), .bool ((Go.bits .and .u32 (rd l0 a1) 16) != 0), .int .u32 0]) ?_ 4 _ rfl; (with_reducible repeat (first | refine blk_drewN ?_ _ | refine blk_drew ?_ | refine blk_alloc ?_ _)); refine blk_put (cs := #[.int .i64 x256000_10, .string (⟨#[]⟩ : ByteArray), .int .i32 (wrap32 (rd l0 (ji25))), .bool false, .int .u32 0]) ?_ 3 _ rfl; (with_reducible repeat (first | refine blk_drewN ?_ _ | refine blk_drew ?_ | refine blk_alloc ?_ _)); refine blk_put (cs := #[.int .i64 x256000_10, .string (⟨#[]⟩ : ByteArray), .int .i32 0, .bool false, .int .u32 0]) ?_ 2 _ rfl; (with_reducible repeat (first | refine blk_drewN ?_ _ | refine blk_drew ?_ | refine blk_alloc ?_ _)); refine blk_put (cs := #[.int .i64 x256000_10, .string (⟨#[]⟩ : ByteArray), .int .i32 0, .bool false, .int .u32 0]) ?_ 1 _ rfl; (with_reducible repeat (first | refine blk_drewN ?_ _ | refine blk_drew ?_ | refine blk_alloc ?_ _)); refine blk_put (cs := #[.int .i64 0, .string (⟨#[]⟩ : ByteArray), .int .i32 0, .bool false, .int .u32 0]) ?_ 0 _ rfl; (with_reducible repeat (first | refine blk_drewN ?_ _ | refine blk_drew ?_ | refine blk_alloc ?_ _)); exact BK253.out) Tryd.underlying27 rfl Z0) rfl ?_
              exact ⟨by first | rfl | (rw [← show ∀ l_ : List UInt8, (!l_.isEmpty) = (l_ != []) from fun l_ => Z5]; rfl) | (simp [errW_none, errW_some] <;> rfl) | (simp only [← hji25]; first | rfl | (simp [errW_none, errW_some] <;> rfl)) | (simp [*, errW_none, errW_some] <;> rfl), Z67⟩
             ·rw [if_neg c27] at H
              exact absurd H (by simp)
            ·rw [if_neg c26] at H
             exact absurd H (by simp)
           ·rw [if_neg c24] at H
            have c24b0 : (((Int.tdiv (rd l0 a1) 32) % 4294967296) == 0) = false := beq_eq_false_iff_ne.mpr c24
            have c24b1 : (((Int.tdiv (rd l0 a1) 32) % 4294967296) != 0) = true := bne_iff_ne.mpr c24
            simp only [Option.some.injEq, Prod.mk.injEq] at H
            obtain ⟨rfl, rfl, rfl, rfl, rfl, rfl⟩ := H
            have hnb40 := NB253_255.out
            have hnc40 := NB255_253.out
            have hcz41_0 : wc.cell? ⟨gb253, 0, none⟩ = some (.int .i64 0) := (blk_cell BK253.out 0).trans rfl
            have hcz41_1 : wc.cell? ⟨gb253, 1, none⟩ = some (.string (⟨#[]⟩ : ByteArray)) := (blk_cell BK253.out 1).trans rfl
            have hcz41_2 : wc.cell? ⟨gb253, 2, none⟩ = some (.int .i32 0) := (blk_cell BK253.out 2).trans rfl
            have hcz41_3 : wc.cell? ⟨gb253, 3, none⟩ = some (.bool false) := (blk_cell BK253.out 3).trans rfl
            have hcz41_4 : wc.cell? ⟨gb253, 4, none⟩ = some (.int .u32 0) := (blk_cell BK253.out 4).trans rfl
            have hfz41_0 := blk_frozen BK253.out 0
            have hfz41_1 := blk_frozen BK253.out 1
            have hfz41_2 := blk_frozen BK253.out 2
            have hfz41_3 := blk_frozen BK253.out 3
            have hfz41_4 := blk_frozen BK253.out 4
            go_wp2
            refine bodyPost_ret (results_ct rfl _ _ gb253 27 #[.int .i64 0, .string (⟨#[]⟩ : ByteArray), .int .i32 0, .bool false, .int .u32 0] (0, 0) _ rfl (Z25 BK253) Tryd.underlying27 rfl Z0) rfl ?_
            exact ⟨Z68, Z67⟩
  ·rw [if_neg c4] at H
   exact absurd H (by simp)
 ·rw [if_neg c3] at H
  exact absurd H (by simp)

/-! ### spec_FieldOk: function 65 -/
def spec_FieldOk.f (k : Nat) (a0 : Int) : Option (Bool) := (spec_UnpackOne.f k a0).bind fun t260 => ((spec_Pack.f k t260).bind fun t261 => (if (t261.length : Int) = 1 then (if 0 < (t261.length : Int) then (some ((rd t261 0) == a0)) else (none)) else (some false)))
theorem spec_FieldOk.mono : ∀ a0 k, LeO (spec_FieldOk.f k a0) (spec_FieldOk.f (k + 1) a0) := by
 intro a0 k
 unfold spec_FieldOk.f
 repeat' first
   | (with_reducible exact spec_Pack.mono _ _)
   | (with_reducible exact spec_UnpackOne.mono _ _)
   | (with_reducible exact LeO.refl _)
   | (with_reducible exact LeO.none _)
   | (with_reducible refine LeO.ite ?_ ?_)
   | (with_reducible refine LeO.bind ?_ (fun _ => ?_))
   | exact spec_Pack.mono _ _
   | exact spec_UnpackOne.mono _ _
   | exact LeO.none _
   | refine LeO.ite ?_ ?_
   | refine LeO.bind ?_ (fun _ => ?_)
set_option maxHeartbeats 8000000 in
set_option maxRecDepth 100000 in
theorem spec_FieldOk.calls (k : Nat) (a0 : Int) (r : Bool) (w : World) (h : spec_FieldOk.f k a0 = some r) :
  Calls Tryd.prog 65 #[.int .u32 a0] w fun e w' => e = .returned (.bool r) ∧ Below w.heap.size w w' := by
 have HB := Z (Below.refl w.heap.size w)
 have H : ((spec_UnpackOne.f k a0).bind fun t260 => ((spec_Pack.f k t260).bind fun t261 => (if (t261.length : Int) = 1 then (if 0 < (t261.length : Int) then (some ((rd t261 0) == a0)) else (none)) else (some false)))) = some r := h
 clear h
 replace H := Option.bind_eq_some_iff.mp H
 obtain ⟨t260, A20, H⟩ := H
 replace H : ((spec_Pack.f k t260).bind fun t261 => (if (t261.length : Int) = 1 then (if 0 < (t261.length : Int) then (some ((rd t261 0) == a0)) else (none)) else (some false))) = some r := H
 have A2 := Aside0.mk A20
 clear A20
 replace H := Option.bind_eq_some_iff.mp H
 obtain ⟨t261, A30, H⟩ := H
 replace H : (if (t261.length : Int) = 1 then (if 0 < (t261.length : Int) then (some ((rd t261 0) == a0)) else (none)) else (some false)) = some r := H
 have A3 := Aside0.mk A30
 clear A30
 by_cases c4 : (t261.length : Int) = 1
 ·rw [if_pos c4] at H
  have c4b0 : ((t261.length : Int) == 1) = true := beq_iff_eq.mpr c4
  have c4b1 : ((t261.length : Int) != 1) = false := bne_eq_false_iff_eq.mpr c4
  clear c4
  by_cases c5 : 0 < (t261.length : Int)
  ·rw [if_pos c5] at H
   have c5b0 : decide (0 < (t261.length : Int)) = true := decide_eq_true c5
   have c5b1 : decide (0 < t261.length) = true := decide_eq_true (by omega)
   clear c5
   obtain rfl := Option.some.inj H
   go_enter Tryd.func65, Tryd.ntmps65
   go_wp2_with (first | ((with_reducible refine gate_callee (f := 66) rfl ?_); refine goesL_ (some 5) rfl rfl Tryd.func66 Z0 rfl #[.int .u32 a0] rfl Z9 ?_; (with_reducible refine (spec_UnpackOne.calls k a0 t260 _ A2.out).mono ?_); rintro e w6 ⟨rfl, hb⟩; refine ⟨_, rfl, ?_⟩; replace HB := Z (below_step Z67 hb); (try clear hb); (try clear hb2); (try clear hk); (try clear hi)) | ((with_reducible refine gate_callee (f := 82) rfl ?_); refine goesL_ (some 6) rfl rfl Tryd.func82 Z0 rfl #[.string t260] rfl Z9 ?_; (with_reducible refine (spec_Pack.calls k t260 t261 _ A3.out).mono ?_); rintro e w7 ⟨v262, rfl, ho0, hb⟩; refine ⟨_, rfl, ?_⟩; have HO263 := Z (Kd.R_lower ho0 (below_size Z67)); replace HB := Z (below_step Z67 hb); (try clear hb); (try clear hb2); (try clear hk); (try clear hi); (try clear ho0); obtain ⟨Ao8, co8, eo8⟩ := Kd.R_slice HO263.out; subst eo8; have p264 : 0 ≤ (0 : Int) := (by omega); have q264 : 0 < (t261.length : Int) := of_decide_eq_true Z10; obtain ⟨ad264, e264, hx264_0⟩ := Kd.at_int (Kd.R_reads' HO263.out).2.2 0 p264 q264; cases e264; have qi264 : (0 < t261.length) = True := eq_true (by omega); (try rw [show ((0 : Int)).toNat = 0 from rfl] at hx264_0); (try rw [Addr.add_zero'] at hx264_0); replace p264 := eq_true p264; replace q264 := eq_true q264))
   go_ret
   exact ⟨Z68, Z67⟩
  ·rw [if_neg c5] at H
   exact absurd H (by simp)
 ·rw [if_neg c4] at H
  have c4b0 : ((t261.length : Int) == 1) = false := beq_eq_false_iff_ne.mpr c4
  have c4b1 : ((t261.length : Int) != 1) = true := bne_iff_ne.mpr c4
  obtain rfl := Option.some.inj H
  go_enter Tryd.func65, Tryd.ntmps65
  go_wp2_with (first | ((with_reducible refine gate_callee (f := 66) rfl ?_); refine goesL_ (some 5) rfl rfl Tryd.func66 Z0 rfl #[.int .u32 a0] rfl Z9 ?_; (with_reducible refine (spec_UnpackOne.calls k a0 t260 _ A2.out).mono ?_); rintro e w9 ⟨rfl, hb⟩; refine ⟨_, rfl, ?_⟩; replace HB := Z (below_step Z67 hb); (try clear hb); (try clear hb2); (try clear hk); (try clear hi)) | ((with_reducible refine gate_callee (f := 82) rfl ?_); refine goesL_ (some 6) rfl rfl Tryd.func82 Z0 rfl #[.string t260] rfl Z9 ?_; (with_reducible refine (spec_Pack.calls k t260 t261 _ A3.out).mono ?_); rintro e w10 ⟨v262, rfl, ho0, hb⟩; refine ⟨_, rfl, ?_⟩; have HO263 := Z (Kd.R_lower ho0 (below_size Z67)); replace HB := Z (below_step Z67 hb); (try clear hb); (try clear hb2); (try clear hk); (try clear hi); (try clear ho0); obtain ⟨Ao11, co11, eo11⟩ := Kd.R_slice HO263.out; subst eo11))
  go_ret
  exact ⟨Z68, Z67⟩

/-! ### spec_l04Item: function 41 -/
mutual
def spec_l04Item.j0 : Nat → List Int → Int → Int → Int → Bool → Int → ByteArray → Int → Bool → Int → Option (Int × ByteArray × Int × Bool × Int × Int)
 | 0, _, _, _, _, _, _, _, _, _, _ => none
 | k + 1, x0, x1, x7, x8, x27, x267000, x267001, x267002, x267003, x267004 => if x27 = true then ((spec_l04Number.f k x0 x1).bind fun bt277 => (if bt277.2.2.2.2.2 = 0 then (if 0 ≤ x1 then (if x1 < (x0.length : Int) then (some (0, (⟨#[]⟩ : ByteArray), 0, false, rd x0 x1, 1)) else (none)) else (none)) else (some (bt277.1, bt277.2.1, bt277.2.2.1, bt277.2.2.2.1, bt277.2.2.2.2.1, bt277.2.2.2.2.2)))) else (if x8 = 12 then (if (wrap64 (x1 + 1)) < (x0.length : Int) then (if 0 ≤ x1 then (if x1 < (x0.length : Int) then ((spec_FieldOk.f k ((Int.tdiv (rd x0 x1) 16) % 4294967296)).bind fun t285 => (spec_l04Item.j1 k x0 x1 x7 t285 x267000 x267001 x267002 x267003 x267004)) else (none)) else (none)) else (spec_l04Item.j1 k x0 x1 x7 false x267000 x267001 x267002 x267003 x267004)) else (spec_l04Item.j1 k x0 x1 x7 false x267000 x267001 x267002 x267003 x267004))
def spec_l04Item.j1 : Nat → List Int → Int → Int → Bool → Int → ByteArray → Int → Bool → Int → Option (Int × ByteArray × Int × Bool × Int × Int)
 | 0, _, _, _, _, _, _, _, _, _ => none
 | k + 1, x0, x1, x7, x48, x267000, x267001, x267002, x267003, x267004 => if x48 = true then (if 0 ≤ x1 then (if x1 < (x0.length : Int) then ((spec_UnpackOne.f k ((Int.tdiv (rd x0 x1) 16) % 4294967296)).bind fun t287 => (if 0 ≤ (wrap64 (x1 + 1)) then (if (wrap64 (x1 + 1)) < (x0.length : Int) then (if 2 = 0 then (some (0, (⟨#[]⟩ : ByteArray), 0, false, rd x0 x1, 1)) else (some (9, t287, wrap32 (rd x0 (wrap64 (x1 + 1))), false, 0, 2))) else (none)) else (none))) else (none)) else (none)) else (if x7 = 0 then (if 0 ≤ x1 then (if x1 < (x0.length : Int) then (some (0, (⟨#[]⟩ : ByteArray), 0, false, rd x0 x1, 1)) else (none)) else (none)) else (some (x267000, x267001, x267002, x267003, x267004, x7)))
end
def spec_l04Item.f (k : Nat) (l0 : List Int) (a1 : Int) : Option (Int × ByteArray × Int × Bool × Int × Int) := if 0 ≤ a1 then (if a1 < (l0.length : Int) then ((spec_l04Kind.f k (Int.tmod (rd l0 a1) 16)).bind fun t268 => (if t268 ≥ 0 then ((spec_l04Kind.f k (Int.tmod (rd l0 a1) 16)).bind fun t269 => ((spec_l04Name.f k l0 a1 t269).bind fun bt270 => (if bt270.2.2.2.2.2 = 0 then (some (0, (⟨#[]⟩ : ByteArray), 0, false, rd l0 a1, 1)) else (some (bt270.1, bt270.2.1, bt270.2.2.1, bt270.2.2.2.1, bt270.2.2.2.2.1, bt270.2.2.2.2.2))))) else (if (Int.tmod (rd l0 a1) 16) = 8 then (spec_l04Item.j0 k l0 a1 0 (Int.tmod (rd l0 a1) 16) true 0 (⟨#[]⟩ : ByteArray) 0 false 0) else (if (Int.tmod (rd l0 a1) 16) = 6 then (spec_l04Item.j0 k l0 a1 0 (Int.tmod (rd l0 a1) 16) true 0 (⟨#[]⟩ : ByteArray) 0 false 0) else (if (Int.tmod (rd l0 a1) 16) = 2 then (spec_l04Item.j0 k l0 a1 0 (Int.tmod (rd l0 a1) 16) true 0 (⟨#[]⟩ : ByteArray) 0 false 0) else (spec_l04Item.j0 k l0 a1 0 (Int.tmod (rd l0 a1) 16) ((Int.tmod (rd l0 a1) 16) == 5) 0 (⟨#[]⟩ : ByteArray) 0 false 0)))))) else (none)) else (none)
theorem spec_l04Item.mono_l : ∀ k, (∀ y0 y1 y2 y3 y4 y5 y6 y7 y8 y9, LeO (spec_l04Item.j0 k y0 y1 y2 y3 y4 y5 y6 y7 y8 y9) (spec_l04Item.j0 (k + 1) y0 y1 y2 y3 y4 y5 y6 y7 y8 y9)) ∧ (∀ y0 y1 y2 y3 y4 y5 y6 y7 y8, LeO (spec_l04Item.j1 k y0 y1 y2 y3 y4 y5 y6 y7 y8) (spec_l04Item.j1 (k + 1) y0 y1 y2 y3 y4 y5 y6 y7 y8))
 | 0 => ⟨fun _ _ _ _ _ _ _ _ _ _ r h => by simp [spec_l04Item.j0] at h, fun _ _ _ _ _ _ _ _ _ r h => by simp [spec_l04Item.j1] at h⟩
 | k + 1 => by
  obtain ⟨ih0, ih1⟩ := spec_l04Item.mono_l k
  refine ⟨?_, ?_⟩
  ·intro y0 y1 y2 y3 y4 y5 y6 y7 y8 y9
   unfold spec_l04Item.j0
   repeat' first
   | (with_reducible exact ih0 _ _ _ _ _ _ _ _ _ _)
   | (with_reducible exact ih1 _ _ _ _ _ _ _ _ _)
   | (with_reducible exact spec_FieldOk.mono _ _)
   | (with_reducible exact spec_UnpackOne.mono _ _)
   | (with_reducible exact spec_l04Kind.mono _ _)
   | (with_reducible exact spec_l04Name.mono _ _ _ _)
   | (with_reducible exact spec_l04Number.mono _ _ _)
   | (with_reducible exact LeO.refl _)
   | (with_reducible exact LeO.none _)
   | (with_reducible refine LeO.ite ?_ ?_)
   | (with_reducible refine LeO.bind ?_ (fun _ => ?_))
   | exact ih0 _ _ _ _ _ _ _ _ _ _
   | exact ih1 _ _ _ _ _ _ _ _ _
   | exact spec_FieldOk.mono _ _
   | exact spec_UnpackOne.mono _ _
   | exact spec_l04Kind.mono _ _
   | exact spec_l04Name.mono _ _ _ _
   | exact spec_l04Number.mono _ _ _
   | exact LeO.none _
   | refine LeO.ite ?_ ?_
   | refine LeO.bind ?_ (fun _ => ?_)
  ·intro y0 y1 y2 y3 y4 y5 y6 y7 y8
   unfold spec_l04Item.j1
   repeat' first
   | (with_reducible exact ih0 _ _ _ _ _ _ _ _ _ _)
   | (with_reducible exact ih1 _ _ _ _ _ _ _ _ _)
   | (with_reducible exact spec_FieldOk.mono _ _)
   | (with_reducible exact spec_UnpackOne.mono _ _)
   | (with_reducible exact spec_l04Kind.mono _ _)
   | (with_reducible exact spec_l04Name.mono _ _ _ _)
   | (with_reducible exact spec_l04Number.mono _ _ _)
   | (with_reducible exact LeO.refl _)
   | (with_reducible exact LeO.none _)
   | (with_reducible refine LeO.ite ?_ ?_)
   | (with_reducible refine LeO.bind ?_ (fun _ => ?_))
   | exact ih0 _ _ _ _ _ _ _ _ _ _
   | exact ih1 _ _ _ _ _ _ _ _ _
   | exact spec_FieldOk.mono _ _
   | exact spec_UnpackOne.mono _ _
   | exact spec_l04Kind.mono _ _
   | exact spec_l04Name.mono _ _ _ _
   | exact spec_l04Number.mono _ _ _
   | exact LeO.none _
   | refine LeO.ite ?_ ?_
   | refine LeO.bind ?_ (fun _ => ?_)
theorem spec_l04Item.mono : ∀ a0 a1 k, LeO (spec_l04Item.f k a0 a1) (spec_l04Item.f (k + 1) a0 a1) := by
 intro a0 a1 k
 obtain ⟨ih0, ih1⟩ := spec_l04Item.mono_l k
 unfold spec_l04Item.f
 repeat' first
   | (with_reducible exact ih0 _ _ _ _ _ _ _ _ _ _)
   | (with_reducible exact ih1 _ _ _ _ _ _ _ _ _)
   | (with_reducible exact spec_FieldOk.mono _ _)
   | (with_reducible exact spec_UnpackOne.mono _ _)
   | (with_reducible exact spec_l04Kind.mono _ _)
   | (with_reducible exact spec_l04Name.mono _ _ _ _)
   | (with_reducible exact spec_l04Number.mono _ _ _)
   | (with_reducible exact LeO.refl _)
   | (with_reducible exact LeO.none _)
   | (with_reducible refine LeO.ite ?_ ?_)
   | (with_reducible refine LeO.bind ?_ (fun _ => ?_))
   | exact ih0 _ _ _ _ _ _ _ _ _ _
   | exact ih1 _ _ _ _ _ _ _ _ _
   | exact spec_FieldOk.mono _ _
   | exact spec_UnpackOne.mono _ _
   | exact spec_l04Kind.mono _ _
   | exact spec_l04Name.mono _ _ _ _
   | exact spec_l04Number.mono _ _ _
   | exact LeO.none _
   | refine LeO.ite ?_ ?_
   | refine LeO.bind ?_ (fun _ => ?_)
def spec_l04Item.T8 : Bool × List (List Nat × List Nat) := (true, [([], []), ([], []), ([0, 1], [0, 1]), ([2], [2]), ([3], [3]), ([4], [4]), ([], []), ([], []), ([7], [7]), ([6, 8], [6, 8]), ([9], [9]), ([10], [10]), ([5, 11], [5, 11]), ([12, 5, 0, 1, 2, 3, 4, 5, 6, 7, 8, 9, 10, 11, 12], [12]), ([13, 0, 1, 2, 3, 4, 5, 6, 7, 8, 9, 10, 11, 12, 13], [])])
def spec_l04Item.B8 : List Nat := [0, 0, 3, 7, 15, 31, 0, 0, 128, 448, 960, 1984, 4095, 8191, 16383]
theorem spec_l04Item.tab8 : rtab .any (opsOf Tryd.f41 8) = spec_l04Item.T8 := Z0
theorem spec_l04Item.bits8 : waitsOk spec_l04Item.T8.2 spec_l04Item.B8 = true := Z0
set_option maxHeartbeats 8000000 in
set_option maxRecDepth 100000 in
theorem spec_l04Item.calls (k : Nat) (A0 : Option Addr) (c0 : Nat) (l0 : List Int) (a1 : Int) (r1 : Int) (r2 : ByteArray) (r3 : Int) (r4 : Bool) (r5 : Int) (r6 : Int) (w : World) (hr0 : Kd.C (Kd.int .u32) w A0 l0.length l0) (hc0 : l0.length ≤ c0) (h : spec_l04Item.f k l0 a1 = some (r1, r2, r3, r4, r5, r6)) :
  Calls Tryd.prog 41 #[.slice A0 l0.length c0, .int .i64 a1] w fun e w' => e = .returned (.tuple #[.agg #[.int .i64 r1, .string r2, .int .i32 r3, .bool r4, .int .u32 r5], .int .i64 r6]) ∧ Below w.heap.size w w' := by
 have hu27 := Tryd.underlying27
 have HR0 := Aside0.mk hr0
 have HC0 := Aside0.mk hc0
 clear hr0 hc0
 have HB := Z (Below.refl w.heap.size w)
 have H : (if 0 ≤ a1 then (if a1 < (l0.length : Int) then ((spec_l04Kind.f k (Int.tmod (rd l0 a1) 16)).bind fun t268 => (if t268 ≥ 0 then ((spec_l04Kind.f k (Int.tmod (rd l0 a1) 16)).bind fun t269 => ((spec_l04Name.f k l0 a1 t269).bind fun bt270 => (if bt270.2.2.2.2.2 = 0 then (some (0, (⟨#[]⟩ : ByteArray), 0, false, rd l0 a1, 1)) else (some (bt270.1, bt270.2.1, bt270.2.2.1, bt270.2.2.2.1, bt270.2.2.2.2.1, bt270.2.2.2.2.2))))) else (if (Int.tmod (rd l0 a1) 16) = 8 then (spec_l04Item.j0 k l0 a1 0 (Int.tmod (rd l0 a1) 16) true 0 (⟨#[]⟩ : ByteArray) 0 false 0) else (if (Int.tmod (rd l0 a1) 16) = 6 then (spec_l04Item.j0 k l0 a1 0 (Int.tmod (rd l0 a1) 16) true 0 (⟨#[]⟩ : ByteArray) 0 false 0) else (if (Int.tmod (rd l0 a1) 16) = 2 then (spec_l04Item.j0 k l0 a1 0 (Int.tmod (rd l0 a1) 16) true 0 (⟨#[]⟩ : ByteArray) 0 false 0) else (spec_l04Item.j0 k l0 a1 0 (Int.tmod (rd l0 a1) 16) ((Int.tmod (rd l0 a1) 16) == 5) 0 (⟨#[]⟩ : ByteArray) 0 false 0)))))) else (none)) else (none)) = some (r1, r2, r3, r4, r5, r6) := h
 clear h
 by_cases c3 : 0 ≤ a1
 ·rw [if_pos c3] at H
  have c3b0 : decide (0 ≤ a1) = true := decide_eq_true c3
  clear c3
  by_cases c4 : a1 < (l0.length : Int)
  ·rw [if_pos c4] at H
   have c4b0 : decide (a1 < (l0.length : Int)) = true := decide_eq_true c4
   clear c4
   replace H := Option.bind_eq_some_iff.mp H
   obtain ⟨t268, A50, H⟩ := H
   replace H : (if t268 ≥ 0 then ((spec_l04Kind.f k (Int.tmod (rd l0 a1) 16)).bind fun t269 => ((spec_l04Name.f k l0 a1 t269).bind fun bt270 => (if bt270.2.2.2.2.2 = 0 then (some (0, (⟨#[]⟩ : ByteArray), 0, false, rd l0 a1, 1)) else (some (bt270.1, bt270.2.1, bt270.2.2.1, bt270.2.2.2.1, bt270.2.2.2.2.1, bt270.2.2.2.2.2))))) else (if (Int.tmod (rd l0 a1) 16) = 8 then (spec_l04Item.j0 k l0 a1 0 (Int.tmod (rd l0 a1) 16) true 0 (⟨#[]⟩ : ByteArray) 0 false 0) else (if (Int.tmod (rd l0 a1) 16) = 6 then (spec_l04Item.j0 k l0 a1 0 (Int.tmod (rd l0 a1) 16) true 0 (⟨#[]⟩ : ByteArray) 0 false 0) else (if (Int.tmod (rd l0 a1) 16) = 2 then (spec_l04Item.j0 k l0 a1 0 (Int.tmod (rd l0 a1) 16) true 0 (⟨#[]⟩ : ByteArray) 0 false 0) else (spec_l04Item.j0 k l0 a1 0 (Int.tmod (rd l0 a1) 16) ((Int.tmod (rd l0 a1) 16) == 5) 0 (⟨#[]⟩ : ByteArray) 0 false 0))))) = some (r1, r2, r3, r4, r5, r6) := H
   have A5 := Aside0.mk A50
   clear A50
   by_cases c6 : t268 ≥ 0
   ·rw [if_pos c6] at H
    have c6b0 : decide (0 ≤ t268) = true := decide_eq_true c6
    clear c6
    replace H := Option.bind_eq_some_iff.mp H
    obtain ⟨t269, A70, H⟩ := H
    replace H : ((spec_l04Name.f k l0 a1 t269).bind fun bt270 => (if bt270.2.2.2.2.2 = 0 then (some (0, (⟨#[]⟩ : ByteArray), 0, false, rd l0 a1, 1)) else (some (bt270.1, bt270.2.1, bt270.2.2.1, bt270.2.2.2.1, bt270.2.2.2.2.1, bt270.2.2.2.2.2)))) = some (r1, r2, r3, r4, r5, r6) := H
    have A7 := Aside0.mk A70
    clear A70
    replace H := Option.bind_eq_some_iff.mp H
    obtain ⟨⟨t270, t271, t272, t273, t274, t275⟩, A80, H⟩ := H
    replace H : (if t275 = 0 then (some (0, (⟨#[]⟩ : ByteArray), 0, false, rd l0 a1, 1)) else (some (t270, t271, t272, t273, t274, t275))) = some (r1, r2, r3, r4, r5, r6) := H
    have A8 := Aside0.mk A80
    clear A80
    by_cases c9 : t275 = 0
    ·rw [if_pos c9] at H
     have c9b0 : (t275 == 0) = true := beq_iff_eq.mpr c9
     have c9b1 : (t275 != 0) = false := bne_eq_false_iff_eq.mpr c9
     clear c9
     simp only [Option.some.injEq, Prod.mk.injEq] at H
     obtain ⟨rfl, rfl, rfl, rfl, rfl, rfl⟩ := H
     go_enter Tryd.func41, Tryd.ntmps41
     go_wp2_with (first | ((with_reducible refine gate_dst (N := 4) rfl ?_); (try (refine gate_guard (by rfl) ?_; dsimp only)); refine box_event (by rfl) (N := 4) (by rfl) (cs := #[.int .i64 0, .string (⟨#[]⟩ : ByteArray), .int .i32 0, .bool false, .int .u32 0]) (t := 27) Z3 ?_; intro gb265 hg w10 hbox hb; have BK265 := Z (hbox); have GW265 := Z ((Z79 : w.heap.size ≤ gb265)); have GE265 := Z ((Z79 : w.heap.size ≤ gb265)); replace HB := Z (below_step Z67 hb); clear hb hbox hg) | ((with_reducible refine gate_dst (N := 6) rfl ?_); (try (refine gate_guard (by rfl) ?_; dsimp only)); refine box_event (by rfl) (N := 6) (by rfl) (cs := #[.int .i64 0, .string (⟨#[]⟩ : ByteArray), .int .i32 0, .bool false, .int .u32 0]) (t := 27) Z3 ?_; intro gb266 hg w11 hbox hb; have BK266 := Z (hbox); have GW266 := Z ((Z79 : w.heap.size ≤ gb266)); have GE266 := Z ((Z79 : w.heap.size ≤ gb266)); replace HB := Z (below_step Z67 hb); have NB265_266 := Z ((Z69 : gb265 ≠ gb266)); have NB266_265 := Z ((Z70 : gb266 ≠ gb265)); replace BK265 := Z (blk_below (g := gb265) (o := .cells #[.int .i64 0, .string (⟨#[]⟩ : ByteArray), .int .i32 0, .bool false, .int .u32 0] 27 (0, 0)) (Z15 BK265) hb); clear hb hbox hg; have hnb12 := NB266_265.out; have hnc12 := NB265_266.out; have hcz13_0 : w11.cell? ⟨gb266, 0, none⟩ = some (.int .i64 0) := (blk_cell BK266.out 0).trans rfl; have hcz13_1 : w11.cell? ⟨gb266, 1, none⟩ = some (.string (⟨#[]⟩ : ByteArray)) := (blk_cell BK266.out 1).trans rfl; have hcz13_2 : w11.cell? ⟨gb266, 2, none⟩ = some (.int .i32 0) := (blk_cell BK266.out 2).trans rfl; have hcz13_3 : w11.cell? ⟨gb266, 3, none⟩ = some (.bool false) := (blk_cell BK266.out 3).trans rfl; have hcz13_4 : w11.cell? ⟨gb266, 4, none⟩ = some (.int .u32 0) := (blk_cell BK266.out 4).trans rfl; have hfz13_0 := blk_frozen BK266.out 0; have hfz13_1 := blk_frozen BK266.out 1; have hfz13_2 := blk_frozen BK266.out 2; have hfz13_3 := blk_frozen BK266.out 3; have hfz13_4 := blk_frozen BK266.out 4; have p267 : 0 ≤ (a1 : Int) := of_decide_eq_true Z10; have q267 : a1 < (l0.length : Int) := of_decide_eq_true Z10; obtain ⟨ad267, e267, hx267_0⟩ := Kd.at_int HR0.out a1 p267 q267; cases e267; have hn267_0 : ad267.block ≠ gb266 := Nat.ne_of_lt (Nat.lt_of_lt_of_le Z30 GW266.out); have hn267_1 : ad267.block ≠ gb266 := Nat.ne_of_lt (Nat.lt_of_lt_of_le Z30 GW266.out); have hn267_2 : ad267.block ≠ gb266 := Nat.ne_of_lt (Nat.lt_of_lt_of_le Z30 GW266.out); have hn267_3 : ad267.block ≠ gb266 := Nat.ne_of_lt (Nat.lt_of_lt_of_le Z30 GW266.out); have hn267_4 : ad267.block ≠ gb266 := Nat.ne_of_lt (Nat.lt_of_lt_of_le Z30 GW266.out); replace hx267_0 := (HB.out.cell (World.block_lt_of_cell? w _ hx267_0)).trans hx267_0; replace hx267_0 := (cell_far (p := ⟨gb266, 0, none⟩) Z31 (.int .i64 0)).trans hx267_0; replace hx267_0 := (cell_far (p := ⟨gb266, 1, none⟩) Z32 (.string (⟨#[]⟩ : ByteArray))).trans hx267_0; replace hx267_0 := (cell_far (p := ⟨gb266, 2, none⟩) Z33 (.int .i32 0)).trans hx267_0; replace hx267_0 := (cell_far (p := ⟨gb266, 3, none⟩) Z34 (.bool false)).trans hx267_0; replace hx267_0 := (cell_far (p := ⟨gb266, 4, none⟩) Z35 (.int .u32 0)).trans hx267_0; clear hn267_0; clear hn267_1; clear hn267_2; clear hn267_3; clear hn267_4; replace p267 := eq_true p267; replace q267 := eq_true q267) | ((with_reducible refine gate_callee (f := 62) rfl ?_); refine goesL_ (some 17) rfl rfl Tryd.func62 Z0 rfl #[.int .u32 (Int.tmod (rd l0 a1) 16)] rfl Z9 ?_; (with_reducible refine (spec_l04Kind.calls k (Int.tmod (rd l0 a1) 16) t268 _ A5.out).mono ?_); rintro e w' ⟨rfl, ⟨nd, rfl⟩⟩; refine ⟨_, rfl, ?_⟩) | ((with_reducible refine gate_callee (f := 62) rfl ?_); refine goesL_ (some 23) rfl rfl Tryd.func62 Z0 rfl #[.int .u32 (Int.tmod (rd l0 a1) 16)] rfl Z9 ?_; (with_reducible refine (spec_l04Kind.calls k (Int.tmod (rd l0 a1) 16) t269 _ A7.out).mono ?_); rintro e w' ⟨rfl, ⟨nd, rfl⟩⟩; refine ⟨_, rfl, ?_⟩) | ((with_reducible refine gate_callee (f := 63) rfl ?_); refine goesL_ (some 24) rfl rfl Tryd.func63 Z0 rfl #[.slice (some ad267) l0.length c0, .int .i64 a1, .int .i64 t269] rfl Z9 ?_; (with_reducible refine (spec_l04Name.calls k _ _ l0 a1 t269 t270 t271 t272 t273 t274 t275 _ ?side1 ?side2 A8.out).mono ?_); (case side1 => exact Kd.C_below HR0.out Z67); (case side2 => exact HC0.out); rintro e w14 ⟨rfl, hb⟩; refine ⟨_, rfl, ?_⟩; replace BK265 := Z (blk_below (g := gb265) (o := .cells #[.int .i64 0, .string (⟨#[]⟩ : ByteArray), .int .i32 0, .bool false, .int .u32 0] 27 (0, 0)) (Z36 BK265) hb); replace BK266 := Z (blk_below (g := gb266) (o := .cells #[.int .i64 0, .string (⟨#[]⟩ : ByteArray), .int .i32 0, .bool false, .int .u32 0] 27 (0, 0)) (Z25 BK266) hb); replace HB := Z (below_step Z67 hb); (try clear hb); (try clear hb2); (try clear hk); (try clear hi); have hcz15_0 : w14.cell? ⟨gb266, 0, none⟩ = some (.int .i64 0) := (blk_cell BK266.out 0).trans rfl; have hcz15_1 : w14.cell? ⟨gb266, 1, none⟩ = some (.string (⟨#[]⟩ : ByteArray)) := (blk_cell BK266.out 1).trans rfl; have hcz15_2 : w14.cell? ⟨gb266, 2, none⟩ = some (.int .i32 0) := (blk_cell BK266.out 2).trans rfl; have hcz15_3 : w14.cell? ⟨gb266, 3, none⟩ = some (.bool false) := (blk_cell BK266.out 3).trans rfl; have hcz15_4 : w14.cell? ⟨gb266, 4, none⟩ = some (.int .u32 0) := (blk_cell BK266.out 4).trans rfl; have hfz15_0 := blk_frozen BK266.out 0; have hfz15_1 := blk_frozen BK266.out 1; have hfz15_2 := blk_frozen BK266.out 2; have hfz15_3 := blk_frozen BK266.out 3; have hfz15_4 := blk_frozen BK266.out 4; have p276 : 0 ≤ (a1 : Int) := of_decide_eq_true Z10; have q276 : a1 < (l0.length : Int) := of_decide_eq_true Z10; obtain ⟨ad276, e276, hx276_0⟩ := Kd.at_int HR0.out a1 p276 q276; obtain rfl : ad267 = ad276 := (by injection e276); have hn276_0 : ad267.block ≠ gb266 := Nat.ne_of_lt (Nat.lt_of_lt_of_le Z37 GW266.out); have hn276_1 : ad267.block ≠ gb266 := Nat.ne_of_lt (Nat.lt_of_lt_of_le Z37 GW266.out); have hn276_2 : ad267.block ≠ gb266 := Nat.ne_of_lt (Nat.lt_of_lt_of_le Z37 GW266.out); have hn276_3 : ad267.block ≠ gb266 := Nat.ne_of_lt (Nat.lt_of_lt_of_le Z37 GW266.out); have hn276_4 : ad267.block ≠ gb266 := Nat.ne_of_lt (Nat.lt_of_lt_of_le Z37 GW266.out); replace hx276_0 := (HB.out.cell (World.block_lt_of_cell? w _ hx276_0)).trans hx276_0; replace hx276_0 := (cell_far (p := ⟨gb266, 0, none⟩) (by first | (rw [add_block]; exact hn276_0) | (show (Addr.add _ _).block ≠ _; rw [add_block]; exact hn276_0) | exact hn276_0) (.int .i64 t270)).trans hx276_0; replace hx276_0 := (cell_far (p := ⟨gb266, 1, none⟩) (by first | (rw [add_block]; exact hn276_1) | (show (Addr.add _ _).block ≠ _; rw [add_block]; exact hn276_1) | exact hn276_1) (.string t271)).trans hx276_0; replace hx276_0 := (cell_far (p := ⟨gb266, 2, none⟩) (by first | (rw [add_block]; exact hn276_2) | (show (Addr.add _ _).block ≠ _; rw [add_block]; exact hn276_2) | exact hn276_2) (.int .i32 t272)).trans hx276_0; replace hx276_0 := (cell_far (p := ⟨gb266, 3, none⟩) (by first | (rw [add_block]; exact hn276_3) | (show (Addr.add _ _).block ≠ _; rw [add_block]; exact hn276_3) | exact hn276_3) (.bool t273)).trans hx276_0; replace hx276_0 := (cell_far (p := ⟨gb266, 4, none⟩) (by first | (rw [add_block]; exact hn276_4) | (show (Addr.add _ _).block ≠ _; rw [add_block]; exact hn276_4) | exact hn276_4) (.int .u32 t274)).trans hx276_0; clear hn276_0; clear hn276_1; clear hn276_2; clear hn276_3; clear hn276_4; replace p276 := eq_true p276; replace q276 := eq_true q276; have hcz16_0 : w14.cell? ⟨gb265, 0, none⟩ = some (.int .i64 0) := (blk_cell BK265.out 0).trans rfl; have hcz16_1 : w14.cell? ⟨gb265, 1, none⟩ = some (.string (⟨#[]⟩ : ByteArray)) := (blk_cell BK265.out 1).trans rfl; have hcz16_2 : w14.cell? ⟨gb265, 2, none⟩ = some (.int .i32 0) := (blk_cell BK265.out 2).trans rfl; have hcz16_3 : w14.cell? ⟨gb265, 3, none⟩ = some (.bool false) := (blk_cell BK265.out 3).trans rfl; have hcz16_4 : w14.cell? ⟨gb265, 4, none⟩ = some (.int .u32 0) := (blk_cell BK265.out 4).trans rfl; have hfz16_0 := blk_frozen BK265.out 0; have hfz16_1 := blk_frozen BK265.out 1; have hfz16_2 := blk_frozen BK265.out 2; have hfz16_3 := blk_frozen BK265.out 3; have hfz16_4 := blk_frozen BK265.out 4))
     refine bodyPost_ret (results_ct rfl _ _ gb265 27 #[.int .i64 0, .string (⟨#[]⟩ : ByteArray), .int .i32 0, .bool false, .int .u32 (rd l0 a1)] (0, 0) _ rfl (Z38 BK265) Tryd.underlying27 rfl Z0) rfl ?_
     exact ⟨Z68, Z67⟩
    ·rw [if_neg c9] at H
     have c9b0 : (t275 == 0) = false := beq_eq_false_iff_ne.mpr c9
     have c9b1 : (t275 != 0) = true := bne_iff_ne.mpr c9
     simp only [Option.some.injEq, Prod.mk.injEq] at H
     obtain ⟨rfl, rfl, rfl, rfl, rfl, rfl⟩ := H
     go_enter Tryd.func41, Tryd.ntmps41
     go_wp2_with (first | ((with_reducible refine gate_dst (N := 4) rfl ?_); (try (refine gate_guard (by rfl) ?_; dsimp only)); refine box_event (by rfl) (N := 4) (by rfl) (cs := #[.int .i64 0, .string (⟨#[]⟩ : ByteArray), .int .i32 0, .bool false, .int .u32 0]) (t := 27) Z3 ?_; intro gb265 hg w17 hbox hb; have BK265 := Z (hbox); have GW265 := Z ((Z79 : w.heap.size ≤ gb265)); have GE265 := Z ((Z79 : w.heap.size ≤ gb265)); replace HB := Z (below_step Z67 hb); clear hb hbox hg) | ((with_reducible refine gate_dst (N := 6) rfl ?_); (try (refine gate_guard (by rfl) ?_; dsimp only)); refine box_event (by rfl) (N := 6) (by rfl) (cs := #[.int .i64 0, .string (⟨#[]⟩ : ByteArray), .int .i32 0, .bool false, .int .u32 0]) (t := 27) Z3 ?_; intro gb266 hg w18 hbox hb; have BK266 := Z (hbox); have GW266 := Z ((Z79 : w.heap.size ≤ gb266)); have GE266 := Z ((Z79 : w.heap.size ≤ gb266)); replace HB := Z (below_step Z67 hb); have NB265_266 := Z ((Z69 : gb265 ≠ gb266)); have NB266_265 := Z ((Z70 : gb266 ≠ gb265)); replace BK265 := Z (blk_below (g := gb265) (o := .cells #[.int .i64 0, .string (⟨#[]⟩ : ByteArray), .int .i32 0, .bool false, .int .u32 0] 27 (0, 0)) (Z15 BK265) hb); clear hb hbox hg; have hnb19 := NB266_265.out; have hnc19 := NB265_266.out; have hcz20_0 : w18.cell? ⟨gb266, 0, none⟩ = some (.int .i64 0) := (blk_cell BK266.out 0).trans rfl; have hcz20_1 : w18.cell? ⟨gb266, 1, none⟩ = some (.string (⟨#[]⟩ : ByteArray)) := (blk_cell BK266.out 1).trans rfl; have hcz20_2 : w18.cell? ⟨gb266, 2, none⟩ = some (.int .i32 0) := (blk_cell BK266.out 2).trans rfl; have hcz20_3 : w18.cell? ⟨gb266, 3, none⟩ = some (.bool false) := (blk_cell BK266.out 3).trans rfl; have hcz20_4 : w18.cell? ⟨gb266, 4, none⟩ = some (.int .u32 0) := (blk_cell BK266.out 4).trans rfl; have hfz20_0 := blk_frozen BK266.out 0; have hfz20_1 := blk_frozen BK266.out 1; have hfz20_2 := blk_frozen BK266.out 2; have hfz20_3 := blk_frozen BK266.out 3; have hfz20_4 := blk_frozen BK266.out 4; have p267 : 0 ≤ (a1 : Int) := of_decide_eq_true Z10; have q267 : a1 < (l0.length : Int) := of_decide_eq_true Z10; obtain ⟨ad267, e267, hx267_0⟩ := Kd.at_int HR0.out a1 p267 q267; cases e267; have hn267_0 : ad267.block ≠ gb266 := Nat.ne_of_lt (Nat.lt_of_lt_of_le Z30 GW266.out); have hn267_1 : ad267.block ≠ gb266 := Nat.ne_of_lt (Nat.lt_of_lt_of_le Z30 GW266.out); have hn267_2 : ad267.block ≠ gb266 := Nat.ne_of_lt (Nat.lt_of_lt_of_le Z30 GW266.out); have hn267_3 : ad267.block ≠ gb266 := Nat.ne_of_lt (Nat.lt_of_lt_of_le Z30 GW266.out); have hn267_4 : ad267.block ≠ gb266 := Nat.ne_of_lt (Nat.lt_of_lt_of_le Z30 GW266.out); replace hx267_0 := (HB.out.cell (World.block_lt_of_cell? w _ hx267_0)).trans hx267_0; replace hx267_0 := (cell_far (p := ⟨gb266, 0, none⟩) Z31 (.int .i64 0)).trans hx267_0; replace hx267_0 := (cell_far (p := ⟨gb266, 1, none⟩) Z32 (.string (⟨#[]⟩ : ByteArray))).trans hx267_0; replace hx267_0 := (cell_far (p := ⟨gb266, 2, none⟩) Z33 (.int .i32 0)).trans hx267_0; replace hx267_0 := (cell_far (p := ⟨gb266, 3, none⟩) Z34 (.bool false)).trans hx267_0; replace hx267_0 := (cell_far (p := ⟨gb266, 4, none⟩) Z35 (.int .u32 0)).trans hx267_0; clear hn267_0; clear hn267_1; clear hn267_2; clear hn267_3; clear hn267_4; replace p267 := eq_true p267; replace q267 := eq_true q267) | ((with_reducible refine gate_callee (f := 62) rfl ?_); refine goesL_ (some 17) rfl rfl Tryd.func62 Z0 rfl #[.int .u32 (Int.tmod (rd l0 a1) 16)] rfl Z9 ?_; (with_reducible refine (spec_l04Kind.calls k (Int.tmod (rd l0 a1) 16) t268 _ A5.out).mono ?_); rintro e w' ⟨rfl, ⟨nd, rfl⟩⟩; refine ⟨_, rfl, ?_⟩) | ((with_reducible refine gate_callee (f := 62) rfl ?_); refine goesL_ (some 23) rfl rfl Tryd.func62 Z0 rfl #[.int .u32 (Int.tmod (rd l0 a1) 16)] rfl Z9 ?_; (with_reducible refine (spec_l04Kind.calls k (Int.tmod (rd l0 a1) 16) t269 _ A7.out).mono ?_); rintro e w' ⟨rfl, ⟨nd, rfl⟩⟩; refine ⟨_, rfl, ?_⟩) | ((with_reducible refine gate_callee (f := 63) rfl ?_); refine goesL_ (some 24) rfl rfl Tryd.func63 Z0 rfl #[.slice (some ad267) l0.length c0, .int .i64 a1, .int .i64 t269] rfl Z9 ?_; (with_reducible refine (spec_l04Name.calls k _ _ l0 a1 t269 t270 t271 t272 t273 t274 t275 _ ?side1 ?side2 A8.out).mono ?_); (case side1 => exact Kd.C_below HR0.out Z67); (case side2 => exact HC0.out); rintro e w21 ⟨rfl, hb⟩; refine ⟨_, rfl, ?_⟩; replace BK265 := Z (blk_below (g := gb265) (o := .cells #[.int .i64 0, .string (⟨#[]⟩ : ByteArray), .int .i32 0, .bool false, .int .u32 0] 27 (0, 0)) (Z36 BK265) hb); replace BK266 := Z (blk_below (g := gb266) (o := .cells #[.int .i64 0, .string (⟨#[]⟩ : ByteArray), .int .i32 0, .bool false, .int .u32 0] 27 (0, 0)) (Z25 BK266) hb); replace HB := Z (below_step Z67 hb); (try clear hb); (try clear hb2); (try clear hk); (try clear hi); have hcz22_0 : w21.cell? ⟨gb266, 0, none⟩ = some (.int .i64 0) := (blk_cell BK266.out 0).trans rfl; have hcz22_1 : w21.cell? ⟨gb266, 1, none⟩ = some (.string (⟨#[]⟩ : ByteArray)) := (blk_cell BK266.out 1).trans rfl; have hcz22_2 : w21.cell? ⟨gb266, 2, none⟩ = some (.int .i32 0) := (blk_cell BK266.out 2).trans rfl; have hcz22_3 : w21.cell? ⟨gb266, 3, none⟩ = some (.bool false) := (blk_cell BK266.out 3).trans rfl; have hcz22_4 : w21.cell? ⟨gb266, 4, none⟩ = some (.int .u32 0) := (blk_cell BK266.out 4).trans rfl; have hfz22_0 := blk_frozen BK266.out 0; have hfz22_1 := blk_frozen BK266.out 1; have hfz22_2 := blk_frozen BK266.out 2; have hfz22_3 := blk_frozen BK266.out 3; have hfz22_4 := blk_frozen BK266.out 4; have hcz23_0 : w21.cell? ⟨gb265, 0, none⟩ = some (.int .i64 0) := (blk_cell BK265.out 0).trans rfl; have hcz23_1 : w21.cell? ⟨gb265, 1, none⟩ = some (.string (⟨#[]⟩ : ByteArray)) := (blk_cell BK265.out 1).trans rfl; have hcz23_2 : w21.cell? ⟨gb265, 2, none⟩ = some (.int .i32 0) := (blk_cell BK265.out 2).trans rfl; have hcz23_3 : w21.cell? ⟨gb265, 3, none⟩ = some (.bool false) := (blk_cell BK265.out 3).trans rfl; have hcz23_4 : w21.cell? ⟨gb265, 4, none⟩ = some (.int .u32 0) := (blk_cell BK265.out 4).trans rfl; have hfz23_0 := blk_frozen BK265.out 0; have hfz23_1 := blk_frozen BK265.out 1; have hfz23_2 := blk_frozen BK265.out 2; have hfz23_3 := blk_frozen BK265.out 3; have hfz23_4 := blk_frozen BK265.out 4))
     refine bodyPost_ret (results_ct rfl _ _ gb265 27 #[.int .i64 t270, .string t271, .int .i32 t272, .bool t273, .int .u32 t274] (0, 0) _ rfl (by (with_reducible repeat (first | refine blk_drewN ?_ _ | refine blk_drew ?_ | refine blk_alloc ?_ _)); refine blk_put (cs := #[.int .i64 t270, .string t271, .int .i32 t272, .bool t273, .int .u32 0]) ?_ 4 _ rfl; (with_reducible repeat (first | refine blk_drewN ?_ _ | refine blk_drew ?_ | refine blk_alloc ?_ _)); refine blk_put (cs := #[.int .i64 t270, .string t271, .int .i32 t272, .bool false, .int .u32 0]) ?_ 3 _ rfl; (with_reducible repeat (first | refine blk_drewN ?_ _ | refine blk_drew ?_ | refine blk_alloc ?_ _)); refine blk_put (cs := #[.int .i64 t270, .string t271, .int .i32 0, .bool false, .int .u32 0]) ?_ 2 _ rfl; (with_reducible repeat (first | refine blk_drewN ?_ _ | refine blk_drew ?_ | refine blk_alloc ?_ _)); refine blk_put (cs := #[.int .i64 t270, .string (⟨#[]⟩ : ByteArray), .int .i32 0, .bool false, .int .u32 0]) ?_ 1 _ rfl; (with_reducible repeat (first | refine blk_drewN ?_ _ | refine blk_drew ?_ | refine blk_alloc ?_ _)); refine blk_put (cs := #[.int .i64 0, .string (⟨#[]⟩ : ByteArray), .int .i32 0, .bool false, .int .u32 0]) ?_ 0 _ rfl; (with_reducible repeat (first | refine blk_drewN ?_ _ | refine blk_drew ?_ | refine blk_alloc ?_ _)); refine blk_far ?_ NB265_266.out _; (with_reducible repeat (first | refine blk_drewN ?_ _ | refine blk_drew ?_ | refine blk_alloc ?_ _)); refine blk_far ?_ NB265_266.out _; (with_reducible repeat (first | refine blk_drewN ?_ _ | refine blk_drew ?_ | refine blk_alloc ?_ _)); refine blk_far ?_ NB265_266.out _; (with_reducible repeat (first | refine blk_drewN ?_ _ | refine blk_drew ?_ | refine blk_alloc ?_ _)); refine blk_far ?_ NB265_266.out _; (with_reducible repeat (first | refine blk_drewN ?_ _ | refine blk_drew ?_ | refine blk_alloc ?_ _)); refine blk_far ?_ NB265_266.out _; (with_reducible repeat (first | refine blk_drewN ?_ _ | refine blk_drew ?_ | refine blk_alloc ?_ _)); exact BK265.out) Tryd.underlying27 rfl Z0) rfl ?_
     exact ⟨Z68, Z67⟩
   ·rw [if_neg c6] at H
    have c6b0 : decide (0 ≤ t268) = false := decide_eq_false c6
    clear c6
    have HC24 := Aside0.mk H
    clear H
    go_enter Tryd.func41, Tryd.ntmps41
    go_upto_region 5 with (first | ((with_reducible refine gate_dst (N := 4) rfl ?_); (try (refine gate_guard (by rfl) ?_; dsimp only)); refine box_event (by rfl) (N := 4) (by rfl) (cs := #[.int .i64 0, .string (⟨#[]⟩ : ByteArray), .int .i32 0, .bool false, .int .u32 0]) (t := 27) Z3 ?_; intro gb265 hg w25 hbox hb; have BK265 := Z (hbox); have GW265 := Z ((Z79 : w.heap.size ≤ gb265)); have GE265 := Z ((Z79 : w.heap.size ≤ gb265)); replace HB := Z (below_step Z67 hb); clear hb hbox hg) | ((with_reducible refine gate_dst (N := 6) rfl ?_); (try (refine gate_guard (by rfl) ?_; dsimp only)); refine box_event (by rfl) (N := 6) (by rfl) (cs := #[.int .i64 0, .string (⟨#[]⟩ : ByteArray), .int .i32 0, .bool false, .int .u32 0]) (t := 27) Z3 ?_; intro gb266 hg w26 hbox hb; have BK266 := Z (hbox); have GW266 := Z ((Z79 : w.heap.size ≤ gb266)); have GE266 := Z ((Z79 : w.heap.size ≤ gb266)); replace HB := Z (below_step Z67 hb); have NB265_266 := Z ((Z69 : gb265 ≠ gb266)); have NB266_265 := Z ((Z70 : gb266 ≠ gb265)); replace BK265 := Z (blk_below (g := gb265) (o := .cells #[.int .i64 0, .string (⟨#[]⟩ : ByteArray), .int .i32 0, .bool false, .int .u32 0] 27 (0, 0)) (Z15 BK265) hb); clear hb hbox hg; have hnb27 := NB266_265.out; have hnc27 := NB265_266.out; have hcz28_0 : w26.cell? ⟨gb266, 0, none⟩ = some (.int .i64 0) := (blk_cell BK266.out 0).trans rfl; have hcz28_1 : w26.cell? ⟨gb266, 1, none⟩ = some (.string (⟨#[]⟩ : ByteArray)) := (blk_cell BK266.out 1).trans rfl; have hcz28_2 : w26.cell? ⟨gb266, 2, none⟩ = some (.int .i32 0) := (blk_cell BK266.out 2).trans rfl; have hcz28_3 : w26.cell? ⟨gb266, 3, none⟩ = some (.bool false) := (blk_cell BK266.out 3).trans rfl; have hcz28_4 : w26.cell? ⟨gb266, 4, none⟩ = some (.int .u32 0) := (blk_cell BK266.out 4).trans rfl; have hfz28_0 := blk_frozen BK266.out 0; have hfz28_1 := blk_frozen BK266.out 1; have hfz28_2 := blk_frozen BK266.out 2; have hfz28_3 := blk_frozen BK266.out 3; have hfz28_4 := blk_frozen BK266.out 4; have p267 : 0 ≤ (a1 : Int) := of_decide_eq_true Z10; have q267 : a1 < (l0.length : Int) := of_decide_eq_true Z10; obtain ⟨ad267, e267, hx267_0⟩ := Kd.at_int HR0.out a1 p267 q267; cases e267; have hn267_0 : ad267.block ≠ gb266 := Nat.ne_of_lt (Nat.lt_of_lt_of_le Z30 GW266.out); have hn267_1 : ad267.block ≠ gb266 := Nat.ne_of_lt (Nat.lt_of_lt_of_le Z30 GW266.out); have hn267_2 : ad267.block ≠ gb266 := Nat.ne_of_lt (Nat.lt_of_lt_of_le Z30 GW266.out); have hn267_3 : ad267.block ≠ gb266 := Nat.ne_of_lt (Nat.lt_of_lt_of_le Z30 GW266.out); have hn267_4 : ad267.block ≠ gb266 := Nat.ne_of_lt (Nat.lt_of_lt_of_le Z30 GW266.out); replace hx267_0 := (HB.out.cell (World.block_lt_of_cell? w _ hx267_0)).trans hx267_0; replace hx267_0 := (cell_far (p := ⟨gb266, 0, none⟩) Z31 (.int .i64 0)).trans hx267_0; replace hx267_0 := (cell_far (p := ⟨gb266, 1, none⟩) Z32 (.string (⟨#[]⟩ : ByteArray))).trans hx267_0; replace hx267_0 := (cell_far (p := ⟨gb266, 2, none⟩) Z33 (.int .i32 0)).trans hx267_0; replace hx267_0 := (cell_far (p := ⟨gb266, 3, none⟩) Z34 (.bool false)).trans hx267_0; replace hx267_0 := (cell_far (p := ⟨gb266, 4, none⟩) Z35 (.int .u32 0)).trans hx267_0; clear hn267_0; clear hn267_1; clear hn267_2; clear hn267_3; clear hn267_4; replace p267 := eq_true p267; replace q267 := eq_true q267) | ((with_reducible refine gate_callee (f := 62) rfl ?_); refine goesL_ (some 17) rfl rfl Tryd.func62 Z0 rfl #[.int .u32 (Int.tmod (rd l0 a1) 16)] rfl Z9 ?_; (with_reducible refine (spec_l04Kind.calls k (Int.tmod (rd l0 a1) 16) t268 _ A5.out).mono ?_); rintro e w' ⟨rfl, ⟨nd, rfl⟩⟩; refine ⟨_, rfl, ?_⟩))
    (try simp only [Act.put, List.setIfInBounds_toArray, List.set_cons_zero, List.set_cons_succ])
    go_cut [27] (fun v27 wc => ∃ (kq : Nat) (x27_23 : Bool), v27 = .bool x27_23 ∧ Aside0 (spec_l04Item.j0 kq l0 a1 0 (Int.tmod (rd l0 a1) 16) x27_23 0 (⟨#[]⟩ : ByteArray) 0 false 0 = some (r1, r2, r3, r4, r5, r6)) ∧ Aside0 (kq ≤ k) ∧ Aside0 (wc.heap[gb265]? = some (.cells #[.int .i64 0, .string (⟨#[]⟩ : ByteArray), .int .i32 0, .bool false, .int .u32 0] 27 (0, 0))) ∧ Aside0 (wc.heap[gb266]? = some (.cells #[.int .i64 0, .string (⟨#[]⟩ : ByteArray), .int .i32 0, .bool false, .int .u32 0] 27 (0, 0))) ∧ Aside0 (Below w.heap.size w wc))
    case first =>
     have H := HC24.out
     clear HC24
     by_cases c29 : (Int.tmod (rd l0 a1) 16) = 8
     ·rw [if_pos c29] at H
      have c29b0 : ((Int.tmod (rd l0 a1) 16) == 8) = true := beq_iff_eq.mpr c29
      have c29b1 : ((Int.tmod (rd l0 a1) 16) != 8) = false := bne_eq_false_iff_eq.mpr c29
      clear c29
      (first | rw [c29b0] | (simp only [i64_w, i32_w]; rw [c29b0]) | skip)
      have H' := Aside0.mk H
      clear H
      go_wp2
      go_meet
      case rel => exact ⟨_, (true), Z7, H', ⟨Z14⟩, ⟨(Z36 BK265)⟩, ⟨(Z25 BK266)⟩, ⟨Z67⟩⟩
     ·rw [if_neg c29] at H
      have c29b0 : ((Int.tmod (rd l0 a1) 16) == 8) = false := beq_eq_false_iff_ne.mpr c29
      have c29b1 : ((Int.tmod (rd l0 a1) 16) != 8) = true := bne_iff_ne.mpr c29
      (first | rw [c29b0] | (simp only [i64_w, i32_w]; rw [c29b0]) | skip)
      by_cases c30 : (Int.tmod (rd l0 a1) 16) = 6
      ·rw [if_pos c30] at H
       have c30b0 : ((Int.tmod (rd l0 a1) 16) == 6) = true := beq_iff_eq.mpr c30
       have c30b1 : ((Int.tmod (rd l0 a1) 16) != 6) = false := bne_eq_false_iff_eq.mpr c30
       clear c30
       have H' := Aside0.mk H
       clear H
       go_wp2
       go_meet
       case rel => exact ⟨_, (true), Z7, H', ⟨Z14⟩, ⟨(Z36 BK265)⟩, ⟨(Z25 BK266)⟩, ⟨Z67⟩⟩
      ·rw [if_neg c30] at H
       have c30b0 : ((Int.tmod (rd l0 a1) 16) == 6) = false := beq_eq_false_iff_ne.mpr c30
       have c30b1 : ((Int.tmod (rd l0 a1) 16) != 6) = true := bne_iff_ne.mpr c30
       by_cases c31 : (Int.tmod (rd l0 a1) 16) = 2
       ·rw [if_pos c31] at H
        have c31b0 : ((Int.tmod (rd l0 a1) 16) == 2) = true := beq_iff_eq.mpr c31
        have c31b1 : ((Int.tmod (rd l0 a1) 16) != 2) = false := bne_eq_false_iff_eq.mpr c31
        clear c31
        have H' := Aside0.mk H
        clear H
        go_wp2
        go_meet
        case rel => exact ⟨_, (true), Z7, H', ⟨Z14⟩, ⟨(Z36 BK265)⟩, ⟨(Z25 BK266)⟩, ⟨Z67⟩⟩
       ·rw [if_neg c31] at H
        have c31b0 : ((Int.tmod (rd l0 a1) 16) == 2) = false := beq_eq_false_iff_ne.mpr c31
        have c31b1 : ((Int.tmod (rd l0 a1) 16) != 2) = true := bne_iff_ne.mpr c31
        have H' := Aside0.mk H
        clear H
        go_wp2
        go_meet
        case rel => exact ⟨_, (((Int.tmod (rd l0 a1) 16) == 5)), Z7, H', ⟨Z14⟩, ⟨(Z36 BK265)⟩, ⟨(Z25 BK266)⟩, ⟨Z67⟩⟩
    case rest =>
     clear HC24
     try clear c1
     try clear c2
     try clear p2
     try clear q2
     try clear hx2
     try clear c3
     try clear c3b0
     try clear c4
     try clear c4b0
     try clear c6
     try clear c6b0
     try clear c9
     try clear c9b0
     try clear c9b1
     try clear c12
     try clear c19
     try clear p26
     try clear q26
     try clear hx26
     try clear c27
     try clear p27
     try clear q27
     try clear hx27
     try clear c29
     try clear c29b0
     try clear c29b1
     try clear c30
     try clear c30b0
     try clear c30b1
     try clear c31
     try clear c31b0
     try clear c31b1
     try clear hcz13_0
     try clear hcz13_1
     try clear hcz13_2
     try clear hcz13_3
     try clear hcz13_4
     try clear hcz15_0
     try clear hcz15_1
     try clear hcz15_2
     try clear hcz15_3
     try clear hcz15_4
     try clear hcz16_0
     try clear hcz16_1
     try clear hcz16_2
     try clear hcz16_3
     try clear hcz16_4
     try clear hcz20_0
     try clear hcz20_1
     try clear hcz20_2
     try clear hcz20_3
     try clear hcz20_4
     try clear hcz22_0
     try clear hcz22_1
     try clear hcz22_2
     try clear hcz22_3
     try clear hcz22_4
     try clear hcz23_0
     try clear hcz23_1
     try clear hcz23_2
     try clear hcz23_3
     try clear hcz23_4
     try clear hcz28_0
     try clear hcz28_1
     try clear hcz28_2
     try clear hcz28_3
     try clear hcz28_4
     try clear hfz13_0
     try clear hfz13_1
     try clear hfz13_2
     try clear hfz13_3
     try clear hfz13_4
     try clear hfz15_0
     try clear hfz15_1
     try clear hfz15_2
     try clear hfz15_3
     try clear hfz15_4
     try clear hfz16_0
     try clear hfz16_1
     try clear hfz16_2
     try clear hfz16_3
     try clear hfz16_4
     try clear hfz20_0
     try clear hfz20_1
     try clear hfz20_2
     try clear hfz20_3
     try clear hfz20_4
     try clear hfz22_0
     try clear hfz22_1
     try clear hfz22_2
     try clear hfz22_3
     try clear hfz22_4
     try clear hfz23_0
     try clear hfz23_1
     try clear hfz23_2
     try clear hfz23_3
     try clear hfz23_4
     try clear hfz28_0
     try clear hfz28_1
     try clear hfz28_2
     try clear hfz28_3
     try clear hfz28_4
     try clear hx267_0
     try clear hx276_0
     try clear p267
     try clear p276
     try clear q267
     try clear q276
     obtain ⟨kq, x27_23, rfl, HA, HJ23, BK265, BK266, HB⟩ := hcut
     cases kq with
     | zero => exact absurd HA.out (by simp [spec_l04Item.j0])
     | succ kj23 =>
      have H := HA.out
      clear HA
      simp only [spec_l04Item.j0] at H
      by_cases c32 : x27_23 = true
      ·subst c32
       have H1 : ((spec_l04Number.f kj23 l0 a1).bind fun bt277 => (if bt277.2.2.2.2.2 = 0 then (if 0 ≤ a1 then (if a1 < (l0.length : Int) then (some (0, (⟨#[]⟩ : ByteArray), 0, false, rd l0 a1, 1)) else (none)) else (none)) else (some (bt277.1, bt277.2.1, bt277.2.2.1, bt277.2.2.2.1, bt277.2.2.2.2.1, bt277.2.2.2.2.2)))) = some (r1, r2, r3, r4, r5, r6) := Z2
       clear H
       have H := H1
       clear H1
       replace H := Option.bind_eq_some_iff.mp H
       obtain ⟨⟨t277, t278, t279, t280, t281, t282⟩, A330, H⟩ := H
       replace H : (if t282 = 0 then (if 0 ≤ a1 then (if a1 < (l0.length : Int) then (some (0, (⟨#[]⟩ : ByteArray), 0, false, rd l0 a1, 1)) else (none)) else (none)) else (some (t277, t278, t279, t280, t281, t282))) = some (r1, r2, r3, r4, r5, r6) := H
       have A33 := Aside0.mk A330
       clear A330
       by_cases c34 : t282 = 0
       ·rw [if_pos c34] at H
        have c34b0 : (t282 == 0) = true := beq_iff_eq.mpr c34
        have c34b1 : (t282 != 0) = false := bne_eq_false_iff_eq.mpr c34
        clear c34
        by_cases c35 : 0 ≤ a1
        ·rw [if_pos c35] at H
         have c35b0 : decide (0 ≤ a1) = true := decide_eq_true c35
         clear c35
         by_cases c36 : a1 < (l0.length : Int)
         ·rw [if_pos c36] at H
          have c36b0 : decide (a1 < (l0.length : Int)) = true := decide_eq_true c36
          clear c36
          simp only [Option.some.injEq, Prod.mk.injEq] at H
          obtain ⟨rfl, rfl, rfl, rfl, rfl, rfl⟩ := H
          go_wp2_with (first | ((with_reducible refine gate_callee (f := 64) rfl ?_); refine goesL_ (some 45) rfl rfl Tryd.func64 Z0 rfl #[.slice (some ad267) l0.length c0, .int .i64 a1] rfl Z9 ?_; (with_reducible refine (spec_l04Number.calls kj23 _ _ l0 a1 t277 t278 t279 t280 t281 t282 _ ?side1 ?side2 A33.out).mono ?_); (case side1 => exact (Z24 HR0)); (case side2 => exact HC0.out); rintro e w37 ⟨rfl, hb⟩; refine ⟨_, rfl, ?_⟩; replace BK265 := Z (blk_below (g := gb265) (o := .cells #[.int .i64 0, .string (⟨#[]⟩ : ByteArray), .int .i32 0, .bool false, .int .u32 0] 27 (0, 0)) (Z15 BK265) hb); replace BK266 := Z (blk_below (g := gb266) (o := .cells #[.int .i64 0, .string (⟨#[]⟩ : ByteArray), .int .i32 0, .bool false, .int .u32 0] 27 (0, 0)) (Z15 BK266) hb); replace HB := Z (below_step Z67 hb); (try clear hb); (try clear hb2); (try clear hk); (try clear hi); have hnb38 := NB266_265.out; have hnc38 := NB265_266.out; have hcz39_0 : w37.cell? ⟨gb266, 0, none⟩ = some (.int .i64 0) := (blk_cell BK266.out 0).trans rfl; have hcz39_1 : w37.cell? ⟨gb266, 1, none⟩ = some (.string (⟨#[]⟩ : ByteArray)) := (blk_cell BK266.out 1).trans rfl; have hcz39_2 : w37.cell? ⟨gb266, 2, none⟩ = some (.int .i32 0) := (blk_cell BK266.out 2).trans rfl; have hcz39_3 : w37.cell? ⟨gb266, 3, none⟩ = some (.bool false) := (blk_cell BK266.out 3).trans rfl; have hcz39_4 : w37.cell? ⟨gb266, 4, none⟩ = some (.int .u32 0) := (blk_cell BK266.out 4).trans rfl; have hfz39_0 := blk_frozen BK266.out 0; have hfz39_1 := blk_frozen BK266.out 1; have hfz39_2 := blk_frozen BK266.out 2; have hfz39_3 := blk_frozen BK266.out 3; have hfz39_4 := blk_frozen BK266.out 4; have p283 : 0 ≤ (a1 : Int) := of_decide_eq_true Z10; have q283 : a1 < (l0.length : Int) := of_decide_eq_true Z10; obtain ⟨ad283, e283, hx283_0⟩ := Kd.at_int HR0.out a1 p283 q283; obtain rfl : ad267 = ad283 := (by injection e283); have hn283_0 : ad267.block ≠ gb266 := Nat.ne_of_lt (Nat.lt_of_lt_of_le Z39 GW266.out); have hn283_1 : ad267.block ≠ gb266 := Nat.ne_of_lt (Nat.lt_of_lt_of_le Z39 GW266.out); have hn283_2 : ad267.block ≠ gb266 := Nat.ne_of_lt (Nat.lt_of_lt_of_le Z39 GW266.out); have hn283_3 : ad267.block ≠ gb266 := Nat.ne_of_lt (Nat.lt_of_lt_of_le Z39 GW266.out); have hn283_4 : ad267.block ≠ gb266 := Nat.ne_of_lt (Nat.lt_of_lt_of_le Z39 GW266.out); replace hx283_0 := (HB.out.cell (World.block_lt_of_cell? w _ hx283_0)).trans hx283_0; replace hx283_0 := (cell_far (p := ⟨gb266, 0, none⟩) (by first | (rw [add_block]; exact hn283_0) | (show (Addr.add _ _).block ≠ _; rw [add_block]; exact hn283_0) | exact hn283_0) (.int .i64 t277)).trans hx283_0; replace hx283_0 := (cell_far (p := ⟨gb266, 1, none⟩) (by first | (rw [add_block]; exact hn283_1) | (show (Addr.add _ _).block ≠ _; rw [add_block]; exact hn283_1) | exact hn283_1) (.string t278)).trans hx283_0; replace hx283_0 := (cell_far (p := ⟨gb266, 2, none⟩) (by first | (rw [add_block]; exact hn283_2) | (show (Addr.add _ _).block ≠ _; rw [add_block]; exact hn283_2) | exact hn283_2) (.int .i32 t279)).trans hx283_0; replace hx283_0 := (cell_far (p := ⟨gb266, 3, none⟩) (by first | (rw [add_block]; exact hn283_3) | (show (Addr.add _ _).block ≠ _; rw [add_block]; exact hn283_3) | exact hn283_3) (.bool t280)).trans hx283_0; replace hx283_0 := (cell_far (p := ⟨gb266, 4, none⟩) (by first | (rw [add_block]; exact hn283_4) | (show (Addr.add _ _).block ≠ _; rw [add_block]; exact hn283_4) | exact hn283_4) (.int .u32 t281)).trans hx283_0; clear hn283_0; clear hn283_1; clear hn283_2; clear hn283_3; clear hn283_4; replace p283 := eq_true p283; replace q283 := eq_true q283; have hcz40_0 : w37.cell? ⟨gb265, 0, none⟩ = some (.int .i64 0) := (blk_cell BK265.out 0).trans rfl; have hcz40_1 : w37.cell? ⟨gb265, 1, none⟩ = some (.string (⟨#[]⟩ : ByteArray)) := (blk_cell BK265.out 1).trans rfl; have hcz40_2 : w37.cell? ⟨gb265, 2, none⟩ = some (.int .i32 0) := (blk_cell BK265.out 2).trans rfl; have hcz40_3 : w37.cell? ⟨gb265, 3, none⟩ = some (.bool false) := (blk_cell BK265.out 3).trans rfl; have hcz40_4 : w37.cell? ⟨gb265, 4, none⟩ = some (.int .u32 0) := (blk_cell BK265.out 4).trans rfl; have hfz40_0 := blk_frozen BK265.out 0; have hfz40_1 := blk_frozen BK265.out 1; have hfz40_2 := blk_frozen BK265.out 2; have hfz40_3 := blk_frozen BK265.out 3; have hfz40_4 := blk_frozen BK265.out 4))
          refine bodyPost_ret (results_ct rfl _ _ gb265 27 #[.int .i64 0, .string (⟨#[]⟩ : ByteArray), .int .i32 0, .bool false, .int .u32 (rd l0 a1)] (0, 0) _ rfl (Z38 BK265) Tryd.underlying27 rfl Z0) rfl ?_
          exact ⟨Z68, Z67⟩
         ·rw [if_neg c36] at H
          exact absurd H (by simp)
        ·rw [if_neg c35] at H
         exact absurd H (by simp)
       ·rw [if_neg c34] at H
        have c34b0 : (t282 == 0) = false := beq_eq_false_iff_ne.mpr c34
        have c34b1 : (t282 != 0) = true := bne_iff_ne.mpr c34
        simp only [Option.some.injEq, Prod.mk.injEq] at H
        obtain ⟨rfl, rfl, rfl, rfl, rfl, rfl⟩ := H
        go_wp2_with (first | ((with_reducible refine gate_callee (f := 64) rfl ?_); refine goesL_ (some 45) rfl rfl Tryd.func64 Z0 rfl #[.slice (some ad267) l0.length c0, .int .i64 a1] rfl Z9 ?_; (with_reducible refine (spec_l04Number.calls kj23 _ _ l0 a1 t277 t278 t279 t280 t281 t282 _ ?side1 ?side2 A33.out).mono ?_); (case side1 => exact (Z24 HR0)); (case side2 => exact HC0.out); rintro e w41 ⟨rfl, hb⟩; refine ⟨_, rfl, ?_⟩; replace BK265 := Z (blk_below (g := gb265) (o := .cells #[.int .i64 0, .string (⟨#[]⟩ : ByteArray), .int .i32 0, .bool false, .int .u32 0] 27 (0, 0)) (Z15 BK265) hb); replace BK266 := Z (blk_below (g := gb266) (o := .cells #[.int .i64 0, .string (⟨#[]⟩ : ByteArray), .int .i32 0, .bool false, .int .u32 0] 27 (0, 0)) (Z15 BK266) hb); replace HB := Z (below_step Z67 hb); (try clear hb); (try clear hb2); (try clear hk); (try clear hi); have hnb42 := NB266_265.out; have hnc42 := NB265_266.out; have hcz43_0 : w41.cell? ⟨gb266, 0, none⟩ = some (.int .i64 0) := (blk_cell BK266.out 0).trans rfl; have hcz43_1 : w41.cell? ⟨gb266, 1, none⟩ = some (.string (⟨#[]⟩ : ByteArray)) := (blk_cell BK266.out 1).trans rfl; have hcz43_2 : w41.cell? ⟨gb266, 2, none⟩ = some (.int .i32 0) := (blk_cell BK266.out 2).trans rfl; have hcz43_3 : w41.cell? ⟨gb266, 3, none⟩ = some (.bool false) := (blk_cell BK266.out 3).trans rfl; have hcz43_4 : w41.cell? ⟨gb266, 4, none⟩ = some (.int .u32 0) := (blk_cell BK266.out 4).trans rfl; have hfz43_0 := blk_frozen BK266.out 0; have hfz43_1 := blk_frozen BK266.out 1; have hfz43_2 := blk_frozen BK266.out 2; have hfz43_3 := blk_frozen BK266.out 3; have hfz43_4 := blk_frozen BK266.out 4; have hcz44_0 : w41.cell? ⟨gb265, 0, none⟩ = some (.int .i64 0) := (blk_cell BK265.out 0).trans rfl; have hcz44_1 : w41.cell? ⟨gb265, 1, none⟩ = some (.string (⟨#[]⟩ : ByteArray)) := (blk_cell BK265.out 1).trans rfl; have hcz44_2 : w41.cell? ⟨gb265, 2, none⟩ = some (.int .i32 0) := (blk_cell BK265.out 2).trans rfl; have hcz44_3 : w41.cell? ⟨gb265, 3, none⟩ = some (.bool false) := (blk_cell BK265.out 3).trans rfl; have hcz44_4 : w41.cell? ⟨gb265, 4, none⟩ = some (.int .u32 0) := (blk_cell BK265.out 4).trans rfl; have hfz44_0 := blk_frozen BK265.out 0; have hfz44_1 := blk_frozen BK265.out 1; have hfz44_2 := blk_frozen BK265.out 2; have hfz44_3 := blk_frozen BK265.out 3; have hfz44_4 := blk_frozen BK265.out 4))
        refine bodyPost_ret (results_ct rfl _ _ gb265 27 #[.int .i64 t277, .string t278, .int .i32 t279, .bool t280, .int .u32 t281] (0, 0) _ rfl (by (with_reducible repeat (first | refine blk_drewN ?_ _ | refine blk_drew ?_ | refine blk_alloc ?_ _)); refine blk_put (cs := #[.int .i64 t277, .string t278, .int .i32 t279, .bool t280, .int .u32 0]) ?_ 4 _ rfl; (with_reducible repeat (first | refine blk_drewN ?_ _ | refine blk_drew ?_ | refine blk_alloc ?_ _)); refine blk_put (cs := #[.int .i64 t277, .string t278, .int .i32 t279, .bool false, .int .u32 0]) ?_ 3 _ rfl; (with_reducible repeat (first | refine blk_drewN ?_ _ | refine blk_drew ?_ | refine blk_alloc ?_ _)); refine blk_put (cs := #[.int .i64 t277, .string t278, .int .i32 0, .bool false, .int .u32 0]) ?_ 2 _ rfl; (with_reducible repeat (first | refine blk_drewN ?_ _ | refine blk_drew ?_ | refine blk_alloc ?_ _)); refine blk_put (cs := #[.int .i64 t277, .string (⟨#[]⟩ : ByteArray), .int .i32 0, .bool false, .int .u32 0]) ?_ 1 _ rfl; (with_reducible repeat (first | refine blk_drewN ?_ _ | refine blk_drew ?_ | refine blk_alloc ?_ _)); refine blk_put (cs := #[.int .i64 0, .string (⟨#[]⟩ : ByteArray), .int .i32 0, .bool false, .int .u32 0]) ?_ 0 _ rfl; (with_reducible repeat (first | refine blk_drewN ?_ _ | refine blk_drew ?_ | refine blk_alloc ?_ _)); refine blk_far ?_ NB265_266.out _; (with_reducible repeat (first | refine blk_drewN ?_ _ | refine blk_drew ?_ | refine blk_alloc ?_ _)); refine blk_far ?_ NB265_266.out _; (with_reducible repeat (first | refine blk_drewN ?_ _ | refine blk_drew ?_ | refine blk_alloc ?_ _)); refine blk_far ?_ NB265_266.out _; (with_reducible repeat (first | refine blk_drewN ?_ _ | refine blk_drew ?_ | refine blk_alloc ?_ _)); refine blk_far ?_ NB265_266.out _; (with_reducible repeat (first | refine blk_drewN ?_ _ | refine blk_drew ?_ | refine blk_alloc ?_ _)); refine blk_far ?_ NB265_266.out _; (with_reducible repeat (first | refine blk_drewN ?_ _ | refine blk_drew ?_ | refine blk_alloc ?_ _)); exact BK265.out) Tryd.underlying27 rfl Z0) rfl ?_
        exact ⟨Z68, Z67⟩
      ·replace c32 := Bool.eq_false_iff.mpr c32
       subst c32
       have H1 : (if (Int.tmod (rd l0 a1) 16) = 12 then (if (wrap64 (a1 + 1)) < (l0.length : Int) then (if 0 ≤ a1 then (if a1 < (l0.length : Int) then ((spec_FieldOk.f kj23 ((Int.tdiv (rd l0 a1) 16) % 4294967296)).bind fun t285 => (spec_l04Item.j1 kj23 l0 a1 0 t285 0 (⟨#[]⟩ : ByteArray) 0 false 0)) else (none)) else (none)) else (spec_l04Item.j1 kj23 l0 a1 0 false 0 (⟨#[]⟩ : ByteArray) 0 false 0)) else (spec_l04Item.j1 kj23 l0 a1 0 false 0 (⟨#[]⟩ : ByteArray) 0 false 0)) = some (r1, r2, r3, r4, r5, r6) := by rw [if_neg (show ¬ (false = true) by decide)] at H; exact H
       clear H
       have H := H1
       clear H1
       have HC45 := Aside0.mk H
       clear H
       go_upto_region 7 with (fail)
       go_cut [48] (fun v48 wc => ∃ (kq : Nat) (x48_44 : Bool), v48 = .bool x48_44 ∧ Aside0 (spec_l04Item.j1 kq l0 a1 0 x48_44 0 (⟨#[]⟩ : ByteArray) 0 false 0 = some (r1, r2, r3, r4, r5, r6)) ∧ Aside0 (kq ≤ kj23) ∧ Aside0 (wc.heap[gb265]? = some (.cells #[.int .i64 0, .string (⟨#[]⟩ : ByteArray), .int .i32 0, .bool false, .int .u32 0] 27 (0, 0))) ∧ Aside0 (wc.heap[gb266]? = some (.cells #[.int .i64 0, .string (⟨#[]⟩ : ByteArray), .int .i32 0, .bool false, .int .u32 0] 27 (0, 0))) ∧ Aside0 (Below w.heap.size w wc))
       case first =>
        have H := HC45.out
        clear HC45
        by_cases c46 : (Int.tmod (rd l0 a1) 16) = 12
        ·rw [if_pos c46] at H
         have c46b0 : ((Int.tmod (rd l0 a1) 16) == 12) = true := beq_iff_eq.mpr c46
         have c46b1 : ((Int.tmod (rd l0 a1) 16) != 12) = false := bne_eq_false_iff_eq.mpr c46
         clear c46
         (first | rw [c46b0] | (simp only [i64_w, i32_w]; rw [c46b0]) | skip)
         by_cases c47 : (wrap64 (a1 + 1)) < (l0.length : Int)
         ·rw [if_pos c47] at H
          have c47b0 : decide ((wrap64 (a1 + 1)) < (l0.length : Int)) = true := decide_eq_true c47
          clear c47
          by_cases c48 : 0 ≤ a1
          ·rw [if_pos c48] at H
           have c48b0 : decide (0 ≤ a1) = true := decide_eq_true c48
           clear c48
           by_cases c49 : a1 < (l0.length : Int)
           ·rw [if_pos c49] at H
            have c49b0 : decide (a1 < (l0.length : Int)) = true := decide_eq_true c49
            clear c49
            replace H := Option.bind_eq_some_iff.mp H
            obtain ⟨t285, A500, H⟩ := H
            replace H : (spec_l04Item.j1 kj23 l0 a1 0 t285 0 (⟨#[]⟩ : ByteArray) 0 false 0) = some (r1, r2, r3, r4, r5, r6) := H
            have A50 := Aside0.mk A500
            clear A500
            have H' := Aside0.mk H
            clear H
            have p284 : 0 ≤ (a1 : Int) := of_decide_eq_true Z10
            have q284 : a1 < (l0.length : Int) := of_decide_eq_true Z10
            obtain ⟨ad284, e284, hx284_0⟩ := Kd.at_int HR0.out a1 p284 q284
            obtain rfl : ad267 = ad284 := (by injection e284)
            replace hx284_0 := (HB.out.cell (World.block_lt_of_cell? w _ hx284_0)).trans hx284_0
            replace p284 := eq_true p284
            replace q284 := eq_true q284
            go_wp2_with (first | (go_at_call 65; (with_reducible refine (spec_FieldOk.calls kj23 ((Int.tdiv (rd l0 a1) 16) % 4294967296) t285 _ A50.out).mono ?_); rintro e w51 ⟨rfl, hb⟩; replace BK265 := Z (blk_below (g := gb265) (o := .cells #[.int .i64 0, .string (⟨#[]⟩ : ByteArray), .int .i32 0, .bool false, .int .u32 0] 27 (0, 0)) (Z15 BK265) hb); replace BK266 := Z (blk_below (g := gb266) (o := .cells #[.int .i64 0, .string (⟨#[]⟩ : ByteArray), .int .i32 0, .bool false, .int .u32 0] 27 (0, 0)) (Z15 BK266) hb); replace HB := Z (below_step Z67 hb); (try clear hb); (try clear hb2); (try clear hk); (try clear hi)))
            go_meet
            case rel => exact ⟨_, (t285), Z7, H', ⟨Z40⟩, ⟨(Z15 BK265)⟩, ⟨(Z15 BK266)⟩, ⟨Z67⟩⟩
           ·rw [if_neg c49] at H
            exact absurd H (by simp)
          ·rw [if_neg c48] at H
           exact absurd H (by simp)
         ·rw [if_neg c47] at H
          have c47b0 : decide ((wrap64 (a1 + 1)) < (l0.length : Int)) = false := decide_eq_false c47
          clear c47
          have H' := Aside0.mk H
          clear H
          go_wp2
          go_meet
          case rel => exact ⟨_, (false), Z7, H', ⟨Z40⟩, ⟨(Z15 BK265)⟩, ⟨(Z15 BK266)⟩, ⟨Z67⟩⟩
        ·rw [if_neg c46] at H
         have c46b0 : ((Int.tmod (rd l0 a1) 16) == 12) = false := beq_eq_false_iff_ne.mpr c46
         have c46b1 : ((Int.tmod (rd l0 a1) 16) != 12) = true := bne_iff_ne.mpr c46
         (first | rw [c46b0] | (simp only [i64_w, i32_w]; rw [c46b0]) | skip)
         have H' := Aside0.mk H
         clear H
         go_wp2
         go_meet
         case rel => exact ⟨_, (false), Z7, H', ⟨Z40⟩, ⟨(Z15 BK265)⟩, ⟨(Z15 BK266)⟩, ⟨Z67⟩⟩
       case rest =>
        clear HC45
        try clear c1
        try clear c2
        try clear p2
        try clear q2
        try clear hx2
        try clear c3
        try clear c3b0
        try clear c4
        try clear c4b0
        try clear c6
        try clear c6b0
        try clear p6
        try clear c9
        try clear c9b0
        try clear c9b1
        try clear c12
        try clear c19
        try clear p26
        try clear q26
        try clear hx26
        try clear c27
        try clear p27
        try clear q27
        try clear hx27
        try clear p28
        try clear q28
        try clear hx28
        try clear c29
        try clear c29b0
        try clear c29b1
        try clear c30
        try clear c30b0
        try clear c30b1
        try clear c31
        try clear c31b0
        try clear c31b1
        try clear c32
        try clear c34
        try clear c34b0
        try clear c34b1
        try clear c35
        try clear c35b0
        try clear c36
        try clear c36b0
        try clear c38
        try clear c41
        try clear c42
        try clear c46
        try clear c46b0
        try clear c46b1
        try clear c47
        try clear c47b0
        try clear c48
        try clear c48b0
        try clear c49
        try clear c49b0
        try clear hcz13_0
        try clear hcz13_1
        try clear hcz13_2
        try clear hcz13_3
        try clear hcz13_4
        try clear hcz15_0
        try clear hcz15_1
        try clear hcz15_2
        try clear hcz15_3
        try clear hcz15_4
        try clear hcz16_0
        try clear hcz16_1
        try clear hcz16_2
        try clear hcz16_3
        try clear hcz16_4
        try clear hcz20_0
        try clear hcz20_1
        try clear hcz20_2
        try clear hcz20_3
        try clear hcz20_4
        try clear hcz22_0
        try clear hcz22_1
        try clear hcz22_2
        try clear hcz22_3
        try clear hcz22_4
        try clear hcz23_0
        try clear hcz23_1
        try clear hcz23_2
        try clear hcz23_3
        try clear hcz23_4
        try clear hcz28_0
        try clear hcz28_1
        try clear hcz28_2
        try clear hcz28_3
        try clear hcz28_4
        try clear hcz39_0
        try clear hcz39_1
        try clear hcz39_2
        try clear hcz39_3
        try clear hcz39_4
        try clear hcz40_0
        try clear hcz40_1
        try clear hcz40_2
        try clear hcz40_3
        try clear hcz40_4
        try clear hcz43_0
        try clear hcz43_1
        try clear hcz43_2
        try clear hcz43_3
        try clear hcz43_4
        try clear hcz44_0
        try clear hcz44_1
        try clear hcz44_2
        try clear hcz44_3
        try clear hcz44_4
        try clear hfz13_0
        try clear hfz13_1
        try clear hfz13_2
        try clear hfz13_3
        try clear hfz13_4
        try clear hfz15_0
        try clear hfz15_1
        try clear hfz15_2
        try clear hfz15_3
        try clear hfz15_4
        try clear hfz16_0
        try clear hfz16_1
        try clear hfz16_2
        try clear hfz16_3
        try clear hfz16_4
        try clear hfz20_0
        try clear hfz20_1
        try clear hfz20_2
        try clear hfz20_3
        try clear hfz20_4
        try clear hfz22_0
        try clear hfz22_1
        try clear hfz22_2
        try clear hfz22_3
        try clear hfz22_4
        try clear hfz23_0
        try clear hfz23_1
        try clear hfz23_2
        try clear hfz23_3
        try clear hfz23_4
        try clear hfz28_0
        try clear hfz28_1
        try clear hfz28_2
        try clear hfz28_3
        try clear hfz28_4
        try clear hfz39_0
        try clear hfz39_1
        try clear hfz39_2
        try clear hfz39_3
        try clear hfz39_4
        try clear hfz40_0
        try clear hfz40_1
        try clear hfz40_2
        try clear hfz40_3
        try clear hfz40_4
        try clear hfz43_0
        try clear hfz43_1
        try clear hfz43_2
        try clear hfz43_3
        try clear hfz43_4
        try clear hfz44_0
        try clear hfz44_1
        try clear hfz44_2
        try clear hfz44_3
        try clear hfz44_4
        try clear hx267_0
        try clear hx276_0
        try clear hx283_0
        try clear hx284_0
        try clear p2
        try clear p26
        try clear p267
        try clear p27
        try clear p276
        try clear p283
        try clear p284
        try clear q2
        try clear q26
        try clear q267
        try clear q27
        try clear q276
        try clear q283
        try clear q284
        obtain ⟨kq, x48_44, rfl, HA, HJ44, BK265, BK266, HB⟩ := hcut
        cases kq with
        | zero => exact absurd HA.out (by simp [spec_l04Item.j1])
        | succ kj44 =>
         have H := HA.out
         clear HA
         simp only [spec_l04Item.j1] at H
         by_cases c52 : x48_44 = true
         ·subst c52
          have H1 : (if 0 ≤ a1 then (if a1 < (l0.length : Int) then ((spec_UnpackOne.f kj44 ((Int.tdiv (rd l0 a1) 16) % 4294967296)).bind fun t287 => (if 0 ≤ (wrap64 (a1 + 1)) then (if (wrap64 (a1 + 1)) < (l0.length : Int) then (if 2 = 0 then (some (0, (⟨#[]⟩ : ByteArray), 0, false, rd l0 a1, 1)) else (some (9, t287, wrap32 (rd l0 (wrap64 (a1 + 1))), false, 0, 2))) else (none)) else (none))) else (none)) else (none)) = some (r1, r2, r3, r4, r5, r6) := Z2
          clear H
          have H := H1
          clear H1
          by_cases c53 : 0 ≤ a1
          ·rw [if_pos c53] at H
           have c53b0 : decide (0 ≤ a1) = true := decide_eq_true c53
           clear c53
           by_cases c54 : a1 < (l0.length : Int)
           ·rw [if_pos c54] at H
            have c54b0 : decide (a1 < (l0.length : Int)) = true := decide_eq_true c54
            clear c54
            replace H := Option.bind_eq_some_iff.mp H
            obtain ⟨t287, A550, H⟩ := H
            replace H : (if 0 ≤ (wrap64 (a1 + 1)) then (if (wrap64 (a1 + 1)) < (l0.length : Int) then (if 2 = 0 then (some (0, (⟨#[]⟩ : ByteArray), 0, false, rd l0 a1, 1)) else (some (9, t287, wrap32 (rd l0 (wrap64 (a1 + 1))), false, 0, 2))) else (none)) else (none)) = some (r1, r2, r3, r4, r5, r6) := H
            have A55 := Aside0.mk A550
            clear A550
            obtain ⟨ji56, hji56⟩ : ∃ j_ : Int, (wrap64 (a1 + 1)) = j_ := ⟨_, rfl⟩
            replace H : (if 0 ≤ (ji56) then (if (ji56) < (l0.length : Int) then (if 2 = 0 then (some (0, (⟨#[]⟩ : ByteArray), 0, false, rd l0 a1, 1)) else (some (9, t287, wrap32 (rd l0 (ji56)), false, 0, 2))) else (none)) else (none)) = some (r1, r2, r3, r4, r5, r6) := by first | (rw [hji56] at H; exact H) | (simp only [hji56] at H ⊢; exact H)
            (try rw [hji56] at A55)
            have hji56w : (IntKind.i64.wrap (a1 + 1)) = ji56 := (i64_w _).trans hji56
            by_cases c57 : 0 ≤ (ji56)
            ·rw [if_pos c57] at H
             have c57b0 : decide (0 ≤ (ji56)) = true := decide_eq_true c57
             clear c57
             by_cases c58 : (ji56) < (l0.length : Int)
             ·rw [if_pos c58] at H
              have c58b0 : decide ((ji56) < (l0.length : Int)) = true := decide_eq_true c58
              clear c58
              by_cases c59 : 2 = 0
              ·rw [if_pos c59] at H
               exact absurd c59 (by decide)
              ·rw [if_neg c59] at H
               have c59b0 : (2 == 0) = false := beq_eq_false_iff_ne.mpr c59
               have c59b1 : (2 != 0) = true := bne_iff_ne.mpr c59
               simp only [Option.some.injEq, Prod.mk.injEq] at H
               obtain ⟨rfl, rfl, rfl, rfl, rfl, rfl⟩ := H
               try go_wp2
               have n0_ := Z (blk_drew BK265.out)
               have n1_ := Z (blk_drew BK266.out)
               have n2_ := Z (below_drew1 HB.out)
               clear BK265
               clear BK266
               clear HB
               have BK265 := n0_
               have BK266 := n1_
               have HB := n2_
               clear n0_ n1_ n2_
               have p286 : 0 ≤ (a1 : Int) := of_decide_eq_true Z10
               have q286 : a1 < (l0.length : Int) := of_decide_eq_true Z10
               obtain ⟨ad286, e286, hx286_0⟩ := Kd.at_int HR0.out a1 p286 q286
               have hw286_0 := hx286_0
               obtain rfl : ad267 = ad286 := (by injection e286)
               replace hx286_0 := (HB.out.cell (World.block_lt_of_cell? w _ hx286_0)).trans hx286_0
               replace p286 := eq_true p286
               replace q286 := eq_true q286
               have p288 : 0 ≤ ((ji56) : Int) := of_decide_eq_true Z10
               have q288 : (ji56) < (l0.length : Int) := of_decide_eq_true Z10
               obtain ⟨ad288, e288, hx288_0⟩ := Kd.at_int HR0.out (ji56) p288 q288
               have hw288_0 := hx288_0
               obtain rfl : ad267 = ad288 := (by injection e288)
               replace hx288_0 := (HB.out.cell (World.block_lt_of_cell? w _ hx288_0)).trans hx288_0
               replace p288 := eq_true p288
               replace q288 := eq_true q288
               refine start_ (n := 15) (S := fun w' => w'.cell? (ad267.add (a1).toNat) = some (.int .u32 (rd l0 a1)) ∧ w'.cell? (ad267.add ((ji56)).toNat) = some (.int .u32 (rd l0 (ji56)))) (ds := []) #[false, false, false, false, false, false, false, false, false, false, false, false, false, false, false] Z0 rfl rfl ⟨((HB.out.cell (World.block_lt_of_cell? w _ hw286_0)).trans hw286_0), ((HB.out.cell (World.block_lt_of_cell? w _ hw288_0)).trans hw288_0)⟩ (fun hHeld => ?_); refine with_tabW spec_l04Item.tab8 spec_l04Item.bits8 (fun HT_ HW_ => ?_)
               generalize wc.drew = w60 at BK265 BK266 HB hx286_0 hx288_0 hHeld ⊢
               refine pure_ (i := 0) (N := some 66) (v := ?_) (a' := ?_) #[true, false, false, false, false, false, false, false, false, false, false, false, false, false, false] rfl rfl (any_of HT_.out Z0) (fun _ _ _ h => h) (Or.inl ⟨by rfl, ?_⟩) ?_ ?_
               rotate_left
               ·intro w'
                go_simp
                with_reducible rfl
               rotate_left
               ·simp only [Act.put, List.setIfInBounds_toArray, List.set_cons_zero, List.set_cons_succ, i64_w, i32_w]
                rfl
               refine pure_ (i := 1) (N := some 67) (v := ?_) (a' := ?_) #[true, true, false, false, false, false, false, false, false, false, false, false, false, false, false] rfl rfl (any_of HT_.out Z0) (fun _ _ _ h => h) (Or.inl ⟨by rfl, ?_⟩) ?_ ?_
               rotate_left
               ·intro w'
                go_simp
                with_reducible rfl
               rotate_left
               ·simp only [Act.put, List.setIfInBounds_toArray, List.set_cons_zero, List.set_cons_succ, i64_w, i32_w]
                rfl
               refine pure_ (i := 2) (N := some 68) (v := ?_) (a' := ?_) #[true, true, true, false, false, false, false, false, false, false, false, false, false, false, false] rfl rfl (any_of HT_.out Z0) (fun _ _ _ h => h) (Or.inl ⟨by rfl, ?_⟩) ?_ ?_
               rotate_left
               ·intro w'
                go_simp
                with_reducible rfl
               rotate_left
               ·simp only [Act.put, List.setIfInBounds_toArray, List.set_cons_zero, List.set_cons_succ, i64_w, i32_w]
                rfl
               refine pure_ (i := 6) (N := some 72) (v := ?_) (a' := ?_) #[true, true, true, false, false, false, true, false, false, false, false, false, false, false, false] rfl rfl (any_of HT_.out Z0) (fun _ _ _ h => h) (Or.inl ⟨by rfl, ?_⟩) ?_ ?_
               rotate_left
               ·intro w'
                go_simp
                with_reducible rfl
               rotate_left
               ·simp only [Act.put, List.setIfInBounds_toArray, List.set_cons_zero, List.set_cons_succ, i64_w, i32_w]
                rfl
               refine pure_ (i := 7) (N := some 73) (v := ?_) (a' := ?_) #[true, true, true, false, false, false, true, true, false, false, false, false, false, false, false] rfl rfl (any_of HT_.out Z0) (fun _ _ _ h => h) (Or.inl ⟨by rfl, ?_⟩) ?_ ?_
               rotate_left
               ·intro w'
                go_simp
                with_reducible rfl
               rotate_left
               ·simp only [Act.put, List.setIfInBounds_toArray, List.set_cons_zero, List.set_cons_succ, i64_w, i32_w]
                rfl
               refine pure_ (i := 8) (N := some 74) (v := ?_) (a' := ?_) #[true, true, true, false, false, false, true, true, true, false, false, false, false, false, false] rfl rfl (any_of HT_.out Z0) (fun _ _ _ h => h) (Or.inl ⟨by rfl, ?_⟩) ?_ ?_
               rotate_left
               ·intro w'
                go_simp
                with_reducible rfl
               rotate_left
               ·simp only [Act.put, List.setIfInBounds_toArray, List.set_cons_zero, List.set_cons_succ, i64_w, i32_w]
                rfl
               refine pure_ (i := 9) (N := some 75) (v := ?_) (a' := ?_) #[true, true, true, false, false, false, true, true, true, true, false, false, false, false, false] rfl rfl (any_of HT_.out Z0) (fun _ _ _ h => h) (Or.inl ⟨by rfl, ?_⟩) ?_ ?_
               rotate_left
               ·intro w'
                go_simp
                with_reducible rfl
               rotate_left
               ·simp only [Act.put, List.setIfInBounds_toArray, List.set_cons_zero, List.set_cons_succ, i64_w, i32_w]
                rfl
               refine take_ (i := 3) (N := some 69) (v := ?_) (a' := ?_) #[true, true, true, true, false, false, true, true, true, true, false, false, false, false, false] rfl rfl (take_ofW HT_.out HW_.out Z0) (fun _ _ _ h => h) (Or.inl ⟨by rfl, ?_⟩) hHeld ?_ ?_
               rotate_left
               ·rintro w' ⟨s0, s1⟩
                go_simp
                with_reducible rfl
               rotate_left
               ·simp only [Act.put, List.setIfInBounds_toArray, List.set_cons_zero, List.set_cons_succ, i64_w, i32_w]
                rfl
               refine pure_ (i := 4) (N := some 70) (v := ?_) (a' := ?_) #[true, true, true, true, true, false, true, true, true, true, false, false, false, false, false] rfl rfl (any_of HT_.out Z0) (fun _ _ _ h => h) (Or.inl ⟨by rfl, ?_⟩) ?_ ?_
               rotate_left
               ·intro w'
                go_simp
                with_reducible rfl
               rotate_left
               ·simp only [Act.put, List.setIfInBounds_toArray, List.set_cons_zero, List.set_cons_succ, i64_w, i32_w]
                rfl
               refine take_ (i := 10) (N := some 76) (v := ?_) (a' := ?_) #[true, true, true, true, true, false, true, true, true, true, true, false, false, false, false] rfl rfl (take_ofW HT_.out HW_.out Z0) (fun _ _ _ h => h) (Or.inl ⟨by rfl, ?_⟩) hHeld ?_ ?_
               rotate_left
               ·rintro w' ⟨s0, s1⟩
                go_simp
                with_reducible rfl
               rotate_left
               ·simp only [Act.put, List.setIfInBounds_toArray, List.set_cons_zero, List.set_cons_succ, i64_w, i32_w]
                rfl
               refine pure_ (i := 11) (N := some 77) (v := ?_) (a' := ?_) #[true, true, true, true, true, false, true, true, true, true, true, true, false, false, false] rfl rfl (any_of HT_.out Z0) (fun _ _ _ h => h) (Or.inl ⟨by rfl, ?_⟩) ?_ ?_
               rotate_left
               ·intro w'
                go_simp
                with_reducible rfl
               rotate_left
               ·simp only [Act.put, List.setIfInBounds_toArray, List.set_cons_zero, List.set_cons_succ, i64_w, i32_w]
                rfl
               refine one_ (i := 5) (N := some 71) #[true, true, true, true, true, true, true, true, true, true, true, true, false, false, false] rfl rfl (one_of HT_.out Z0) (by decide) (fun K hK => ?_)
               refine goes_ Tryd.func66 Z0 rfl #[.int .u32 ((Int.tdiv (rd l0 a1) 16) % 4294967296)] (by rfl) rfl rfl Z9 ?_
               with_reducible refine (spec_UnpackOne.calls kj44 ((Int.tdiv (rd l0 a1) 16) % 4294967296) t287 _ A55.out).mono ?_
               rintro e w61 ⟨rfl, hb⟩
               refine ⟨_, rfl, ?_⟩
               have n0_ := Z (blk_below (g := gb265) (o := .cells #[.int .i64 0, .string (⟨#[]⟩ : ByteArray), .int .i32 0, .bool false, .int .u32 0] 27 (0, 0)) (Z15 BK265) hb)
               have n1_ := Z (blk_below (g := gb266) (o := .cells #[.int .i64 0, .string (⟨#[]⟩ : ByteArray), .int .i32 0, .bool false, .int .u32 0] 27 (0, 0)) (Z15 BK266) hb)
               have n2_ := Z (below_step Z67 hb)
               clear BK265
               clear BK266
               clear HB
               have BK265 := n0_
               have BK266 := n1_
               have HB := n2_
               clear n0_ n1_ n2_
               (try clear hb)
               (try clear hb2)
               (try clear hk)
               (try clear hi)
               refine hK.out _ _ ⟨((HB.out.cell (World.block_lt_of_cell? w _ hw286_0)).trans hw286_0), ((HB.out.cell (World.block_lt_of_cell? w _ hw288_0)).trans hw288_0)⟩ (fun hHeld => ?_)
               clear hK K
               refine norm_ (a' := ?_) ?_ ?_
               rotate_left
               ·show Act.put _ (some 71) _ = _
                simp only [Act.put, List.setIfInBounds_toArray, List.set_cons_zero, List.set_cons_succ, i64_w, i32_w]
                rfl
               refine pure_ (i := 12) (N := some 78) (v := ?_) (a' := ?_) #[true, true, true, true, true, true, true, true, true, true, true, true, true, false, false] rfl rfl (any_of HT_.out Z0) (fun _ _ _ h => h) (Or.inl ⟨by rfl, ?_⟩) ?_ ?_
               rotate_left
               ·intro w'
                go_simp
                with_reducible rfl
               rotate_left
               ·simp only [Act.put, List.setIfInBounds_toArray, List.set_cons_zero, List.set_cons_succ, i64_w, i32_w]
                rfl
               refine one_ (i := 13) (N := none) #[true, true, true, true, true, true, true, true, true, true, true, true, true, true, false] rfl rfl (one_of HT_.out Z0) (by decide) (fun K hK => ?_)
               have hs62 : w61.cell? ⟨gb266, 0, none⟩ = some (.int .i64 0) := (blk_cell BK266.out 0).trans rfl
               have hfs62 := blk_frozen BK266.out 0
               have hns62_0 := NB265_266.out
               have hms62_0 := NB266_265.out
               have hs63 : w61.cell? ⟨gb266, 1, none⟩ = some (.string (⟨#[]⟩ : ByteArray)) := (blk_cell BK266.out 1).trans rfl
               have hfs63 := blk_frozen BK266.out 1
               have hns63_0 := NB265_266.out
               have hms63_0 := NB266_265.out
               have hs64 : w61.cell? ⟨gb266, 2, none⟩ = some (.int .i32 0) := (blk_cell BK266.out 2).trans rfl
               have hfs64 := blk_frozen BK266.out 2
               have hns64_0 := NB265_266.out
               have hms64_0 := NB266_265.out
               have hs65 : w61.cell? ⟨gb266, 3, none⟩ = some (.bool false) := (blk_cell BK266.out 3).trans rfl
               have hfs65 := blk_frozen BK266.out 3
               have hns65_0 := NB265_266.out
               have hms65_0 := NB266_265.out
               have hs66 : w61.cell? ⟨gb266, 4, none⟩ = some (.int .u32 0) := (blk_cell BK266.out 4).trans rfl
               have hfs66 := blk_frozen BK266.out 4
               have hns66_0 := NB265_266.out
               have hms66_0 := NB266_265.out
               refine skip_ (w1 := ?_) (by rfl) rfl ?_ ?_
               rotate_left
               ·go_simp
                rfl
               refine hK.out _ _ ⟨((cell_far (p := ⟨gb266, _, none⟩) Z71 _).trans (((cell_far (p := ⟨gb266, _, none⟩) Z71 _).trans (((cell_far (p := ⟨gb266, _, none⟩) Z71 _).trans (((cell_far (p := ⟨gb266, _, none⟩) Z71 _).trans (((cell_far (p := ⟨gb266, _, none⟩) Z71 _).trans (hHeld.1)))))))))), ((cell_far (p := ⟨gb266, _, none⟩) Z72 _).trans (((cell_far (p := ⟨gb266, _, none⟩) Z72 _).trans (((cell_far (p := ⟨gb266, _, none⟩) Z72 _).trans (((cell_far (p := ⟨gb266, _, none⟩) Z72 _).trans (((cell_far (p := ⟨gb266, _, none⟩) Z72 _).trans (hHeld.2))))))))))⟩ (fun hHeld => ?_)
               clear hK K
               refine pure_ (i := 14) (N := some 7) (v := ?_) (a' := ?_) #[true, true, true, true, true, true, true, true, true, true, true, true, true, true, true] rfl rfl (any_of HT_.out Z0) (fun _ _ _ h => h) (Or.inl ⟨by rfl, ?_⟩) ?_ ?_
               rotate_left
               ·intro w'
                go_simp
                with_reducible rfl
               rotate_left
               ·simp only [Act.put, List.setIfInBounds_toArray, List.set_cons_zero, List.set_cons_succ, i64_w, i32_w]
                rfl
               refine done_ (done_of HT_.out Z0) ?_
               have hnb67 := NB266_265.out
               have hnc67 := NB265_266.out
               have hcz68_0 : w61.cell? ⟨gb266, 0, none⟩ = some (.int .i64 0) := (blk_cell BK266.out 0).trans rfl
               have hcz68_1 : w61.cell? ⟨gb266, 1, none⟩ = some (.string (⟨#[]⟩ : ByteArray)) := (blk_cell BK266.out 1).trans rfl
               have hcz68_2 : w61.cell? ⟨gb266, 2, none⟩ = some (.int .i32 0) := (blk_cell BK266.out 2).trans rfl
               have hcz68_3 : w61.cell? ⟨gb266, 3, none⟩ = some (.bool false) := (blk_cell BK266.out 3).trans rfl
               have hcz68_4 : w61.cell? ⟨gb266, 4, none⟩ = some (.int .u32 0) := (blk_cell BK266.out 4).trans rfl
               have hfz68_0 := blk_frozen BK266.out 0
               have hfz68_1 := blk_frozen BK266.out 1
               have hfz68_2 := blk_frozen BK266.out 2
               have hfz68_3 := blk_frozen BK266.out 3
               have hfz68_4 := blk_frozen BK266.out 4
               have hcz69_0 : w61.cell? ⟨gb265, 0, none⟩ = some (.int .i64 0) := (blk_cell BK265.out 0).trans rfl
               have hcz69_1 : w61.cell? ⟨gb265, 1, none⟩ = some (.string (⟨#[]⟩ : ByteArray)) := (blk_cell BK265.out 1).trans rfl
               have hcz69_2 : w61.cell? ⟨gb265, 2, none⟩ = some (.int .i32 0) := (blk_cell BK265.out 2).trans rfl
               have hcz69_3 : w61.cell? ⟨gb265, 3, none⟩ = some (.bool false) := (blk_cell BK265.out 3).trans rfl
               have hcz69_4 : w61.cell? ⟨gb265, 4, none⟩ = some (.int .u32 0) := (blk_cell BK265.out 4).trans rfl
               have hfz69_0 := blk_frozen BK265.out 0
               have hfz69_1 := blk_frozen BK265.out 1
               have hfz69_2 := blk_frozen BK265.out 2
               have hfz69_3 := blk_frozen BK265.out 3
               have hfz69_4 := blk_frozen BK265.out 4
               try go_wp2
               refine bodyPost_ret (results_ct rfl _ _ gb265 27 #[.int .i64 9, .string t287, .int .i32 (wrap32 (rd l0 (ji56))), .bool false, .int .u32 0] (0, 0) _ rfl (by (with_reducible repeat (first | refine blk_drewN ?_ _ | refine blk_drew ?_ | refine blk_alloc ?_ _)); refine blk_put (cs := #[.int .i64 9, .string t287, .int .i32 (wrap32 (rd l0 (ji56))), .bool false, .int .u32 0]) ?_ 4 _ rfl; (with_reducible repeat (first | refine blk_drewN ?_ _ | refine blk_drew ?_ | refine blk_alloc ?_ _)); refine blk_put (cs := #[.int .i64 9, .string t287, .int .i32 (wrap32 (rd l0 (ji56))), .bool false, .int .u32 0]) ?_ 3 _ rfl; (with_reducible repeat (first | refine blk_drewN ?_ _ | refine blk_drew ?_ | refine blk_alloc ?_ _)); refine blk_put (cs := #[.int .i64 9, .string t287, .int .i32 0, .bool false, .int .u32 0]) ?_ 2 _ rfl; (with_reducible repeat (first | refine blk_drewN ?_ _ | refine blk_drew ?_ | refine blk_alloc ?_ _)); refine blk_put (cs := #[.int .i64 9, .string (⟨#[]⟩ : ByteArray), .int .i32 0, .bool false, .int .u32 0]) ?_ 1 _ rfl; (with_reducible repeat (first | refine blk_drewN ?_ _ | refine blk_drew ?_ | refine blk_alloc ?_ _)); refine blk_put (cs := #[.int .i64 0, .string (⟨#[]⟩ : ByteArray), .int .i32 0, .bool false, .int .u32 0]) ?_ 0 _ rfl; (with_reducible repeat (first | refine blk_drewN ?_ _ | refine blk_drew ?_ | refine blk_alloc ?_ _)); refine blk_far ?_ NB265_266.out _; (with_reducible repeat (first | refine blk_drewN ?_ _ | refine blk_drew ?_ | refine blk_alloc ?_ _)); refine blk_far ?_ NB265_266.out _; (with_reducible repeat (first | refine blk_drewN ?_ _ | refine blk_drew ?_ | refine blk_alloc ?_ _)); refine blk_far ?_ NB265_266.out _; (with_reducible repeat (first | refine blk_drewN ?_ _ | refine blk_drew ?_ | refine blk_alloc ?_ _)); refine blk_far ?_ NB265_266.out _; (with_reducible repeat (first | refine blk_drewN ?_ _ | refine blk_drew ?_ | refine blk_alloc ?_ _)); refine blk_far ?_ NB265_266.out _; (with_reducible repeat (first | refine blk_drewN ?_ _ | refine blk_drew ?_ | refine blk_alloc ?_ _)); exact BK265.out) Tryd.underlying27 rfl Z0) rfl ?_
               exact ⟨by first | rfl | (rw [← show ∀ l_ : List UInt8, (!l_.isEmpty) = (l_ != []) from fun l_ => Z5]; rfl) | (simp [errW_none, errW_some] <;> rfl) | (simp only [← hji56]; first | rfl | (simp [errW_none, errW_some] <;> rfl)) | (simp [*, errW_none, errW_some] <;> rfl), Z67⟩
             ·rw [if_neg c58] at H
              exact absurd H (by simp)
            ·rw [if_neg c57] at H
             exact absurd H (by simp)
           ·rw [if_neg c54] at H
            exact absurd H (by simp)
          ·rw [if_neg c53] at H
           exact absurd H (by simp)
         ·replace c52 := Bool.eq_false_iff.mpr c52
          subst c52
          have H1 : (if 0 = 0 then (if 0 ≤ a1 then (if a1 < (l0.length : Int) then (some (0, (⟨#[]⟩ : ByteArray), 0, false, rd l0 a1, 1)) else (none)) else (none)) else (some (0, (⟨#[]⟩ : ByteArray), 0, false, 0, 0))) = some (r1, r2, r3, r4, r5, r6) := by rw [if_neg (show ¬ (false = true) by decide)] at H; exact H
          clear H
          have H := H1
          clear H1
          by_cases c70 : 0 = 0
          ·rw [if_pos c70] at H
           have c70b0 : (0 == 0) = true := beq_iff_eq.mpr c70
           have c70b1 : (0 != 0) = false := bne_eq_false_iff_eq.mpr c70
           clear c70
           by_cases c71 : 0 ≤ a1
           ·rw [if_pos c71] at H
            have c71b0 : decide (0 ≤ a1) = true := decide_eq_true c71
            clear c71
            by_cases c72 : a1 < (l0.length : Int)
            ·rw [if_pos c72] at H
             have c72b0 : decide (a1 < (l0.length : Int)) = true := decide_eq_true c72
             clear c72
             simp only [Option.some.injEq, Prod.mk.injEq] at H
             obtain ⟨rfl, rfl, rfl, rfl, rfl, rfl⟩ := H
             have p290 : 0 ≤ (a1 : Int) := of_decide_eq_true Z10
             have q290 : a1 < (l0.length : Int) := of_decide_eq_true Z10
             obtain ⟨ad290, e290, hx290_0⟩ := Kd.at_int HR0.out a1 p290 q290
             obtain rfl : ad267 = ad290 := (by injection e290)
             replace hx290_0 := (HB.out.cell (World.block_lt_of_cell? w _ hx290_0)).trans hx290_0
             replace p290 := eq_true p290
             replace q290 := eq_true q290
             have hnb73 := NB265_266.out
             have hnc73 := NB266_265.out
             have hcz74_0 : wc.cell? ⟨gb265, 0, none⟩ = some (.int .i64 0) := (blk_cell BK265.out 0).trans rfl
             have hcz74_1 : wc.cell? ⟨gb265, 1, none⟩ = some (.string (⟨#[]⟩ : ByteArray)) := (blk_cell BK265.out 1).trans rfl
             have hcz74_2 : wc.cell? ⟨gb265, 2, none⟩ = some (.int .i32 0) := (blk_cell BK265.out 2).trans rfl
             have hcz74_3 : wc.cell? ⟨gb265, 3, none⟩ = some (.bool false) := (blk_cell BK265.out 3).trans rfl
             have hcz74_4 : wc.cell? ⟨gb265, 4, none⟩ = some (.int .u32 0) := (blk_cell BK265.out 4).trans rfl
             have hfz74_0 := blk_frozen BK265.out 0
             have hfz74_1 := blk_frozen BK265.out 1
             have hfz74_2 := blk_frozen BK265.out 2
             have hfz74_3 := blk_frozen BK265.out 3
             have hfz74_4 := blk_frozen BK265.out 4
             go_wp2
             refine bodyPost_ret (results_ct rfl _ _ gb265 27 #[.int .i64 0, .string (⟨#[]⟩ : ByteArray), .int .i32 0, .bool false, .int .u32 (rd l0 a1)] (0, 0) _ rfl (Z25 BK265) Tryd.underlying27 rfl Z0) rfl ?_
             exact ⟨Z68, Z67⟩
            ·rw [if_neg c72] at H
             exact absurd H (by simp)
           ·rw [if_neg c71] at H
            exact absurd H (by simp)
          ·rw [if_neg c70] at H
           exact absurd rfl c70
  ·rw [if_neg c4] at H
   exact absurd H (by simp)
 ·rw [if_neg c3] at H
  exact absurd H (by simp)

end Go.Proofs.YtfjmpdcflnaogaaDoor.QFnExactExport
