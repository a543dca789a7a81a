/-
Plain functions for the Go functions that a law reaches, each with a proof that the translation's call comes to just that; no conditions beyond those written in each.
-/
import Derived.Test.YtkkiibjnpkjijaaSFnExactItemsOf
import Derived.Test.YtkkiibjnpkjijaaQFnExactItemsOfx5
import Derived.Test.YtkkiibjnpkjijaaQFnExactItemsOfx6
import Derived.Test.YtkkiibjnpkjijaaQFnExactItemsOfx8
namespace Go.Proofs.Ytkkiibjnpkjijaa.QFnExactItemsOf
open Go.RowKit Go.Proofs.YtkkiibjnpkjijaaW.PrintWords Go.Proofs.YtkkiibjnpkjijaaW.PrintLast Go.Proofs.YtkkiibjnpkjijaaW.PrintMore
attribute [local go_sem] max2_int min2_int max_two min_two max_three min_three max_four min_four   -- for this text's walks alone
set_option linter.unusedVariables false
set_option linter.unusedSimpArgs false

/-! ### spec_l04Number: function 95 -/
mutual
def spec_l04Number.j0 : Nat → List Int → Int → Int → Int → Bool → Int → ByteArray → Int → Bool → Int → Option (Int × ByteArray × Int × Bool × Int × Int)
 | 0, _, _, _, _, _, _, _, _, _, _ => none
 | k + 1, x0, x1, x6, x7, x24, x287000, x287001, x287002, x287003, x287004 => if x24 = true then (spec_l04Number.j1 k x0 x1 x6 x7 8 x287001 x287002 x287003 x287004) else (spec_l04Number.j1 k x0 x1 x6 x7 x287000 x287001 x287002 x287003 x287004)
def spec_l04Number.j1 : Nat → List Int → Int → Int → Int → Int → ByteArray → Int → Bool → Int → Option (Int × ByteArray × Int × Bool × Int × Int)
 | 0, _, _, _, _, _, _, _, _, _ => none
 | k + 1, x0, x1, x6, x7, x287000, x287001, x287002, x287003, x287004 => if x7 = 8 then (spec_l04Number.j2 k x0 x1 x6 true x287000 x287001 x287002 x287003 x287004) else (spec_l04Number.j2 k x0 x1 x6 (x7 == 6) x287000 x287001 x287002 x287003 x287004)
def spec_l04Number.j2 : Nat → List Int → Int → Int → Bool → Int → ByteArray → Int → Bool → Int → Option (Int × ByteArray × Int × Bool × Int × Int)
 | 0, _, _, _, _, _, _, _, _, _ => none
 | k + 1, x0, x1, x6, x31, x287000, x287001, x287002, x287003, x287004 => if x31 = true then (some (x287000, x287001, (wrap32 (x6)) / 32, x287003, x287004, 1)) else (if (wrap64 (x1 + 1)) ≥ (x0.length : Int) then (some (0, (⟨#[]⟩ : ByteArray), 0, false, 0, 0)) else (if ((Int.tdiv x6 32) % 4294967296) = 0 then (if 0 ≤ (wrap64 (x1 + 1)) then (if (wrap64 (x1 + 1)) < (x0.length : Int) then ((spec_CellsOf.f k x287000 x287001 (wrap32 (rd x0 (wrap64 (x1 + 1)))) x287003 x287004).bind fun t288 => (some (x287000, x287001, wrap32 (rd x0 (wrap64 (x1 + 1))), x287003, x287004, wrap64 ((wrap64 ((t288.length : Int) / 2)) * 2)))) else (none)) else (none)) else (some (0, (⟨#[]⟩ : ByteArray), 0, false, 0, 0))))
end
def spec_l04Number.f (k : Nat) (l0 : List Int) (a1 : Int) : Option (Int × ByteArray × Int × Bool × Int × Int) := if 0 ≤ a1 then (if a1 < (l0.length : Int) then (if (Int.tmod (rd l0 a1) 16) = 6 then (spec_l04Number.j0 k l0 a1 (rd l0 a1) (Int.tmod (rd l0 a1) 16) true 7 (⟨#[]⟩ : ByteArray) 0 ((Go.bits .and .u32 (rd l0 a1) 16) != 0) 0) else (spec_l04Number.j0 k l0 a1 (rd l0 a1) (Int.tmod (rd l0 a1) 16) ((Int.tmod (rd l0 a1) 16) == 5) 7 (⟨#[]⟩ : ByteArray) 0 ((Go.bits .and .u32 (rd l0 a1) 16) != 0) 0)) else (none)) else (none)
theorem spec_l04Number.mono_l : ∀ k, (∀ y0 y1 y2 y3 y4 y5 y6 y7 y8 y9, LeO (spec_l04Number.j0 k y0 y1 y2 y3 y4 y5 y6 y7 y8 y9) (spec_l04Number.j0 (k + 1) y0 y1 y2 y3 y4 y5 y6 y7 y8 y9)) ∧ (∀ y0 y1 y2 y3 y4 y5 y6 y7 y8, LeO (spec_l04Number.j1 k y0 y1 y2 y3 y4 y5 y6 y7 y8) (spec_l04Number.j1 (k + 1) y0 y1 y2 y3 y4 y5 y6 y7 y8)) ∧ (∀ y0 y1 y2 y3 y4 y5 y6 y7 y8, LeO (spec_l04Number.j2 k y0 y1 y2 y3 y4 y5 y6 y7 y8) (spec_l04Number.j2 (k + 1) y0 y1 y2 y3 y4 y5 y6 y7 y8))
 | 0 => ⟨fun _ _ _ _ _ _ _ _ _ _ r h => by simp [spec_l04Number.j0] at h, fun _ _ _ _ _ _ _ _ _ r h => by simp [spec_l04Number.j1] at h, fun _ _ _ _ _ _ _ _ _ r h => by simp [spec_l04Number.j2] at h⟩
 | k + 1 => by
  obtain ⟨ih0, ih1, ih2⟩ := spec_l04Number.mono_l k
  refine ⟨?_, ?_, ?_⟩
  ·intro y0 y1 y2 y3 y4 y5 y6 y7 y8 y9
   unfold spec_l04Number.j0
   repeat' first
   | (with_reducible exact ih0 _ _ _ _ _ _ _ _ _ _)
   | (with_reducible exact ih1 _ _ _ _ _ _ _ _ _)
   | (with_reducible exact ih2 _ _ _ _ _ _ _ _ _)
   | (with_reducible exact spec_CellsOf.mono _ _ _ _ _ _)
   | (with_reducible exact LeO.refl _)
   | (with_reducible exact LeO.none _)
   | (with_reducible refine LeO.ite ?_ ?_)
   | (with_reducible refine LeO.bind ?_ (fun _ => ?_))
   | exact ih0 _ _ _ _ _ _ _ _ _ _
   | exact ih1 _ _ _ _ _ _ _ _ _
   | exact ih2 _ _ _ _ _ _ _ _ _
   | exact spec_CellsOf.mono _ _ _ _ _ _
   | exact LeO.none _
   | refine LeO.ite ?_ ?_
   | refine LeO.bind ?_ (fun _ => ?_)
  ·intro y0 y1 y2 y3 y4 y5 y6 y7 y8
   unfold spec_l04Number.j1
   repeat' first
   | (with_reducible exact ih0 _ _ _ _ _ _ _ _ _ _)
   | (with_reducible exact ih1 _ _ _ _ _ _ _ _ _)
   | (with_reducible exact ih2 _ _ _ _ _ _ _ _ _)
   | (with_reducible exact spec_CellsOf.mono _ _ _ _ _ _)
   | (with_reducible exact LeO.refl _)
   | (with_reducible exact LeO.none _)
   | (with_reducible refine LeO.ite ?_ ?_)
   | (with_reducible refine LeO.bind ?_ (fun _ => ?_))
   | exact ih0 _ _ _ _ _ _ _ _ _ _
   | exact ih1 _ _ _ _ _ _ _ _ _
   | exact ih2 _ _ _ _ _ _ _ _ _
   | exact spec_CellsOf.mono _ _ _ _ _ _
   | exact LeO.none _
   | refine LeO.ite ?_ ?_
   | refine LeO.bind ?_ (fun _ => ?_)
  ·intro y0 y1 y2 y3 y4 y5 y6 y7 y8
   unfold spec_l04Number.j2
   repeat' first
   | (with_reducible exact ih0 _ _ _ _ _ _ _ _ _ _)
   | (with_reducible exact ih1 _ _ _ _ _ _ _ _ _)
   | (with_reducible exact ih2 _ _ _ _ _ _ _ _ _)
   | (with_reducible exact spec_CellsOf.mono _ _ _ _ _ _)
   | (with_reducible exact LeO.refl _)
   | (with_reducible exact LeO.none _)
   | (with_reducible refine LeO.ite ?_ ?_)
   | (with_reducible refine LeO.bind ?_ (fun _ => ?_))
   | exact ih0 _ _ _ _ _ _ _ _ _ _
   | exact ih1 _ _ _ _ _ _ _ _ _
   | exact ih2 _ _ _ _ _ _ _ _ _
   | exact spec_CellsOf.mono _ _ _ _ _ _
   | exact LeO.none _
   | refine LeO.ite ?_ ?_
   | refine LeO.bind ?_ (fun _ => ?_)
theorem spec_l04Number.mono : ∀ a0 a1 k, LeO (spec_l04Number.f k a0 a1) (spec_l04Number.f (k + 1) a0 a1) := by
 intro a0 a1 k
 obtain ⟨ih0, ih1, ih2⟩ := spec_l04Number.mono_l k
 unfold spec_l04Number.f
 repeat' first
   | (with_reducible exact ih0 _ _ _ _ _ _ _ _ _ _)
   | (with_reducible exact ih1 _ _ _ _ _ _ _ _ _)
   | (with_reducible exact ih2 _ _ _ _ _ _ _ _ _)
   | (with_reducible exact spec_CellsOf.mono _ _ _ _ _ _)
   | (with_reducible exact LeO.refl _)
   | (with_reducible exact LeO.none _)
   | (with_reducible refine LeO.ite ?_ ?_)
   | (with_reducible refine LeO.bind ?_ (fun _ => ?_))
   | exact ih0 _ _ _ _ _ _ _ _ _ _
   | exact ih1 _ _ _ _ _ _ _ _ _
   | exact ih2 _ _ _ _ _ _ _ _ _
   | exact spec_CellsOf.mono _ _ _ _ _ _
   | exact LeO.none _
   | refine LeO.ite ?_ ?_
   | refine LeO.bind ?_ (fun _ => ?_)
def spec_l04Number.T12 : Bool × List (List Nat × List Nat) := (true, [([], []), ([], []), ([1], [1]), ([2], [2]), ([3], [3]), ([4], [4]), ([0, 2, 0], [0]), ([5, 6, 0, 1, 2, 3, 4, 5, 6], [5])])
def spec_l04Number.B12 : List Nat := [0, 0, 2, 6, 14, 30, 7, 127]
theorem spec_l04Number.tab12 : rtab .any (opsOf Try.f95 12) = spec_l04Number.T12 := Z0
theorem spec_l04Number.bits12 : waitsOk spec_l04Number.T12.2 spec_l04Number.B12 = true := Z0
set_option maxHeartbeats 8000000 in
set_option maxRecDepth 100000 in
theorem spec_l04Number.calls (k : Nat) (A0 : Option Addr) (c0 : Nat) (l0 : List Int) (a1 : Int) (r1 : Int) (r2 : ByteArray) (r3 : Int) (r4 : Bool) (r5 : Int) (r6 : Int) (w : World) (hr0 : Kd.C (Kd.int .u32) w A0 l0.length l0) (hc0 : l0.length ≤ c0) (h : spec_l04Number.f k l0 a1 = some (r1, r2, r3, r4, r5, r6)) :
  Calls Try.prog 95 #[.slice A0 l0.length c0, .int .i64 a1] w fun e w' => e = .returned (.tuple #[.agg #[.int .i64 r1, .string r2, .int .i32 r3, .bool r4, .int .u32 r5], .int .i64 r6]) ∧ Below w.heap.size w w' := by
 have hu51 := Try.underlying51
 have HR0 := Aside0.mk hr0
 have HC0 := Aside0.mk hc0
 clear hr0 hc0
 have HB := Z (Below.refl w.heap.size w)
 have H : (if 0 ≤ a1 then (if a1 < (l0.length : Int) then (if (Int.tmod (rd l0 a1) 16) = 6 then (spec_l04Number.j0 k l0 a1 (rd l0 a1) (Int.tmod (rd l0 a1) 16) true 7 (⟨#[]⟩ : ByteArray) 0 ((Go.bits .and .u32 (rd l0 a1) 16) != 0) 0) else (spec_l04Number.j0 k l0 a1 (rd l0 a1) (Int.tmod (rd l0 a1) 16) ((Int.tmod (rd l0 a1) 16) == 5) 7 (⟨#[]⟩ : ByteArray) 0 ((Go.bits .and .u32 (rd l0 a1) 16) != 0) 0)) else (none)) else (none)) = some (r1, r2, r3, r4, r5, r6) := h
 clear h
 by_cases c3 : 0 ≤ a1
 ·rw [if_pos c3] at H
  have c3b0 : decide (0 ≤ a1) = true := decide_eq_true c3
  clear c3
  by_cases c4 : a1 < (l0.length : Int)
  ·rw [if_pos c4] at H
   have c4b0 : decide (a1 < (l0.length : Int)) = true := decide_eq_true c4
   clear c4
   have HC5 := Aside0.mk H
   clear H
   go_enter Try.func95, Try.ntmps95
   go_upto_region 4 with (first | ((with_reducible refine gate_dst (N := 4) rfl ?_); refine box_event (by rfl) (N := 4) (by rfl) (cs := #[.int .i64 0, .string (⟨#[]⟩ : ByteArray), .int .i32 0, .bool false, .int .u32 0]) (t := 51) Z8 ?_; intro gb284 hg w6 hbox hb; have BK284 := Z (hbox); have GW284 := Z ((Z85 : w.heap.size ≤ gb284)); have GE284 := Z ((Z85 : w.heap.size ≤ gb284)); replace HB := Z (below_step Z68 hb); clear hb hbox hg; have p285 : 0 ≤ (a1 : Int) := of_decide_eq_true Z5; have q285 : a1 < (l0.length : Int) := of_decide_eq_true Z5; obtain ⟨ad285, e285, hx285_0⟩ := Kd.at_int HR0.out a1 p285 q285; cases e285; replace hx285_0 := (HB.out.cell (World.block_lt_of_cell? w _ hx285_0)).trans hx285_0; replace p285 := eq_true p285; replace q285 := eq_true q285) | ((with_reducible refine gate_dst (N := 8) rfl ?_); refine box_event (by rfl) (N := 8) (by rfl) (cs := #[.int .i64 0, .string (⟨#[]⟩ : ByteArray), .int .i32 0, .bool false, .int .u32 0]) (t := 51) Z8 ?_; intro gb286 hg w7 hbox hb; have BK286 := Z (hbox); have GW286 := Z ((Z85 : w.heap.size ≤ gb286)); have GE286 := Z ((Z85 : w.heap.size ≤ gb286)); replace HB := Z (below_step Z68 hb); have NB284_286 := Z ((by rw [hg]; exact Nat.ne_of_lt (blk_lt (g := gb284) (o := .cells #[.int .i64 0, .string (⟨#[]⟩ : ByteArray), .int .i32 0, .bool false, .int .u32 0] 51 (0, 0)) (Z10 BK284)) : gb284 ≠ gb286)); have NB286_284 := Z ((by rw [hg]; exact Nat.ne_of_gt (blk_lt (g := gb284) (o := .cells #[.int .i64 0, .string (⟨#[]⟩ : ByteArray), .int .i32 0, .bool false, .int .u32 0] 51 (0, 0)) (Z10 BK284)) : gb286 ≠ gb284)); replace BK284 := Z (blk_below (g := gb284) (o := .cells #[.int .i64 0, .string (⟨#[]⟩ : ByteArray), .int .i32 0, .bool false, .int .u32 0] 51 (0, 0)) (Z10 BK284) hb); clear hb hbox hg; have hnb8 := NB286_284.out; have hnc8 := NB284_286.out; have hcz9_0 : w7.cell? ⟨gb286, 0, none⟩ = some (.int .i64 0) := (blk_cell BK286.out 0).trans rfl; have hcz9_1 : w7.cell? ⟨gb286, 1, none⟩ = some (.string (⟨#[]⟩ : ByteArray)) := (blk_cell BK286.out 1).trans rfl; have hcz9_2 : w7.cell? ⟨gb286, 2, none⟩ = some (.int .i32 0) := (blk_cell BK286.out 2).trans rfl; have hcz9_3 : w7.cell? ⟨gb286, 3, none⟩ = some (.bool false) := (blk_cell BK286.out 3).trans rfl; have hcz9_4 : w7.cell? ⟨gb286, 4, none⟩ = some (.int .u32 0) := (blk_cell BK286.out 4).trans rfl; have hfz9_0 := blk_frozen BK286.out 0; have hfz9_1 := blk_frozen BK286.out 1; have hfz9_2 := blk_frozen BK286.out 2; have hfz9_3 := blk_frozen BK286.out 3; have hfz9_4 := blk_frozen BK286.out 4))
   (try simp only [Act.put, List.setIfInBounds_toArray, List.set_cons_zero, List.set_cons_succ])
   go_cut [24] (fun v24 wc => ∃ (kq : Nat) (x24_4 : Bool), v24 = .bool x24_4 ∧ Aside0 (spec_l04Number.j0 kq l0 a1 (rd l0 a1) (Int.tmod (rd l0 a1) 16) x24_4 7 (⟨#[]⟩ : ByteArray) 0 ((Go.bits .and .u32 (rd l0 a1) 16) != 0) 0 = some (r1, r2, r3, r4, r5, r6)) ∧ Aside0 (kq ≤ k) ∧ Aside0 (wc.heap[gb284]? = some (.cells #[.int .i64 0, .string (⟨#[]⟩ : ByteArray), .int .i32 0, .bool false, .int .u32 0] 51 (0, 0))) ∧ Aside0 (wc.heap[gb286]? = some (.cells #[.int .i64 7, .string (⟨#[]⟩ : ByteArray), .int .i32 0, .bool ((Go.bits .and .u32 (rd l0 a1) 16) != 0), .int .u32 0] 51 (0, 0))) ∧ Aside0 (Below w.heap.size w wc))
   case first =>
    have H := HC5.out
    clear HC5
    by_cases c10 : (Int.tmod (rd l0 a1) 16) = 6
    ·rw [if_pos c10] at H
     have c10b0 : ((Int.tmod (rd l0 a1) 16) == 6) = true := beq_iff_eq.mpr c10
     have c10b1 : ((Int.tmod (rd l0 a1) 16) != 6) = false := bne_eq_false_iff_eq.mpr c10
     clear c10
     (first | rw [c10b0] | (simp only [i64_w, i32_w]; rw [c10b0]) | skip)
     have H' := Aside0.mk H
     clear H
     go_wp2
     go_meet
     case rel => exact ⟨_, (true), Z3, H', ⟨Z24⟩, ⟨(Z26 BK284)⟩, ⟨(Z27 BK286)⟩, ⟨Z68⟩⟩
    ·rw [if_neg c10] at H
     have c10b0 : ((Int.tmod (rd l0 a1) 16) == 6) = false := beq_eq_false_iff_ne.mpr c10
     have c10b1 : ((Int.tmod (rd l0 a1) 16) != 6) = true := bne_iff_ne.mpr c10
     (first | rw [c10b0] | (simp only [i64_w, i32_w]; rw [c10b0]) | skip)
     have H' := Aside0.mk H
     clear H
     go_wp2
     go_meet
     case rel => exact ⟨_, (((Int.tmod (rd l0 a1) 16) == 5)), Z3, H', ⟨Z24⟩, ⟨(Z26 BK284)⟩, ⟨(Z27 BK286)⟩, ⟨Z68⟩⟩
   case rest =>
    clear HC5
    try clear c1
    try clear p2
    try clear q2
    try clear hx2
    try clear c3
    try clear c3b0
    try clear c4
    try clear c4b0
    try clear c8
    try clear c9
    try clear c10
    try clear c10b0
    try clear c10b1
    try clear hcz9_0
    try clear hcz9_1
    try clear hcz9_2
    try clear hcz9_3
    try clear hcz9_4
    try clear hfz9_0
    try clear hfz9_1
    try clear hfz9_2
    try clear hfz9_3
    try clear hfz9_4
    try clear hx285_0
    try clear p285
    try clear q285
    obtain ⟨kq, x24_4, rfl, HA, HJ4, BK284, BK286, HB⟩ := hcut
    cases kq with
    | zero => exact absurd HA.out (by simp [spec_l04Number.j0])
    | succ kj4 =>
     have H := HA.out
     clear HA
     simp only [spec_l04Number.j0] at H
     have HC11 := Aside0.mk H
     clear H
     go_upto_if 24 with (fail)
     go_cut [] (fun wc => ∃ (kq : Nat) (x287000_10 : Int), Aside0 (spec_l04Number.j1 kq l0 a1 (rd l0 a1) (Int.tmod (rd l0 a1) 16) x287000_10 (⟨#[]⟩ : ByteArray) 0 ((Go.bits .and .u32 (rd l0 a1) 16) != 0) 0 = some (r1, r2, r3, r4, r5, r6)) ∧ Aside0 (kq ≤ kj4) ∧ Aside0 (wc.heap[gb284]? = some (.cells #[.int .i64 0, .string (⟨#[]⟩ : ByteArray), .int .i32 0, .bool false, .int .u32 0] 51 (0, 0))) ∧ Aside0 (wc.heap[gb286]? = some (.cells #[.int .i64 x287000_10, .string (⟨#[]⟩ : ByteArray), .int .i32 0, .bool ((Go.bits .and .u32 (rd l0 a1) 16) != 0), .int .u32 0] 51 (0, 0))) ∧ Aside0 (Below w.heap.size w wc))
     case first =>
      have H := HC11.out
      clear HC11
      by_cases c12 : x24_4 = true
      ·subst c12
       have H1 : (spec_l04Number.j1 kj4 l0 a1 (rd l0 a1) (Int.tmod (rd l0 a1) 16) 8 (⟨#[]⟩ : ByteArray) 0 ((Go.bits .and .u32 (rd l0 a1) 16) != 0) 0) = some (r1, r2, r3, r4, r5, r6) := Z7
       clear H
       have H := H1
       clear H1
       have H' := Aside0.mk H
       clear H
       have hnb13 := NB286_284.out
       have hnc13 := NB284_286.out
       have hcz14_0 : wc.cell? ⟨gb286, 0, none⟩ = some (.int .i64 7) := (blk_cell BK286.out 0).trans rfl
       have hcz14_1 : wc.cell? ⟨gb286, 1, none⟩ = some (.string (⟨#[]⟩ : ByteArray)) := (blk_cell BK286.out 1).trans rfl
       have hcz14_2 : wc.cell? ⟨gb286, 2, none⟩ = some (.int .i32 0) := (blk_cell BK286.out 2).trans rfl
       have hcz14_3 : wc.cell? ⟨gb286, 3, none⟩ = some (.bool ((Go.bits .and .u32 (rd l0 a1) 16) != 0)) := (blk_cell BK286.out 3).trans rfl
       have hcz14_4 : wc.cell? ⟨gb286, 4, none⟩ = some (.int .u32 0) := (blk_cell BK286.out 4).trans rfl
       have hfz14_0 := blk_frozen BK286.out 0
       have hfz14_1 := blk_frozen BK286.out 1
       have hfz14_2 := blk_frozen BK286.out 2
       have hfz14_3 := blk_frozen BK286.out 3
       have hfz14_4 := blk_frozen BK286.out 4
       go_wp2
       go_meet
       case rel => exact ⟨_, (8), H', ⟨by have := HJ4.out; first | omega | exact Nat.le_refl _⟩, ⟨(Z28 BK284)⟩, ⟨by (with_reducible repeat (first | refine blk_drewN ?_ _ | refine blk_drew ?_ | refine blk_alloc ?_ _)); refine blk_put (cs := #[.int .i64 7, .string (⟨#[]⟩ : ByteArray), .int .i32 0, .bool ((Go.bits .and .u32 (rd l0 a1) 16) != 0), .int .u32 0]) ?_ 0 _ rfl; (with_reducible repeat (first | refine blk_drewN ?_ _ | refine blk_drew ?_ | refine blk_alloc ?_ _)); exact BK286.out⟩, ⟨Z68⟩⟩
      ·replace c12 := Bool.eq_false_iff.mpr c12
       subst c12
       have H1 : (spec_l04Number.j1 kj4 l0 a1 (rd l0 a1) (Int.tmod (rd l0 a1) 16) 7 (⟨#[]⟩ : ByteArray) 0 ((Go.bits .and .u32 (rd l0 a1) 16) != 0) 0) = some (r1, r2, r3, r4, r5, r6) := by rw [if_neg (show ¬ (false = true) by decide)] at H; exact H
       clear H
       have H := H1
       clear H1
       have H' := Aside0.mk H
       clear H
       go_wp2
       go_meet
       case rel => exact ⟨_, (7), H', ⟨by have := HJ4.out; first | omega | exact Nat.le_refl _⟩, ⟨(Z10 BK284)⟩, ⟨(Z10 BK286)⟩, ⟨Z68⟩⟩
     case rest =>
      clear HC11
      try clear c1
      try clear p2
      try clear q2
      try clear hx2
      try clear c3
      try clear c3b0
      try clear c4
      try clear c4b0
      try clear c8
      try clear c9
      try clear c10
      try clear c10b0
      try clear c10b1
      try clear c12
      try clear c13
      try clear hcz14_0
      try clear hcz14_1
      try clear hcz14_2
      try clear hcz14_3
      try clear hcz14_4
      try clear hcz9_0
      try clear hcz9_1
      try clear hcz9_2
      try clear hcz9_3
      try clear hcz9_4
      try clear hfz14_0
      try clear hfz14_1
      try clear hfz14_2
      try clear hfz14_3
      try clear hfz14_4
      try clear hfz9_0
      try clear hfz9_1
      try clear hfz9_2
      try clear hfz9_3
      try clear hfz9_4
      try clear hx285_0
      try clear p2
      try clear p285
      try clear q2
      try clear q285
      obtain ⟨kq, x287000_10, HA, HJ10, BK284, BK286, HB⟩ := hcut
      cases kq with
      | zero => exact absurd HA.out (by simp [spec_l04Number.j1])
      | succ kj10 =>
       have H := HA.out
       clear HA
       simp only [spec_l04Number.j1] at H
       have HC15 := Aside0.mk H
       clear H
       go_upto_region 6 with (fail)
       go_cut [31] (fun v31 wc => ∃ (kq : Nat) (x31_14 : Bool), v31 = .bool x31_14 ∧ Aside0 (spec_l04Number.j2 kq l0 a1 (rd l0 a1) x31_14 x287000_10 (⟨#[]⟩ : ByteArray) 0 ((Go.bits .and .u32 (rd l0 a1) 16) != 0) 0 = some (r1, r2, r3, r4, r5, r6)) ∧ Aside0 (kq ≤ kj10) ∧ Aside0 (wc.heap[gb284]? = some (.cells #[.int .i64 0, .string (⟨#[]⟩ : ByteArray), .int .i32 0, .bool false, .int .u32 0] 51 (0, 0))) ∧ Aside0 (wc.heap[gb286]? = some (.cells #[.int .i64 x287000_10, .string (⟨#[]⟩ : ByteArray), .int .i32 0, .bool ((Go.bits .and .u32 (rd l0 a1) 16) != 0), .int .u32 0] 51 (0, 0))) ∧ Aside0 (Below w.heap.size w wc))
       case first =>
        have H := HC15.out
        clear HC15
        by_cases c16 : (Int.tmod (rd l0 a1) 16) = 8
        ·rw [if_pos c16] at H
         have c16b0 : ((Int.tmod (rd l0 a1) 16) == 8) = true := beq_iff_eq.mpr c16
         have c16b1 : ((Int.tmod (rd l0 a1) 16) != 8) = false := bne_eq_false_iff_eq.mpr c16
         clear c16
         (first | rw [c16b0] | (simp only [i64_w, i32_w]; rw [c16b0]) | skip)
         have H' := Aside0.mk H
         clear H
         go_wp2
         go_meet
         case rel => exact ⟨_, (true), Z3, H', ⟨Z29⟩, ⟨(Z10 BK284)⟩, ⟨(Z10 BK286)⟩, ⟨Z68⟩⟩
        ·rw [if_neg c16] at H
         have c16b0 : ((Int.tmod (rd l0 a1) 16) == 8) = false := beq_eq_false_iff_ne.mpr c16
         have c16b1 : ((Int.tmod (rd l0 a1) 16) != 8) = true := bne_iff_ne.mpr c16
         (first | rw [c16b0] | (simp only [i64_w, i32_w]; rw [c16b0]) | skip)
         have H' := Aside0.mk H
         clear H
         go_wp2
         go_meet
         case rel => exact ⟨_, (((Int.tmod (rd l0 a1) 16) == 6)), Z3, H', ⟨Z29⟩, ⟨(Z10 BK284)⟩, ⟨(Z10 BK286)⟩, ⟨Z68⟩⟩
       case rest =>
        clear HC15
        try clear c1
        try clear p2
        try clear q2
        try clear hx2
        try clear c3
        try clear c3b0
        try clear c4
        try clear c4b0
        try clear c8
        try clear c9
        try clear c10
        try clear c10b0
        try clear c10b1
        try clear c12
        try clear c13
        try clear c16
        try clear c16b0
        try clear c16b1
        try clear hcz14_0
        try clear hcz14_1
        try clear hcz14_2
        try clear hcz14_3
        try clear hcz14_4
        try clear hcz9_0
        try clear hcz9_1
        try clear hcz9_2
        try clear hcz9_3
        try clear hcz9_4
        try clear hfz14_0
        try clear hfz14_1
        try clear hfz14_2
        try clear hfz14_3
        try clear hfz14_4
        try clear hfz9_0
        try clear hfz9_1
        try clear hfz9_2
        try clear hfz9_3
        try clear hfz9_4
        try clear hx285_0
        try clear p2
        try clear p285
        try clear q2
        try clear q285
        obtain ⟨kq, x31_14, rfl, HA, HJ14, BK284, BK286, HB⟩ := hcut
        cases kq with
        | zero => exact absurd HA.out (by simp [spec_l04Number.j2])
        | succ kj14 =>
         have H := HA.out
         clear HA
         simp only [spec_l04Number.j2] at H
         by_cases c17 : x31_14 = true
         ·subst c17
          have H1 : (some (x287000_10, (⟨#[]⟩ : ByteArray), (wrap32 ((rd l0 a1))) / 32, ((Go.bits .and .u32 (rd l0 a1) 16) != 0), 0, 1)) = some (r1, r2, r3, r4, r5, r6) := Z7
          clear H
          have H := H1
          clear H1
          simp only [Option.some.injEq, Prod.mk.injEq] at H
          obtain ⟨rfl, rfl, rfl, rfl, rfl, rfl⟩ := H
          have hnb18 := NB286_284.out
          have hnc18 := NB284_286.out
          have hcz19_0 : wc.cell? ⟨gb286, 0, none⟩ = some (.int .i64 x287000_10) := (blk_cell BK286.out 0).trans rfl
          have hcz19_1 : wc.cell? ⟨gb286, 1, none⟩ = some (.string (⟨#[]⟩ : ByteArray)) := (blk_cell BK286.out 1).trans rfl
          have hcz19_2 : wc.cell? ⟨gb286, 2, none⟩ = some (.int .i32 0) := (blk_cell BK286.out 2).trans rfl
          have hcz19_3 : wc.cell? ⟨gb286, 3, none⟩ = some (.bool ((Go.bits .and .u32 (rd l0 a1) 16) != 0)) := (blk_cell BK286.out 3).trans rfl
          have hcz19_4 : wc.cell? ⟨gb286, 4, none⟩ = some (.int .u32 0) := (blk_cell BK286.out 4).trans rfl
          have hfz19_0 := blk_frozen BK286.out 0
          have hfz19_1 := blk_frozen BK286.out 1
          have hfz19_2 := blk_frozen BK286.out 2
          have hfz19_3 := blk_frozen BK286.out 3
          have hfz19_4 := blk_frozen BK286.out 4
          have hcz20_0 : wc.cell? ⟨gb284, 0, none⟩ = some (.int .i64 0) := (blk_cell BK284.out 0).trans rfl
          have hcz20_1 : wc.cell? ⟨gb284, 1, none⟩ = some (.string (⟨#[]⟩ : ByteArray)) := (blk_cell BK284.out 1).trans rfl
          have hcz20_2 : wc.cell? ⟨gb284, 2, none⟩ = some (.int .i32 0) := (blk_cell BK284.out 2).trans rfl
          have hcz20_3 : wc.cell? ⟨gb284, 3, none⟩ = some (.bool false) := (blk_cell BK284.out 3).trans rfl
          have hcz20_4 : wc.cell? ⟨gb284, 4, none⟩ = some (.int .u32 0) := (blk_cell BK284.out 4).trans rfl
          have hfz20_0 := blk_frozen BK284.out 0
          have hfz20_1 := blk_frozen BK284.out 1
          have hfz20_2 := blk_frozen BK284.out 2
          have hfz20_3 := blk_frozen BK284.out 3
          have hfz20_4 := blk_frozen BK284.out 4
          go_wp2
          refine bodyPost_ret (results_ct rfl _ _ gb284 51 #[.int .i64 x287000_10, .string (⟨#[]⟩ : ByteArray), .int .i32 ((wrap32 ((rd l0 a1))) / 32), .bool ((Go.bits .and .u32 (rd l0 a1) 16) != 0), .int .u32 0] (0, 0) _ rfl (by (with_reducible repeat (first | refine blk_drewN ?_ _ | refine blk_drew ?_ | refine blk_alloc ?_ _)); refine blk_put (cs := #[.int .i64 x287000_10, .string (⟨#[]⟩ : ByteArray), .int .i32 ((wrap32 ((rd l0 a1))) / 32), .bool ((Go.bits .and .u32 (rd l0 a1) 16) != 0), .int .u32 0]) ?_ 4 _ rfl; (with_reducible repeat (first | refine blk_drewN ?_ _ | refine blk_drew ?_ | refine blk_alloc ?_ _)); refine blk_put (cs := #[.int .i64 x287000_10, .string (⟨#[]⟩ : ByteArray), .int .i32 ((wrap32 ((rd l0 a1))) / 32), .bool false, .int .u32 0]) ?_ 3 _ rfl; (with_reducible repeat (first | refine blk_drewN ?_ _ | refine blk_drew ?_ | refine blk_alloc ?_ _)); refine blk_put (cs := #[.int .i64 x287000_10, .string (⟨#[]⟩ : ByteArray), .int .i32 0, .bool false, .int .u32 0]) ?_ 2 _ rfl; (with_reducible repeat (first | refine blk_drewN ?_ _ | refine blk_drew ?_ | refine blk_alloc ?_ _)); refine blk_put (cs := #[.int .i64 x287000_10, .string (⟨#[]⟩ : ByteArray), .int .i32 0, .bool false, .int .u32 0]) ?_ 1 _ rfl; (with_reducible repeat (first | refine blk_drewN ?_ _ | refine blk_drew ?_ | refine blk_alloc ?_ _)); refine blk_put (cs := #[.int .i64 0, .string (⟨#[]⟩ : ByteArray), .int .i32 0, .bool false, .int .u32 0]) ?_ 0 _ rfl; (with_reducible repeat (first | refine blk_drewN ?_ _ | refine blk_drew ?_ | refine blk_alloc ?_ _)); refine blk_far ?_ NB284_286.out _; (with_reducible repeat (first | refine blk_drewN ?_ _ | refine blk_drew ?_ | refine blk_alloc ?_ _)); exact BK284.out) Try.underlying51 rfl Z0) rfl ?_
          exact ⟨Z13, Z68⟩
         ·replace c17 := Bool.eq_false_iff.mpr c17
          subst c17
          have H1 : (if (wrap64 (a1 + 1)) ≥ (l0.length : Int) then (some (0, (⟨#[]⟩ : ByteArray), 0, false, 0, 0)) else (if ((Int.tdiv (rd l0 a1) 32) % 4294967296) = 0 then (if 0 ≤ (wrap64 (a1 + 1)) then (if (wrap64 (a1 + 1)) < (l0.length : Int) then ((spec_CellsOf.f kj14 x287000_10 (⟨#[]⟩ : ByteArray) (wrap32 (rd l0 (wrap64 (a1 + 1)))) ((Go.bits .and .u32 (rd l0 a1) 16) != 0) 0).bind fun t288 => (some (x287000_10, (⟨#[]⟩ : ByteArray), wrap32 (rd l0 (wrap64 (a1 + 1))), ((Go.bits .and .u32 (rd l0 a1) 16) != 0), 0, wrap64 ((wrap64 ((t288.length : Int) / 2)) * 2)))) else (none)) else (none)) else (some (0, (⟨#[]⟩ : ByteArray), 0, false, 0, 0)))) = some (r1, r2, r3, r4, r5, r6) := by rw [if_neg (show ¬ (false = true) by decide)] at H; exact H
          clear H
          have H := H1
          clear H1
          by_cases c21 : (wrap64 (a1 + 1)) ≥ (l0.length : Int)
          ·rw [if_pos c21] at H
           have c21b0 : decide ((l0.length : Int) ≤ (wrap64 (a1 + 1))) = true := decide_eq_true c21
           clear c21
           simp only [Option.some.injEq, Prod.mk.injEq] at H
           obtain ⟨rfl, rfl, rfl, rfl, rfl, rfl⟩ := H
           have hnb22 := NB284_286.out
           have hnc22 := NB286_284.out
           have hcz23_0 : wc.cell? ⟨gb284, 0, none⟩ = some (.int .i64 0) := (blk_cell BK284.out 0).trans rfl
           have hcz23_1 : wc.cell? ⟨gb284, 1, none⟩ = some (.string (⟨#[]⟩ : ByteArray)) := (blk_cell BK284.out 1).trans rfl
           have hcz23_2 : wc.cell? ⟨gb284, 2, none⟩ = some (.int .i32 0) := (blk_cell BK284.out 2).trans rfl
           have hcz23_3 : wc.cell? ⟨gb284, 3, none⟩ = some (.bool false) := (blk_cell BK284.out 3).trans rfl
           have hcz23_4 : wc.cell? ⟨gb284, 4, none⟩ = some (.int .u32 0) := (blk_cell BK284.out 4).trans rfl
           have hfz23_0 := blk_frozen BK284.out 0
           have hfz23_1 := blk_frozen BK284.out 1
           have hfz23_2 := blk_frozen BK284.out 2
           have hfz23_3 := blk_frozen BK284.out 3
           have hfz23_4 := blk_frozen BK284.out 4
           go_wp2
           refine bodyPost_ret (results_ct rfl _ _ gb284 51 #[.int .i64 0, .string (⟨#[]⟩ : ByteArray), .int .i32 0, .bool false, .int .u32 0] (0, 0) _ rfl (Z23 BK284) Try.underlying51 rfl Z0) rfl ?_
           exact ⟨Z13, Z68⟩
          ·rw [if_neg c21] at H
           have c21b0 : decide ((l0.length : Int) ≤ (wrap64 (a1 + 1))) = false := decide_eq_false c21
           clear c21
           by_cases c24 : ((Int.tdiv (rd l0 a1) 32) % 4294967296) = 0
           ·rw [if_pos c24] at H
            have c24b0 : (((Int.tdiv (rd l0 a1) 32) % 4294967296) == 0) = true := beq_iff_eq.mpr c24
            have c24b1 : (((Int.tdiv (rd l0 a1) 32) % 4294967296) != 0) = false := bne_eq_false_iff_eq.mpr c24
            clear c24
            obtain ⟨ji25, hji25⟩ : ∃ j_ : Int, (wrap64 (a1 + 1)) = j_ := ⟨_, rfl⟩
            replace H : (if 0 ≤ (ji25) then (if (ji25) < (l0.length : Int) then ((spec_CellsOf.f kj14 x287000_10 (⟨#[]⟩ : ByteArray) (wrap32 (rd l0 (ji25))) ((Go.bits .and .u32 (rd l0 a1) 16) != 0) 0).bind fun t288 => (some (x287000_10, (⟨#[]⟩ : ByteArray), wrap32 (rd l0 (ji25)), ((Go.bits .and .u32 (rd l0 a1) 16) != 0), 0, wrap64 ((wrap64 ((t288.length : Int) / 2)) * 2)))) else (none)) else (none)) = some (r1, r2, r3, r4, r5, r6) := by first | (rw [hji25] at H; exact H) | (simp only [hji25] at H ⊢; exact H)
            (try rw [hji25] at c21b0)
            have hji25w : (IntKind.i64.wrap (a1 + 1)) = ji25 := (i64_w _).trans hji25
            by_cases c26 : 0 ≤ (ji25)
            ·rw [if_pos c26] at H
             have c26b0 : decide (0 ≤ (ji25)) = true := decide_eq_true c26
             clear c26
             by_cases c27 : (ji25) < (l0.length : Int)
             ·rw [if_pos c27] at H
              have c27b0 : decide ((ji25) < (l0.length : Int)) = true := decide_eq_true c27
              clear c27
              replace H := Option.bind_eq_some_iff.mp H
              obtain ⟨t288, A280, H⟩ := H
              replace H : (some (x287000_10, (⟨#[]⟩ : ByteArray), wrap32 (rd l0 (ji25)), ((Go.bits .and .u32 (rd l0 a1) 16) != 0), 0, wrap64 ((wrap64 ((t288.length : Int) / 2)) * 2))) = some (r1, r2, r3, r4, r5, r6) := H
              have A28 := Aside0.mk A280
              clear A280
              simp only [Option.some.injEq, Prod.mk.injEq] at H
              obtain ⟨rfl, rfl, rfl, rfl, rfl, rfl⟩ := H
              have p287 : 0 ≤ ((ji25) : Int) := of_decide_eq_true Z5
              have q287 : (ji25) < (l0.length : Int) := of_decide_eq_true Z5
              obtain ⟨ad287, e287, hx287_0⟩ := Kd.at_int HR0.out (ji25) p287 q287
              obtain rfl : ad285 = ad287 := (by injection e287)
              replace hx287_0 := (HB.out.cell (World.block_lt_of_cell? w _ hx287_0)).trans hx287_0
              replace p287 := eq_true p287
              replace q287 := eq_true q287
              have hnb29 := NB286_284.out
              have hnc29 := NB284_286.out
              have hcz30_0 : wc.cell? ⟨gb286, 0, none⟩ = some (.int .i64 x287000_10) := (blk_cell BK286.out 0).trans rfl
              have hcz30_1 : wc.cell? ⟨gb286, 1, none⟩ = some (.string (⟨#[]⟩ : ByteArray)) := (blk_cell BK286.out 1).trans rfl
              have hcz30_2 : wc.cell? ⟨gb286, 2, none⟩ = some (.int .i32 0) := (blk_cell BK286.out 2).trans rfl
              have hcz30_3 : wc.cell? ⟨gb286, 3, none⟩ = some (.bool ((Go.bits .and .u32 (rd l0 a1) 16) != 0)) := (blk_cell BK286.out 3).trans rfl
              have hcz30_4 : wc.cell? ⟨gb286, 4, none⟩ = some (.int .u32 0) := (blk_cell BK286.out 4).trans rfl
              have hfz30_0 := blk_frozen BK286.out 0
              have hfz30_1 := blk_frozen BK286.out 1
              have hfz30_2 := blk_frozen BK286.out 2
              have hfz30_3 := blk_frozen BK286.out 3
              have hfz30_4 := blk_frozen BK286.out 4
              try go_wp2
              have n0_ : Aside0 ((wc.setCell ⟨gb286, 2, none⟩ (.int .i32 (wrap32 (rd l0 (ji25))))).heap[gb284]? = some (.cells #[.int .i64 0, .string (⟨#[]⟩ : ByteArray), .int .i32 0, .bool false, .int .u32 0] 51 (0, 0))) := ⟨(Z28 BK284)⟩
              have n1_ : Aside0 ((wc.setCell ⟨gb286, 2, none⟩ (.int .i32 (wrap32 (rd l0 (ji25))))).heap[gb286]? = some (.cells #[.int .i64 x287000_10, .string (⟨#[]⟩ : ByteArray), .int .i32 (wrap32 (rd l0 (ji25))), .bool ((Go.bits .and .u32 (rd l0 a1) 16) != 0), .int .u32 0] 51 (0, 0))) := ⟨by (with_reducible repeat (first | refine blk_drewN ?_ _ | refine blk_drew ?_ | refine blk_alloc ?_ _)); refine blk_put (cs := #[.int .i64 x287000_10, .string (⟨#[]⟩ : ByteArray), .int .i32 0, .bool ((Go.bits .and .u32 (rd l0 a1) 16) != 0), .int .u32 0]) ?_ 2 _ rfl; (with_reducible repeat (first | refine blk_drewN ?_ _ | refine blk_drew ?_ | refine blk_alloc ?_ _)); exact BK286.out⟩
              have n2_ : Aside0 (Below w.heap.size w (wc.setCell ⟨gb286, 2, none⟩ (.int .i32 (wrap32 (rd l0 (ji25)))))) := ⟨Z68⟩
              (try clear BK284)
              (try clear BK286)
              (try clear HB)
              (try rw [show ∀ (W_ : World) (n_ : Nat) (p_ : Addr) (v_ : Value), (W_.drewN n_).setCell p_ v_ = (W_.setCell p_ v_).drewN n_ from fun _ _ _ _ => rfl])
              generalize (wc.setCell ⟨gb286, 2, none⟩ (.int .i32 (wrap32 (rd l0 (ji25))))) = w31 at n0_ n1_ n2_ ⊢
              have BK284 := n0_
              have BK286 := n1_
              have HB := n2_
              clear n0_ n1_ n2_
              have n0_ := Z (blk_drew BK284.out)
              have n1_ := Z (blk_drew BK286.out)
              have n2_ := Z (below_drew1 HB.out)
              clear BK284
              clear BK286
              clear HB
              have BK284 := n0_
              have BK286 := n1_
              have HB := n2_
              clear n0_ n1_ n2_
              refine start_ (n := 8) (S := fun w' => w'.cell? ⟨gb286, 0, none⟩ = some (.int .i64 x287000_10) ∧ w'.cell? ⟨gb286, 1, none⟩ = some (.string (⟨#[]⟩ : ByteArray)) ∧ w'.cell? ⟨gb286, 2, none⟩ = some (.int .i32 (wrap32 (rd l0 (ji25)))) ∧ w'.cell? ⟨gb286, 3, none⟩ = some (.bool ((Go.bits .and .u32 (rd l0 a1) 16) != 0)) ∧ w'.cell? ⟨gb286, 4, none⟩ = some (.int .u32 0)) (ds := []) #[false, false, false, false, false, false, false, false] Z0 rfl rfl ⟨(blk_cell BK286.out 0).trans rfl, (blk_cell BK286.out 1).trans rfl, (blk_cell BK286.out 2).trans rfl, (blk_cell BK286.out 3).trans rfl, (blk_cell BK286.out 4).trans rfl⟩ (fun hHeld => ?_); refine with_tabW spec_l04Number.tab12 spec_l04Number.bits12 (fun HT_ HW_ => ?_)
              generalize w31.drew = w32 at BK284 BK286 HB hHeld ⊢
              refine take_ (i := 0) (N := some 55) (v := ?_) (a' := ?_) #[true, false, false, false, false, false, false, false] rfl rfl (take_ofW HT_.out HW_.out Z0) (fun _ _ _ h => h) (Or.inl ⟨by rfl, ?_⟩) hHeld ?_ ?_
              rotate_left
              ·rintro w' ⟨s0, s1, s2, s3, s4⟩
               go_simp
               with_reducible rfl
              rotate_left
              ·simp only [Act.put, List.setIfInBounds_toArray, List.set_cons_zero, List.set_cons_succ, i64_w, i32_w]
               rfl
              refine take_ (i := 1) (N := some 56) (v := ?_) (a' := ?_) #[true, true, false, false, false, false, false, false] rfl rfl (take_ofW HT_.out HW_.out Z0) (fun _ _ _ h => h) (Or.inl ⟨by rfl, ?_⟩) hHeld ?_ ?_
              rotate_left
              ·rintro w' ⟨s0, s1, s2, s3, s4⟩
               go_simp
               with_reducible rfl
              rotate_left
              ·simp only [Act.put, List.setIfInBounds_toArray, List.set_cons_zero, List.set_cons_succ, i64_w, i32_w]
               rfl
              refine one_ (i := 2) (N := some 57) #[true, true, true, false, false, false, false, false] rfl rfl (one_of HT_.out Z0) (by decide) (fun K hK => ?_)
              refine goes_ Try.func83 Z0 rfl #[.agg #[.int .i64 x287000_10, .string (⟨#[]⟩ : ByteArray), .int .i32 (wrap32 (rd l0 (ji25))), .bool ((Go.bits .and .u32 (rd l0 a1) 16) != 0), .int .u32 0]] (by rfl) rfl rfl (by (try simp only [List.map_toArray, List.map_cons, List.map_nil]); first | done | (simp only [hji25]; rfl) | rfl | (simp only [List.length_drop, List.length_take]; rfl)) ?_
              with_reducible refine (spec_CellsOf.calls kj14 x287000_10 (⟨#[]⟩ : ByteArray) (wrap32 (rd l0 (ji25))) ((Go.bits .and .u32 (rd l0 a1) 16) != 0) 0 t288 _ A28.out).mono ?_
              rintro e w33 ⟨v289, rfl, ho0, hb⟩
              refine ⟨_, rfl, ?_⟩
              have n0_ := Z (Kd.R_lower ho0 (below_size Z68))
              have n1_ := Z (blk_below (g := gb284) (o := .cells #[.int .i64 0, .string (⟨#[]⟩ : ByteArray), .int .i32 0, .bool false, .int .u32 0] 51 (0, 0)) (Z10 BK284) hb)
              have n2_ := Z (blk_below (g := gb286) (o := .cells #[.int .i64 x287000_10, .string (⟨#[]⟩ : ByteArray), .int .i32 (wrap32 (rd l0 (ji25))), .bool ((Go.bits .and .u32 (rd l0 a1) 16) != 0), .int .u32 0] 51 (0, 0)) (Z10 BK286) hb)
              have n3_ := Z (below_step Z68 hb)
              clear BK284
              clear BK286
              clear HB
              have HO290 := n0_
              have BK284 := n1_
              have BK286 := n2_
              have HB := n3_
              clear n0_ n1_ n2_ n3_
              (try clear hb)
              (try clear hb2)
              (try clear hk)
              (try clear hi)
              (try clear ho0)
              obtain ⟨Ao34, co34, eo34⟩ := Kd.R_slice HO290.out
              (first | subst eo34 | (injection eo34 with f1_ f2_ f3_; have f4_ := f1_.symm; have f5_ := f3_.symm; clear f1_ f2_ f3_; subst f4_; subst f5_))
              refine hK.out _ _ ⟨(blk_cell BK286.out 0).trans rfl, (blk_cell BK286.out 1).trans rfl, (blk_cell BK286.out 2).trans rfl, (blk_cell BK286.out 3).trans rfl, (blk_cell BK286.out 4).trans rfl⟩ (fun hHeld => ?_)
              clear hK K
              refine norm_ (a' := ?_) ?_ ?_
              rotate_left
              ·show Act.put _ (some 57) _ = _
               simp only [Act.put, List.setIfInBounds_toArray, List.set_cons_zero, List.set_cons_succ, i64_w, i32_w]
               rfl
              refine pure_ (i := 3) (N := some 58) (v := ?_) (a' := ?_) #[true, true, true, true, false, false, false, false] rfl rfl (any_of HT_.out Z0) (fun _ _ _ h => h) (Or.inl ⟨by rfl, ?_⟩) ?_ ?_
              rotate_left
              ·intro w'
               go_simp
               with_reducible rfl
              rotate_left
              ·simp only [Act.put, List.setIfInBounds_toArray, List.set_cons_zero, List.set_cons_succ, i64_w, i32_w]
               rfl
              refine pure_ (i := 4) (N := some 59) (v := ?_) (a' := ?_) #[true, true, true, true, true, false, false, false] rfl rfl (any_of HT_.out Z0) (fun _ _ _ h => h) (Or.inl ⟨by rfl, ?_⟩) ?_ ?_
              rotate_left
              ·intro w'
               go_simp
               with_reducible rfl
              rotate_left
              ·simp only [Act.put, List.setIfInBounds_toArray, List.set_cons_zero, List.set_cons_succ, i64_w, i32_w]
               rfl
              refine pure_ (i := 5) (N := some 60) (v := ?_) (a' := ?_) #[true, true, true, true, true, true, false, false] rfl rfl (any_of HT_.out Z0) (fun _ _ _ h => h) (Or.inl ⟨by rfl, ?_⟩) ?_ ?_
              rotate_left
              ·intro w'
               go_simp
               with_reducible rfl
              rotate_left
              ·simp only [Act.put, List.setIfInBounds_toArray, List.set_cons_zero, List.set_cons_succ, i64_w, i32_w]
               rfl
              refine one_ (i := 6) (N := none) #[true, true, true, true, true, true, true, false] rfl rfl (one_of HT_.out Z0) (by decide) (fun K hK => ?_)
              have hs35 : w33.cell? ⟨gb284, 0, none⟩ = some (.int .i64 0) := (blk_cell BK284.out 0).trans rfl
              have hfs35 := blk_frozen BK284.out 0
              have hns35_1 := NB286_284.out
              have hms35_1 := NB284_286.out
              have hs36 : w33.cell? ⟨gb284, 1, none⟩ = some (.string (⟨#[]⟩ : ByteArray)) := (blk_cell BK284.out 1).trans rfl
              have hfs36 := blk_frozen BK284.out 1
              have hns36_1 := NB286_284.out
              have hms36_1 := NB284_286.out
              have hs37 : w33.cell? ⟨gb284, 2, none⟩ = some (.int .i32 0) := (blk_cell BK284.out 2).trans rfl
              have hfs37 := blk_frozen BK284.out 2
              have hns37_1 := NB286_284.out
              have hms37_1 := NB284_286.out
              have hs38 : w33.cell? ⟨gb284, 3, none⟩ = some (.bool false) := (blk_cell BK284.out 3).trans rfl
              have hfs38 := blk_frozen BK284.out 3
              have hns38_1 := NB286_284.out
              have hms38_1 := NB284_286.out
              have hs39 : w33.cell? ⟨gb284, 4, none⟩ = some (.int .u32 0) := (blk_cell BK284.out 4).trans rfl
              have hfs39 := blk_frozen BK284.out 4
              have hns39_1 := NB286_284.out
              have hms39_1 := NB284_286.out
              refine skip_ (w1 := ?_) (by rfl) rfl ?_ ?_
              rotate_left
              ·go_simp
               rfl
              refine hK.out _ _ ⟨((cell_far (p := ⟨gb284, _, none⟩) NB286_284.out _).trans (((cell_far (p := ⟨gb284, _, none⟩) NB286_284.out _).trans (((cell_far (p := ⟨gb284, _, none⟩) NB286_284.out _).trans (((cell_far (p := ⟨gb284, _, none⟩) NB286_284.out _).trans (((cell_far (p := ⟨gb284, _, none⟩) NB286_284.out _).trans (hHeld.1)))))))))), ((cell_far (p := ⟨gb284, _, none⟩) NB286_284.out _).trans (((cell_far (p := ⟨gb284, _, none⟩) NB286_284.out _).trans (((cell_far (p := ⟨gb284, _, none⟩) NB286_284.out _).trans (((cell_far (p := ⟨gb284, _, none⟩) NB286_284.out _).trans (((cell_far (p := ⟨gb284, _, none⟩) NB286_284.out _).trans (hHeld.2.1)))))))))), ((cell_far (p := ⟨gb284, _, none⟩) NB286_284.out _).trans (((cell_far (p := ⟨gb284, _, none⟩) NB286_284.out _).trans (((cell_far (p := ⟨gb284, _, none⟩) NB286_284.out _).trans (((cell_far (p := ⟨gb284, _, none⟩) NB286_284.out _).trans (((cell_far (p := ⟨gb284, _, none⟩) NB286_284.out _).trans (hHeld.2.2.1)))))))))), ((cell_far (p := ⟨gb284, _, none⟩) NB286_284.out _).trans (((cell_far (p := ⟨gb284, _, none⟩) NB286_284.out _).trans (((cell_far (p := ⟨gb284, _, none⟩) NB286_284.out _).trans (((cell_far (p := ⟨gb284, _, none⟩) NB286_284.out _).trans (((cell_far (p := ⟨gb284, _, none⟩) NB286_284.out _).trans (hHeld.2.2.2.1)))))))))), ((cell_far (p := ⟨gb284, _, none⟩) NB286_284.out _).trans (((cell_far (p := ⟨gb284, _, none⟩) NB286_284.out _).trans (((cell_far (p := ⟨gb284, _, none⟩) NB286_284.out _).trans (((cell_far (p := ⟨gb284, _, none⟩) NB286_284.out _).trans (((cell_far (p := ⟨gb284, _, none⟩) NB286_284.out _).trans (hHeld.2.2.2.2))))))))))⟩ (fun hHeld => ?_)
              clear hK K
              refine pure_ (i := 7) (N := some 5) (v := ?_) (a' := ?_) #[true, true, true, true, true, true, true, true] rfl rfl (any_of HT_.out Z0) (fun _ _ _ h => h) (Or.inl ⟨by rfl, ?_⟩) ?_ ?_
              rotate_left
              ·intro w'
               go_simp
               with_reducible rfl
              rotate_left
              ·simp only [Act.put, List.setIfInBounds_toArray, List.set_cons_zero, List.set_cons_succ, i64_w, i32_w]
               rfl
              refine done_ (done_of HT_.out Z0) ?_
              try go_wp2
              refine bodyPost_ret (results_ct rfl _ _ gb284 51 #[.int .i64 x287000_10, .string (⟨#[]⟩ : ByteArray), .int .i32 (wrap32 (rd l0 (ji25))), .bool ((Go.bits .and .u32 (rd l0 a1) 16) != 0), .int .u32 0] (0, 0) _ rfl (by (with_reducible repeat (first | refine blk_drewN ?_ _ | refine blk_drew ?_ | refine blk_alloc ?_ _)); refine blk_put (cs := #[.int .i64 x287000_10, .string (⟨#[]⟩ : ByteArray), .int .i32 (wrap32 (rd l0 (ji25))), .bool ((Go.bits .and .u32 (rd l0 a1) 16) != 0), .int .u32 0]) ?_ 4 _ rfl; (with_reducible repeat (first | refine blk_drewN ?_ _ | refine blk_drew ?_ | refine blk_alloc ?_ _)); refine blk_put (cs := #[.int .i64 x287000_10, .string (⟨#[]⟩ : ByteArray), .int .i32 (wrap32 (rd l0 (ji25))), .bool false, .int .u32 0]) ?_ 3 _ rfl; (with_reducible repeat (first | refine blk_drewN ?_ _ | refine blk_drew ?_ | refine blk_alloc ?_ _)); refine blk_put (cs := #[.int .i64 x287000_10, .string (⟨#[]⟩ : ByteArray), .int .i32 0, .bool false, .int .u32 0]) ?_ 2 _ rfl; (with_reducible repeat (first | refine blk_drewN ?_ _ | refine blk_drew ?_ | refine blk_alloc ?_ _)); refine blk_put (cs := #[.int .i64 x287000_10, .string (⟨#[]⟩ : ByteArray), .int .i32 0, .bool false, .int .u32 0]) ?_ 1 _ rfl; (with_reducible repeat (first | refine blk_drewN ?_ _ | refine blk_drew ?_ | refine blk_alloc ?_ _)); refine blk_put (cs := #[.int .i64 0, .string (⟨#[]⟩ : ByteArray), .int .i32 0, .bool false, .int .u32 0]) ?_ 0 _ rfl; (with_reducible repeat (first | refine blk_drewN ?_ _ | refine blk_drew ?_ | refine blk_alloc ?_ _)); exact BK284.out) Try.underlying51 rfl Z0) rfl ?_
              exact ⟨by first | rfl | (simp [errW_none, errW_some] <;> rfl) | (simp only [← hji25]; first | rfl | (simp [errW_none, errW_some] <;> rfl)) | (simp [*, errW_none, errW_some] <;> rfl), Z68⟩
             ·rw [if_neg c27] at H
              exact absurd H (by simp)
            ·rw [if_neg c26] at H
             exact absurd H (by simp)
           ·rw [if_neg c24] at H
            have c24b0 : (((Int.tdiv (rd l0 a1) 32) % 4294967296) == 0) = false := beq_eq_false_iff_ne.mpr c24
            have c24b1 : (((Int.tdiv (rd l0 a1) 32) % 4294967296) != 0) = true := bne_iff_ne.mpr c24
            simp only [Option.some.injEq, Prod.mk.injEq] at H
            obtain ⟨rfl, rfl, rfl, rfl, rfl, rfl⟩ := H
            have hnb40 := NB284_286.out
            have hnc40 := NB286_284.out
            have hcz41_0 : wc.cell? ⟨gb284, 0, none⟩ = some (.int .i64 0) := (blk_cell BK284.out 0).trans rfl
            have hcz41_1 : wc.cell? ⟨gb284, 1, none⟩ = some (.string (⟨#[]⟩ : ByteArray)) := (blk_cell BK284.out 1).trans rfl
            have hcz41_2 : wc.cell? ⟨gb284, 2, none⟩ = some (.int .i32 0) := (blk_cell BK284.out 2).trans rfl
            have hcz41_3 : wc.cell? ⟨gb284, 3, none⟩ = some (.bool false) := (blk_cell BK284.out 3).trans rfl
            have hcz41_4 : wc.cell? ⟨gb284, 4, none⟩ = some (.int .u32 0) := (blk_cell BK284.out 4).trans rfl
            have hfz41_0 := blk_frozen BK284.out 0
            have hfz41_1 := blk_frozen BK284.out 1
            have hfz41_2 := blk_frozen BK284.out 2
            have hfz41_3 := blk_frozen BK284.out 3
            have hfz41_4 := blk_frozen BK284.out 4
            go_wp2
            refine bodyPost_ret (results_ct rfl _ _ gb284 51 #[.int .i64 0, .string (⟨#[]⟩ : ByteArray), .int .i32 0, .bool false, .int .u32 0] (0, 0) _ rfl (Z23 BK284) Try.underlying51 rfl Z0) rfl ?_
            exact ⟨Z13, Z68⟩
  ·rw [if_neg c4] at H
   exact absurd H (by simp)
 ·rw [if_neg c3] at H
  exact absurd H (by simp)

/-! ### spec_FieldOk: function 96 -/
def spec_FieldOk.f (k : Nat) (a0 : Int) : Option (Bool) := (spec_UnpackOne.f k a0).bind fun t291 => ((spec_Pack.f k t291).bind fun t292 => (if (t292.length : Int) = 1 then (if 0 < (t292.length : Int) then (some ((rd t292 0) == a0)) else (none)) else (some false)))
theorem spec_FieldOk.mono : ∀ a0 k, LeO (spec_FieldOk.f k a0) (spec_FieldOk.f (k + 1) a0) := by
 intro a0 k
 unfold spec_FieldOk.f
 repeat' first
   | (with_reducible exact spec_Pack.mono _ _)
   | (with_reducible exact spec_UnpackOne.mono _ _)
   | (with_reducible exact LeO.refl _)
   | (with_reducible exact LeO.none _)
   | (with_reducible refine LeO.ite ?_ ?_)
   | (with_reducible refine LeO.bind ?_ (fun _ => ?_))
   | exact spec_Pack.mono _ _
   | exact spec_UnpackOne.mono _ _
   | exact LeO.none _
   | refine LeO.ite ?_ ?_
   | refine LeO.bind ?_ (fun _ => ?_)
set_option maxHeartbeats 8000000 in
set_option maxRecDepth 100000 in
theorem spec_FieldOk.calls (k : Nat) (a0 : Int) (r : Bool) (w : World) (h : spec_FieldOk.f k a0 = some r) :
  Calls Try.prog 96 #[.int .u32 a0] w fun e w' => e = .returned (.bool r) ∧ Below w.heap.size w w' := by
 have HB := Z (Below.refl w.heap.size w)
 have H : ((spec_UnpackOne.f k a0).bind fun t291 => ((spec_Pack.f k t291).bind fun t292 => (if (t292.length : Int) = 1 then (if 0 < (t292.length : Int) then (some ((rd t292 0) == a0)) else (none)) else (some false)))) = some r := h
 clear h
 replace H := Option.bind_eq_some_iff.mp H
 obtain ⟨t291, A20, H⟩ := H
 replace H : ((spec_Pack.f k t291).bind fun t292 => (if (t292.length : Int) = 1 then (if 0 < (t292.length : Int) then (some ((rd t292 0) == a0)) else (none)) else (some false))) = some r := H
 have A2 := Aside0.mk A20
 clear A20
 replace H := Option.bind_eq_some_iff.mp H
 obtain ⟨t292, A30, H⟩ := H
 replace H : (if (t292.length : Int) = 1 then (if 0 < (t292.length : Int) then (some ((rd t292 0) == a0)) else (none)) else (some false)) = some r := H
 have A3 := Aside0.mk A30
 clear A30
 by_cases c4 : (t292.length : Int) = 1
 ·rw [if_pos c4] at H
  have c4b0 : ((t292.length : Int) == 1) = true := beq_iff_eq.mpr c4
  have c4b1 : ((t292.length : Int) != 1) = false := bne_eq_false_iff_eq.mpr c4
  clear c4
  by_cases c5 : 0 < (t292.length : Int)
  ·rw [if_pos c5] at H
   have c5b0 : decide (0 < (t292.length : Int)) = true := decide_eq_true c5
   have c5b1 : decide (0 < t292.length) = true := decide_eq_true (by omega)
   clear c5
   obtain rfl := Option.some.inj H
   go_enter Try.func96, Try.ntmps96
   go_wp2_with (first | ((with_reducible refine gate_callee (f := 97) rfl ?_); refine goesL_ (some 5) rfl rfl Try.func97 Z0 rfl #[.int .u32 a0] rfl Z11 ?_; (with_reducible refine (spec_UnpackOne.calls k a0 t291 _ A2.out).mono ?_); rintro e w6 ⟨rfl, hb⟩; refine ⟨_, rfl, ?_⟩; replace HB := Z (below_step Z68 hb); (try clear hb); (try clear hb2); (try clear hk); (try clear hi)) | ((with_reducible refine gate_callee (f := 116) rfl ?_); refine goesL_ (some 6) rfl rfl Try.func116 Z0 rfl #[.string t291] rfl Z11 ?_; (with_reducible refine (spec_Pack.calls k t291 t292 _ A3.out).mono ?_); rintro e w7 ⟨v293, rfl, ho0, hb⟩; refine ⟨_, rfl, ?_⟩; have HO294 := Z (Kd.R_lower ho0 (below_size Z68)); replace HB := Z (below_step Z68 hb); (try clear hb); (try clear hb2); (try clear hk); (try clear hi); (try clear ho0); obtain ⟨Ao8, co8, eo8⟩ := Kd.R_slice HO294.out; subst eo8; have p295 : 0 ≤ (0 : Int) := (by omega); have q295 : 0 < (t292.length : Int) := of_decide_eq_true Z5; obtain ⟨ad295, e295, hx295_0⟩ := Kd.at_int (Kd.R_reads' HO294.out).2.2 0 p295 q295; cases e295; have qi295 : (0 < t292.length) = True := eq_true (by omega); (try rw [show ((0 : Int)).toNat = 0 from rfl] at hx295_0); (try rw [Addr.add_zero'] at hx295_0); replace p295 := eq_true p295; replace q295 := eq_true q295))
   go_ret
   exact ⟨Z13, Z68⟩
  ·rw [if_neg c5] at H
   exact absurd H (by simp)
 ·rw [if_neg c4] at H
  have c4b0 : ((t292.length : Int) == 1) = false := beq_eq_false_iff_ne.mpr c4
  have c4b1 : ((t292.length : Int) != 1) = true := bne_iff_ne.mpr c4
  obtain rfl := Option.some.inj H
  go_enter Try.func96, Try.ntmps96
  go_wp2_with (first | ((with_reducible refine gate_callee (f := 97) rfl ?_); refine goesL_ (some 5) rfl rfl Try.func97 Z0 rfl #[.int .u32 a0] rfl Z11 ?_; (with_reducible refine (spec_UnpackOne.calls k a0 t291 _ A2.out).mono ?_); rintro e w9 ⟨rfl, hb⟩; refine ⟨_, rfl, ?_⟩; replace HB := Z (below_step Z68 hb); (try clear hb); (try clear hb2); (try clear hk); (try clear hi)) | ((with_reducible refine gate_callee (f := 116) rfl ?_); refine goesL_ (some 6) rfl rfl Try.func116 Z0 rfl #[.string t291] rfl Z11 ?_; (with_reducible refine (spec_Pack.calls k t291 t292 _ A3.out).mono ?_); rintro e w10 ⟨v293, rfl, ho0, hb⟩; refine ⟨_, rfl, ?_⟩; have HO294 := Z (Kd.R_lower ho0 (below_size Z68)); replace HB := Z (below_step Z68 hb); (try clear hb); (try clear hb2); (try clear hk); (try clear hi); (try clear ho0); obtain ⟨Ao11, co11, eo11⟩ := Kd.R_slice HO294.out; subst eo11))
  go_ret
  exact ⟨Z13, Z68⟩

end Go.Proofs.Ytkkiibjnpkjijaa.QFnExactItemsOf
