/-
Plain functions for the Go functions that a law reaches, each with a proof that the translation's call comes to just that; no conditions beyond those written in each.
-/
import Derived.Test.YtkkiibjnpkjijaaSFnExactItemsOf
import Derived.Test.YtkkiibjnpkjijaaQFnExactItemsOfx5
import Derived.Test.YtkkiibjnpkjijaaQFnExactItemsOfx7
namespace Go.Proofs.Ytkkiibjnpkjijaa.QFnExactItemsOf
open Go.RowKit Go.Proofs.YtkkiibjnpkjijaaW.PrintWords Go.Proofs.YtkkiibjnpkjijaaW.PrintLast Go.Proofs.YtkkiibjnpkjijaaW.PrintMore
attribute [local go_sem] max2_int min2_int max_two min_two max_three min_three max_four min_four   -- for this text's walks alone
set_option linter.unusedVariables false
set_option linter.unusedSimpArgs false

/-! ### spec_CellsOf: function 83 -/
def spec_CellsOf.j0 : Nat → Bool → Int → ByteArray → Int → Bool → Int → Option (List Int)
 | 0, _, _, _, _, _, _ => none
 | k + 1, x3, x229000, x229001, x229002, x229003, x229004 => if x229000 = 0 then (if x229001.toList = ([] : List UInt8) then (if x229002 = 0 then (if x229003 = true then (some (([] : List Int))) else (some (([x229004] : List Int)))) else (some (([] : List Int)))) else (some (([] : List Int)))) else (if x229000 = 7 then (if x229001.toList = ([] : List UInt8) then (if x229004 = 0 then ((spec_l04Num.f x229002 x229003 8 2).bind fun t241 => (some t241)) else (some (([] : List Int)))) else (some (([] : List Int)))) else (if x229000 = 8 then (if x229001.toList = ([] : List UInt8) then (if x229004 = 0 then ((spec_l04Num.f x229002 x229003 6 5).bind fun t250 => (some t250)) else (some (([] : List Int)))) else (some (([] : List Int)))) else (if x229000 = 9 then ((spec_l04Word.f k 12 x229001).bind fun t259 => (if (t259.length : Int) = 1 then (if x229003 = true then (some (([] : List Int))) else (if x229004 = 0 then (if t259.length < 35184372088832 then (some (t259 ++ [(x229002) % 4294967296])) else (none)) else (some (([] : List Int))))) else (some (([] : List Int))))) else ((spec_l04Tag.f x229000).bind fun t274 => (if t274 > 0 then (if x3 = true then ((spec_l04Word.f k t274 x229001).bind fun t275 => (some t275)) else (some (([] : List Int)))) else (some (([] : List Int))))))))
def spec_CellsOf.f (k : Nat) (a0_0 : Int) (a0_1 : ByteArray) (a0_2 : Int) (a0_3 : Bool) (a0_4 : Int) : Option (List Int) := if a0_2 = 0 then (if a0_3 = true then (spec_CellsOf.j0 k false a0_0 a0_1 a0_2 a0_3 a0_4) else (spec_CellsOf.j0 k (a0_4 == 0) a0_0 a0_1 a0_2 a0_3 a0_4)) else (spec_CellsOf.j0 k false a0_0 a0_1 a0_2 a0_3 a0_4)
theorem spec_CellsOf.mono_l : ∀ k, (∀ y0 y1 y2 y3 y4 y5, LeO (spec_CellsOf.j0 k y0 y1 y2 y3 y4 y5) (spec_CellsOf.j0 (k + 1) y0 y1 y2 y3 y4 y5))
 | 0 => fun _ _ _ _ _ _ r h => by simp [spec_CellsOf.j0] at h
 | k + 1 => by
  have ih0 := spec_CellsOf.mono_l k
  ·intro y0 y1 y2 y3 y4 y5
   unfold spec_CellsOf.j0
   repeat' first
   | (with_reducible exact ih0 _ _ _ _ _ _)
   | (with_reducible exact spec_l04Word.mono _ _ _)
   | (with_reducible exact LeO.refl _)
   | (with_reducible exact LeO.none _)
   | (with_reducible refine LeO.ite ?_ ?_)
   | (with_reducible refine LeO.bind ?_ (fun _ => ?_))
   | exact ih0 _ _ _ _ _ _
   | exact spec_l04Word.mono _ _ _
   | exact LeO.none _
   | refine LeO.ite ?_ ?_
   | refine LeO.bind ?_ (fun _ => ?_)
theorem spec_CellsOf.mono : ∀ a0 a1 a2 a3 a4 k, LeO (spec_CellsOf.f k a0 a1 a2 a3 a4) (spec_CellsOf.f (k + 1) a0 a1 a2 a3 a4) := by
 intro a0 a1 a2 a3 a4 k
 have ih0 := spec_CellsOf.mono_l k
 unfold spec_CellsOf.f
 repeat' first
   | (with_reducible exact ih0 _ _ _ _ _ _)
   | (with_reducible exact spec_l04Word.mono _ _ _)
   | (with_reducible exact LeO.refl _)
   | (with_reducible exact LeO.none _)
   | (with_reducible refine LeO.ite ?_ ?_)
   | (with_reducible refine LeO.bind ?_ (fun _ => ?_))
   | exact ih0 _ _ _ _ _ _
   | exact spec_l04Word.mono _ _ _
   | exact LeO.none _
   | refine LeO.ite ?_ ?_
   | refine LeO.bind ?_ (fun _ => ?_)
set_option maxHeartbeats 8000000 in
set_option maxRecDepth 100000 in
theorem spec_CellsOf.calls (k : Nat) (a0_0 : Int) (a0_1 : ByteArray) (a0_2 : Int) (a0_3 : Bool) (a0_4 : Int) (r : List Int) (w : World) (h : spec_CellsOf.f k a0_0 a0_1 a0_2 a0_3 a0_4 = some r) :
  Calls Try.prog 83 #[.agg #[.int .i64 a0_0, .string a0_1, .int .i32 a0_2, .bool a0_3, .int .u32 a0_4]] w fun e w' => ∃ v0_ : Value, e = .returned (v0_) ∧ Kd.R (Kd.int .u32) 47 w' w.heap.size (fun _ => True) v0_ r ∧ Below w.heap.size w w' := by
 have hu51 := Try.underlying51
 have HB := Z (Below.refl w.heap.size w)
 have H : (if a0_2 = 0 then (if a0_3 = true then (spec_CellsOf.j0 k false a0_0 a0_1 a0_2 a0_3 a0_4) else (spec_CellsOf.j0 k (a0_4 == 0) a0_0 a0_1 a0_2 a0_3 a0_4)) else (spec_CellsOf.j0 k false a0_0 a0_1 a0_2 a0_3 a0_4)) = some r := h
 clear h
 have HC2 := Aside0.mk H
 clear H
 go_enter Try.func83, Try.ntmps83
 go_upto_region 1 with (first | ((with_reducible refine gate_dst (N := 1) rfl ?_); refine box_event (by rfl) (N := 1) (by rfl) (cs := #[.int .i64 a0_0, .string a0_1, .int .i32 a0_2, .bool a0_3, .int .u32 a0_4]) (t := 51) Z8 ?_; intro gb228 hg w3 hbox hb; have BK228 := Z (hbox); have GW228 := Z ((Z85 : w.heap.size ≤ gb228)); have GE228 := Z ((Z85 : w.heap.size ≤ gb228)); replace HB := Z (below_step Z68 hb); clear hb hbox hg))
 (try simp only [Act.put, List.setIfInBounds_toArray, List.set_cons_zero, List.set_cons_succ])
 go_cut [3] (fun v3 wc => ∃ (kq : Nat) (x3_1 : Bool), v3 = .bool x3_1 ∧ Aside0 (spec_CellsOf.j0 kq x3_1 a0_0 a0_1 a0_2 a0_3 a0_4 = some r) ∧ Aside0 (kq ≤ k) ∧ Aside0 (wc.heap[gb228]? = some (.cells #[.int .i64 a0_0, .string a0_1, .int .i32 a0_2, .bool a0_3, .int .u32 a0_4] 51 (0, 0))) ∧ Aside0 (Below w.heap.size w wc))
 case first =>
  have H := HC2.out
  clear HC2
  by_cases c4 : a0_2 = 0
  ·rw [if_pos c4] at H
   have c4b0 : (a0_2 == 0) = true := beq_iff_eq.mpr c4
   have c4b1 : (a0_2 != 0) = false := bne_eq_false_iff_eq.mpr c4
   clear c4
   (first | rw [c4b0] | (simp only [i64_w, i32_w]; rw [c4b0]) | skip)
   by_cases c5 : a0_3 = true
   ·subst c5
    have H1 : (spec_CellsOf.j0 k false a0_0 a0_1 a0_2 true a0_4) = some r := Z7
    clear H
    have H := H1
    clear H1
    have H' := Aside0.mk H
    clear H
    have hcz6_0 : w3.cell? ⟨gb228, 0, none⟩ = some (.int .i64 a0_0) := (blk_cell BK228.out 0).trans rfl
    have hcz6_1 : w3.cell? ⟨gb228, 1, none⟩ = some (.string a0_1) := (blk_cell BK228.out 1).trans rfl
    have hcz6_2 : w3.cell? ⟨gb228, 2, none⟩ = some (.int .i32 a0_2) := (blk_cell BK228.out 2).trans rfl
    have hcz6_3 : w3.cell? ⟨gb228, 3, none⟩ = some (.bool true) := (blk_cell BK228.out 3).trans rfl
    have hcz6_4 : w3.cell? ⟨gb228, 4, none⟩ = some (.int .u32 a0_4) := (blk_cell BK228.out 4).trans rfl
    have hfz6_0 := blk_frozen BK228.out 0
    have hfz6_1 := blk_frozen BK228.out 1
    have hfz6_2 := blk_frozen BK228.out 2
    have hfz6_3 := blk_frozen BK228.out 3
    have hfz6_4 := blk_frozen BK228.out 4
    go_wp2
    go_meet
    case rel => exact ⟨_, (false), Z3, H', ⟨Z24⟩, ⟨(Z10 BK228)⟩, ⟨Z68⟩⟩
   ·replace c5 := Bool.eq_false_iff.mpr c5
    subst c5
    have H1 : (spec_CellsOf.j0 k (a0_4 == 0) a0_0 a0_1 a0_2 false a0_4) = some r := by rw [if_neg (show ¬ (false = true) by decide)] at H; exact H
    clear H
    have H := H1
    clear H1
    have H' := Aside0.mk H
    clear H
    have hcz7_0 : w3.cell? ⟨gb228, 0, none⟩ = some (.int .i64 a0_0) := (blk_cell BK228.out 0).trans rfl
    have hcz7_1 : w3.cell? ⟨gb228, 1, none⟩ = some (.string a0_1) := (blk_cell BK228.out 1).trans rfl
    have hcz7_2 : w3.cell? ⟨gb228, 2, none⟩ = some (.int .i32 a0_2) := (blk_cell BK228.out 2).trans rfl
    have hcz7_3 : w3.cell? ⟨gb228, 3, none⟩ = some (.bool false) := (blk_cell BK228.out 3).trans rfl
    have hcz7_4 : w3.cell? ⟨gb228, 4, none⟩ = some (.int .u32 a0_4) := (blk_cell BK228.out 4).trans rfl
    have hfz7_0 := blk_frozen BK228.out 0
    have hfz7_1 := blk_frozen BK228.out 1
    have hfz7_2 := blk_frozen BK228.out 2
    have hfz7_3 := blk_frozen BK228.out 3
    have hfz7_4 := blk_frozen BK228.out 4
    go_wp2
    go_meet
    case rel => exact ⟨_, ((a0_4 == 0)), Z3, H', ⟨Z24⟩, ⟨(Z10 BK228)⟩, ⟨Z68⟩⟩
  ·rw [if_neg c4] at H
   have c4b0 : (a0_2 == 0) = false := beq_eq_false_iff_ne.mpr c4
   have c4b1 : (a0_2 != 0) = true := bne_iff_ne.mpr c4
   (first | rw [c4b0] | (simp only [i64_w, i32_w]; rw [c4b0]) | skip)
   have H' := Aside0.mk H
   clear H
   have hcz8_0 : w3.cell? ⟨gb228, 0, none⟩ = some (.int .i64 a0_0) := (blk_cell BK228.out 0).trans rfl
   have hcz8_1 : w3.cell? ⟨gb228, 1, none⟩ = some (.string a0_1) := (blk_cell BK228.out 1).trans rfl
   have hcz8_2 : w3.cell? ⟨gb228, 2, none⟩ = some (.int .i32 a0_2) := (blk_cell BK228.out 2).trans rfl
   have hcz8_3 : w3.cell? ⟨gb228, 3, none⟩ = some (.bool a0_3) := (blk_cell BK228.out 3).trans rfl
   have hcz8_4 : w3.cell? ⟨gb228, 4, none⟩ = some (.int .u32 a0_4) := (blk_cell BK228.out 4).trans rfl
   have hfz8_0 := blk_frozen BK228.out 0
   have hfz8_1 := blk_frozen BK228.out 1
   have hfz8_2 := blk_frozen BK228.out 2
   have hfz8_3 := blk_frozen BK228.out 3
   have hfz8_4 := blk_frozen BK228.out 4
   go_wp2
   go_meet
   case rel => exact ⟨_, (false), Z3, H', ⟨Z24⟩, ⟨(Z10 BK228)⟩, ⟨Z68⟩⟩
 case rest =>
  clear HC2
  try clear p2
  try clear c4
  try clear c4b0
  try clear c4b1
  try clear c5
  try clear c8
  try clear hcz6_0
  try clear hcz6_1
  try clear hcz6_2
  try clear hcz6_3
  try clear hcz6_4
  try clear hcz7_0
  try clear hcz7_1
  try clear hcz7_2
  try clear hcz7_3
  try clear hcz7_4
  try clear hcz8_0
  try clear hcz8_1
  try clear hcz8_2
  try clear hcz8_3
  try clear hcz8_4
  try clear hfz6_0
  try clear hfz6_1
  try clear hfz6_2
  try clear hfz6_3
  try clear hfz6_4
  try clear hfz7_0
  try clear hfz7_1
  try clear hfz7_2
  try clear hfz7_3
  try clear hfz7_4
  try clear hfz8_0
  try clear hfz8_1
  try clear hfz8_2
  try clear hfz8_3
  try clear hfz8_4
  obtain ⟨kq, x3_1, rfl, HA, HJ1, BK228, HB⟩ := hcut
  cases kq with
  | zero => exact absurd HA.out (by simp [spec_CellsOf.j0])
  | succ kj1 =>
   have H := HA.out
   clear HA
   simp only [spec_CellsOf.j0] at H
   by_cases c9 : a0_0 = 0
   ·rw [if_pos c9] at H
    have c9b0 : (a0_0 == 0) = true := beq_iff_eq.mpr c9
    have c9b1 : (a0_0 != 0) = false := bne_eq_false_iff_eq.mpr c9
    clear c9
    by_cases c10 : a0_1.toList = ([] : List UInt8)
    ·rw [if_pos c10] at H
     have c10b0 : (a0_1.toList == ([] : List UInt8)) = true := beq_iff_eq.mpr c10
     have c10b1 : (a0_1.toList != ([] : List UInt8)) = false := bne_eq_false_iff_eq.mpr c10
     clear c10
     by_cases c11 : a0_2 = 0
     ·rw [if_pos c11] at H
      have c11b0 : (a0_2 == 0) = true := beq_iff_eq.mpr c11
      have c11b1 : (a0_2 != 0) = false := bne_eq_false_iff_eq.mpr c11
      clear c11
      by_cases c12 : a0_3 = true
      ·subst c12
       have H1 : (some (([] : List Int))) = some r := Z7
       clear H
       have H := H1
       clear H1
       obtain ⟨y229, hy229⟩ : ∃ y_ : List Int, y_ = (([] : List Int)) := ⟨_, rfl⟩
       replace H : (some y229) = some r := by first | (rw [hy229]; with_reducible exact H) | (have H2_ := (Option.bind_some _ _).symm.trans H; rw [hy229]; with_reducible exact H2_) | (have H2_ := (Option.bind_some _ _).symm.trans H; with_reducible exact H2_) | with_reducible exact H | (rw [hy229]; exact H) | exact H
       have Ny229 := Aside0.mk hy229
       clear hy229
       obtain rfl := Option.some.inj H
       have hcz13_0 : wc.cell? ⟨gb228, 0, none⟩ = some (.int .i64 a0_0) := (blk_cell BK228.out 0).trans rfl
       have hcz13_1 : wc.cell? ⟨gb228, 1, none⟩ = some (.string a0_1) := (blk_cell BK228.out 1).trans rfl
       have hcz13_2 : wc.cell? ⟨gb228, 2, none⟩ = some (.int .i32 a0_2) := (blk_cell BK228.out 2).trans rfl
       have hcz13_3 : wc.cell? ⟨gb228, 3, none⟩ = some (.bool true) := (blk_cell BK228.out 3).trans rfl
       have hcz13_4 : wc.cell? ⟨gb228, 4, none⟩ = some (.int .u32 a0_4) := (blk_cell BK228.out 4).trans rfl
       have hfz13_0 := blk_frozen BK228.out 0
       have hfz13_1 := blk_frozen BK228.out 1
       have hfz13_2 := blk_frozen BK228.out 2
       have hfz13_3 := blk_frozen BK228.out 3
       have hfz13_4 := blk_frozen BK228.out 4
       go_wp2_with (first | ((with_reducible refine gate_dst (N := 105) rfl ?_); refine Kd.R_lit (Kd.int .u32) _ 47 (by rfl) (N := 105) (by rfl) (xs := ([] : List Int)) (inner := []) (ok := fun _ => True) (okp := fun _ => True) Z8 (Reps.none _ _) (fun _ hk => hk) trivial (Below.refl _ _) (Nat.le_refl _) (by simp) ?_; intro v230 w14 ho15 hb hg_ hnew_; clear hg_ hnew_; (first | rw [← Ny229.out] at ho15 | (simp only [Int.reduceToNat] at ho15; rw [← Ny229.out] at ho15)); have HO231 := Z (Kd.R_lower ho15 (below_size Z68)); replace BK228 := Z (blk_below (g := gb228) (o := .cells #[.int .i64 a0_0, .string a0_1, .int .i32 a0_2, .bool true, .int .u32 a0_4] 51 (0, 0)) (Z10 BK228) hb); replace HB := Z (below_step Z68 hb); clear hb ho15))
       go_ret
       exact ⟨_, Z13, (Z14 HO231), Z68⟩
      ·replace c12 := Bool.eq_false_iff.mpr c12
       subst c12
       have H1 : (some (([a0_4] : List Int))) = some r := by rw [if_neg (show ¬ (false = true) by decide)] at H; exact H
       clear H
       have H := H1
       clear H1
       obtain ⟨y232, hy232⟩ : ∃ y_ : List Int, y_ = (([a0_4] : List Int)) := ⟨_, rfl⟩
       replace H : (some y232) = some r := by first | (rw [hy232]; with_reducible exact H) | (have H2_ := (Option.bind_some _ _).symm.trans H; rw [hy232]; with_reducible exact H2_) | (have H2_ := (Option.bind_some _ _).symm.trans H; with_reducible exact H2_) | with_reducible exact H | (rw [hy232]; exact H) | exact H
       have Ny232 := Aside0.mk hy232
       clear hy232
       obtain rfl := Option.some.inj H
       have hcz16_0 : wc.cell? ⟨gb228, 0, none⟩ = some (.int .i64 a0_0) := (blk_cell BK228.out 0).trans rfl
       have hcz16_1 : wc.cell? ⟨gb228, 1, none⟩ = some (.string a0_1) := (blk_cell BK228.out 1).trans rfl
       have hcz16_2 : wc.cell? ⟨gb228, 2, none⟩ = some (.int .i32 a0_2) := (blk_cell BK228.out 2).trans rfl
       have hcz16_3 : wc.cell? ⟨gb228, 3, none⟩ = some (.bool false) := (blk_cell BK228.out 3).trans rfl
       have hcz16_4 : wc.cell? ⟨gb228, 4, none⟩ = some (.int .u32 a0_4) := (blk_cell BK228.out 4).trans rfl
       have hfz16_0 := blk_frozen BK228.out 0
       have hfz16_1 := blk_frozen BK228.out 1
       have hfz16_2 := blk_frozen BK228.out 2
       have hfz16_3 := blk_frozen BK228.out 3
       have hfz16_4 := blk_frozen BK228.out 4
       go_wp2_with (first | ((with_reducible refine gate_dst (N := 50) rfl ?_); refine Kd.R_lit (Kd.int .u32) _ 47 (by rfl) (N := 50) (by rfl) (xs := ([a0_4] : List Int)) (inner := [.int .u32 a0_4]) (ok := fun _ => True) (okp := fun _ => True) Z8 (Reps.one (show Kd.M (Kd.int .u32) _ _ _ a0_4 [.int .u32 a0_4] from rfl) (Reps.none _ _)) (fun _ hk => hk) trivial (Below.refl _ _) (Nat.le_refl _) (by simp) ?_; intro v233 w17 ho18 hb hg_ hnew_; clear hg_ hnew_; (first | rw [← Ny232.out] at ho18 | (simp only [Int.reduceToNat] at ho18; rw [← Ny232.out] at ho18)); have HO234 := Z (Kd.R_lower ho18 (below_size Z68)); replace BK228 := Z (blk_below (g := gb228) (o := .cells #[.int .i64 a0_0, .string a0_1, .int .i32 a0_2, .bool false, .int .u32 a0_4] 51 (0, 0)) (Z10 BK228) hb); replace HB := Z (below_step Z68 hb); clear hb ho18))
       go_ret
       exact ⟨_, Z13, (Z14 HO234), Z68⟩
     ·rw [if_neg c11] at H
      have c11b0 : (a0_2 == 0) = false := beq_eq_false_iff_ne.mpr c11
      have c11b1 : (a0_2 != 0) = true := bne_iff_ne.mpr c11
      obtain ⟨y235, hy235⟩ : ∃ y_ : List Int, y_ = (([] : List Int)) := ⟨_, rfl⟩
      replace H : (some y235) = some r := by first | (rw [hy235]; with_reducible exact H) | (have H2_ := (Option.bind_some _ _).symm.trans H; rw [hy235]; with_reducible exact H2_) | (have H2_ := (Option.bind_some _ _).symm.trans H; with_reducible exact H2_) | with_reducible exact H | (rw [hy235]; exact H) | exact H
      have Ny235 := Aside0.mk hy235
      clear hy235
      obtain rfl := Option.some.inj H
      have hcz19_0 : wc.cell? ⟨gb228, 0, none⟩ = some (.int .i64 a0_0) := (blk_cell BK228.out 0).trans rfl
      have hcz19_1 : wc.cell? ⟨gb228, 1, none⟩ = some (.string a0_1) := (blk_cell BK228.out 1).trans rfl
      have hcz19_2 : wc.cell? ⟨gb228, 2, none⟩ = some (.int .i32 a0_2) := (blk_cell BK228.out 2).trans rfl
      have hcz19_3 : wc.cell? ⟨gb228, 3, none⟩ = some (.bool a0_3) := (blk_cell BK228.out 3).trans rfl
      have hcz19_4 : wc.cell? ⟨gb228, 4, none⟩ = some (.int .u32 a0_4) := (blk_cell BK228.out 4).trans rfl
      have hfz19_0 := blk_frozen BK228.out 0
      have hfz19_1 := blk_frozen BK228.out 1
      have hfz19_2 := blk_frozen BK228.out 2
      have hfz19_3 := blk_frozen BK228.out 3
      have hfz19_4 := blk_frozen BK228.out 4
      go_wp2_with (first | ((with_reducible refine gate_dst (N := 105) rfl ?_); refine Kd.R_lit (Kd.int .u32) _ 47 (by rfl) (N := 105) (by rfl) (xs := ([] : List Int)) (inner := []) (ok := fun _ => True) (okp := fun _ => True) Z8 (Reps.none _ _) (fun _ hk => hk) trivial (Below.refl _ _) (Nat.le_refl _) (by simp) ?_; intro v236 w20 ho21 hb hg_ hnew_; clear hg_ hnew_; (first | rw [← Ny235.out] at ho21 | (simp only [Int.reduceToNat] at ho21; rw [← Ny235.out] at ho21)); have HO237 := Z (Kd.R_lower ho21 (below_size Z68)); replace BK228 := Z (blk_below (g := gb228) (o := .cells #[.int .i64 a0_0, .string a0_1, .int .i32 a0_2, .bool a0_3, .int .u32 a0_4] 51 (0, 0)) (Z10 BK228) hb); replace HB := Z (below_step Z68 hb); clear hb ho21))
      go_ret
      exact ⟨_, Z13, (Z14 HO237), Z68⟩
    ·rw [if_neg c10] at H
     have c10b0 : (a0_1.toList == ([] : List UInt8)) = false := beq_eq_false_iff_ne.mpr c10
     have c10b1 : (a0_1.toList != ([] : List UInt8)) = true := bne_iff_ne.mpr c10
     obtain ⟨y238, hy238⟩ : ∃ y_ : List Int, y_ = (([] : List Int)) := ⟨_, rfl⟩
     replace H : (some y238) = some r := by first | (rw [hy238]; with_reducible exact H) | (have H2_ := (Option.bind_some _ _).symm.trans H; rw [hy238]; with_reducible exact H2_) | (have H2_ := (Option.bind_some _ _).symm.trans H; with_reducible exact H2_) | with_reducible exact H | (rw [hy238]; exact H) | exact H
     have Ny238 := Aside0.mk hy238
     clear hy238
     obtain rfl := Option.some.inj H
     have hcz22_0 : wc.cell? ⟨gb228, 0, none⟩ = some (.int .i64 a0_0) := (blk_cell BK228.out 0).trans rfl
     have hcz22_1 : wc.cell? ⟨gb228, 1, none⟩ = some (.string a0_1) := (blk_cell BK228.out 1).trans rfl
     have hcz22_2 : wc.cell? ⟨gb228, 2, none⟩ = some (.int .i32 a0_2) := (blk_cell BK228.out 2).trans rfl
     have hcz22_3 : wc.cell? ⟨gb228, 3, none⟩ = some (.bool a0_3) := (blk_cell BK228.out 3).trans rfl
     have hcz22_4 : wc.cell? ⟨gb228, 4, none⟩ = some (.int .u32 a0_4) := (blk_cell BK228.out 4).trans rfl
     have hfz22_0 := blk_frozen BK228.out 0
     have hfz22_1 := blk_frozen BK228.out 1
     have hfz22_2 := blk_frozen BK228.out 2
     have hfz22_3 := blk_frozen BK228.out 3
     have hfz22_4 := blk_frozen BK228.out 4
     go_wp2_with (first | ((with_reducible refine gate_dst (N := 105) rfl ?_); refine Kd.R_lit (Kd.int .u32) _ 47 (by rfl) (N := 105) (by rfl) (xs := ([] : List Int)) (inner := []) (ok := fun _ => True) (okp := fun _ => True) Z8 (Reps.none _ _) (fun _ hk => hk) trivial (Below.refl _ _) (Nat.le_refl _) (by simp) ?_; intro v239 w23 ho24 hb hg_ hnew_; clear hg_ hnew_; (first | rw [← Ny238.out] at ho24 | (simp only [Int.reduceToNat] at ho24; rw [← Ny238.out] at ho24)); have HO240 := Z (Kd.R_lower ho24 (below_size Z68)); replace BK228 := Z (blk_below (g := gb228) (o := .cells #[.int .i64 a0_0, .string a0_1, .int .i32 a0_2, .bool a0_3, .int .u32 a0_4] 51 (0, 0)) (Z10 BK228) hb); replace HB := Z (below_step Z68 hb); clear hb ho24))
     go_ret
     exact ⟨_, Z13, (Z14 HO240), Z68⟩
   ·rw [if_neg c9] at H
    have c9b0 : (a0_0 == 0) = false := beq_eq_false_iff_ne.mpr c9
    have c9b1 : (a0_0 != 0) = true := bne_iff_ne.mpr c9
    by_cases c25 : a0_0 = 7
    ·rw [if_pos c25] at H
     have c25b0 : (a0_0 == 7) = true := beq_iff_eq.mpr c25
     have c25b1 : (a0_0 != 7) = false := bne_eq_false_iff_eq.mpr c25
     clear c25
     by_cases c26 : a0_1.toList = ([] : List UInt8)
     ·rw [if_pos c26] at H
      have c26b0 : (a0_1.toList == ([] : List UInt8)) = true := beq_iff_eq.mpr c26
      have c26b1 : (a0_1.toList != ([] : List UInt8)) = false := bne_eq_false_iff_eq.mpr c26
      clear c26
      by_cases c27 : a0_4 = 0
      ·rw [if_pos c27] at H
       have c27b0 : (a0_4 == 0) = true := beq_iff_eq.mpr c27
       have c27b1 : (a0_4 != 0) = false := bne_eq_false_iff_eq.mpr c27
       clear c27
       replace H := Option.bind_eq_some_iff.mp H
       obtain ⟨t241, A280, H⟩ := H
       replace H : (some t241) = some r := H
       have A28 := Aside0.mk A280
       clear A280
       obtain rfl := Option.some.inj H
       have hcz29_0 : wc.cell? ⟨gb228, 0, none⟩ = some (.int .i64 a0_0) := (blk_cell BK228.out 0).trans rfl
       have hcz29_1 : wc.cell? ⟨gb228, 1, none⟩ = some (.string a0_1) := (blk_cell BK228.out 1).trans rfl
       have hcz29_2 : wc.cell? ⟨gb228, 2, none⟩ = some (.int .i32 a0_2) := (blk_cell BK228.out 2).trans rfl
       have hcz29_3 : wc.cell? ⟨gb228, 3, none⟩ = some (.bool a0_3) := (blk_cell BK228.out 3).trans rfl
       have hcz29_4 : wc.cell? ⟨gb228, 4, none⟩ = some (.int .u32 a0_4) := (blk_cell BK228.out 4).trans rfl
       have hfz29_0 := blk_frozen BK228.out 0
       have hfz29_1 := blk_frozen BK228.out 1
       have hfz29_2 := blk_frozen BK228.out 2
       have hfz29_3 := blk_frozen BK228.out 3
       have hfz29_4 := blk_frozen BK228.out 4
       go_wp2_with (first | ((with_reducible refine gate_callee (f := 108) rfl ?_); refine goesL_ (some 65) rfl rfl Try.func108 Z0 rfl #[.int .i32 a0_2, .bool a0_3, .int .u32 8, .int .u32 2] rfl Z11 ?_; (with_reducible refine (spec_l04Num.calls a0_2 a0_3 8 2 t241 _ A28.out).mono ?_); rintro e w30 ⟨v242, rfl, ho0, hb⟩; refine ⟨_, rfl, ?_⟩; have HO243 := Z (Kd.R_lower ho0 (below_size Z68)); replace BK228 := Z (blk_below (g := gb228) (o := .cells #[.int .i64 a0_0, .string a0_1, .int .i32 a0_2, .bool a0_3, .int .u32 a0_4] 51 (0, 0)) (Z10 BK228) hb); replace HB := Z (below_step Z68 hb); (try clear hb); (try clear hb2); (try clear hk); (try clear hi); (try clear ho0)))
       go_ret
       exact ⟨_, Z13, (Z14 HO243), Z68⟩
      ·rw [if_neg c27] at H
       have c27b0 : (a0_4 == 0) = false := beq_eq_false_iff_ne.mpr c27
       have c27b1 : (a0_4 != 0) = true := bne_iff_ne.mpr c27
       obtain ⟨y244, hy244⟩ : ∃ y_ : List Int, y_ = (([] : List Int)) := ⟨_, rfl⟩
       replace H : (some y244) = some r := by first | (rw [hy244]; with_reducible exact H) | (have H2_ := (Option.bind_some _ _).symm.trans H; rw [hy244]; with_reducible exact H2_) | (have H2_ := (Option.bind_some _ _).symm.trans H; with_reducible exact H2_) | with_reducible exact H | (rw [hy244]; exact H) | exact H
       have Ny244 := Aside0.mk hy244
       clear hy244
       obtain rfl := Option.some.inj H
       have hcz31_0 : wc.cell? ⟨gb228, 0, none⟩ = some (.int .i64 a0_0) := (blk_cell BK228.out 0).trans rfl
       have hcz31_1 : wc.cell? ⟨gb228, 1, none⟩ = some (.string a0_1) := (blk_cell BK228.out 1).trans rfl
       have hcz31_2 : wc.cell? ⟨gb228, 2, none⟩ = some (.int .i32 a0_2) := (blk_cell BK228.out 2).trans rfl
       have hcz31_3 : wc.cell? ⟨gb228, 3, none⟩ = some (.bool a0_3) := (blk_cell BK228.out 3).trans rfl
       have hcz31_4 : wc.cell? ⟨gb228, 4, none⟩ = some (.int .u32 a0_4) := (blk_cell BK228.out 4).trans rfl
       have hfz31_0 := blk_frozen BK228.out 0
       have hfz31_1 := blk_frozen BK228.out 1
       have hfz31_2 := blk_frozen BK228.out 2
       have hfz31_3 := blk_frozen BK228.out 3
       have hfz31_4 := blk_frozen BK228.out 4
       go_wp2_with (first | ((with_reducible refine gate_dst (N := 105) rfl ?_); refine Kd.R_lit (Kd.int .u32) _ 47 (by rfl) (N := 105) (by rfl) (xs := ([] : List Int)) (inner := []) (ok := fun _ => True) (okp := fun _ => True) Z8 (Reps.none _ _) (fun _ hk => hk) trivial (Below.refl _ _) (Nat.le_refl _) (by simp) ?_; intro v245 w32 ho33 hb hg_ hnew_; clear hg_ hnew_; (first | rw [← Ny244.out] at ho33 | (simp only [Int.reduceToNat] at ho33; rw [← Ny244.out] at ho33)); have HO246 := Z (Kd.R_lower ho33 (below_size Z68)); replace BK228 := Z (blk_below (g := gb228) (o := .cells #[.int .i64 a0_0, .string a0_1, .int .i32 a0_2, .bool a0_3, .int .u32 a0_4] 51 (0, 0)) (Z10 BK228) hb); replace HB := Z (below_step Z68 hb); clear hb ho33))
       go_ret
       exact ⟨_, Z13, (Z14 HO246), Z68⟩
     ·rw [if_neg c26] at H
      have c26b0 : (a0_1.toList == ([] : List UInt8)) = false := beq_eq_false_iff_ne.mpr c26
      have c26b1 : (a0_1.toList != ([] : List UInt8)) = true := bne_iff_ne.mpr c26
      obtain ⟨y247, hy247⟩ : ∃ y_ : List Int, y_ = (([] : List Int)) := ⟨_, rfl⟩
      replace H : (some y247) = some r := by first | (rw [hy247]; with_reducible exact H) | (have H2_ := (Option.bind_some _ _).symm.trans H; rw [hy247]; with_reducible exact H2_) | (have H2_ := (Option.bind_some _ _).symm.trans H; with_reducible exact H2_) | with_reducible exact H | (rw [hy247]; exact H) | exact H
      have Ny247 := Aside0.mk hy247
      clear hy247
      obtain rfl := Option.some.inj H
      have hcz34_0 : wc.cell? ⟨gb228, 0, none⟩ = some (.int .i64 a0_0) := (blk_cell BK228.out 0).trans rfl
      have hcz34_1 : wc.cell? ⟨gb228, 1, none⟩ = some (.string a0_1) := (blk_cell BK228.out 1).trans rfl
      have hcz34_2 : wc.cell? ⟨gb228, 2, none⟩ = some (.int .i32 a0_2) := (blk_cell BK228.out 2).trans rfl
      have hcz34_3 : wc.cell? ⟨gb228, 3, none⟩ = some (.bool a0_3) := (blk_cell BK228.out 3).trans rfl
      have hcz34_4 : wc.cell? ⟨gb228, 4, none⟩ = some (.int .u32 a0_4) := (blk_cell BK228.out 4).trans rfl
      have hfz34_0 := blk_frozen BK228.out 0
      have hfz34_1 := blk_frozen BK228.out 1
      have hfz34_2 := blk_frozen BK228.out 2
      have hfz34_3 := blk_frozen BK228.out 3
      have hfz34_4 := blk_frozen BK228.out 4
      go_wp2_with (first | ((with_reducible refine gate_dst (N := 105) rfl ?_); refine Kd.R_lit (Kd.int .u32) _ 47 (by rfl) (N := 105) (by rfl) (xs := ([] : List Int)) (inner := []) (ok := fun _ => True) (okp := fun _ => True) Z8 (Reps.none _ _) (fun _ hk => hk) trivial (Below.refl _ _) (Nat.le_refl _) (by simp) ?_; intro v248 w35 ho36 hb hg_ hnew_; clear hg_ hnew_; (first | rw [← Ny247.out] at ho36 | (simp only [Int.reduceToNat] at ho36; rw [← Ny247.out] at ho36)); have HO249 := Z (Kd.R_lower ho36 (below_size Z68)); replace BK228 := Z (blk_below (g := gb228) (o := .cells #[.int .i64 a0_0, .string a0_1, .int .i32 a0_2, .bool a0_3, .int .u32 a0_4] 51 (0, 0)) (Z10 BK228) hb); replace HB := Z (below_step Z68 hb); clear hb ho36))
      go_ret
      exact ⟨_, Z13, (Z14 HO249), Z68⟩
    ·rw [if_neg c25] at H
     have c25b0 : (a0_0 == 7) = false := beq_eq_false_iff_ne.mpr c25
     have c25b1 : (a0_0 != 7) = true := bne_iff_ne.mpr c25
     by_cases c37 : a0_0 = 8
     ·rw [if_pos c37] at H
      have c37b0 : (a0_0 == 8) = true := beq_iff_eq.mpr c37
      have c37b1 : (a0_0 != 8) = false := bne_eq_false_iff_eq.mpr c37
      clear c37
      by_cases c38 : a0_1.toList = ([] : List UInt8)
      ·rw [if_pos c38] at H
       have c38b0 : (a0_1.toList == ([] : List UInt8)) = true := beq_iff_eq.mpr c38
       have c38b1 : (a0_1.toList != ([] : List UInt8)) = false := bne_eq_false_iff_eq.mpr c38
       clear c38
       by_cases c39 : a0_4 = 0
       ·rw [if_pos c39] at H
        have c39b0 : (a0_4 == 0) = true := beq_iff_eq.mpr c39
        have c39b1 : (a0_4 != 0) = false := bne_eq_false_iff_eq.mpr c39
        clear c39
        replace H := Option.bind_eq_some_iff.mp H
        obtain ⟨t250, A400, H⟩ := H
        replace H : (some t250) = some r := H
        have A40 := Aside0.mk A400
        clear A400
        obtain rfl := Option.some.inj H
        have hcz41_0 : wc.cell? ⟨gb228, 0, none⟩ = some (.int .i64 a0_0) := (blk_cell BK228.out 0).trans rfl
        have hcz41_1 : wc.cell? ⟨gb228, 1, none⟩ = some (.string a0_1) := (blk_cell BK228.out 1).trans rfl
        have hcz41_2 : wc.cell? ⟨gb228, 2, none⟩ = some (.int .i32 a0_2) := (blk_cell BK228.out 2).trans rfl
        have hcz41_3 : wc.cell? ⟨gb228, 3, none⟩ = some (.bool a0_3) := (blk_cell BK228.out 3).trans rfl
        have hcz41_4 : wc.cell? ⟨gb228, 4, none⟩ = some (.int .u32 a0_4) := (blk_cell BK228.out 4).trans rfl
        have hfz41_0 := blk_frozen BK228.out 0
        have hfz41_1 := blk_frozen BK228.out 1
        have hfz41_2 := blk_frozen BK228.out 2
        have hfz41_3 := blk_frozen BK228.out 3
        have hfz41_4 := blk_frozen BK228.out 4
        go_wp2_with (first | ((with_reducible refine gate_callee (f := 108) rfl ?_); refine goesL_ (some 80) rfl rfl Try.func108 Z0 rfl #[.int .i32 a0_2, .bool a0_3, .int .u32 6, .int .u32 5] rfl Z11 ?_; (with_reducible refine (spec_l04Num.calls a0_2 a0_3 6 5 t250 _ A40.out).mono ?_); rintro e w42 ⟨v251, rfl, ho0, hb⟩; refine ⟨_, rfl, ?_⟩; have HO252 := Z (Kd.R_lower ho0 (below_size Z68)); replace BK228 := Z (blk_below (g := gb228) (o := .cells #[.int .i64 a0_0, .string a0_1, .int .i32 a0_2, .bool a0_3, .int .u32 a0_4] 51 (0, 0)) (Z10 BK228) hb); replace HB := Z (below_step Z68 hb); (try clear hb); (try clear hb2); (try clear hk); (try clear hi); (try clear ho0)))
        go_ret
        exact ⟨_, Z13, (Z14 HO252), Z68⟩
       ·rw [if_neg c39] at H
        have c39b0 : (a0_4 == 0) = false := beq_eq_false_iff_ne.mpr c39
        have c39b1 : (a0_4 != 0) = true := bne_iff_ne.mpr c39
        obtain ⟨y253, hy253⟩ : ∃ y_ : List Int, y_ = (([] : List Int)) := ⟨_, rfl⟩
        replace H : (some y253) = some r := by first | (rw [hy253]; with_reducible exact H) | (have H2_ := (Option.bind_some _ _).symm.trans H; rw [hy253]; with_reducible exact H2_) | (have H2_ := (Option.bind_some _ _).symm.trans H; with_reducible exact H2_) | with_reducible exact H | (rw [hy253]; exact H) | exact H
        have Ny253 := Aside0.mk hy253
        clear hy253
        obtain rfl := Option.some.inj H
        have hcz43_0 : wc.cell? ⟨gb228, 0, none⟩ = some (.int .i64 a0_0) := (blk_cell BK228.out 0).trans rfl
        have hcz43_1 : wc.cell? ⟨gb228, 1, none⟩ = some (.string a0_1) := (blk_cell BK228.out 1).trans rfl
        have hcz43_2 : wc.cell? ⟨gb228, 2, none⟩ = some (.int .i32 a0_2) := (blk_cell BK228.out 2).trans rfl
        have hcz43_3 : wc.cell? ⟨gb228, 3, none⟩ = some (.bool a0_3) := (blk_cell BK228.out 3).trans rfl
        have hcz43_4 : wc.cell? ⟨gb228, 4, none⟩ = some (.int .u32 a0_4) := (blk_cell BK228.out 4).trans rfl
        have hfz43_0 := blk_frozen BK228.out 0
        have hfz43_1 := blk_frozen BK228.out 1
        have hfz43_2 := blk_frozen BK228.out 2
        have hfz43_3 := blk_frozen BK228.out 3
        have hfz43_4 := blk_frozen BK228.out 4
        go_wp2_with (first | ((with_reducible refine gate_dst (N := 105) rfl ?_); refine Kd.R_lit (Kd.int .u32) _ 47 (by rfl) (N := 105) (by rfl) (xs := ([] : List Int)) (inner := []) (ok := fun _ => True) (okp := fun _ => True) Z8 (Reps.none _ _) (fun _ hk => hk) trivial (Below.refl _ _) (Nat.le_refl _) (by simp) ?_; intro v254 w44 ho45 hb hg_ hnew_; clear hg_ hnew_; (first | rw [← Ny253.out] at ho45 | (simp only [Int.reduceToNat] at ho45; rw [← Ny253.out] at ho45)); have HO255 := Z (Kd.R_lower ho45 (below_size Z68)); replace BK228 := Z (blk_below (g := gb228) (o := .cells #[.int .i64 a0_0, .string a0_1, .int .i32 a0_2, .bool a0_3, .int .u32 a0_4] 51 (0, 0)) (Z10 BK228) hb); replace HB := Z (below_step Z68 hb); clear hb ho45))
        go_ret
        exact ⟨_, Z13, (Z14 HO255), Z68⟩
      ·rw [if_neg c38] at H
       have c38b0 : (a0_1.toList == ([] : List UInt8)) = false := beq_eq_false_iff_ne.mpr c38
       have c38b1 : (a0_1.toList != ([] : List UInt8)) = true := bne_iff_ne.mpr c38
       obtain ⟨y256, hy256⟩ : ∃ y_ : List Int, y_ = (([] : List Int)) := ⟨_, rfl⟩
       replace H : (some y256) = some r := by first | (rw [hy256]; with_reducible exact H) | (have H2_ := (Option.bind_some _ _).symm.trans H; rw [hy256]; with_reducible exact H2_) | (have H2_ := (Option.bind_some _ _).symm.trans H; with_reducible exact H2_) | with_reducible exact H | (rw [hy256]; exact H) | exact H
       have Ny256 := Aside0.mk hy256
       clear hy256
       obtain rfl := Option.some.inj H
       have hcz46_0 : wc.cell? ⟨gb228, 0, none⟩ = some (.int .i64 a0_0) := (blk_cell BK228.out 0).trans rfl
       have hcz46_1 : wc.cell? ⟨gb228, 1, none⟩ = some (.string a0_1) := (blk_cell BK228.out 1).trans rfl
       have hcz46_2 : wc.cell? ⟨gb228, 2, none⟩ = some (.int .i32 a0_2) := (blk_cell BK228.out 2).trans rfl
       have hcz46_3 : wc.cell? ⟨gb228, 3, none⟩ = some (.bool a0_3) := (blk_cell BK228.out 3).trans rfl
       have hcz46_4 : wc.cell? ⟨gb228, 4, none⟩ = some (.int .u32 a0_4) := (blk_cell BK228.out 4).trans rfl
       have hfz46_0 := blk_frozen BK228.out 0
       have hfz46_1 := blk_frozen BK228.out 1
       have hfz46_2 := blk_frozen BK228.out 2
       have hfz46_3 := blk_frozen BK228.out 3
       have hfz46_4 := blk_frozen BK228.out 4
       go_wp2_with (first | ((with_reducible refine gate_dst (N := 105) rfl ?_); refine Kd.R_lit (Kd.int .u32) _ 47 (by rfl) (N := 105) (by rfl) (xs := ([] : List Int)) (inner := []) (ok := fun _ => True) (okp := fun _ => True) Z8 (Reps.none _ _) (fun _ hk => hk) trivial (Below.refl _ _) (Nat.le_refl _) (by simp) ?_; intro v257 w47 ho48 hb hg_ hnew_; clear hg_ hnew_; (first | rw [← Ny256.out] at ho48 | (simp only [Int.reduceToNat] at ho48; rw [← Ny256.out] at ho48)); have HO258 := Z (Kd.R_lower ho48 (below_size Z68)); replace BK228 := Z (blk_below (g := gb228) (o := .cells #[.int .i64 a0_0, .string a0_1, .int .i32 a0_2, .bool a0_3, .int .u32 a0_4] 51 (0, 0)) (Z10 BK228) hb); replace HB := Z (below_step Z68 hb); clear hb ho48))
       go_ret
       exact ⟨_, Z13, (Z14 HO258), Z68⟩
     ·rw [if_neg c37] at H
      have c37b0 : (a0_0 == 8) = false := beq_eq_false_iff_ne.mpr c37
      have c37b1 : (a0_0 != 8) = true := bne_iff_ne.mpr c37
      by_cases c49 : a0_0 = 9
      ·rw [if_pos c49] at H
       have c49b0 : (a0_0 == 9) = true := beq_iff_eq.mpr c49
       have c49b1 : (a0_0 != 9) = false := bne_eq_false_iff_eq.mpr c49
       clear c49
       replace H := Option.bind_eq_some_iff.mp H
       obtain ⟨t259, A500, H⟩ := H
       replace H : (if (t259.length : Int) = 1 then (if a0_3 = true then (some (([] : List Int))) else (if a0_4 = 0 then (if t259.length < 35184372088832 then (some (t259 ++ [(a0_2) % 4294967296])) else (none)) else (some (([] : List Int))))) else (some (([] : List Int)))) = some r := H
       have A50 := Aside0.mk A500
       clear A500
       by_cases c51 : (t259.length : Int) = 1
       ·rw [if_pos c51] at H
        have c51b0 : ((t259.length : Int) == 1) = true := beq_iff_eq.mpr c51
        have c51b1 : ((t259.length : Int) != 1) = false := bne_eq_false_iff_eq.mpr c51
        clear c51
        by_cases c52 : a0_3 = true
        ·subst c52
         have H1 : (some (([] : List Int))) = some r := Z7
         clear H
         have H := H1
         clear H1
         obtain ⟨y262, hy262⟩ : ∃ y_ : List Int, y_ = (([] : List Int)) := ⟨_, rfl⟩
         replace H : (some y262) = some r := by first | (rw [hy262]; with_reducible exact H) | (have H2_ := (Option.bind_some _ _).symm.trans H; rw [hy262]; with_reducible exact H2_) | (have H2_ := (Option.bind_some _ _).symm.trans H; with_reducible exact H2_) | with_reducible exact H | (rw [hy262]; exact H) | exact H
         have Ny262 := Aside0.mk hy262
         clear hy262
         obtain rfl := Option.some.inj H
         have hcz53_0 : wc.cell? ⟨gb228, 0, none⟩ = some (.int .i64 a0_0) := (blk_cell BK228.out 0).trans rfl
         have hcz53_1 : wc.cell? ⟨gb228, 1, none⟩ = some (.string a0_1) := (blk_cell BK228.out 1).trans rfl
         have hcz53_2 : wc.cell? ⟨gb228, 2, none⟩ = some (.int .i32 a0_2) := (blk_cell BK228.out 2).trans rfl
         have hcz53_3 : wc.cell? ⟨gb228, 3, none⟩ = some (.bool true) := (blk_cell BK228.out 3).trans rfl
         have hcz53_4 : wc.cell? ⟨gb228, 4, none⟩ = some (.int .u32 a0_4) := (blk_cell BK228.out 4).trans rfl
         have hfz53_0 := blk_frozen BK228.out 0
         have hfz53_1 := blk_frozen BK228.out 1
         have hfz53_2 := blk_frozen BK228.out 2
         have hfz53_3 := blk_frozen BK228.out 3
         have hfz53_4 := blk_frozen BK228.out 4
         go_wp2_with (first | ((with_reducible refine gate_callee (f := 109) rfl ?_); refine goesL_ (some 85) rfl rfl Try.func109 Z0 rfl #[.int .u32 12, .string a0_1] rfl Z11 ?_; (with_reducible refine (spec_l04Word.calls kj1 12 a0_1 t259 _ A50.out).mono ?_); rintro e w54 ⟨v260, rfl, ho0, hb⟩; refine ⟨_, rfl, ?_⟩; have HO261 := Z (Kd.R_lower ho0 (below_size Z68)); replace BK228 := Z (blk_below (g := gb228) (o := .cells #[.int .i64 a0_0, .string a0_1, .int .i32 a0_2, .bool true, .int .u32 a0_4] 51 (0, 0)) (Z10 BK228) hb); replace HB := Z (below_step Z68 hb); (try clear hb); (try clear hb2); (try clear hk); (try clear hi); (try clear ho0); obtain ⟨Ao55, co55, eo55⟩ := Kd.R_slice HO261.out; subst eo55; have hcz56_0 : w54.cell? ⟨gb228, 0, none⟩ = some (.int .i64 a0_0) := (blk_cell BK228.out 0).trans rfl; have hcz56_1 : w54.cell? ⟨gb228, 1, none⟩ = some (.string a0_1) := (blk_cell BK228.out 1).trans rfl; have hcz56_2 : w54.cell? ⟨gb228, 2, none⟩ = some (.int .i32 a0_2) := (blk_cell BK228.out 2).trans rfl; have hcz56_3 : w54.cell? ⟨gb228, 3, none⟩ = some (.bool true) := (blk_cell BK228.out 3).trans rfl; have hcz56_4 : w54.cell? ⟨gb228, 4, none⟩ = some (.int .u32 a0_4) := (blk_cell BK228.out 4).trans rfl; have hfz56_0 := blk_frozen BK228.out 0; have hfz56_1 := blk_frozen BK228.out 1; have hfz56_2 := blk_frozen BK228.out 2; have hfz56_3 := blk_frozen BK228.out 3; have hfz56_4 := blk_frozen BK228.out 4) | ((with_reducible refine gate_dst (N := 105) rfl ?_); refine Kd.R_lit (Kd.int .u32) _ 47 (by rfl) (N := 105) (by rfl) (xs := ([] : List Int)) (inner := []) (ok := fun _ => True) (okp := fun _ => True) Z8 (Reps.none _ _) (fun _ hk => hk) trivial (Below.refl _ _) (Nat.le_refl _) (by simp) ?_; intro v263 w57 ho58 hb hg_ hnew_; clear hg_ hnew_; (first | rw [← Ny262.out] at ho58 | (simp only [Int.reduceToNat] at ho58; rw [← Ny262.out] at ho58)); have HO264 := Z (Kd.R_lower (Kd.R_new' ho58 (Kd.R_lt (Z14 HO261))) (below_size Z68)); replace HO261 := Z (Kd.R_elder' (Z14 HO261) (Kd.R_base ho58) hb); replace BK228 := Z (blk_below (g := gb228) (o := .cells #[.int .i64 a0_0, .string a0_1, .int .i32 a0_2, .bool true, .int .u32 a0_4] 51 (0, 0)) (Z10 BK228) hb); replace HB := Z (below_step Z68 hb); clear hb ho58))
         go_ret
         exact ⟨_, Z13, (Z25 HO264), Z68⟩
        ·replace c52 := Bool.eq_false_iff.mpr c52
         subst c52
         have H1 : (if a0_4 = 0 then (if t259.length < 35184372088832 then (some (t259 ++ [(a0_2) % 4294967296])) else (none)) else (some (([] : List Int)))) = some r := by rw [if_neg (show ¬ (false = true) by decide)] at H; exact H
         clear H
         have H := H1
         clear H1
         by_cases c59 : a0_4 = 0
         ·rw [if_pos c59] at H
          have c59b0 : (a0_4 == 0) = true := beq_iff_eq.mpr c59
          have c59b1 : (a0_4 != 0) = false := bne_eq_false_iff_eq.mpr c59
          clear c59
          by_cases c60 : t259.length < 35184372088832
          ·rw [if_pos c60] at H
           have LMc60 := Aside0.mk c60
           clear c60
           obtain ⟨y265, hy265⟩ : ∃ y_ : List Int, y_ = (t259 ++ [(a0_2) % 4294967296]) := ⟨_, rfl⟩
           replace H : (some y265) = some r := by first | (rw [hy265]; with_reducible exact H) | (have H2_ := (Option.bind_some _ _).symm.trans H; rw [hy265]; with_reducible exact H2_) | (have H2_ := (Option.bind_some _ _).symm.trans H; with_reducible exact H2_) | with_reducible exact H | (rw [hy265]; exact H) | exact H
           have Ny265 := Aside0.mk hy265
           clear hy265
           obtain rfl := Option.some.inj H
           have hcz61_0 : wc.cell? ⟨gb228, 0, none⟩ = some (.int .i64 a0_0) := (blk_cell BK228.out 0).trans rfl
           have hcz61_1 : wc.cell? ⟨gb228, 1, none⟩ = some (.string a0_1) := (blk_cell BK228.out 1).trans rfl
           have hcz61_2 : wc.cell? ⟨gb228, 2, none⟩ = some (.int .i32 a0_2) := (blk_cell BK228.out 2).trans rfl
           have hcz61_3 : wc.cell? ⟨gb228, 3, none⟩ = some (.bool false) := (blk_cell BK228.out 3).trans rfl
           have hcz61_4 : wc.cell? ⟨gb228, 4, none⟩ = some (.int .u32 a0_4) := (blk_cell BK228.out 4).trans rfl
           have hfz61_0 := blk_frozen BK228.out 0
           have hfz61_1 := blk_frozen BK228.out 1
           have hfz61_2 := blk_frozen BK228.out 2
           have hfz61_3 := blk_frozen BK228.out 3
           have hfz61_4 := blk_frozen BK228.out 4
           go_wp2_with (first | ((with_reducible refine gate_callee (f := 109) rfl ?_); refine goesL_ (some 85) rfl rfl Try.func109 Z0 rfl #[.int .u32 12, .string a0_1] rfl Z11 ?_; (with_reducible refine (spec_l04Word.calls kj1 12 a0_1 t259 _ A50.out).mono ?_); rintro e w62 ⟨v260, rfl, ho0, hb⟩; refine ⟨_, rfl, ?_⟩; have HO261 := Z (Kd.R_lower ho0 (below_size Z68)); replace BK228 := Z (blk_below (g := gb228) (o := .cells #[.int .i64 a0_0, .string a0_1, .int .i32 a0_2, .bool false, .int .u32 a0_4] 51 (0, 0)) (Z10 BK228) hb); replace HB := Z (below_step Z68 hb); (try clear hb); (try clear hb2); (try clear hk); (try clear hi); (try clear ho0); obtain ⟨Ao63, co63, eo63⟩ := Kd.R_slice HO261.out; subst eo63; have hcz64_0 : w62.cell? ⟨gb228, 0, none⟩ = some (.int .i64 a0_0) := (blk_cell BK228.out 0).trans rfl; have hcz64_1 : w62.cell? ⟨gb228, 1, none⟩ = some (.string a0_1) := (blk_cell BK228.out 1).trans rfl; have hcz64_2 : w62.cell? ⟨gb228, 2, none⟩ = some (.int .i32 a0_2) := (blk_cell BK228.out 2).trans rfl; have hcz64_3 : w62.cell? ⟨gb228, 3, none⟩ = some (.bool false) := (blk_cell BK228.out 3).trans rfl; have hcz64_4 : w62.cell? ⟨gb228, 4, none⟩ = some (.int .u32 a0_4) := (blk_cell BK228.out 4).trans rfl; have hfz64_0 := blk_frozen BK228.out 0; have hfz64_1 := blk_frozen BK228.out 1; have hfz64_2 := blk_frozen BK228.out 2; have hfz64_3 := blk_frozen BK228.out 3; have hfz64_4 := blk_frozen BK228.out 4) | ((with_reducible refine gate_builtin (b := .append) (xs := #[.tmp 99, .tmp 103]) rfl ?_); at_builtin; refine Kd.R_append (Kd.int .u32) (w0 := w) w.heap.size rfl (.tmp 99) (.tmp 103) 24 47 (.int .u32 0) 4 rfl Try.underlying24 info47 rfl (by decide) (by omega) (.slice Ao63 t259.length co63) t259 ((a0_2) % 4294967296) [.int .u32 ((a0_2) % 4294967296)] (fun _ => True) (fun _ => False) rfl rfl ?aP (fun _ hk => hk.elim) ?aF ?aO ?aB ?aS ?aL ?_; (case aP => exact rfl); (case aB => exact Z68); (case aF => exact (fun _ _ => trivial)); (case aO => exact (Z14 HO261)); (case aS => exact (below_size Z68)); (case aL => have := LMc60.out; omega); intro v266 w65 ho hb hg hat; rw [← Ny265.out] at ho; replace BK228 := Z (blk_grown (g := gb228) (o := .cells #[.int .i64 a0_0, .string a0_1, .int .i32 a0_2, .bool false, .int .u32 a0_4] 51 (0, 0)) (Z10 BK228) hg (Kd.R_ne HO261.out BK228.out (by decide))); replace HB := Z (hb); have HO267 := Z (ho); clear HO261; clear ho hb hg hat))
           go_ret
           exact ⟨_, Z13, (Z14 HO267), Z68⟩
          ·rw [if_neg c60] at H
           exact absurd H (by simp)
         ·rw [if_neg c59] at H
          have c59b0 : (a0_4 == 0) = false := beq_eq_false_iff_ne.mpr c59
          have c59b1 : (a0_4 != 0) = true := bne_iff_ne.mpr c59
          obtain ⟨y268, hy268⟩ : ∃ y_ : List Int, y_ = (([] : List Int)) := ⟨_, rfl⟩
          replace H : (some y268) = some r := by first | (rw [hy268]; with_reducible exact H) | (have H2_ := (Option.bind_some _ _).symm.trans H; rw [hy268]; with_reducible exact H2_) | (have H2_ := (Option.bind_some _ _).symm.trans H; with_reducible exact H2_) | with_reducible exact H | (rw [hy268]; exact H) | exact H
          have Ny268 := Aside0.mk hy268
          clear hy268
          obtain rfl := Option.some.inj H
          have hcz66_0 : wc.cell? ⟨gb228, 0, none⟩ = some (.int .i64 a0_0) := (blk_cell BK228.out 0).trans rfl
          have hcz66_1 : wc.cell? ⟨gb228, 1, none⟩ = some (.string a0_1) := (blk_cell BK228.out 1).trans rfl
          have hcz66_2 : wc.cell? ⟨gb228, 2, none⟩ = some (.int .i32 a0_2) := (blk_cell BK228.out 2).trans rfl
          have hcz66_3 : wc.cell? ⟨gb228, 3, none⟩ = some (.bool false) := (blk_cell BK228.out 3).trans rfl
          have hcz66_4 : wc.cell? ⟨gb228, 4, none⟩ = some (.int .u32 a0_4) := (blk_cell BK228.out 4).trans rfl
          have hfz66_0 := blk_frozen BK228.out 0
          have hfz66_1 := blk_frozen BK228.out 1
          have hfz66_2 := blk_frozen BK228.out 2
          have hfz66_3 := blk_frozen BK228.out 3
          have hfz66_4 := blk_frozen BK228.out 4
          go_wp2_with (first | ((with_reducible refine gate_callee (f := 109) rfl ?_); refine goesL_ (some 85) rfl rfl Try.func109 Z0 rfl #[.int .u32 12, .string a0_1] rfl Z11 ?_; (with_reducible refine (spec_l04Word.calls kj1 12 a0_1 t259 _ A50.out).mono ?_); rintro e w67 ⟨v260, rfl, ho0, hb⟩; refine ⟨_, rfl, ?_⟩; have HO261 := Z (Kd.R_lower ho0 (below_size Z68)); replace BK228 := Z (blk_below (g := gb228) (o := .cells #[.int .i64 a0_0, .string a0_1, .int .i32 a0_2, .bool false, .int .u32 a0_4] 51 (0, 0)) (Z10 BK228) hb); replace HB := Z (below_step Z68 hb); (try clear hb); (try clear hb2); (try clear hk); (try clear hi); (try clear ho0); obtain ⟨Ao68, co68, eo68⟩ := Kd.R_slice HO261.out; subst eo68; have hcz69_0 : w67.cell? ⟨gb228, 0, none⟩ = some (.int .i64 a0_0) := (blk_cell BK228.out 0).trans rfl; have hcz69_1 : w67.cell? ⟨gb228, 1, none⟩ = some (.string a0_1) := (blk_cell BK228.out 1).trans rfl; have hcz69_2 : w67.cell? ⟨gb228, 2, none⟩ = some (.int .i32 a0_2) := (blk_cell BK228.out 2).trans rfl; have hcz69_3 : w67.cell? ⟨gb228, 3, none⟩ = some (.bool false) := (blk_cell BK228.out 3).trans rfl; have hcz69_4 : w67.cell? ⟨gb228, 4, none⟩ = some (.int .u32 a0_4) := (blk_cell BK228.out 4).trans rfl; have hfz69_0 := blk_frozen BK228.out 0; have hfz69_1 := blk_frozen BK228.out 1; have hfz69_2 := blk_frozen BK228.out 2; have hfz69_3 := blk_frozen BK228.out 3; have hfz69_4 := blk_frozen BK228.out 4) | ((with_reducible refine gate_dst (N := 105) rfl ?_); refine Kd.R_lit (Kd.int .u32) _ 47 (by rfl) (N := 105) (by rfl) (xs := ([] : List Int)) (inner := []) (ok := fun _ => True) (okp := fun _ => True) Z8 (Reps.none _ _) (fun _ hk => hk) trivial (Below.refl _ _) (Nat.le_refl _) (by simp) ?_; intro v269 w70 ho71 hb hg_ hnew_; clear hg_ hnew_; (first | rw [← Ny268.out] at ho71 | (simp only [Int.reduceToNat] at ho71; rw [← Ny268.out] at ho71)); have HO270 := Z (Kd.R_lower (Kd.R_new' ho71 (Kd.R_lt (Z14 HO261))) (below_size Z68)); replace HO261 := Z (Kd.R_elder' (Z14 HO261) (Kd.R_base ho71) hb); replace BK228 := Z (blk_below (g := gb228) (o := .cells #[.int .i64 a0_0, .string a0_1, .int .i32 a0_2, .bool false, .int .u32 a0_4] 51 (0, 0)) (Z10 BK228) hb); replace HB := Z (below_step Z68 hb); clear hb ho71))
          go_ret
          exact ⟨_, Z13, (Z25 HO270), Z68⟩
       ·rw [if_neg c51] at H
        have c51b0 : ((t259.length : Int) == 1) = false := beq_eq_false_iff_ne.mpr c51
        have c51b1 : ((t259.length : Int) != 1) = true := bne_iff_ne.mpr c51
        obtain ⟨y271, hy271⟩ : ∃ y_ : List Int, y_ = (([] : List Int)) := ⟨_, rfl⟩
        replace H : (some y271) = some r := by first | (rw [hy271]; with_reducible exact H) | (have H2_ := (Option.bind_some _ _).symm.trans H; rw [hy271]; with_reducible exact H2_) | (have H2_ := (Option.bind_some _ _).symm.trans H; with_reducible exact H2_) | with_reducible exact H | (rw [hy271]; exact H) | exact H
        have Ny271 := Aside0.mk hy271
        clear hy271
        obtain rfl := Option.some.inj H
        have hcz72_0 : wc.cell? ⟨gb228, 0, none⟩ = some (.int .i64 a0_0) := (blk_cell BK228.out 0).trans rfl
        have hcz72_1 : wc.cell? ⟨gb228, 1, none⟩ = some (.string a0_1) := (blk_cell BK228.out 1).trans rfl
        have hcz72_2 : wc.cell? ⟨gb228, 2, none⟩ = some (.int .i32 a0_2) := (blk_cell BK228.out 2).trans rfl
        have hcz72_3 : wc.cell? ⟨gb228, 3, none⟩ = some (.bool a0_3) := (blk_cell BK228.out 3).trans rfl
        have hcz72_4 : wc.cell? ⟨gb228, 4, none⟩ = some (.int .u32 a0_4) := (blk_cell BK228.out 4).trans rfl
        have hfz72_0 := blk_frozen BK228.out 0
        have hfz72_1 := blk_frozen BK228.out 1
        have hfz72_2 := blk_frozen BK228.out 2
        have hfz72_3 := blk_frozen BK228.out 3
        have hfz72_4 := blk_frozen BK228.out 4
        go_wp2_with (first | ((with_reducible refine gate_callee (f := 109) rfl ?_); refine goesL_ (some 85) rfl rfl Try.func109 Z0 rfl #[.int .u32 12, .string a0_1] rfl Z11 ?_; (with_reducible refine (spec_l04Word.calls kj1 12 a0_1 t259 _ A50.out).mono ?_); rintro e w73 ⟨v260, rfl, ho0, hb⟩; refine ⟨_, rfl, ?_⟩; have HO261 := Z (Kd.R_lower ho0 (below_size Z68)); replace BK228 := Z (blk_below (g := gb228) (o := .cells #[.int .i64 a0_0, .string a0_1, .int .i32 a0_2, .bool a0_3, .int .u32 a0_4] 51 (0, 0)) (Z10 BK228) hb); replace HB := Z (below_step Z68 hb); (try clear hb); (try clear hb2); (try clear hk); (try clear hi); (try clear ho0); obtain ⟨Ao74, co74, eo74⟩ := Kd.R_slice HO261.out; subst eo74) | ((with_reducible refine gate_dst (N := 105) rfl ?_); refine Kd.R_lit (Kd.int .u32) _ 47 (by rfl) (N := 105) (by rfl) (xs := ([] : List Int)) (inner := []) (ok := fun _ => True) (okp := fun _ => True) Z8 (Reps.none _ _) (fun _ hk => hk) trivial (Below.refl _ _) (Nat.le_refl _) (by simp) ?_; intro v272 w75 ho76 hb hg_ hnew_; clear hg_ hnew_; (first | rw [← Ny271.out] at ho76 | (simp only [Int.reduceToNat] at ho76; rw [← Ny271.out] at ho76)); have HO273 := Z (Kd.R_lower (Kd.R_new' ho76 (Kd.R_lt (Z14 HO261))) (below_size Z68)); replace HO261 := Z (Kd.R_elder' (Z14 HO261) (Kd.R_base ho76) hb); replace BK228 := Z (blk_below (g := gb228) (o := .cells #[.int .i64 a0_0, .string a0_1, .int .i32 a0_2, .bool a0_3, .int .u32 a0_4] 51 (0, 0)) (Z10 BK228) hb); replace HB := Z (below_step Z68 hb); clear hb ho76))
        go_ret
        exact ⟨_, Z13, (Z25 HO273), Z68⟩
      ·rw [if_neg c49] at H
       have c49b0 : (a0_0 == 9) = false := beq_eq_false_iff_ne.mpr c49
       have c49b1 : (a0_0 != 9) = true := bne_iff_ne.mpr c49
       replace H := Option.bind_eq_some_iff.mp H
       obtain ⟨t274, A770, H⟩ := H
       replace H : (if t274 > 0 then (if x3_1 = true then ((spec_l04Word.f kj1 t274 a0_1).bind fun t275 => (some t275)) else (some (([] : List Int)))) else (some (([] : List Int)))) = some r := H
       have A77 := Aside0.mk A770
       clear A770
       by_cases c78 : t274 > 0
       ·rw [if_pos c78] at H
        have c78b0 : decide (0 < t274) = true := decide_eq_true c78
        clear c78
        by_cases c79 : x3_1 = true
        ·subst c79
         have H1 : ((spec_l04Word.f kj1 t274 a0_1).bind fun t275 => (some t275)) = some r := Z7
         clear H
         have H := H1
         clear H1
         replace H := Option.bind_eq_some_iff.mp H
         obtain ⟨t275, A800, H⟩ := H
         replace H : (some t275) = some r := H
         have A80 := Aside0.mk A800
         clear A800
         obtain rfl := Option.some.inj H
         have hcz81_0 : wc.cell? ⟨gb228, 0, none⟩ = some (.int .i64 a0_0) := (blk_cell BK228.out 0).trans rfl
         have hcz81_1 : wc.cell? ⟨gb228, 1, none⟩ = some (.string a0_1) := (blk_cell BK228.out 1).trans rfl
         have hcz81_2 : wc.cell? ⟨gb228, 2, none⟩ = some (.int .i32 a0_2) := (blk_cell BK228.out 2).trans rfl
         have hcz81_3 : wc.cell? ⟨gb228, 3, none⟩ = some (.bool a0_3) := (blk_cell BK228.out 3).trans rfl
         have hcz81_4 : wc.cell? ⟨gb228, 4, none⟩ = some (.int .u32 a0_4) := (blk_cell BK228.out 4).trans rfl
         have hfz81_0 := blk_frozen BK228.out 0
         have hfz81_1 := blk_frozen BK228.out 1
         have hfz81_2 := blk_frozen BK228.out 2
         have hfz81_3 := blk_frozen BK228.out 3
         have hfz81_4 := blk_frozen BK228.out 4
         go_wp2_with (first | ((with_reducible refine gate_callee (f := 110) rfl ?_); refine goesL_ (some 23) rfl rfl Try.func110 Z0 rfl #[.int .i64 a0_0] rfl Z11 ?_; (with_reducible refine (spec_l04Tag.calls a0_0 t274 _ A77.out).mono ?_); rintro e w' ⟨rfl, ⟨nd, rfl⟩⟩; refine ⟨_, rfl, ?_⟩) | ((with_reducible refine gate_callee (f := 109) rfl ?_); refine goesL_ (some 32) rfl rfl Try.func109 Z0 rfl #[.int .u32 t274, .string a0_1] rfl Z11 ?_; (with_reducible refine (spec_l04Word.calls kj1 t274 a0_1 t275 _ A80.out).mono ?_); rintro e w82 ⟨v276, rfl, ho0, hb⟩; refine ⟨_, rfl, ?_⟩; have HO277 := Z (Kd.R_lower ho0 (below_size Z68)); replace BK228 := Z (blk_below (g := gb228) (o := .cells #[.int .i64 a0_0, .string a0_1, .int .i32 a0_2, .bool a0_3, .int .u32 a0_4] 51 (0, 0)) (Z10 BK228) hb); replace HB := Z (below_step Z68 hb); (try clear hb); (try clear hb2); (try clear hk); (try clear hi); (try clear ho0)))
         go_ret
         exact ⟨_, Z13, (Z14 HO277), Z68⟩
        ·replace c79 := Bool.eq_false_iff.mpr c79
         subst c79
         have H1 : (some (([] : List Int))) = some r := by rw [if_neg (show ¬ (false = true) by decide)] at H; exact H
         clear H
         have H := H1
         clear H1
         obtain ⟨y278, hy278⟩ : ∃ y_ : List Int, y_ = (([] : List Int)) := ⟨_, rfl⟩
         replace H : (some y278) = some r := by first | (rw [hy278]; with_reducible exact H) | (have H2_ := (Option.bind_some _ _).symm.trans H; rw [hy278]; with_reducible exact H2_) | (have H2_ := (Option.bind_some _ _).symm.trans H; with_reducible exact H2_) | with_reducible exact H | (rw [hy278]; exact H) | exact H
         have Ny278 := Aside0.mk hy278
         clear hy278
         obtain rfl := Option.some.inj H
         have hcz83_0 : wc.cell? ⟨gb228, 0, none⟩ = some (.int .i64 a0_0) := (blk_cell BK228.out 0).trans rfl
         have hcz83_1 : wc.cell? ⟨gb228, 1, none⟩ = some (.string a0_1) := (blk_cell BK228.out 1).trans rfl
         have hcz83_2 : wc.cell? ⟨gb228, 2, none⟩ = some (.int .i32 a0_2) := (blk_cell BK228.out 2).trans rfl
         have hcz83_3 : wc.cell? ⟨gb228, 3, none⟩ = some (.bool a0_3) := (blk_cell BK228.out 3).trans rfl
         have hcz83_4 : wc.cell? ⟨gb228, 4, none⟩ = some (.int .u32 a0_4) := (blk_cell BK228.out 4).trans rfl
         have hfz83_0 := blk_frozen BK228.out 0
         have hfz83_1 := blk_frozen BK228.out 1
         have hfz83_2 := blk_frozen BK228.out 2
         have hfz83_3 := blk_frozen BK228.out 3
         have hfz83_4 := blk_frozen BK228.out 4
         go_wp2_with (first | ((with_reducible refine gate_callee (f := 110) rfl ?_); refine goesL_ (some 23) rfl rfl Try.func110 Z0 rfl #[.int .i64 a0_0] rfl Z11 ?_; (with_reducible refine (spec_l04Tag.calls a0_0 t274 _ A77.out).mono ?_); rintro e w' ⟨rfl, ⟨nd, rfl⟩⟩; refine ⟨_, rfl, ?_⟩) | ((with_reducible refine gate_dst (N := 105) rfl ?_); refine Kd.R_lit (Kd.int .u32) _ 47 (by rfl) (N := 105) (by rfl) (xs := ([] : List Int)) (inner := []) (ok := fun _ => True) (okp := fun _ => True) Z8 (Reps.none _ _) (fun _ hk => hk) trivial (Below.refl _ _) (Nat.le_refl _) (by simp) ?_; intro v279 w84 ho85 hb hg_ hnew_; clear hg_ hnew_; (first | rw [← Ny278.out] at ho85 | (simp only [Int.reduceToNat] at ho85; rw [← Ny278.out] at ho85)); have HO280 := Z (Kd.R_lower ho85 (below_size Z68)); replace BK228 := Z (blk_below (g := gb228) (o := .cells #[.int .i64 a0_0, .string a0_1, .int .i32 a0_2, .bool a0_3, .int .u32 a0_4] 51 (0, 0)) (Z10 BK228) hb); replace HB := Z (below_step Z68 hb); clear hb ho85))
         go_ret
         exact ⟨_, Z13, (Z14 HO280), Z68⟩
       ·rw [if_neg c78] at H
        have c78b0 : decide (0 < t274) = false := decide_eq_false c78
        clear c78
        obtain ⟨y281, hy281⟩ : ∃ y_ : List Int, y_ = (([] : List Int)) := ⟨_, rfl⟩
        replace H : (some y281) = some r := by first | (rw [hy281]; with_reducible exact H) | (have H2_ := (Option.bind_some _ _).symm.trans H; rw [hy281]; with_reducible exact H2_) | (have H2_ := (Option.bind_some _ _).symm.trans H; with_reducible exact H2_) | with_reducible exact H | (rw [hy281]; exact H) | exact H
        have Ny281 := Aside0.mk hy281
        clear hy281
        obtain rfl := Option.some.inj H
        have hcz86_0 : wc.cell? ⟨gb228, 0, none⟩ = some (.int .i64 a0_0) := (blk_cell BK228.out 0).trans rfl
        have hcz86_1 : wc.cell? ⟨gb228, 1, none⟩ = some (.string a0_1) := (blk_cell BK228.out 1).trans rfl
        have hcz86_2 : wc.cell? ⟨gb228, 2, none⟩ = some (.int .i32 a0_2) := (blk_cell BK228.out 2).trans rfl
        have hcz86_3 : wc.cell? ⟨gb228, 3, none⟩ = some (.bool a0_3) := (blk_cell BK228.out 3).trans rfl
        have hcz86_4 : wc.cell? ⟨gb228, 4, none⟩ = some (.int .u32 a0_4) := (blk_cell BK228.out 4).trans rfl
        have hfz86_0 := blk_frozen BK228.out 0
        have hfz86_1 := blk_frozen BK228.out 1
        have hfz86_2 := blk_frozen BK228.out 2
        have hfz86_3 := blk_frozen BK228.out 3
        have hfz86_4 := blk_frozen BK228.out 4
        go_wp2_with (first | ((with_reducible refine gate_callee (f := 110) rfl ?_); refine goesL_ (some 23) rfl rfl Try.func110 Z0 rfl #[.int .i64 a0_0] rfl Z11 ?_; (with_reducible refine (spec_l04Tag.calls a0_0 t274 _ A77.out).mono ?_); rintro e w' ⟨rfl, ⟨nd, rfl⟩⟩; refine ⟨_, rfl, ?_⟩) | ((with_reducible refine gate_dst (N := 105) rfl ?_); refine Kd.R_lit (Kd.int .u32) _ 47 (by rfl) (N := 105) (by rfl) (xs := ([] : List Int)) (inner := []) (ok := fun _ => True) (okp := fun _ => True) Z8 (Reps.none _ _) (fun _ hk => hk) trivial (Below.refl _ _) (Nat.le_refl _) (by simp) ?_; intro v282 w87 ho88 hb hg_ hnew_; clear hg_ hnew_; (first | rw [← Ny281.out] at ho88 | (simp only [Int.reduceToNat] at ho88; rw [← Ny281.out] at ho88)); have HO283 := Z (Kd.R_lower ho88 (below_size Z68)); replace BK228 := Z (blk_below (g := gb228) (o := .cells #[.int .i64 a0_0, .string a0_1, .int .i32 a0_2, .bool a0_3, .int .u32 a0_4] 51 (0, 0)) (Z10 BK228) hb); replace HB := Z (below_step Z68 hb); clear hb ho88))
        go_ret
        exact ⟨_, Z13, (Z14 HO283), Z68⟩

end Go.Proofs.Ytkkiibjnpkjijaa.QFnExactItemsOf
