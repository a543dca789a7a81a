/-
Plain functions for the Go functions that a law reaches, each with a proof that the translation's call comes to just that; no conditions beyond those written in each.
-/
import Derived.Test.YtkkiibjnpkjijaaSFnCells
import Derived.Test.YtkkiibjnpkjijaaQFnCellsx2
import Derived.Test.YtkkiibjnpkjijaaQFnCellsx3
namespace Go.Proofs.Ytkkiibjnpkjijaa.QFnCells
open Go.RowKit Go.Proofs.YtkkiibjnpkjijaaW.PrintWords Go.Proofs.YtkkiibjnpkjijaaW.PrintLast Go.Proofs.YtkkiibjnpkjijaaW.PrintMore
attribute [local go_sem] max2_int min2_int max_two min_two max_three min_three max_four min_four   -- for this text's walks alone
set_option linter.unusedVariables false
set_option linter.unusedSimpArgs false

/-! ### spec_CellsOf: function 83 -/
def spec_CellsOf.j0 : Nat → Bool → Int → ByteArray → Int → Bool → Int → Option (List Int)
 | 0, _, _, _, _, _, _ => none
 | k + 1, x3, x165000, x165001, x165002, x165003, x165004 => if x165000 = 0 then (if x165001.toList = ([] : List UInt8) then (if x165002 = 0 then (if x165003 = true then (some (([] : List Int))) else (some (([x165004] : List Int)))) else (some (([] : List Int)))) else (some (([] : List Int)))) else (if x165000 = 7 then (if x165001.toList = ([] : List UInt8) then (if x165004 = 0 then ((spec_l04Num.f x165002 x165003 8 2).bind fun t177 => (some t177)) else (some (([] : List Int)))) else (some (([] : List Int)))) else (if x165000 = 8 then (if x165001.toList = ([] : List UInt8) then (if x165004 = 0 then ((spec_l04Num.f x165002 x165003 6 5).bind fun t186 => (some t186)) else (some (([] : List Int)))) else (some (([] : List Int)))) else (if x165000 = 9 then ((spec_l04Word.f k 12 x165001).bind fun t195 => (if (t195.length : Int) = 1 then (if x165003 = true then (some (([] : List Int))) else (if x165004 = 0 then (if t195.length < 35184372088832 then (some (t195 ++ [(x165002) % 4294967296])) else (none)) else (some (([] : List Int))))) else (some (([] : List Int))))) else ((spec_l04Tag.f x165000).bind fun t210 => (if t210 > 0 then (if x3 = true then ((spec_l04Word.f k t210 x165001).bind fun t211 => (some t211)) else (some (([] : List Int)))) else (some (([] : List Int))))))))
def spec_CellsOf.f (k : Nat) (a0_0 : Int) (a0_1 : ByteArray) (a0_2 : Int) (a0_3 : Bool) (a0_4 : Int) : Option (List Int) := if a0_2 = 0 then (if a0_3 = true then (spec_CellsOf.j0 k false a0_0 a0_1 a0_2 a0_3 a0_4) else (spec_CellsOf.j0 k (a0_4 == 0) a0_0 a0_1 a0_2 a0_3 a0_4)) else (spec_CellsOf.j0 k false a0_0 a0_1 a0_2 a0_3 a0_4)
theorem spec_CellsOf.mono_l : ∀ k, (∀ y0 y1 y2 y3 y4 y5, LeO (spec_CellsOf.j0 k y0 y1 y2 y3 y4 y5) (spec_CellsOf.j0 (k + 1) y0 y1 y2 y3 y4 y5))
 | 0 => fun _ _ _ _ _ _ r h => by simp [spec_CellsOf.j0] at h
 | k + 1 => by
  have ih0 := spec_CellsOf.mono_l k
  ·intro y0 y1 y2 y3 y4 y5
   unfold spec_CellsOf.j0
   repeat' first
   | (with_reducible exact ih0 _ _ _ _ _ _)
   | (with_reducible exact spec_l04Word.mono _ _ _)
   | (with_reducible exact LeO.refl _)
   | (with_reducible exact LeO.none _)
   | (with_reducible refine LeO.ite ?_ ?_)
   | (with_reducible refine LeO.bind ?_ (fun _ => ?_))
   | exact ih0 _ _ _ _ _ _
   | exact spec_l04Word.mono _ _ _
   | exact LeO.none _
   | refine LeO.ite ?_ ?_
   | refine LeO.bind ?_ (fun _ => ?_)
theorem spec_CellsOf.mono : ∀ a0 a1 a2 a3 a4 k, LeO (spec_CellsOf.f k a0 a1 a2 a3 a4) (spec_CellsOf.f (k + 1) a0 a1 a2 a3 a4) := by
 intro a0 a1 a2 a3 a4 k
 have ih0 := spec_CellsOf.mono_l k
 unfold spec_CellsOf.f
 repeat' first
   | (with_reducible exact ih0 _ _ _ _ _ _)
   | (with_reducible exact spec_l04Word.mono _ _ _)
   | (with_reducible exact LeO.refl _)
   | (with_reducible exact LeO.none _)
   | (with_reducible refine LeO.ite ?_ ?_)
   | (with_reducible refine LeO.bind ?_ (fun _ => ?_))
   | exact ih0 _ _ _ _ _ _
   | exact spec_l04Word.mono _ _ _
   | exact LeO.none _
   | refine LeO.ite ?_ ?_
   | refine LeO.bind ?_ (fun _ => ?_)
set_option maxHeartbeats 8000000 in
set_option maxRecDepth 100000 in
theorem spec_CellsOf.calls (k : Nat) (a0_0 : Int) (a0_1 : ByteArray) (a0_2 : Int) (a0_3 : Bool) (a0_4 : Int) (r : List Int) (w : World) (h : spec_CellsOf.f k a0_0 a0_1 a0_2 a0_3 a0_4 = some r) :
  Calls Try.prog 83 #[.agg #[.int .i64 a0_0, .string a0_1, .int .i32 a0_2, .bool a0_3, .int .u32 a0_4]] w fun e w' => ∃ v0_ : Value, e = .returned (v0_) ∧ Kd.R (Kd.int .u32) 47 w' w.heap.size (fun _ => True) v0_ r ∧ Below w.heap.size w w' := by
 have hu51 := Try.underlying51
 have HB := Z (Below.refl w.heap.size w)
 have H : (if a0_2 = 0 then (if a0_3 = true then (spec_CellsOf.j0 k false a0_0 a0_1 a0_2 a0_3 a0_4) else (spec_CellsOf.j0 k (a0_4 == 0) a0_0 a0_1 a0_2 a0_3 a0_4)) else (spec_CellsOf.j0 k false a0_0 a0_1 a0_2 a0_3 a0_4)) = some r := h
 clear h
 have HC2 := Aside0.mk H
 clear H
 go_enter Try.func83, Try.ntmps83
 go_upto_region 1 with (first | ((with_reducible refine gate_dst (N := 1) rfl ?_); refine box_event (by rfl) (N := 1) (by rfl) (cs := #[.int .i64 a0_0, .string a0_1, .int .i32 a0_2, .bool a0_3, .int .u32 a0_4]) (t := 51) Z7 ?_; intro gb164 hg w3 hbox hb; have BK164 := Z (hbox); have GW164 := Z ((Z76 : w.heap.size ≤ gb164)); have GE164 := Z ((Z76 : w.heap.size ≤ gb164)); replace HB := Z (below_step Z63 hb); clear hb hbox hg))
 (try simp only [Act.put, List.setIfInBounds_toArray, List.set_cons_zero, List.set_cons_succ])
 go_cut [3] (fun v3 wc => ∃ (kq : Nat) (x3_1 : Bool), v3 = .bool x3_1 ∧ Aside0 (spec_CellsOf.j0 kq x3_1 a0_0 a0_1 a0_2 a0_3 a0_4 = some r) ∧ Aside0 (kq ≤ k) ∧ Aside0 (wc.heap[gb164]? = some (.cells #[.int .i64 a0_0, .string a0_1, .int .i32 a0_2, .bool a0_3, .int .u32 a0_4] 51 (0, 0))) ∧ Aside0 (Below w.heap.size w wc))
 case first =>
  have H := HC2.out
  clear HC2
  by_cases c4 : a0_2 = 0
  ·rw [if_pos c4] at H
   have c4b0 : (a0_2 == 0) = true := beq_iff_eq.mpr c4
   have c4b1 : (a0_2 != 0) = false := bne_eq_false_iff_eq.mpr c4
   clear c4
   (first | rw [c4b0] | (simp only [i64_w, i32_w]; rw [c4b0]) | skip)
   by_cases c5 : a0_3 = true
   ·subst c5
    have H1 : (spec_CellsOf.j0 k false a0_0 a0_1 a0_2 true a0_4) = some r := Z11
    clear H
    have H := H1
    clear H1
    have H' := Aside0.mk H
    clear H
    have hcz6_0 : w3.cell? ⟨gb164, 0, none⟩ = some (.int .i64 a0_0) := (blk_cell BK164.out 0).trans rfl
    have hcz6_1 : w3.cell? ⟨gb164, 1, none⟩ = some (.string a0_1) := (blk_cell BK164.out 1).trans rfl
    have hcz6_2 : w3.cell? ⟨gb164, 2, none⟩ = some (.int .i32 a0_2) := (blk_cell BK164.out 2).trans rfl
    have hcz6_3 : w3.cell? ⟨gb164, 3, none⟩ = some (.bool true) := (blk_cell BK164.out 3).trans rfl
    have hcz6_4 : w3.cell? ⟨gb164, 4, none⟩ = some (.int .u32 a0_4) := (blk_cell BK164.out 4).trans rfl
    have hfz6_0 := blk_frozen BK164.out 0
    have hfz6_1 := blk_frozen BK164.out 1
    have hfz6_2 := blk_frozen BK164.out 2
    have hfz6_3 := blk_frozen BK164.out 3
    have hfz6_4 := blk_frozen BK164.out 4
    go_wp2
    go_meet
    case rel => exact ⟨_, (false), Z2, H', ⟨Z15⟩, ⟨(Z8 BK164)⟩, ⟨Z63⟩⟩
   ·replace c5 := Bool.eq_false_iff.mpr c5
    subst c5
    have H1 : (spec_CellsOf.j0 k (a0_4 == 0) a0_0 a0_1 a0_2 false a0_4) = some r := by rw [if_neg (show ¬ (false = true) by decide)] at H; exact H
    clear H
    have H := H1
    clear H1
    have H' := Aside0.mk H
    clear H
    have hcz7_0 : w3.cell? ⟨gb164, 0, none⟩ = some (.int .i64 a0_0) := (blk_cell BK164.out 0).trans rfl
    have hcz7_1 : w3.cell? ⟨gb164, 1, none⟩ = some (.string a0_1) := (blk_cell BK164.out 1).trans rfl
    have hcz7_2 : w3.cell? ⟨gb164, 2, none⟩ = some (.int .i32 a0_2) := (blk_cell BK164.out 2).trans rfl
    have hcz7_3 : w3.cell? ⟨gb164, 3, none⟩ = some (.bool false) := (blk_cell BK164.out 3).trans rfl
    have hcz7_4 : w3.cell? ⟨gb164, 4, none⟩ = some (.int .u32 a0_4) := (blk_cell BK164.out 4).trans rfl
    have hfz7_0 := blk_frozen BK164.out 0
    have hfz7_1 := blk_frozen BK164.out 1
    have hfz7_2 := blk_frozen BK164.out 2
    have hfz7_3 := blk_frozen BK164.out 3
    have hfz7_4 := blk_frozen BK164.out 4
    go_wp2
    go_meet
    case rel => exact ⟨_, ((a0_4 == 0)), Z2, H', ⟨Z15⟩, ⟨(Z8 BK164)⟩, ⟨Z63⟩⟩
  ·rw [if_neg c4] at H
   have c4b0 : (a0_2 == 0) = false := beq_eq_false_iff_ne.mpr c4
   have c4b1 : (a0_2 != 0) = true := bne_iff_ne.mpr c4
   (first | rw [c4b0] | (simp only [i64_w, i32_w]; rw [c4b0]) | skip)
   have H' := Aside0.mk H
   clear H
   have hcz8_0 : w3.cell? ⟨gb164, 0, none⟩ = some (.int .i64 a0_0) := (blk_cell BK164.out 0).trans rfl
   have hcz8_1 : w3.cell? ⟨gb164, 1, none⟩ = some (.string a0_1) := (blk_cell BK164.out 1).trans rfl
   have hcz8_2 : w3.cell? ⟨gb164, 2, none⟩ = some (.int .i32 a0_2) := (blk_cell BK164.out 2).trans rfl
   have hcz8_3 : w3.cell? ⟨gb164, 3, none⟩ = some (.bool a0_3) := (blk_cell BK164.out 3).trans rfl
   have hcz8_4 : w3.cell? ⟨gb164, 4, none⟩ = some (.int .u32 a0_4) := (blk_cell BK164.out 4).trans rfl
   have hfz8_0 := blk_frozen BK164.out 0
   have hfz8_1 := blk_frozen BK164.out 1
   have hfz8_2 := blk_frozen BK164.out 2
   have hfz8_3 := blk_frozen BK164.out 3
   have hfz8_4 := blk_frozen BK164.out 4
   go_wp2
   go_meet
   case rel => exact ⟨_, (false), Z2, H', ⟨Z15⟩, ⟨(Z8 BK164)⟩, ⟨Z63⟩⟩
 case rest =>
  clear HC2
  try clear p2
  try clear c4
  try clear c4b0
  try clear c4b1
  try clear c5
  try clear c8
  try clear hcz6_0
  try clear hcz6_1
  try clear hcz6_2
  try clear hcz6_3
  try clear hcz6_4
  try clear hcz7_0
  try clear hcz7_1
  try clear hcz7_2
  try clear hcz7_3
  try clear hcz7_4
  try clear hcz8_0
  try clear hcz8_1
  try clear hcz8_2
  try clear hcz8_3
  try clear hcz8_4
  try clear hfz6_0
  try clear hfz6_1
  try clear hfz6_2
  try clear hfz6_3
  try clear hfz6_4
  try clear hfz7_0
  try clear hfz7_1
  try clear hfz7_2
  try clear hfz7_3
  try clear hfz7_4
  try clear hfz8_0
  try clear hfz8_1
  try clear hfz8_2
  try clear hfz8_3
  try clear hfz8_4
  obtain ⟨kq, x3_1, rfl, HA, HJ1, BK164, HB⟩ := hcut
  cases kq with
  | zero => exact absurd HA.out (by simp [spec_CellsOf.j0])
  | succ kj1 =>
   have H := HA.out
   clear HA
   simp only [spec_CellsOf.j0] at H
   by_cases c9 : a0_0 = 0
   ·rw [if_pos c9] at H
    have c9b0 : (a0_0 == 0) = true := beq_iff_eq.mpr c9
    have c9b1 : (a0_0 != 0) = false := bne_eq_false_iff_eq.mpr c9
    clear c9
    by_cases c10 : a0_1.toList = ([] : List UInt8)
    ·rw [if_pos c10] at H
     have c10b0 : (a0_1.toList == ([] : List UInt8)) = true := beq_iff_eq.mpr c10
     have c10b1 : (a0_1.toList != ([] : List UInt8)) = false := bne_eq_false_iff_eq.mpr c10
     clear c10
     by_cases c11 : a0_2 = 0
     ·rw [if_pos c11] at H
      have c11b0 : (a0_2 == 0) = true := beq_iff_eq.mpr c11
      have c11b1 : (a0_2 != 0) = false := bne_eq_false_iff_eq.mpr c11
      clear c11
      by_cases c12 : a0_3 = true
      ·subst c12
       have H1 : (some (([] : List Int))) = some r := Z11
       clear H
       have H := H1
       clear H1
       obtain ⟨y165, hy165⟩ : ∃ y_ : List Int, y_ = (([] : List Int)) := ⟨_, rfl⟩
       replace H : (some y165) = some r := by first | (rw [hy165]; with_reducible exact H) | (have H2_ := (Option.bind_some _ _).symm.trans H; rw [hy165]; with_reducible exact H2_) | (have H2_ := (Option.bind_some _ _).symm.trans H; with_reducible exact H2_) | with_reducible exact H | (rw [hy165]; exact H) | exact H
       have Ny165 := Aside0.mk hy165
       clear hy165
       obtain rfl := Option.some.inj H
       have hcz13_0 : wc.cell? ⟨gb164, 0, none⟩ = some (.int .i64 a0_0) := (blk_cell BK164.out 0).trans rfl
       have hcz13_1 : wc.cell? ⟨gb164, 1, none⟩ = some (.string a0_1) := (blk_cell BK164.out 1).trans rfl
       have hcz13_2 : wc.cell? ⟨gb164, 2, none⟩ = some (.int .i32 a0_2) := (blk_cell BK164.out 2).trans rfl
       have hcz13_3 : wc.cell? ⟨gb164, 3, none⟩ = some (.bool true) := (blk_cell BK164.out 3).trans rfl
       have hcz13_4 : wc.cell? ⟨gb164, 4, none⟩ = some (.int .u32 a0_4) := (blk_cell BK164.out 4).trans rfl
       have hfz13_0 := blk_frozen BK164.out 0
       have hfz13_1 := blk_frozen BK164.out 1
       have hfz13_2 := blk_frozen BK164.out 2
       have hfz13_3 := blk_frozen BK164.out 3
       have hfz13_4 := blk_frozen BK164.out 4
       go_wp2_with (first | ((with_reducible refine gate_dst (N := 105) rfl ?_); refine Kd.R_lit (Kd.int .u32) _ 47 (by rfl) (N := 105) (by rfl) (xs := ([] : List Int)) (inner := []) (ok := fun _ => True) (okp := fun _ => True) Z7 (Reps.none _ _) (fun _ hk => hk) trivial (Below.refl _ _) (Nat.le_refl _) (by simp) ?_; intro v166 w14 ho15 hb hg_ hnew_; clear hg_ hnew_; (first | rw [← Ny165.out] at ho15 | (simp only [Int.reduceToNat] at ho15; rw [← Ny165.out] at ho15)); have HO167 := Z (Kd.R_lower ho15 (below_size Z63)); replace BK164 := Z (blk_below (g := gb164) (o := .cells #[.int .i64 a0_0, .string a0_1, .int .i32 a0_2, .bool true, .int .u32 a0_4] 51 (0, 0)) (Z8 BK164) hb); replace HB := Z (below_step Z63 hb); clear hb ho15))
       go_ret
       exact ⟨_, Z9, (Z12 HO167), Z63⟩
      ·replace c12 := Bool.eq_false_iff.mpr c12
       subst c12
       have H1 : (some (([a0_4] : List Int))) = some r := by rw [if_neg (show ¬ (false = true) by decide)] at H; exact H
       clear H
       have H := H1
       clear H1
       obtain ⟨y168, hy168⟩ : ∃ y_ : List Int, y_ = (([a0_4] : List Int)) := ⟨_, rfl⟩
       replace H : (some y168) = some r := by first | (rw [hy168]; with_reducible exact H) | (have H2_ := (Option.bind_some _ _).symm.trans H; rw [hy168]; with_reducible exact H2_) | (have H2_ := (Option.bind_some _ _).symm.trans H; with_reducible exact H2_) | with_reducible exact H | (rw [hy168]; exact H) | exact H
       have Ny168 := Aside0.mk hy168
       clear hy168
       obtain rfl := Option.some.inj H
       have hcz16_0 : wc.cell? ⟨gb164, 0, none⟩ = some (.int .i64 a0_0) := (blk_cell BK164.out 0).trans rfl
       have hcz16_1 : wc.cell? ⟨gb164, 1, none⟩ = some (.string a0_1) := (blk_cell BK164.out 1).trans rfl
       have hcz16_2 : wc.cell? ⟨gb164, 2, none⟩ = some (.int .i32 a0_2) := (blk_cell BK164.out 2).trans rfl
       have hcz16_3 : wc.cell? ⟨gb164, 3, none⟩ = some (.bool false) := (blk_cell BK164.out 3).trans rfl
       have hcz16_4 : wc.cell? ⟨gb164, 4, none⟩ = some (.int .u32 a0_4) := (blk_cell BK164.out 4).trans rfl
       have hfz16_0 := blk_frozen BK164.out 0
       have hfz16_1 := blk_frozen BK164.out 1
       have hfz16_2 := blk_frozen BK164.out 2
       have hfz16_3 := blk_frozen BK164.out 3
       have hfz16_4 := blk_frozen BK164.out 4
       go_wp2_with (first | ((with_reducible refine gate_dst (N := 50) rfl ?_); refine Kd.R_lit (Kd.int .u32) _ 47 (by rfl) (N := 50) (by rfl) (xs := ([a0_4] : List Int)) (inner := [.int .u32 a0_4]) (ok := fun _ => True) (okp := fun _ => True) Z7 (Reps.one (show Kd.M (Kd.int .u32) _ _ _ a0_4 [.int .u32 a0_4] from rfl) (Reps.none _ _)) (fun _ hk => hk) trivial (Below.refl _ _) (Nat.le_refl _) (by simp) ?_; intro v169 w17 ho18 hb hg_ hnew_; clear hg_ hnew_; (first | rw [← Ny168.out] at ho18 | (simp only [Int.reduceToNat] at ho18; rw [← Ny168.out] at ho18)); have HO170 := Z (Kd.R_lower ho18 (below_size Z63)); replace BK164 := Z (blk_below (g := gb164) (o := .cells #[.int .i64 a0_0, .string a0_1, .int .i32 a0_2, .bool false, .int .u32 a0_4] 51 (0, 0)) (Z8 BK164) hb); replace HB := Z (below_step Z63 hb); clear hb ho18))
       go_ret
       exact ⟨_, Z9, (Z12 HO170), Z63⟩
     ·rw [if_neg c11] at H
      have c11b0 : (a0_2 == 0) = false := beq_eq_false_iff_ne.mpr c11
      have c11b1 : (a0_2 != 0) = true := bne_iff_ne.mpr c11
      obtain ⟨y171, hy171⟩ : ∃ y_ : List Int, y_ = (([] : List Int)) := ⟨_, rfl⟩
      replace H : (some y171) = some r := by first | (rw [hy171]; with_reducible exact H) | (have H2_ := (Option.bind_some _ _).symm.trans H; rw [hy171]; with_reducible exact H2_) | (have H2_ := (Option.bind_some _ _).symm.trans H; with_reducible exact H2_) | with_reducible exact H | (rw [hy171]; exact H) | exact H
      have Ny171 := Aside0.mk hy171
      clear hy171
      obtain rfl := Option.some.inj H
      have hcz19_0 : wc.cell? ⟨gb164, 0, none⟩ = some (.int .i64 a0_0) := (blk_cell BK164.out 0).trans rfl
      have hcz19_1 : wc.cell? ⟨gb164, 1, none⟩ = some (.string a0_1) := (blk_cell BK164.out 1).trans rfl
      have hcz19_2 : wc.cell? ⟨gb164, 2, none⟩ = some (.int .i32 a0_2) := (blk_cell BK164.out 2).trans rfl
      have hcz19_3 : wc.cell? ⟨gb164, 3, none⟩ = some (.bool a0_3) := (blk_cell BK164.out 3).trans rfl
      have hcz19_4 : wc.cell? ⟨gb164, 4, none⟩ = some (.int .u32 a0_4) := (blk_cell BK164.out 4).trans rfl
      have hfz19_0 := blk_frozen BK164.out 0
      have hfz19_1 := blk_frozen BK164.out 1
      have hfz19_2 := blk_frozen BK164.out 2
      have hfz19_3 := blk_frozen BK164.out 3
      have hfz19_4 := blk_frozen BK164.out 4
      go_wp2_with (first | ((with_reducible refine gate_dst (N := 105) rfl ?_); refine Kd.R_lit (Kd.int .u32) _ 47 (by rfl) (N := 105) (by rfl) (xs := ([] : List Int)) (inner := []) (ok := fun _ => True) (okp := fun _ => True) Z7 (Reps.none _ _) (fun _ hk => hk) trivial (Below.refl _ _) (Nat.le_refl _) (by simp) ?_; intro v172 w20 ho21 hb hg_ hnew_; clear hg_ hnew_; (first | rw [← Ny171.out] at ho21 | (simp only [Int.reduceToNat] at ho21; rw [← Ny171.out] at ho21)); have HO173 := Z (Kd.R_lower ho21 (below_size Z63)); replace BK164 := Z (blk_below (g := gb164) (o := .cells #[.int .i64 a0_0, .string a0_1, .int .i32 a0_2, .bool a0_3, .int .u32 a0_4] 51 (0, 0)) (Z8 BK164) hb); replace HB := Z (below_step Z63 hb); clear hb ho21))
      go_ret
      exact ⟨_, Z9, (Z12 HO173), Z63⟩
    ·rw [if_neg c10] at H
     have c10b0 : (a0_1.toList == ([] : List UInt8)) = false := beq_eq_false_iff_ne.mpr c10
     have c10b1 : (a0_1.toList != ([] : List UInt8)) = true := bne_iff_ne.mpr c10
     obtain ⟨y174, hy174⟩ : ∃ y_ : List Int, y_ = (([] : List Int)) := ⟨_, rfl⟩
     replace H : (some y174) = some r := by first | (rw [hy174]; with_reducible exact H) | (have H2_ := (Option.bind_some _ _).symm.trans H; rw [hy174]; with_reducible exact H2_) | (have H2_ := (Option.bind_some _ _).symm.trans H; with_reducible exact H2_) | with_reducible exact H | (rw [hy174]; exact H) | exact H
     have Ny174 := Aside0.mk hy174
     clear hy174
     obtain rfl := Option.some.inj H
     have hcz22_0 : wc.cell? ⟨gb164, 0, none⟩ = some (.int .i64 a0_0) := (blk_cell BK164.out 0).trans rfl
     have hcz22_1 : wc.cell? ⟨gb164, 1, none⟩ = some (.string a0_1) := (blk_cell BK164.out 1).trans rfl
     have hcz22_2 : wc.cell? ⟨gb164, 2, none⟩ = some (.int .i32 a0_2) := (blk_cell BK164.out 2).trans rfl
     have hcz22_3 : wc.cell? ⟨gb164, 3, none⟩ = some (.bool a0_3) := (blk_cell BK164.out 3).trans rfl
     have hcz22_4 : wc.cell? ⟨gb164, 4, none⟩ = some (.int .u32 a0_4) := (blk_cell BK164.out 4).trans rfl
     have hfz22_0 := blk_frozen BK164.out 0
     have hfz22_1 := blk_frozen BK164.out 1
     have hfz22_2 := blk_frozen BK164.out 2
     have hfz22_3 := blk_frozen BK164.out 3
     have hfz22_4 := blk_frozen BK164.out 4
     go_wp2_with (first | ((with_reducible refine gate_dst (N := 105) rfl ?_); refine Kd.R_lit (Kd.int .u32) _ 47 (by rfl) (N := 105) (by rfl) (xs := ([] : List Int)) (inner := []) (ok := fun _ => True) (okp := fun _ => True) Z7 (Reps.none _ _) (fun _ hk => hk) trivial (Below.refl _ _) (Nat.le_refl _) (by simp) ?_; intro v175 w23 ho24 hb hg_ hnew_; clear hg_ hnew_; (first | rw [← Ny174.out] at ho24 | (simp only [Int.reduceToNat] at ho24; rw [← Ny174.out] at ho24)); have HO176 := Z (Kd.R_lower ho24 (below_size Z63)); replace BK164 := Z (blk_below (g := gb164) (o := .cells #[.int .i64 a0_0, .string a0_1, .int .i32 a0_2, .bool a0_3, .int .u32 a0_4] 51 (0, 0)) (Z8 BK164) hb); replace HB := Z (below_step Z63 hb); clear hb ho24))
     go_ret
     exact ⟨_, Z9, (Z12 HO176), Z63⟩
   ·rw [if_neg c9] at H
    have c9b0 : (a0_0 == 0) = false := beq_eq_false_iff_ne.mpr c9
    have c9b1 : (a0_0 != 0) = true := bne_iff_ne.mpr c9
    by_cases c25 : a0_0 = 7
    ·rw [if_pos c25] at H
     have c25b0 : (a0_0 == 7) = true := beq_iff_eq.mpr c25
     have c25b1 : (a0_0 != 7) = false := bne_eq_false_iff_eq.mpr c25
     clear c25
     by_cases c26 : a0_1.toList = ([] : List UInt8)
     ·rw [if_pos c26] at H
      have c26b0 : (a0_1.toList == ([] : List UInt8)) = true := beq_iff_eq.mpr c26
      have c26b1 : (a0_1.toList != ([] : List UInt8)) = false := bne_eq_false_iff_eq.mpr c26
      clear c26
      by_cases c27 : a0_4 = 0
      ·rw [if_pos c27] at H
       have c27b0 : (a0_4 == 0) = true := beq_iff_eq.mpr c27
       have c27b1 : (a0_4 != 0) = false := bne_eq_false_iff_eq.mpr c27
       clear c27
       replace H := Option.bind_eq_some_iff.mp H
       obtain ⟨t177, A280, H⟩ := H
       replace H : (some t177) = some r := H
       have A28 := Aside0.mk A280
       clear A280
       obtain rfl := Option.some.inj H
       have hcz29_0 : wc.cell? ⟨gb164, 0, none⟩ = some (.int .i64 a0_0) := (blk_cell BK164.out 0).trans rfl
       have hcz29_1 : wc.cell? ⟨gb164, 1, none⟩ = some (.string a0_1) := (blk_cell BK164.out 1).trans rfl
       have hcz29_2 : wc.cell? ⟨gb164, 2, none⟩ = some (.int .i32 a0_2) := (blk_cell BK164.out 2).trans rfl
       have hcz29_3 : wc.cell? ⟨gb164, 3, none⟩ = some (.bool a0_3) := (blk_cell BK164.out 3).trans rfl
       have hcz29_4 : wc.cell? ⟨gb164, 4, none⟩ = some (.int .u32 a0_4) := (blk_cell BK164.out 4).trans rfl
       have hfz29_0 := blk_frozen BK164.out 0
       have hfz29_1 := blk_frozen BK164.out 1
       have hfz29_2 := blk_frozen BK164.out 2
       have hfz29_3 := blk_frozen BK164.out 3
       have hfz29_4 := blk_frozen BK164.out 4
       go_wp2_with (first | ((with_reducible refine gate_callee (f := 108) rfl ?_); refine goesL_ (some 65) rfl rfl Try.func108 Z0 rfl #[.int .i32 a0_2, .bool a0_3, .int .u32 8, .int .u32 2] rfl Z10 ?_; (with_reducible refine (spec_l04Num.calls a0_2 a0_3 8 2 t177 _ A28.out).mono ?_); rintro e w30 ⟨v178, rfl, ho0, hb⟩; refine ⟨_, rfl, ?_⟩; have HO179 := Z (Kd.R_lower ho0 (below_size Z63)); replace BK164 := Z (blk_below (g := gb164) (o := .cells #[.int .i64 a0_0, .string a0_1, .int .i32 a0_2, .bool a0_3, .int .u32 a0_4] 51 (0, 0)) (Z8 BK164) hb); replace HB := Z (below_step Z63 hb); (try clear hb); (try clear hb2); (try clear hk); (try clear hi); (try clear ho0)))
       go_ret
       exact ⟨_, Z9, (Z12 HO179), Z63⟩
      ·rw [if_neg c27] at H
       have c27b0 : (a0_4 == 0) = false := beq_eq_false_iff_ne.mpr c27
       have c27b1 : (a0_4 != 0) = true := bne_iff_ne.mpr c27
       obtain ⟨y180, hy180⟩ : ∃ y_ : List Int, y_ = (([] : List Int)) := ⟨_, rfl⟩
       replace H : (some y180) = some r := by first | (rw [hy180]; with_reducible exact H) | (have H2_ := (Option.bind_some _ _).symm.trans H; rw [hy180]; with_reducible exact H2_) | (have H2_ := (Option.bind_some _ _).symm.trans H; with_reducible exact H2_) | with_reducible exact H | (rw [hy180]; exact H) | exact H
       have Ny180 := Aside0.mk hy180
       clear hy180
       obtain rfl := Option.some.inj H
       have hcz31_0 : wc.cell? ⟨gb164, 0, none⟩ = some (.int .i64 a0_0) := (blk_cell BK164.out 0).trans rfl
       have hcz31_1 : wc.cell? ⟨gb164, 1, none⟩ = some (.string a0_1) := (blk_cell BK164.out 1).trans rfl
       have hcz31_2 : wc.cell? ⟨gb164, 2, none⟩ = some (.int .i32 a0_2) := (blk_cell BK164.out 2).trans rfl
       have hcz31_3 : wc.cell? ⟨gb164, 3, none⟩ = some (.bool a0_3) := (blk_cell BK164.out 3).trans rfl
       have hcz31_4 : wc.cell? ⟨gb164, 4, none⟩ = some (.int .u32 a0_4) := (blk_cell BK164.out 4).trans rfl
       have hfz31_0 := blk_frozen BK164.out 0
       have hfz31_1 := blk_frozen BK164.out 1
       have hfz31_2 := blk_frozen BK164.out 2
       have hfz31_3 := blk_frozen BK164.out 3
       have hfz31_4 := blk_frozen BK164.out 4
       go_wp2_with (first | ((with_reducible refine gate_dst (N := 105) rfl ?_); refine Kd.R_lit (Kd.int .u32) _ 47 (by rfl) (N := 105) (by rfl) (xs := ([] : List Int)) (inner := []) (ok := fun _ => True) (okp := fun _ => True) Z7 (Reps.none _ _) (fun _ hk => hk) trivial (Below.refl _ _) (Nat.le_refl _) (by simp) ?_; intro v181 w32 ho33 hb hg_ hnew_; clear hg_ hnew_; (first | rw [← Ny180.out] at ho33 | (simp only [Int.reduceToNat] at ho33; rw [← Ny180.out] at ho33)); have HO182 := Z (Kd.R_lower ho33 (below_size Z63)); replace BK164 := Z (blk_below (g := gb164) (o := .cells #[.int .i64 a0_0, .string a0_1, .int .i32 a0_2, .bool a0_3, .int .u32 a0_4] 51 (0, 0)) (Z8 BK164) hb); replace HB := Z (below_step Z63 hb); clear hb ho33))
       go_ret
       exact ⟨_, Z9, (Z12 HO182), Z63⟩
     ·rw [if_neg c26] at H
      have c26b0 : (a0_1.toList == ([] : List UInt8)) = false := beq_eq_false_iff_ne.mpr c26
      have c26b1 : (a0_1.toList != ([] : List UInt8)) = true := bne_iff_ne.mpr c26
      obtain ⟨y183, hy183⟩ : ∃ y_ : List Int, y_ = (([] : List Int)) := ⟨_, rfl⟩
      replace H : (some y183) = some r := by first | (rw [hy183]; with_reducible exact H) | (have H2_ := (Option.bind_some _ _).symm.trans H; rw [hy183]; with_reducible exact H2_) | (have H2_ := (Option.bind_some _ _).symm.trans H; with_reducible exact H2_) | with_reducible exact H | (rw [hy183]; exact H) | exact H
      have Ny183 := Aside0.mk hy183
      clear hy183
      obtain rfl := Option.some.inj H
      have hcz34_0 : wc.cell? ⟨gb164, 0, none⟩ = some (.int .i64 a0_0) := (blk_cell BK164.out 0).trans rfl
      have hcz34_1 : wc.cell? ⟨gb164, 1, none⟩ = some (.string a0_1) := (blk_cell BK164.out 1).trans rfl
      have hcz34_2 : wc.cell? ⟨gb164, 2, none⟩ = some (.int .i32 a0_2) := (blk_cell BK164.out 2).trans rfl
      have hcz34_3 : wc.cell? ⟨gb164, 3, none⟩ = some (.bool a0_3) := (blk_cell BK164.out 3).trans rfl
      have hcz34_4 : wc.cell? ⟨gb164, 4, none⟩ = some (.int .u32 a0_4) := (blk_cell BK164.out 4).trans rfl
      have hfz34_0 := blk_frozen BK164.out 0
      have hfz34_1 := blk_frozen BK164.out 1
      have hfz34_2 := blk_frozen BK164.out 2
      have hfz34_3 := blk_frozen BK164.out 3
      have hfz34_4 := blk_frozen BK164.out 4
      go_wp2_with (first | ((with_reducible refine gate_dst (N := 105) rfl ?_); refine Kd.R_lit (Kd.int .u32) _ 47 (by rfl) (N := 105) (by rfl) (xs := ([] : List Int)) (inner := []) (ok := fun _ => True) (okp := fun _ => True) Z7 (Reps.none _ _) (fun _ hk => hk) trivial (Below.refl _ _) (Nat.le_refl _) (by simp) ?_; intro v184 w35 ho36 hb hg_ hnew_; clear hg_ hnew_; (first | rw [← Ny183.out] at ho36 | (simp only [Int.reduceToNat] at ho36; rw [← Ny183.out] at ho36)); have HO185 := Z (Kd.R_lower ho36 (below_size Z63)); replace BK164 := Z (blk_below (g := gb164) (o := .cells #[.int .i64 a0_0, .string a0_1, .int .i32 a0_2, .bool a0_3, .int .u32 a0_4] 51 (0, 0)) (Z8 BK164) hb); replace HB := Z (below_step Z63 hb); clear hb ho36))
      go_ret
      exact ⟨_, Z9, (Z12 HO185), Z63⟩
    ·rw [if_neg c25] at H
     have c25b0 : (a0_0 == 7) = false := beq_eq_false_iff_ne.mpr c25
     have c25b1 : (a0_0 != 7) = true := bne_iff_ne.mpr c25
     by_cases c37 : a0_0 = 8
     ·rw [if_pos c37] at H
      have c37b0 : (a0_0 == 8) = true := beq_iff_eq.mpr c37
      have c37b1 : (a0_0 != 8) = false := bne_eq_false_iff_eq.mpr c37
      clear c37
      by_cases c38 : a0_1.toList = ([] : List UInt8)
      ·rw [if_pos c38] at H
       have c38b0 : (a0_1.toList == ([] : List UInt8)) = true := beq_iff_eq.mpr c38
       have c38b1 : (a0_1.toList != ([] : List UInt8)) = false := bne_eq_false_iff_eq.mpr c38
       clear c38
       by_cases c39 : a0_4 = 0
       ·rw [if_pos c39] at H
        have c39b0 : (a0_4 == 0) = true := beq_iff_eq.mpr c39
        have c39b1 : (a0_4 != 0) = false := bne_eq_false_iff_eq.mpr c39
        clear c39
        replace H := Option.bind_eq_some_iff.mp H
        obtain ⟨t186, A400, H⟩ := H
        replace H : (some t186) = some r := H
        have A40 := Aside0.mk A400
        clear A400
        obtain rfl := Option.some.inj H
        have hcz41_0 : wc.cell? ⟨gb164, 0, none⟩ = some (.int .i64 a0_0) := (blk_cell BK164.out 0).trans rfl
        have hcz41_1 : wc.cell? ⟨gb164, 1, none⟩ = some (.string a0_1) := (blk_cell BK164.out 1).trans rfl
        have hcz41_2 : wc.cell? ⟨gb164, 2, none⟩ = some (.int .i32 a0_2) := (blk_cell BK164.out 2).trans rfl
        have hcz41_3 : wc.cell? ⟨gb164, 3, none⟩ = some (.bool a0_3) := (blk_cell BK164.out 3).trans rfl
        have hcz41_4 : wc.cell? ⟨gb164, 4, none⟩ = some (.int .u32 a0_4) := (blk_cell BK164.out 4).trans rfl
        have hfz41_0 := blk_frozen BK164.out 0
        have hfz41_1 := blk_frozen BK164.out 1
        have hfz41_2 := blk_frozen BK164.out 2
        have hfz41_3 := blk_frozen BK164.out 3
        have hfz41_4 := blk_frozen BK164.out 4
        go_wp2_with (first | ((with_reducible refine gate_callee (f := 108) rfl ?_); refine goesL_ (some 80) rfl rfl Try.func108 Z0 rfl #[.int .i32 a0_2, .bool a0_3, .int .u32 6, .int .u32 5] rfl Z10 ?_; (with_reducible refine (spec_l04Num.calls a0_2 a0_3 6 5 t186 _ A40.out).mono ?_); rintro e w42 ⟨v187, rfl, ho0, hb⟩; refine ⟨_, rfl, ?_⟩; have HO188 := Z (Kd.R_lower ho0 (below_size Z63)); replace BK164 := Z (blk_below (g := gb164) (o := .cells #[.int .i64 a0_0, .string a0_1, .int .i32 a0_2, .bool a0_3, .int .u32 a0_4] 51 (0, 0)) (Z8 BK164) hb); replace HB := Z (below_step Z63 hb); (try clear hb); (try clear hb2); (try clear hk); (try clear hi); (try clear ho0)))
        go_ret
        exact ⟨_, Z9, (Z12 HO188), Z63⟩
       ·rw [if_neg c39] at H
        have c39b0 : (a0_4 == 0) = false := beq_eq_false_iff_ne.mpr c39
        have c39b1 : (a0_4 != 0) = true := bne_iff_ne.mpr c39
        obtain ⟨y189, hy189⟩ : ∃ y_ : List Int, y_ = (([] : List Int)) := ⟨_, rfl⟩
        replace H : (some y189) = some r := by first | (rw [hy189]; with_reducible exact H) | (have H2_ := (Option.bind_some _ _).symm.trans H; rw [hy189]; with_reducible exact H2_) | (have H2_ := (Option.bind_some _ _).symm.trans H; with_reducible exact H2_) | with_reducible exact H | (rw [hy189]; exact H) | exact H
        have Ny189 := Aside0.mk hy189
        clear hy189
        obtain rfl := Option.some.inj H
        have hcz43_0 : wc.cell? ⟨gb164, 0, none⟩ = some (.int .i64 a0_0) := (blk_cell BK164.out 0).trans rfl
        have hcz43_1 : wc.cell? ⟨gb164, 1, none⟩ = some (.string a0_1) := (blk_cell BK164.out 1).trans rfl
        have hcz43_2 : wc.cell? ⟨gb164, 2, none⟩ = some (.int .i32 a0_2) := (blk_cell BK164.out 2).trans rfl
        have hcz43_3 : wc.cell? ⟨gb164, 3, none⟩ = some (.bool a0_3) := (blk_cell BK164.out 3).trans rfl
        have hcz43_4 : wc.cell? ⟨gb164, 4, none⟩ = some (.int .u32 a0_4) := (blk_cell BK164.out 4).trans rfl
        have hfz43_0 := blk_frozen BK164.out 0
        have hfz43_1 := blk_frozen BK164.out 1
        have hfz43_2 := blk_frozen BK164.out 2
        have hfz43_3 := blk_frozen BK164.out 3
        have hfz43_4 := blk_frozen BK164.out 4
        go_wp2_with (first | ((with_reducible refine gate_dst (N := 105) rfl ?_); refine Kd.R_lit (Kd.int .u32) _ 47 (by rfl) (N := 105) (by rfl) (xs := ([] : List Int)) (inner := []) (ok := fun _ => True) (okp := fun _ => True) Z7 (Reps.none _ _) (fun _ hk => hk) trivial (Below.refl _ _) (Nat.le_refl _) (by simp) ?_; intro v190 w44 ho45 hb hg_ hnew_; clear hg_ hnew_; (first | rw [← Ny189.out] at ho45 | (simp only [Int.reduceToNat] at ho45; rw [← Ny189.out] at ho45)); have HO191 := Z (Kd.R_lower ho45 (below_size Z63)); replace BK164 := Z (blk_below (g := gb164) (o := .cells #[.int .i64 a0_0, .string a0_1, .int .i32 a0_2, .bool a0_3, .int .u32 a0_4] 51 (0, 0)) (Z8 BK164) hb); replace HB := Z (below_step Z63 hb); clear hb ho45))
        go_ret
        exact ⟨_, Z9, (Z12 HO191), Z63⟩
      ·rw [if_neg c38] at H
       have c38b0 : (a0_1.toList == ([] : List UInt8)) = false := beq_eq_false_iff_ne.mpr c38
       have c38b1 : (a0_1.toList != ([] : List UInt8)) = true := bne_iff_ne.mpr c38
       obtain ⟨y192, hy192⟩ : ∃ y_ : List Int, y_ = (([] : List Int)) := ⟨_, rfl⟩
       replace H : (some y192) = some r := by first | (rw [hy192]; with_reducible exact H) | (have H2_ := (Option.bind_some _ _).symm.trans H; rw [hy192]; with_reducible exact H2_) | (have H2_ := (Option.bind_some _ _).symm.trans H; with_reducible exact H2_) | with_reducible exact H | (rw [hy192]; exact H) | exact H
       have Ny192 := Aside0.mk hy192
       clear hy192
       obtain rfl := Option.some.inj H
       have hcz46_0 : wc.cell? ⟨gb164, 0, none⟩ = some (.int .i64 a0_0) := (blk_cell BK164.out 0).trans rfl
       have hcz46_1 : wc.cell? ⟨gb164, 1, none⟩ = some (.string a0_1) := (blk_cell BK164.out 1).trans rfl
       have hcz46_2 : wc.cell? ⟨gb164, 2, none⟩ = some (.int .i32 a0_2) := (blk_cell BK164.out 2).trans rfl
       have hcz46_3 : wc.cell? ⟨gb164, 3, none⟩ = some (.bool a0_3) := (blk_cell BK164.out 3).trans rfl
       have hcz46_4 : wc.cell? ⟨gb164, 4, none⟩ = some (.int .u32 a0_4) := (blk_cell BK164.out 4).trans rfl
       have hfz46_0 := blk_frozen BK164.out 0
       have hfz46_1 := blk_frozen BK164.out 1
       have hfz46_2 := blk_frozen BK164.out 2
       have hfz46_3 := blk_frozen BK164.out 3
       have hfz46_4 := blk_frozen BK164.out 4
       go_wp2_with (first | ((with_reducible refine gate_dst (N := 105) rfl ?_); refine Kd.R_lit (Kd.int .u32) _ 47 (by rfl) (N := 105) (by rfl) (xs := ([] : List Int)) (inner := []) (ok := fun _ => True) (okp := fun _ => True) Z7 (Reps.none _ _) (fun _ hk => hk) trivial (Below.refl _ _) (Nat.le_refl _) (by simp) ?_; intro v193 w47 ho48 hb hg_ hnew_; clear hg_ hnew_; (first | rw [← Ny192.out] at ho48 | (simp only [Int.reduceToNat] at ho48; rw [← Ny192.out] at ho48)); have HO194 := Z (Kd.R_lower ho48 (below_size Z63)); replace BK164 := Z (blk_below (g := gb164) (o := .cells #[.int .i64 a0_0, .string a0_1, .int .i32 a0_2, .bool a0_3, .int .u32 a0_4] 51 (0, 0)) (Z8 BK164) hb); replace HB := Z (below_step Z63 hb); clear hb ho48))
       go_ret
       exact ⟨_, Z9, (Z12 HO194), Z63⟩
     ·rw [if_neg c37] at H
      have c37b0 : (a0_0 == 8) = false := beq_eq_false_iff_ne.mpr c37
      have c37b1 : (a0_0 != 8) = true := bne_iff_ne.mpr c37
      by_cases c49 : a0_0 = 9
      ·rw [if_pos c49] at H
       have c49b0 : (a0_0 == 9) = true := beq_iff_eq.mpr c49
       have c49b1 : (a0_0 != 9) = false := bne_eq_false_iff_eq.mpr c49
       clear c49
       replace H := Option.bind_eq_some_iff.mp H
       obtain ⟨t195, A500, H⟩ := H
       replace H : (if (t195.length : Int) = 1 then (if a0_3 = true then (some (([] : List Int))) else (if a0_4 = 0 then (if t195.length < 35184372088832 then (some (t195 ++ [(a0_2) % 4294967296])) else (none)) else (some (([] : List Int))))) else (some (([] : List Int)))) = some r := H
       have A50 := Aside0.mk A500
       clear A500
       by_cases c51 : (t195.length : Int) = 1
       ·rw [if_pos c51] at H
        have c51b0 : ((t195.length : Int) == 1) = true := beq_iff_eq.mpr c51
        have c51b1 : ((t195.length : Int) != 1) = false := bne_eq_false_iff_eq.mpr c51
        clear c51
        by_cases c52 : a0_3 = true
        ·subst c52
         have H1 : (some (([] : List Int))) = some r := Z11
         clear H
         have H := H1
         clear H1
         obtain ⟨y198, hy198⟩ : ∃ y_ : List Int, y_ = (([] : List Int)) := ⟨_, rfl⟩
         replace H : (some y198) = some r := by first | (rw [hy198]; with_reducible exact H) | (have H2_ := (Option.bind_some _ _).symm.trans H; rw [hy198]; with_reducible exact H2_) | (have H2_ := (Option.bind_some _ _).symm.trans H; with_reducible exact H2_) | with_reducible exact H | (rw [hy198]; exact H) | exact H
         have Ny198 := Aside0.mk hy198
         clear hy198
         obtain rfl := Option.some.inj H
         have hcz53_0 : wc.cell? ⟨gb164, 0, none⟩ = some (.int .i64 a0_0) := (blk_cell BK164.out 0).trans rfl
         have hcz53_1 : wc.cell? ⟨gb164, 1, none⟩ = some (.string a0_1) := (blk_cell BK164.out 1).trans rfl
         have hcz53_2 : wc.cell? ⟨gb164, 2, none⟩ = some (.int .i32 a0_2) := (blk_cell BK164.out 2).trans rfl
         have hcz53_3 : wc.cell? ⟨gb164, 3, none⟩ = some (.bool true) := (blk_cell BK164.out 3).trans rfl
         have hcz53_4 : wc.cell? ⟨gb164, 4, none⟩ = some (.int .u32 a0_4) := (blk_cell BK164.out 4).trans rfl
         have hfz53_0 := blk_frozen BK164.out 0
         have hfz53_1 := blk_frozen BK164.out 1
         have hfz53_2 := blk_frozen BK164.out 2
         have hfz53_3 := blk_frozen BK164.out 3
         have hfz53_4 := blk_frozen BK164.out 4
         go_wp2_with (first | ((with_reducible refine gate_callee (f := 109) rfl ?_); refine goesL_ (some 85) rfl rfl Try.func109 Z0 rfl #[.int .u32 12, .string a0_1] rfl Z10 ?_; (with_reducible refine (spec_l04Word.calls kj1 12 a0_1 t195 _ A50.out).mono ?_); rintro e w54 ⟨v196, rfl, ho0, hb⟩; refine ⟨_, rfl, ?_⟩; have HO197 := Z (Kd.R_lower ho0 (below_size Z63)); replace BK164 := Z (blk_below (g := gb164) (o := .cells #[.int .i64 a0_0, .string a0_1, .int .i32 a0_2, .bool true, .int .u32 a0_4] 51 (0, 0)) (Z8 BK164) hb); replace HB := Z (below_step Z63 hb); (try clear hb); (try clear hb2); (try clear hk); (try clear hi); (try clear ho0); obtain ⟨Ao55, co55, eo55⟩ := Kd.R_slice HO197.out; subst eo55; have hcz56_0 : w54.cell? ⟨gb164, 0, none⟩ = some (.int .i64 a0_0) := (blk_cell BK164.out 0).trans rfl; have hcz56_1 : w54.cell? ⟨gb164, 1, none⟩ = some (.string a0_1) := (blk_cell BK164.out 1).trans rfl; have hcz56_2 : w54.cell? ⟨gb164, 2, none⟩ = some (.int .i32 a0_2) := (blk_cell BK164.out 2).trans rfl; have hcz56_3 : w54.cell? ⟨gb164, 3, none⟩ = some (.bool true) := (blk_cell BK164.out 3).trans rfl; have hcz56_4 : w54.cell? ⟨gb164, 4, none⟩ = some (.int .u32 a0_4) := (blk_cell BK164.out 4).trans rfl; have hfz56_0 := blk_frozen BK164.out 0; have hfz56_1 := blk_frozen BK164.out 1; have hfz56_2 := blk_frozen BK164.out 2; have hfz56_3 := blk_frozen BK164.out 3; have hfz56_4 := blk_frozen BK164.out 4) | ((with_reducible refine gate_dst (N := 105) rfl ?_); refine Kd.R_lit (Kd.int .u32) _ 47 (by rfl) (N := 105) (by rfl) (xs := ([] : List Int)) (inner := []) (ok := fun _ => True) (okp := fun _ => True) Z7 (Reps.none _ _) (fun _ hk => hk) trivial (Below.refl _ _) (Nat.le_refl _) (by simp) ?_; intro v199 w57 ho58 hb hg_ hnew_; clear hg_ hnew_; (first | rw [← Ny198.out] at ho58 | (simp only [Int.reduceToNat] at ho58; rw [← Ny198.out] at ho58)); have HO200 := Z (Kd.R_lower (Kd.R_new' ho58 (Kd.R_lt (Z12 HO197))) (below_size Z63)); replace HO197 := Z (Kd.R_elder' (Z12 HO197) (Kd.R_base ho58) hb); replace BK164 := Z (blk_below (g := gb164) (o := .cells #[.int .i64 a0_0, .string a0_1, .int .i32 a0_2, .bool true, .int .u32 a0_4] 51 (0, 0)) (Z8 BK164) hb); replace HB := Z (below_step Z63 hb); clear hb ho58))
         go_ret
         exact ⟨_, Z9, (Z16 HO200), Z63⟩
        ·replace c52 := Bool.eq_false_iff.mpr c52
         subst c52
         have H1 : (if a0_4 = 0 then (if t195.length < 35184372088832 then (some (t195 ++ [(a0_2) % 4294967296])) else (none)) else (some (([] : List Int)))) = some r := by rw [if_neg (show ¬ (false = true) by decide)] at H; exact H
         clear H
         have H := H1
         clear H1
         by_cases c59 : a0_4 = 0
         ·rw [if_pos c59] at H
          have c59b0 : (a0_4 == 0) = true := beq_iff_eq.mpr c59
          have c59b1 : (a0_4 != 0) = false := bne_eq_false_iff_eq.mpr c59
          clear c59
          by_cases c60 : t195.length < 35184372088832
          ·rw [if_pos c60] at H
           have LMc60 := Aside0.mk c60
           clear c60
           obtain ⟨y201, hy201⟩ : ∃ y_ : List Int, y_ = (t195 ++ [(a0_2) % 4294967296]) := ⟨_, rfl⟩
           replace H : (some y201) = some r := by first | (rw [hy201]; with_reducible exact H) | (have H2_ := (Option.bind_some _ _).symm.trans H; rw [hy201]; with_reducible exact H2_) | (have H2_ := (Option.bind_some _ _).symm.trans H; with_reducible exact H2_) | with_reducible exact H | (rw [hy201]; exact H) | exact H
           have Ny201 := Aside0.mk hy201
           clear hy201
           obtain rfl := Option.some.inj H
           have hcz61_0 : wc.cell? ⟨gb164, 0, none⟩ = some (.int .i64 a0_0) := (blk_cell BK164.out 0).trans rfl
           have hcz61_1 : wc.cell? ⟨gb164, 1, none⟩ = some (.string a0_1) := (blk_cell BK164.out 1).trans rfl
           have hcz61_2 : wc.cell? ⟨gb164, 2, none⟩ = some (.int .i32 a0_2) := (blk_cell BK164.out 2).trans rfl
           have hcz61_3 : wc.cell? ⟨gb164, 3, none⟩ = some (.bool false) := (blk_cell BK164.out 3).trans rfl
           have hcz61_4 : wc.cell? ⟨gb164, 4, none⟩ = some (.int .u32 a0_4) := (blk_cell BK164.out 4).trans rfl
           have hfz61_0 := blk_frozen BK164.out 0
           have hfz61_1 := blk_frozen BK164.out 1
           have hfz61_2 := blk_frozen BK164.out 2
           have hfz61_3 := blk_frozen BK164.out 3
           have hfz61_4 := blk_frozen BK164.out 4
           go_wp2_with (first | ((with_reducible refine gate_callee (f := 109) rfl ?_); refine goesL_ (some 85) rfl rfl Try.func109 Z0 rfl #[.int .u32 12, .string a0_1] rfl Z10 ?_; (with_reducible refine (spec_l04Word.calls kj1 12 a0_1 t195 _ A50.out).mono ?_); rintro e w62 ⟨v196, rfl, ho0, hb⟩; refine ⟨_, rfl, ?_⟩; have HO197 := Z (Kd.R_lower ho0 (below_size Z63)); replace BK164 := Z (blk_below (g := gb164) (o := .cells #[.int .i64 a0_0, .string a0_1, .int .i32 a0_2, .bool false, .int .u32 a0_4] 51 (0, 0)) (Z8 BK164) hb); replace HB := Z (below_step Z63 hb); (try clear hb); (try clear hb2); (try clear hk); (try clear hi); (try clear ho0); obtain ⟨Ao63, co63, eo63⟩ := Kd.R_slice HO197.out; subst eo63; have hcz64_0 : w62.cell? ⟨gb164, 0, none⟩ = some (.int .i64 a0_0) := (blk_cell BK164.out 0).trans rfl; have hcz64_1 : w62.cell? ⟨gb164, 1, none⟩ = some (.string a0_1) := (blk_cell BK164.out 1).trans rfl; have hcz64_2 : w62.cell? ⟨gb164, 2, none⟩ = some (.int .i32 a0_2) := (blk_cell BK164.out 2).trans rfl; have hcz64_3 : w62.cell? ⟨gb164, 3, none⟩ = some (.bool false) := (blk_cell BK164.out 3).trans rfl; have hcz64_4 : w62.cell? ⟨gb164, 4, none⟩ = some (.int .u32 a0_4) := (blk_cell BK164.out 4).trans rfl; have hfz64_0 := blk_frozen BK164.out 0; have hfz64_1 := blk_frozen BK164.out 1; have hfz64_2 := blk_frozen BK164.out 2; have hfz64_3 := blk_frozen BK164.out 3; have hfz64_4 := blk_frozen BK164.out 4) | ((with_reducible refine gate_builtin (b := .append) (xs := #[.tmp 99, .tmp 103]) rfl ?_); at_builtin; refine Kd.R_append (Kd.int .u32) (w0 := w) w.heap.size rfl (.tmp 99) (.tmp 103) 24 47 (.int .u32 0) 4 rfl Try.underlying24 info47 rfl (by decide) (by omega) (.slice Ao63 t195.length co63) t195 ((a0_2) % 4294967296) [.int .u32 ((a0_2) % 4294967296)] (fun _ => True) (fun _ => False) rfl rfl ?aP (fun _ hk => hk.elim) ?aF ?aO ?aB ?aS ?aL ?_; (case aP => exact rfl); (case aB => exact Z63); (case aF => exact (fun _ _ => trivial)); (case aO => exact (Z12 HO197)); (case aS => exact (below_size Z63)); (case aL => have := LMc60.out; omega); intro v202 w65 ho hb hg hat; rw [← Ny201.out] at ho; replace BK164 := Z (blk_grown (g := gb164) (o := .cells #[.int .i64 a0_0, .string a0_1, .int .i32 a0_2, .bool false, .int .u32 a0_4] 51 (0, 0)) (Z8 BK164) hg (Kd.R_ne HO197.out BK164.out (by decide))); replace HB := Z (hb); have HO203 := Z (ho); clear HO197; clear ho hb hg hat))
           go_ret
           exact ⟨_, Z9, (Z12 HO203), Z63⟩
          ·rw [if_neg c60] at H
           exact absurd H (by simp)
         ·rw [if_neg c59] at H
          have c59b0 : (a0_4 == 0) = false := beq_eq_false_iff_ne.mpr c59
          have c59b1 : (a0_4 != 0) = true := bne_iff_ne.mpr c59
          obtain ⟨y204, hy204⟩ : ∃ y_ : List Int, y_ = (([] : List Int)) := ⟨_, rfl⟩
          replace H : (some y204) = some r := by first | (rw [hy204]; with_reducible exact H) | (have H2_ := (Option.bind_some _ _).symm.trans H; rw [hy204]; with_reducible exact H2_) | (have H2_ := (Option.bind_some _ _).symm.trans H; with_reducible exact H2_) | with_reducible exact H | (rw [hy204]; exact H) | exact H
          have Ny204 := Aside0.mk hy204
          clear hy204
          obtain rfl := Option.some.inj H
          have hcz66_0 : wc.cell? ⟨gb164, 0, none⟩ = some (.int .i64 a0_0) := (blk_cell BK164.out 0).trans rfl
          have hcz66_1 : wc.cell? ⟨gb164, 1, none⟩ = some (.string a0_1) := (blk_cell BK164.out 1).trans rfl
          have hcz66_2 : wc.cell? ⟨gb164, 2, none⟩ = some (.int .i32 a0_2) := (blk_cell BK164.out 2).trans rfl
          have hcz66_3 : wc.cell? ⟨gb164, 3, none⟩ = some (.bool false) := (blk_cell BK164.out 3).trans rfl
          have hcz66_4 : wc.cell? ⟨gb164, 4, none⟩ = some (.int .u32 a0_4) := (blk_cell BK164.out 4).trans rfl
          have hfz66_0 := blk_frozen BK164.out 0
          have hfz66_1 := blk_frozen BK164.out 1
          have hfz66_2 := blk_frozen BK164.out 2
          have hfz66_3 := blk_frozen BK164.out 3
          have hfz66_4 := blk_frozen BK164.out 4
          go_wp2_with (first | ((with_reducible refine gate_callee (f := 109) rfl ?_); refine goesL_ (some 85) rfl rfl Try.func109 Z0 rfl #[.int .u32 12, .string a0_1] rfl Z10 ?_; (with_reducible refine (spec_l04Word.calls kj1 12 a0_1 t195 _ A50.out).mono ?_); rintro e w67 ⟨v196, rfl, ho0, hb⟩; refine ⟨_, rfl, ?_⟩; have HO197 := Z (Kd.R_lower ho0 (below_size Z63)); replace BK164 := Z (blk_below (g := gb164) (o := .cells #[.int .i64 a0_0, .string a0_1, .int .i32 a0_2, .bool false, .int .u32 a0_4] 51 (0, 0)) (Z8 BK164) hb); replace HB := Z (below_step Z63 hb); (try clear hb); (try clear hb2); (try clear hk); (try clear hi); (try clear ho0); obtain ⟨Ao68, co68, eo68⟩ := Kd.R_slice HO197.out; subst eo68; have hcz69_0 : w67.cell? ⟨gb164, 0, none⟩ = some (.int .i64 a0_0) := (blk_cell BK164.out 0).trans rfl; have hcz69_1 : w67.cell? ⟨gb164, 1, none⟩ = some (.string a0_1) := (blk_cell BK164.out 1).trans rfl; have hcz69_2 : w67.cell? ⟨gb164, 2, none⟩ = some (.int .i32 a0_2) := (blk_cell BK164.out 2).trans rfl; have hcz69_3 : w67.cell? ⟨gb164, 3, none⟩ = some (.bool false) := (blk_cell BK164.out 3).trans rfl; have hcz69_4 : w67.cell? ⟨gb164, 4, none⟩ = some (.int .u32 a0_4) := (blk_cell BK164.out 4).trans rfl; have hfz69_0 := blk_frozen BK164.out 0; have hfz69_1 := blk_frozen BK164.out 1; have hfz69_2 := blk_frozen BK164.out 2; have hfz69_3 := blk_frozen BK164.out 3; have hfz69_4 := blk_frozen BK164.out 4) | ((with_reducible refine gate_dst (N := 105) rfl ?_); refine Kd.R_lit (Kd.int .u32) _ 47 (by rfl) (N := 105) (by rfl) (xs := ([] : List Int)) (inner := []) (ok := fun _ => True) (okp := fun _ => True) Z7 (Reps.none _ _) (fun _ hk => hk) trivial (Below.refl _ _) (Nat.le_refl _) (by simp) ?_; intro v205 w70 ho71 hb hg_ hnew_; clear hg_ hnew_; (first | rw [← Ny204.out] at ho71 | (simp only [Int.reduceToNat] at ho71; rw [← Ny204.out] at ho71)); have HO206 := Z (Kd.R_lower (Kd.R_new' ho71 (Kd.R_lt (Z12 HO197))) (below_size Z63)); replace HO197 := Z (Kd.R_elder' (Z12 HO197) (Kd.R_base ho71) hb); replace BK164 := Z (blk_below (g := gb164) (o := .cells #[.int .i64 a0_0, .string a0_1, .int .i32 a0_2, .bool false, .int .u32 a0_4] 51 (0, 0)) (Z8 BK164) hb); replace HB := Z (below_step Z63 hb); clear hb ho71))
          go_ret
          exact ⟨_, Z9, (Z16 HO206), Z63⟩
       ·rw [if_neg c51] at H
        have c51b0 : ((t195.length : Int) == 1) = false := beq_eq_false_iff_ne.mpr c51
        have c51b1 : ((t195.length : Int) != 1) = true := bne_iff_ne.mpr c51
        obtain ⟨y207, hy207⟩ : ∃ y_ : List Int, y_ = (([] : List Int)) := ⟨_, rfl⟩
        replace H : (some y207) = some r := by first | (rw [hy207]; with_reducible exact H) | (have H2_ := (Option.bind_some _ _).symm.trans H; rw [hy207]; with_reducible exact H2_) | (have H2_ := (Option.bind_some _ _).symm.trans H; with_reducible exact H2_) | with_reducible exact H | (rw [hy207]; exact H) | exact H
        have Ny207 := Aside0.mk hy207
        clear hy207
        obtain rfl := Option.some.inj H
        have hcz72_0 : wc.cell? ⟨gb164, 0, none⟩ = some (.int .i64 a0_0) := (blk_cell BK164.out 0).trans rfl
        have hcz72_1 : wc.cell? ⟨gb164, 1, none⟩ = some (.string a0_1) := (blk_cell BK164.out 1).trans rfl
        have hcz72_2 : wc.cell? ⟨gb164, 2, none⟩ = some (.int .i32 a0_2) := (blk_cell BK164.out 2).trans rfl
        have hcz72_3 : wc.cell? ⟨gb164, 3, none⟩ = some (.bool a0_3) := (blk_cell BK164.out 3).trans rfl
        have hcz72_4 : wc.cell? ⟨gb164, 4, none⟩ = some (.int .u32 a0_4) := (blk_cell BK164.out 4).trans rfl
        have hfz72_0 := blk_frozen BK164.out 0
        have hfz72_1 := blk_frozen BK164.out 1
        have hfz72_2 := blk_frozen BK164.out 2
        have hfz72_3 := blk_frozen BK164.out 3
        have hfz72_4 := blk_frozen BK164.out 4
        go_wp2_with (first | ((with_reducible refine gate_callee (f := 109) rfl ?_); refine goesL_ (some 85) rfl rfl Try.func109 Z0 rfl #[.int .u32 12, .string a0_1] rfl Z10 ?_; (with_reducible refine (spec_l04Word.calls kj1 12 a0_1 t195 _ A50.out).mono ?_); rintro e w73 ⟨v196, rfl, ho0, hb⟩; refine ⟨_, rfl, ?_⟩; have HO197 := Z (Kd.R_lower ho0 (below_size Z63)); replace BK164 := Z (blk_below (g := gb164) (o := .cells #[.int .i64 a0_0, .string a0_1, .int .i32 a0_2, .bool a0_3, .int .u32 a0_4] 51 (0, 0)) (Z8 BK164) hb); replace HB := Z (below_step Z63 hb); (try clear hb); (try clear hb2); (try clear hk); (try clear hi); (try clear ho0); obtain ⟨Ao74, co74, eo74⟩ := Kd.R_slice HO197.out; subst eo74) | ((with_reducible refine gate_dst (N := 105) rfl ?_); refine Kd.R_lit (Kd.int .u32) _ 47 (by rfl) (N := 105) (by rfl) (xs := ([] : List Int)) (inner := []) (ok := fun _ => True) (okp := fun _ => True) Z7 (Reps.none _ _) (fun _ hk => hk) trivial (Below.refl _ _) (Nat.le_refl _) (by simp) ?_; intro v208 w75 ho76 hb hg_ hnew_; clear hg_ hnew_; (first | rw [← Ny207.out] at ho76 | (simp only [Int.reduceToNat] at ho76; rw [← Ny207.out] at ho76)); have HO209 := Z (Kd.R_lower (Kd.R_new' ho76 (Kd.R_lt (Z12 HO197))) (below_size Z63)); replace HO197 := Z (Kd.R_elder' (Z12 HO197) (Kd.R_base ho76) hb); replace BK164 := Z (blk_below (g := gb164) (o := .cells #[.int .i64 a0_0, .string a0_1, .int .i32 a0_2, .bool a0_3, .int .u32 a0_4] 51 (0, 0)) (Z8 BK164) hb); replace HB := Z (below_step Z63 hb); clear hb ho76))
        go_ret
        exact ⟨_, Z9, (Z16 HO209), Z63⟩
      ·rw [if_neg c49] at H
       have c49b0 : (a0_0 == 9) = false := beq_eq_false_iff_ne.mpr c49
       have c49b1 : (a0_0 != 9) = true := bne_iff_ne.mpr c49
       replace H := Option.bind_eq_some_iff.mp H
       obtain ⟨t210, A770, H⟩ := H
       replace H : (if t210 > 0 then (if x3_1 = true then ((spec_l04Word.f kj1 t210 a0_1).bind fun t211 => (some t211)) else (some (([] : List Int)))) else (some (([] : List Int)))) = some r := H
       have A77 := Aside0.mk A770
       clear A770
       by_cases c78 : t210 > 0
       ·rw [if_pos c78] at H
        have c78b0 : decide (0 < t210) = true := decide_eq_true c78
        clear c78
        by_cases c79 : x3_1 = true
        ·subst c79
         have H1 : ((spec_l04Word.f kj1 t210 a0_1).bind fun t211 => (some t211)) = some r := Z11
         clear H
         have H := H1
         clear H1
         replace H := Option.bind_eq_some_iff.mp H
         obtain ⟨t211, A800, H⟩ := H
         replace H : (some t211) = some r := H
         have A80 := Aside0.mk A800
         clear A800
         obtain rfl := Option.some.inj H
         have hcz81_0 : wc.cell? ⟨gb164, 0, none⟩ = some (.int .i64 a0_0) := (blk_cell BK164.out 0).trans rfl
         have hcz81_1 : wc.cell? ⟨gb164, 1, none⟩ = some (.string a0_1) := (blk_cell BK164.out 1).trans rfl
         have hcz81_2 : wc.cell? ⟨gb164, 2, none⟩ = some (.int .i32 a0_2) := (blk_cell BK164.out 2).trans rfl
         have hcz81_3 : wc.cell? ⟨gb164, 3, none⟩ = some (.bool a0_3) := (blk_cell BK164.out 3).trans rfl
         have hcz81_4 : wc.cell? ⟨gb164, 4, none⟩ = some (.int .u32 a0_4) := (blk_cell BK164.out 4).trans rfl
         have hfz81_0 := blk_frozen BK164.out 0
         have hfz81_1 := blk_frozen BK164.out 1
         have hfz81_2 := blk_frozen BK164.out 2
         have hfz81_3 := blk_frozen BK164.out 3
         have hfz81_4 := blk_frozen BK164.out 4
         go_wp2_with (first | ((with_reducible refine gate_callee (f := 110) rfl ?_); refine goesL_ (some 23) rfl rfl Try.func110 Z0 rfl #[.int .i64 a0_0] rfl Z10 ?_; (with_reducible refine (spec_l04Tag.calls a0_0 t210 _ A77.out).mono ?_); rintro e w' ⟨rfl, ⟨nd, rfl⟩⟩; refine ⟨_, rfl, ?_⟩) | ((with_reducible refine gate_callee (f := 109) rfl ?_); refine goesL_ (some 32) rfl rfl Try.func109 Z0 rfl #[.int .u32 t210, .string a0_1] rfl Z10 ?_; (with_reducible refine (spec_l04Word.calls kj1 t210 a0_1 t211 _ A80.out).mono ?_); rintro e w82 ⟨v212, rfl, ho0, hb⟩; refine ⟨_, rfl, ?_⟩; have HO213 := Z (Kd.R_lower ho0 (below_size Z63)); replace BK164 := Z (blk_below (g := gb164) (o := .cells #[.int .i64 a0_0, .string a0_1, .int .i32 a0_2, .bool a0_3, .int .u32 a0_4] 51 (0, 0)) (Z8 BK164) hb); replace HB := Z (below_step Z63 hb); (try clear hb); (try clear hb2); (try clear hk); (try clear hi); (try clear ho0)))
         go_ret
         exact ⟨_, Z9, (Z12 HO213), Z63⟩
        ·replace c79 := Bool.eq_false_iff.mpr c79
         subst c79
         have H1 : (some (([] : List Int))) = some r := by rw [if_neg (show ¬ (false = true) by decide)] at H; exact H
         clear H
         have H := H1
         clear H1
         obtain ⟨y214, hy214⟩ : ∃ y_ : List Int, y_ = (([] : List Int)) := ⟨_, rfl⟩
         replace H : (some y214) = some r := by first | (rw [hy214]; with_reducible exact H) | (have H2_ := (Option.bind_some _ _).symm.trans H; rw [hy214]; with_reducible exact H2_) | (have H2_ := (Option.bind_some _ _).symm.trans H; with_reducible exact H2_) | with_reducible exact H | (rw [hy214]; exact H) | exact H
         have Ny214 := Aside0.mk hy214
         clear hy214
         obtain rfl := Option.some.inj H
         have hcz83_0 : wc.cell? ⟨gb164, 0, none⟩ = some (.int .i64 a0_0) := (blk_cell BK164.out 0).trans rfl
         have hcz83_1 : wc.cell? ⟨gb164, 1, none⟩ = some (.string a0_1) := (blk_cell BK164.out 1).trans rfl
         have hcz83_2 : wc.cell? ⟨gb164, 2, none⟩ = some (.int .i32 a0_2) := (blk_cell BK164.out 2).trans rfl
         have hcz83_3 : wc.cell? ⟨gb164, 3, none⟩ = some (.bool a0_3) := (blk_cell BK164.out 3).trans rfl
         have hcz83_4 : wc.cell? ⟨gb164, 4, none⟩ = some (.int .u32 a0_4) := (blk_cell BK164.out 4).trans rfl
         have hfz83_0 := blk_frozen BK164.out 0
         have hfz83_1 := blk_frozen BK164.out 1
         have hfz83_2 := blk_frozen BK164.out 2
         have hfz83_3 := blk_frozen BK164.out 3
         have hfz83_4 := blk_frozen BK164.out 4
         go_wp2_with (first | ((with_reducible refine gate_callee (f := 110) rfl ?_); refine goesL_ (some 23) rfl rfl Try.func110 Z0 rfl #[.int .i64 a0_0] rfl Z10 ?_; (with_reducible refine (spec_l04Tag.calls a0_0 t210 _ A77.out).mono ?_); rintro e w' ⟨rfl, ⟨nd, rfl⟩⟩; refine ⟨_, rfl, ?_⟩) | ((with_reducible refine gate_dst (N := 105) rfl ?_); refine Kd.R_lit (Kd.int .u32) _ 47 (by rfl) (N := 105) (by rfl) (xs := ([] : List Int)) (inner := []) (ok := fun _ => True) (okp := fun _ => True) Z7 (Reps.none _ _) (fun _ hk => hk) trivial (Below.refl _ _) (Nat.le_refl _) (by simp) ?_; intro v215 w84 ho85 hb hg_ hnew_; clear hg_ hnew_; (first | rw [← Ny214.out] at ho85 | (simp only [Int.reduceToNat] at ho85; rw [← Ny214.out] at ho85)); have HO216 := Z (Kd.R_lower ho85 (below_size Z63)); replace BK164 := Z (blk_below (g := gb164) (o := .cells #[.int .i64 a0_0, .string a0_1, .int .i32 a0_2, .bool a0_3, .int .u32 a0_4] 51 (0, 0)) (Z8 BK164) hb); replace HB := Z (below_step Z63 hb); clear hb ho85))
         go_ret
         exact ⟨_, Z9, (Z12 HO216), Z63⟩
       ·rw [if_neg c78] at H
        have c78b0 : decide (0 < t210) = false := decide_eq_false c78
        clear c78
        obtain ⟨y217, hy217⟩ : ∃ y_ : List Int, y_ = (([] : List Int)) := ⟨_, rfl⟩
        replace H : (some y217) = some r := by first | (rw [hy217]; with_reducible exact H) | (have H2_ := (Option.bind_some _ _).symm.trans H; rw [hy217]; with_reducible exact H2_) | (have H2_ := (Option.bind_some _ _).symm.trans H; with_reducible exact H2_) | with_reducible exact H | (rw [hy217]; exact H) | exact H
        have Ny217 := Aside0.mk hy217
        clear hy217
        obtain rfl := Option.some.inj H
        have hcz86_0 : wc.cell? ⟨gb164, 0, none⟩ = some (.int .i64 a0_0) := (blk_cell BK164.out 0).trans rfl
        have hcz86_1 : wc.cell? ⟨gb164, 1, none⟩ = some (.string a0_1) := (blk_cell BK164.out 1).trans rfl
        have hcz86_2 : wc.cell? ⟨gb164, 2, none⟩ = some (.int .i32 a0_2) := (blk_cell BK164.out 2).trans rfl
        have hcz86_3 : wc.cell? ⟨gb164, 3, none⟩ = some (.bool a0_3) := (blk_cell BK164.out 3).trans rfl
        have hcz86_4 : wc.cell? ⟨gb164, 4, none⟩ = some (.int .u32 a0_4) := (blk_cell BK164.out 4).trans rfl
        have hfz86_0 := blk_frozen BK164.out 0
        have hfz86_1 := blk_frozen BK164.out 1
        have hfz86_2 := blk_frozen BK164.out 2
        have hfz86_3 := blk_frozen BK164.out 3
        have hfz86_4 := blk_frozen BK164.out 4
        go_wp2_with (first | ((with_reducible refine gate_callee (f := 110) rfl ?_); refine goesL_ (some 23) rfl rfl Try.func110 Z0 rfl #[.int .i64 a0_0] rfl Z10 ?_; (with_reducible refine (spec_l04Tag.calls a0_0 t210 _ A77.out).mono ?_); rintro e w' ⟨rfl, ⟨nd, rfl⟩⟩; refine ⟨_, rfl, ?_⟩) | ((with_reducible refine gate_dst (N := 105) rfl ?_); refine Kd.R_lit (Kd.int .u32) _ 47 (by rfl) (N := 105) (by rfl) (xs := ([] : List Int)) (inner := []) (ok := fun _ => True) (okp := fun _ => True) Z7 (Reps.none _ _) (fun _ hk => hk) trivial (Below.refl _ _) (Nat.le_refl _) (by simp) ?_; intro v218 w87 ho88 hb hg_ hnew_; clear hg_ hnew_; (first | rw [← Ny217.out] at ho88 | (simp only [Int.reduceToNat] at ho88; rw [← Ny217.out] at ho88)); have HO219 := Z (Kd.R_lower ho88 (below_size Z63)); replace BK164 := Z (blk_below (g := gb164) (o := .cells #[.int .i64 a0_0, .string a0_1, .int .i32 a0_2, .bool a0_3, .int .u32 a0_4] 51 (0, 0)) (Z8 BK164) hb); replace HB := Z (below_step Z63 hb); clear hb ho88))
        go_ret
        exact ⟨_, Z9, (Z12 HO219), Z63⟩

/-! ### spec_l01Once: function 87 -/
def spec_l01Once.f (s0_0 : List Int) (s0_1 : Int) (s0_2 : Int) (a1 : Int) : Option (Bool × Int × Int) := (spec_l01Below.f s0_0 s0_1 s0_2 a1).bind fun bt220 => (some ((bt220.1 == 0), bt220.2.1, bt220.2.2))
set_option maxHeartbeats 8000000 in
set_option maxRecDepth 100000 in
theorem spec_l01Once.calls (g : Nat) (s0_0 : List Int) (s0_1 : Int) (s0_2 : Int) (a1 : Int) (r1 : Bool) (r2 : Int) (r3 : Int) (w0 w : World) (hI : IsS97 w0 w g s0_0 s0_1 s0_2) (hB : Below w0.heap.size w0 w) (h : spec_l01Once.f s0_0 s0_1 s0_2 a1 = some (r1, r2, r3)) :
  Calls Try.prog 87 #[.pointer (some ⟨g, 0, none⟩), .int .i64 a1] w fun e w' => e = .returned (.bool r1) ∧ IsS97 w0 w' g s0_0 r2 r3 ∧ Below w0.heap.size w0 w' ∧ KeepBut w w' g none := by
 have HI0 := Aside0.mk hI
 have HK := Z (KeepBut.refl w g none)
 have HL := Aside0.mk hB.size
 clear hI
 have HW0 := Aside0.mk hB.size
 have HB := Aside0.mk hB
 clear hB
 have H : ((spec_l01Below.f s0_0 s0_1 s0_2 a1).bind fun bt220 => (some ((bt220.1 == 0), bt220.2.1, bt220.2.2))) = some (r1, r2, r3) := h
 clear h
 replace H := Option.bind_eq_some_iff.mp H
 obtain ⟨⟨t220, t221, t222⟩, A30, H⟩ := H
 replace H : (some ((t220 == 0), t221, t222)) = some (r1, r2, r3) := H
 have A3 := Aside0.mk A30
 clear A30
 simp only [Option.some.injEq, Prod.mk.injEq] at H
 obtain ⟨rfl, rfl, rfl⟩ := H
 go_enter Try.func87, Try.ntmps87
 go_wp2_with (first | ((with_reducible refine gate_callee (f := 73) rfl ?_); refine goesL_ (some 7) rfl rfl Try.func73 Z0 rfl #[.pointer (some ⟨g, 0, none⟩), .int .i64 a1] rfl Z10 ?_; (with_reducible refine (spec_l01Below.calls g s0_0 s0_1 s0_2 a1 t220 t221 t222 w0 _ ?side1 ?side2 A3.out).mono ?_); (case side1 => exact Z64); (case side2 => exact Z65); rintro e w4 ⟨rfl, hi, hb, hk⟩; refine ⟨_, rfl, ?_⟩; replace HK := Z (KeepBut.trans Z66 hk (.inl rfl)); replace HB := Z (hb); replace HI0 := Z (hi); (try clear hb); (try clear hb2); (try clear hk); (try clear hi)))
 go_ret
 exact ⟨Z9, Z64, Z65, Z66⟩

/-! ### spec_l01Pick: function 105 -/
def spec_l01Pick.f (s0_0 : List Int) (s0_1 : Int) (s0_2 : Int) (l1 : List ByteArray) : Option (ByteArray × Int × Int) := (spec_l01Below.f s0_0 s0_1 s0_2 (l1.length : Int)).bind fun bt223 => (if 0 ≤ bt223.1 then (if bt223.1 < (l1.length : Int) then (some (rdOf ByteArray.empty l1 bt223.1, bt223.2.1, bt223.2.2)) else (none)) else (none))
set_option maxHeartbeats 8000000 in
set_option maxRecDepth 100000 in
theorem spec_l01Pick.calls (g : Nat) (s0_0 : List Int) (s0_1 : Int) (s0_2 : Int) (A1 : Option Addr) (c1 : Nat) (l1 : List ByteArray) (r1 : ByteArray) (r2 : Int) (r3 : Int) (w0 w : World) (hI : IsS97 w0 w g s0_0 s0_1 s0_2) (hB : Below w0.heap.size w0 w) (hr1 : Kd.C Kd.string w A1 l1.length l1) (hc1 : l1.length ≤ c1) (hf1 : ∀ ad, A1 = some ad → 0 < l1.length → ad.block ≠ g) (h : spec_l01Pick.f s0_0 s0_1 s0_2 l1 = some (r1, r2, r3)) :
  Calls Try.prog 105 #[.pointer (some ⟨g, 0, none⟩), .slice A1 l1.length c1] w fun e w' => e = .returned (.string r1) ∧ IsS97 w0 w' g s0_0 r2 r3 ∧ Below w0.heap.size w0 w' ∧ KeepBut w w' g none := by
 have HR1 := Aside0.mk hr1
 have HC1 := Aside0.mk hc1
 clear hr1 hc1
 have HI0 := Aside0.mk hI
 have HK := Z (KeepBut.refl w g none)
 have HL := Aside0.mk hB.size
 clear hI
 have HW0 := Aside0.mk hB.size
 have HB := Aside0.mk hB
 clear hB
 have H : ((spec_l01Below.f s0_0 s0_1 s0_2 (l1.length : Int)).bind fun bt223 => (if 0 ≤ bt223.1 then (if bt223.1 < (l1.length : Int) then (some (rdOf ByteArray.empty l1 bt223.1, bt223.2.1, bt223.2.2)) else (none)) else (none))) = some (r1, r2, r3) := h
 clear h
 replace H := Option.bind_eq_some_iff.mp H
 obtain ⟨⟨t223, t224, t225⟩, A30, H⟩ := H
 replace H : (if 0 ≤ t223 then (if t223 < (l1.length : Int) then (some (rdOf ByteArray.empty l1 t223, t224, t225)) else (none)) else (none)) = some (r1, r2, r3) := H
 have A3 := Aside0.mk A30
 clear A30
 by_cases c4 : 0 ≤ t223
 ·rw [if_pos c4] at H
  have c4b0 : decide (0 ≤ t223) = true := decide_eq_true c4
  clear c4
  by_cases c5 : t223 < (l1.length : Int)
  ·rw [if_pos c5] at H
   have c5b0 : decide (t223 < (l1.length : Int)) = true := decide_eq_true c5
   clear c5
   simp only [Option.some.injEq, Prod.mk.injEq] at H
   obtain ⟨rfl, rfl, rfl⟩ := H
   go_enter Try.func105, Try.ntmps105
   go_wp2_with (first | ((with_reducible refine gate_callee (f := 73) rfl ?_); refine goesL_ (some 9) rfl rfl Try.func73 Z0 rfl #[.pointer (some ⟨g, 0, none⟩), .int .i64 (l1.length : Int)] rfl Z10 ?_; (with_reducible refine (spec_l01Below.calls g s0_0 s0_1 s0_2 (l1.length : Int) t223 t224 t225 w0 _ ?side1 ?side2 A3.out).mono ?_); (case side1 => exact Z64); (case side2 => exact Z65); rintro e w6 ⟨rfl, hi, hb, hk⟩; refine ⟨_, rfl, ?_⟩; replace HK := Z (KeepBut.trans Z66 hk (.inl rfl)); replace HB := Z (hb); replace HI0 := Z (hi); (try clear hb); (try clear hb2); (try clear hk); (try clear hi); have p226 : 0 ≤ (t223 : Int) := of_decide_eq_true Z5; have q226 : t223 < (l1.length : Int) := of_decide_eq_true Z5; obtain ⟨ad226, e226, hx226_0⟩ := Kd.at_string HR1.out t223 p226 q226; cases e226; replace hx226_0 := keep_cell HK.out hx226_0 (by first | (rw [add_block]; exact hf1 _ rfl (by omega)) | exact hf1 _ rfl (by omega) | exact hf1 ad226 rfl (by omega)); replace p226 := eq_true p226; replace q226 := eq_true q226))
   go_ret
   exact ⟨Z9, Z64, Z65, Z66⟩
  ·rw [if_neg c5] at H
   exact absurd H (by simp)
 ·rw [if_neg c4] at H
  exact absurd H (by simp)

/-! ### spec_l01PickInt: function 86 -/
def spec_l01PickInt.f (s0_0 : List Int) (s0_1 : Int) (s0_2 : Int) (l1 : List Int) : Option (Int × Int × Int) := (spec_l01Below.f s0_0 s0_1 s0_2 (l1.length : Int)).bind fun bt227 => (if 0 ≤ bt227.1 then (if bt227.1 < (l1.length : Int) then (some (rd l1 bt227.1, bt227.2.1, bt227.2.2)) else (none)) else (none))
set_option maxHeartbeats 8000000 in
set_option maxRecDepth 100000 in
theorem spec_l01PickInt.calls (g : Nat) (s0_0 : List Int) (s0_1 : Int) (s0_2 : Int) (A1 : Option Addr) (c1 : Nat) (l1 : List Int) (r1 : Int) (r2 : Int) (r3 : Int) (w0 w : World) (hI : IsS97 w0 w g s0_0 s0_1 s0_2) (hB : Below w0.heap.size w0 w) (hr1 : Kd.C (Kd.int .i64) w A1 l1.length l1) (hc1 : l1.length ≤ c1) (hf1 : ∀ ad, A1 = some ad → 0 < l1.length → ad.block ≠ g) (h : spec_l01PickInt.f s0_0 s0_1 s0_2 l1 = some (r1, r2, r3)) :
  Calls Try.prog 86 #[.pointer (some ⟨g, 0, none⟩), .slice A1 l1.length c1] w fun e w' => e = .returned (.int .i64 r1) ∧ IsS97 w0 w' g s0_0 r2 r3 ∧ Below w0.heap.size w0 w' ∧ KeepBut w w' g none := by
 have HR1 := Aside0.mk hr1
 have HC1 := Aside0.mk hc1
 clear hr1 hc1
 have HI0 := Aside0.mk hI
 have HK := Z (KeepBut.refl w g none)
 have HL := Aside0.mk hB.size
 clear hI
 have HW0 := Aside0.mk hB.size
 have HB := Aside0.mk hB
 clear hB
 have H : ((spec_l01Below.f s0_0 s0_1 s0_2 (l1.length : Int)).bind fun bt227 => (if 0 ≤ bt227.1 then (if bt227.1 < (l1.length : Int) then (some (rd l1 bt227.1, bt227.2.1, bt227.2.2)) else (none)) else (none))) = some (r1, r2, r3) := h
 clear h
 replace H := Option.bind_eq_some_iff.mp H
 obtain ⟨⟨t227, t228, t229⟩, A30, H⟩ := H
 replace H : (if 0 ≤ t227 then (if t227 < (l1.length : Int) then (some (rd l1 t227, t228, t229)) else (none)) else (none)) = some (r1, r2, r3) := H
 have A3 := Aside0.mk A30
 clear A30
 by_cases c4 : 0 ≤ t227
 ·rw [if_pos c4] at H
  have c4b0 : decide (0 ≤ t227) = true := decide_eq_true c4
  clear c4
  by_cases c5 : t227 < (l1.length : Int)
  ·rw [if_pos c5] at H
   have c5b0 : decide (t227 < (l1.length : Int)) = true := decide_eq_true c5
   clear c5
   simp only [Option.some.injEq, Prod.mk.injEq] at H
   obtain ⟨rfl, rfl, rfl⟩ := H
   go_enter Try.func86, Try.ntmps86
   go_wp2_with (first | ((with_reducible refine gate_callee (f := 73) rfl ?_); refine goesL_ (some 9) rfl rfl Try.func73 Z0 rfl #[.pointer (some ⟨g, 0, none⟩), .int .i64 (l1.length : Int)] rfl Z10 ?_; (with_reducible refine (spec_l01Below.calls g s0_0 s0_1 s0_2 (l1.length : Int) t227 t228 t229 w0 _ ?side1 ?side2 A3.out).mono ?_); (case side1 => exact Z64); (case side2 => exact Z65); rintro e w6 ⟨rfl, hi, hb, hk⟩; refine ⟨_, rfl, ?_⟩; replace HK := Z (KeepBut.trans Z66 hk (.inl rfl)); replace HB := Z (hb); replace HI0 := Z (hi); (try clear hb); (try clear hb2); (try clear hk); (try clear hi); have p230 : 0 ≤ (t227 : Int) := of_decide_eq_true Z5; have q230 : t227 < (l1.length : Int) := of_decide_eq_true Z5; obtain ⟨ad230, e230, hx230_0⟩ := Kd.at_int HR1.out t227 p230 q230; cases e230; replace hx230_0 := keep_cell HK.out hx230_0 (by first | (rw [add_block]; exact hf1 _ rfl (by omega)) | exact hf1 _ rfl (by omega) | exact hf1 ad230 rfl (by omega)); replace p230 := eq_true p230; replace q230 := eq_true q230))
   go_ret
   exact ⟨Z9, Z64, Z65, Z66⟩
  ·rw [if_neg c5] at H
   exact absurd H (by simp)
 ·rw [if_neg c4] at H
  exact absurd H (by simp)

/-! ### spec_l04Int: function 111 -/
def spec_l04Int.f (s0_0 : List Int) (s0_1 : Int) (s0_2 : Int) : Option (Int × Int × Int) := (spec_l01Once.f s0_0 s0_1 s0_2 2).bind fun bt231 => (if bt231.1 = true then ((spec_l01Below.f s0_0 bt231.2.1 bt231.2.2 200).bind fun bt234 => (some (wrap32 (wrap64 (bt234.1 - 40)), bt234.2.1, bt234.2.2))) else ((spec_l01PickInt.f s0_0 bt231.2.1 bt231.2.2 (([0, 67108863, 67108864, (-67108864), (-67108865), 2147483647, (-2147483648), 1000000, (-1)] : List Int))).bind fun bt240 => (some (wrap32 (bt240.1), bt240.2.1, bt240.2.2))))
set_option maxHeartbeats 8000000 in
set_option maxRecDepth 100000 in
theorem spec_l04Int.calls (g : Nat) (s0_0 : List Int) (s0_1 : Int) (s0_2 : Int) (r1 : Int) (r2 : Int) (r3 : Int) (w0 w : World) (hI : IsS97 w0 w g s0_0 s0_1 s0_2) (hB : Below w0.heap.size w0 w) (h : spec_l04Int.f s0_0 s0_1 s0_2 = some (r1, r2, r3)) :
  Calls Try.prog 111 #[.pointer (some ⟨g, 0, none⟩)] w fun e w' => e = .returned (.int .i32 r1) ∧ IsS97 w0 w' g s0_0 r2 r3 ∧ Below w0.heap.size w0 w' ∧ KeepBut w w' g none := by
 have HI0 := Aside0.mk hI
 have HK := Z (KeepBut.refl w g none)
 have HL := Aside0.mk hB.size
 clear hI
 have HW0 := Aside0.mk hB.size
 have HB := Aside0.mk hB
 clear hB
 have H : ((spec_l01Once.f s0_0 s0_1 s0_2 2).bind fun bt231 => (if bt231.1 = true then ((spec_l01Below.f s0_0 bt231.2.1 bt231.2.2 200).bind fun bt234 => (some (wrap32 (wrap64 (bt234.1 - 40)), bt234.2.1, bt234.2.2))) else ((spec_l01PickInt.f s0_0 bt231.2.1 bt231.2.2 (([0, 67108863, 67108864, (-67108864), (-67108865), 2147483647, (-2147483648), 1000000, (-1)] : List Int))).bind fun bt240 => (some (wrap32 (bt240.1), bt240.2.1, bt240.2.2))))) = some (r1, r2, r3) := h
 clear h
 replace H := Option.bind_eq_some_iff.mp H
 obtain ⟨⟨t231, t232, t233⟩, A20, H⟩ := H
 replace H : (if t231 = true then ((spec_l01Below.f s0_0 t232 t233 200).bind fun bt234 => (some (wrap32 (wrap64 (bt234.1 - 40)), bt234.2.1, bt234.2.2))) else ((spec_l01PickInt.f s0_0 t232 t233 (([0, 67108863, 67108864, (-67108864), (-67108865), 2147483647, (-2147483648), 1000000, (-1)] : List Int))).bind fun bt240 => (some (wrap32 (bt240.1), bt240.2.1, bt240.2.2)))) = some (r1, r2, r3) := H
 have A2 := Aside0.mk A20
 clear A20
 by_cases c3 : t231 = true
 ·subst c3
  have H1 : ((spec_l01Below.f s0_0 t232 t233 200).bind fun bt234 => (some (wrap32 (wrap64 (bt234.1 - 40)), bt234.2.1, bt234.2.2))) = some (r1, r2, r3) := Z11
  clear H
  have H := H1
  clear H1
  replace H := Option.bind_eq_some_iff.mp H
  obtain ⟨⟨t234, t235, t236⟩, A40, H⟩ := H
  replace H : (some (wrap32 (wrap64 (t234 - 40)), t235, t236)) = some (r1, r2, r3) := H
  have A4 := Aside0.mk A40
  clear A40
  simp only [Option.some.injEq, Prod.mk.injEq] at H
  obtain ⟨rfl, rfl, rfl⟩ := H
  go_enter Try.func111, Try.ntmps111
  go_wp2_with (first | ((with_reducible refine gate_callee (f := 87) rfl ?_); refine goesL_ (some 4) rfl rfl Try.func87 Z0 rfl #[.pointer (some ⟨g, 0, none⟩), .int .i64 2] rfl Z10 ?_; (with_reducible refine (spec_l01Once.calls g s0_0 s0_1 s0_2 2 true t232 t233 w0 _ ?side1 ?side2 A2.out).mono ?_); (case side1 => exact Z64); (case side2 => exact Z65); rintro e w5 ⟨rfl, hi, hb, hk⟩; refine ⟨_, rfl, ?_⟩; replace HK := Z (KeepBut.trans Z66 hk (.inl rfl)); replace HB := Z (hb); replace HI0 := Z (hi); (try clear hb); (try clear hb2); (try clear hk); (try clear hi)) | ((with_reducible refine gate_callee (f := 73) rfl ?_); refine goesL_ (some 6) rfl rfl Try.func73 Z0 rfl #[.pointer (some ⟨g, 0, none⟩), .int .i64 200] rfl Z10 ?_; (with_reducible refine (spec_l01Below.calls g s0_0 t232 t233 200 t234 t235 t236 w0 _ ?side1 ?side2 A4.out).mono ?_); (case side1 => exact Z64); (case side2 => exact Z65); rintro e w6 ⟨rfl, hi, hb, hk⟩; refine ⟨_, rfl, ?_⟩; replace HK := Z (KeepBut.trans Z66 hk (.inl rfl)); replace HB := Z (hb); replace HI0 := Z (hi); (try clear hb); (try clear hb2); (try clear hk); (try clear hi)))
  go_ret
  exact ⟨Z9, Z64, Z65, Z66⟩
 ·replace c3 := Bool.eq_false_iff.mpr c3
  subst c3
  have H1 : ((spec_l01PickInt.f s0_0 t232 t233 (([0, 67108863, 67108864, (-67108864), (-67108865), 2147483647, (-2147483648), 1000000, (-1)] : List Int))).bind fun bt240 => (some (wrap32 (bt240.1), bt240.2.1, bt240.2.2))) = some (r1, r2, r3) := by rw [if_neg (show ¬ (false = true) by decide)] at H; exact H
  clear H
  have H := H1
  clear H1
  obtain ⟨y237, hy237⟩ : ∃ y_ : List Int, y_ = (([0, 67108863, 67108864, (-67108864), (-67108865), 2147483647, (-2147483648), 1000000, (-1)] : List Int)) := ⟨_, rfl⟩
  replace H : ((spec_l01PickInt.f s0_0 t232 t233 y237).bind fun bt240 => (some (wrap32 (bt240.1), bt240.2.1, bt240.2.2))) = some (r1, r2, r3) := by first | (rw [hy237]; with_reducible exact H) | (have H2_ := (Option.bind_some _ _).symm.trans H; rw [hy237]; with_reducible exact H2_) | (have H2_ := (Option.bind_some _ _).symm.trans H; with_reducible exact H2_) | with_reducible exact H | (rw [hy237]; exact H) | exact H
  have Ny237 := Aside0.mk hy237
  clear hy237
  replace H := Option.bind_eq_some_iff.mp H
  obtain ⟨⟨t240, t241, t242⟩, A70, H⟩ := H
  replace H : (some (wrap32 (t240), t241, t242)) = some (r1, r2, r3) := H
  have A7 := Aside0.mk A70
  clear A70
  simp only [Option.some.injEq, Prod.mk.injEq] at H
  obtain ⟨rfl, rfl, rfl⟩ := H
  go_enter Try.func111, Try.ntmps111
  go_wp2_with (first | ((with_reducible refine gate_callee (f := 87) rfl ?_); refine goesL_ (some 4) rfl rfl Try.func87 Z0 rfl #[.pointer (some ⟨g, 0, none⟩), .int .i64 2] rfl Z10 ?_; (with_reducible refine (spec_l01Once.calls g s0_0 s0_1 s0_2 2 false t232 t233 w0 _ ?side1 ?side2 A2.out).mono ?_); (case side1 => exact Z64); (case side2 => exact Z65); rintro e w8 ⟨rfl, hi, hb, hk⟩; refine ⟨_, rfl, ?_⟩; replace HK := Z (KeepBut.trans Z66 hk (.inl rfl)); replace HB := Z (hb); replace HI0 := Z (hi); (try clear hb); (try clear hb2); (try clear hk); (try clear hi)) | ((with_reducible refine gate_dst (N := 10) rfl ?_); refine Kd.R_lit (Kd.int .i64) _ 3 (by rfl) (N := 10) (by rfl) (xs := ([0, 67108863, 67108864, (-67108864), (-67108865), 2147483647, (-2147483648), 1000000, (-1)] : List Int)) (inner := [.int .i64 0, .int .i64 67108863, .int .i64 67108864, .int .i64 (-67108864), .int .i64 (-67108865), .int .i64 2147483647, .int .i64 (-2147483648), .int .i64 1000000, .int .i64 (-1)]) (ok := fun _ => True) (okp := fun _ => True) Z7 (Reps.one (show Kd.M (Kd.int .i64) _ _ _ 0 [.int .i64 0] from rfl) (Reps.one (show Kd.M (Kd.int .i64) _ _ _ 67108863 [.int .i64 67108863] from rfl) (Reps.one (show Kd.M (Kd.int .i64) _ _ _ 67108864 [.int .i64 67108864] from rfl) (Reps.one (show Kd.M (Kd.int .i64) _ _ _ (-67108864) [.int .i64 (-67108864)] from rfl) (Reps.one (show Kd.M (Kd.int .i64) _ _ _ (-67108865) [.int .i64 (-67108865)] from rfl) (Reps.one (show Kd.M (Kd.int .i64) _ _ _ 2147483647 [.int .i64 2147483647] from rfl) (Reps.one (show Kd.M (Kd.int .i64) _ _ _ (-2147483648) [.int .i64 (-2147483648)] from rfl) (Reps.one (show Kd.M (Kd.int .i64) _ _ _ 1000000 [.int .i64 1000000] from rfl) (Reps.one (show Kd.M (Kd.int .i64) _ _ _ (-1) [.int .i64 (-1)] from rfl) (Reps.none _ _)))))))))) (fun _ hk => hk) trivial (Below.refl _ _) (Nat.le_refl _) (by simp) ?_; intro v238 w9 ho10 hb hg_ hnew_; clear hg_ hnew_; (first | rw [← Ny237.out] at ho10 | (simp only [Int.reduceToNat] at ho10; rw [← Ny237.out] at ho10)); have HO239 := Z (Kd.R_lower ho10 (keep_size (w := w) (g := g) (row := none) Z66)); replace HK := Z (KeepBut.trans Z66 (KeepBut.of_below hb g none) (.inl rfl)); replace HB := Z (below_step Z65 hb); replace HI0 := Z (IsS97.below Z64 hb); clear hb ho10; obtain ⟨Ao11, co11, eo11⟩ := Kd.R_slice HO239.out; subst eo11) | ((with_reducible refine gate_callee (f := 86) rfl ?_); refine goesL_ (some 11) rfl rfl Try.func86 Z0 rfl #[.pointer (some ⟨g, 0, none⟩), .slice Ao11 y237.length co11] rfl Z10 ?_; (with_reducible refine (spec_l01PickInt.calls g s0_0 t232 t233 _ _ y237 t240 t241 t242 w0 _ ?side1 ?side2 ?side3 ?side4 ?side5 A7.out).mono ?_); (case side1 => exact Z64); (case side2 => exact Z65); (case side3 => exact (Z17 HO239)); (case side4 => exact (Kd.R_reads' HO239.out).2.1); (case side5 => exact far_slice (IsS97.own_ne HI0.out HO239.out (by decide))); rintro e w12 ⟨rfl, hi, hb, hk⟩; refine ⟨_, rfl, ?_⟩; replace HO239 := Z (Kd.R_mono (Kd.R_keep (IsS97.apart (show IsS97 w0 _ g s0_0 t232 t233 from Z64) (Z12 HO239) (by decide)) hk (fun _ h => h.2)) (fun _ h => h.1)); replace HK := Z (KeepBut.trans Z66 hk (.inl rfl)); replace HB := Z (hb); replace HI0 := Z (hi); (try clear hb); (try clear hb2); (try clear hk); (try clear hi)))
  go_ret
  exact ⟨Z9, Z64, Z65, Z66⟩

/-! ### spec_LetterAt: function 118 -/
def spec_LetterAt.f (a0 : Int) : Option (Int) := (spec_l01In.f a0 0 47).bind fun t243 => (if t243 = true then ((spec_l02All.f).bind fun t244 => (if 0 ≤ a0 then (if a0 < (t244.size : Int) then (some (bt t244 a0)) else (none)) else (none))) else (some 0))
set_option maxHeartbeats 8000000 in
set_option maxRecDepth 100000 in
theorem spec_LetterAt.calls (a0 : Int) (r : Int) (w : World) (h : spec_LetterAt.f a0 = some r) :
  Calls Try.prog 118 #[.int .i64 a0] w fun e w' => e = .returned (.int .u8 r) ∧ Drawn0 w w' := by
 have H : ((spec_l01In.f a0 0 47).bind fun t243 => (if t243 = true then ((spec_l02All.f).bind fun t244 => (if 0 ≤ a0 then (if a0 < (t244.size : Int) then (some (bt t244 a0)) else (none)) else (none))) else (some 0))) = some r := h
 clear h
 replace H := Option.bind_eq_some_iff.mp H
 obtain ⟨t243, A20, H⟩ := H
 replace H : (if t243 = true then ((spec_l02All.f).bind fun t244 => (if 0 ≤ a0 then (if a0 < (t244.size : Int) then (some (bt t244 a0)) else (none)) else (none))) else (some 0)) = some r := H
 have A2 := Aside0.mk A20
 clear A20
 by_cases c3 : t243 = true
 ·subst c3
  have H1 : ((spec_l02All.f).bind fun t244 => (if 0 ≤ a0 then (if a0 < (t244.size : Int) then (some (bt t244 a0)) else (none)) else (none))) = some r := Z11
  clear H
  have H := H1
  clear H1
  replace H := Option.bind_eq_some_iff.mp H
  obtain ⟨t244, A40, H⟩ := H
  replace H : (if 0 ≤ a0 then (if a0 < (t244.size : Int) then (some (bt t244 a0)) else (none)) else (none)) = some r := H
  have A4 := Aside0.mk A40
  clear A40
  by_cases c5 : 0 ≤ a0
  ·rw [if_pos c5] at H
   have c5b0 : decide (0 ≤ a0) = true := decide_eq_true c5
   clear c5
   by_cases c6 : a0 < (t244.size : Int)
   ·rw [if_pos c6] at H
    have c6b0 : decide (a0 < (t244.size : Int)) = true := decide_eq_true c6
    clear c6
    obtain rfl := Option.some.inj H
    go_enter Try.func118, Try.ntmps118
    go_wp2_with (first | ((with_reducible refine gate_callee (f := 68) rfl ?_); refine goesL_ (some 4) rfl rfl Try.func68 Z0 rfl #[.int .i64 a0, .int .i64 0, .int .i64 47] rfl Z10 ?_; (with_reducible refine (spec_l01In.calls a0 0 47 true _ A2.out).mono ?_); rintro e w' ⟨rfl, ⟨nd, rfl⟩⟩; refine ⟨_, rfl, ?_⟩) | ((with_reducible refine gate_callee (f := 130) rfl ?_); refine goesL_ (some 6) rfl rfl Try.func130 Z0 rfl #[] rfl Z10 ?_; (with_reducible refine (spec_l02All.calls  t244 _ A4.out).mono ?_); rintro e w' ⟨rfl, ⟨nd, rfl⟩⟩; refine ⟨_, rfl, ?_⟩; have p7 : 0 ≤ (a0 : Int) := of_decide_eq_true Z5; have q7 : a0 < (t244.size : Int) := of_decide_eq_true Z5; have hx7 := bt_at t244 a0; replace p7 := eq_true p7; replace q7 := eq_true q7))
    go_ret
    exact ⟨Z2, Z3⟩
   ·rw [if_neg c6] at H
    exact absurd H (by simp)
  ·rw [if_neg c5] at H
   exact absurd H (by simp)
 ·replace c3 := Bool.eq_false_iff.mpr c3
  subst c3
  have H1 : (some 0) = some r := by rw [if_neg (show ¬ (false = true) by decide)] at H; exact H
  clear H
  have H := H1
  clear H1
  obtain rfl := Option.some.inj H
  go_enter Try.func118, Try.ntmps118
  go_wp2_with (first | ((with_reducible refine gate_callee (f := 68) rfl ?_); refine goesL_ (some 4) rfl rfl Try.func68 Z0 rfl #[.int .i64 a0, .int .i64 0, .int .i64 47] rfl Z10 ?_; (with_reducible refine (spec_l01In.calls a0 0 47 false _ A2.out).mono ?_); rintro e w' ⟨rfl, ⟨nd, rfl⟩⟩; refine ⟨_, rfl, ?_⟩))
  go_ret
  exact ⟨Z2, Z3⟩

end Go.Proofs.Ytkkiibjnpkjijaa.QFnCells
