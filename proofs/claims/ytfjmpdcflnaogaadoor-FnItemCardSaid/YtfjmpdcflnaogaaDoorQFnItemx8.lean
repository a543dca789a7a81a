/-
Plain functions for the Go functions that a law reaches, each with a proof that the translation's call comes to just that; no conditions beyond those written in each.
-/
import Derived.Test.YtfjmpdcflnaogaaDoorQFnItemx0
import Derived.Test.YtfjmpdcflnaogaaDoorQFnItemx1
import Derived.Test.YtfjmpdcflnaogaaDoorQFnItemx4
import Derived.Test.YtfjmpdcflnaogaaDoorQFnItemx5
import Derived.Test.YtfjmpdcflnaogaaDoorQFnItemx6
import Derived.Test.YtfjmpdcflnaogaaDoorQFnItemx7
namespace Go.Proofs.YtfjmpdcflnaogaaDoor.QFnItem
open Go.RowKit Go.Proofs.YtfjmpdcflnaogaaDoorW.PrintWords Go.Proofs.YtfjmpdcflnaogaaDoorW.PrintLast Go.Proofs.YtfjmpdcflnaogaaDoorW.PrintMore
attribute [local go_sem] max2_int min2_int max_two min_two max_three min_three max_four min_four   -- for this text's walks alone
set_option linter.unusedVariables false
set_option linter.unusedSimpArgs false

attribute [local go_sem high] eqA27
/-! ### spec_CellsOf: function 36 -/
def spec_CellsOf.j0 : Nat → Bool → Int → ByteArray → Int → Bool → Int → Option (List Int)
  | 0, _, _, _, _, _, _ => none
  | k + 1, x3, x417000, x417001, x417002, x417003, x417004 => if x417000 = 0 then (if x417001.toList = ([] : List UInt8) then (if x417002 = 0 then (if x417003 = true then (some (([] : List Int))) else (some (([x417004] : List Int)))) else (some (([] : List Int)))) else (some (([] : List Int)))) else (if x417000 = 7 then (if x417001.toList = ([] : List UInt8) then (if x417004 = 0 then ((spec_l04Num.f x417002 x417003 8 2).bind fun t429 => (some t429)) else (some (([] : List Int)))) else (some (([] : List Int)))) else (if x417000 = 8 then (if x417001.toList = ([] : List UInt8) then (if x417004 = 0 then ((spec_l04Num.f x417002 x417003 6 5).bind fun t438 => (some t438)) else (some (([] : List Int)))) else (some (([] : List Int)))) else (if x417000 = 9 then ((spec_l04Word.f k 12 x417001).bind fun t447 => (if (t447.length : Int) = 1 then (if x417003 = true then (some (([] : List Int))) else (if x417004 = 0 then (if t447.length < 35184372088832 then (some (t447 ++ [(x417002) % 4294967296])) else (none)) else (some (([] : List Int))))) else (some (([] : List Int))))) else ((spec_l04Tag.f x417000).bind fun t462 => (if t462 > 0 then (if x3 = true then ((spec_l04Word.f k t462 x417001).bind fun t463 => (some t463)) else (some (([] : List Int)))) else (some (([] : List Int))))))))
def spec_CellsOf.f (k : Nat) (a0_0 : Int) (a0_1 : ByteArray) (a0_2 : Int) (a0_3 : Bool) (a0_4 : Int) : Option (List Int) := if a0_2 = 0 then (if a0_3 = true then (spec_CellsOf.j0 k false a0_0 a0_1 a0_2 a0_3 a0_4) else (spec_CellsOf.j0 k (a0_4 == 0) a0_0 a0_1 a0_2 a0_3 a0_4)) else (spec_CellsOf.j0 k false a0_0 a0_1 a0_2 a0_3 a0_4)
theorem spec_CellsOf.mono_l : ∀ k, (∀ y0 y1 y2 y3 y4 y5, LeO (spec_CellsOf.j0 k y0 y1 y2 y3 y4 y5) (spec_CellsOf.j0 (k + 1) y0 y1 y2 y3 y4 y5))
  | 0 => fun _ _ _ _ _ _ r h => by simp [spec_CellsOf.j0] at h
  | k + 1 => by
    have ih0 := spec_CellsOf.mono_l k
    · intro y0 y1 y2 y3 y4 y5
      unfold spec_CellsOf.j0
      repeat' first
      | (with_reducible exact ih0 _ _ _ _ _ _)
      | (with_reducible exact spec_l04Word.mono _ _ _)
      | (with_reducible exact LeO.refl _)
      | (with_reducible exact LeO.none _)
      | (with_reducible refine LeO.ite ?_ ?_)
      | (with_reducible refine LeO.bind ?_ (fun _ => ?_))
      | exact ih0 _ _ _ _ _ _
      | exact spec_l04Word.mono _ _ _
      | exact LeO.none _
      | refine LeO.ite ?_ ?_
      | refine LeO.bind ?_ (fun _ => ?_)
theorem spec_CellsOf.mono : ∀ a0 a1 a2 a3 a4 k, LeO (spec_CellsOf.f k a0 a1 a2 a3 a4) (spec_CellsOf.f (k + 1) a0 a1 a2 a3 a4) := by
  intro a0 a1 a2 a3 a4 k
  have ih0 := spec_CellsOf.mono_l k
  unfold spec_CellsOf.f
  repeat' first
      | (with_reducible exact ih0 _ _ _ _ _ _)
      | (with_reducible exact spec_l04Word.mono _ _ _)
      | (with_reducible exact LeO.refl _)
      | (with_reducible exact LeO.none _)
      | (with_reducible refine LeO.ite ?_ ?_)
      | (with_reducible refine LeO.bind ?_ (fun _ => ?_))
      | exact ih0 _ _ _ _ _ _
      | exact spec_l04Word.mono _ _ _
      | exact LeO.none _
      | refine LeO.ite ?_ ?_
      | refine LeO.bind ?_ (fun _ => ?_)
set_option maxHeartbeats 8000000 in
set_option maxRecDepth 100000 in
theorem spec_CellsOf.calls (k : Nat) (a0_0 : Int) (a0_1 : ByteArray) (a0_2 : Int) (a0_3 : Bool) (a0_4 : Int) (r : List Int) (w : World) (h : spec_CellsOf.f k a0_0 a0_1 a0_2 a0_3 a0_4 = some r) :
    Calls Tryd.prog 36 #[.agg #[.int .i64 a0_0, .string a0_1, .int .i32 a0_2, .bool a0_3, .int .u32 a0_4]] w fun e w' => ∃ v0_ : Value, e = .returned (v0_) ∧ Kd.R (Kd.int .u32) 22 w' w.heap.size (fun _ => True) v0_ r ∧ Below w.heap.size w w' := by
  have hu27 := Tryd.underlying27
  have HB := Aside0.mk (Below.refl w.heap.size w)
  have H : (if a0_2 = 0 then (if a0_3 = true then (spec_CellsOf.j0 k false a0_0 a0_1 a0_2 a0_3 a0_4) else (spec_CellsOf.j0 k (a0_4 == 0) a0_0 a0_1 a0_2 a0_3 a0_4)) else (spec_CellsOf.j0 k false a0_0 a0_1 a0_2 a0_3 a0_4)) = some r := h
  clear h
  have HC2 := Aside0.mk H
  clear H
  go_enter Tryd.func36, Tryd.ntmps36
  go_upto_region 1 with (first | ((with_reducible refine gate_dst (N := 1) rfl ?_); refine box_event ?hg (N := 1) ?hd (cs := #[.int .i64 a0_0, .string a0_1, .int .i32 a0_2, .bool a0_3, .int .u32 a0_4]) (t := 27) ?hr ?_; (case hd => rfl); (case hg => rfl); (case hr => first | (go_simp; done) | (go_simp; rfl)); intro gb416 hg w3 hbox hb; have n0_ := Aside0.mk (below_step (by repeat (first | (with_reducible first | exact HB.out | apply below_alloc | apply pw_below_drewN | apply below_drew1) | exact HB.out)) hb); have n1_ := Aside0.mk (hbox); have n2_ := Aside0.mk ((by rw [hg]; exact (below_size (by repeat (first | (with_reducible first | exact HB.out | apply below_alloc | apply pw_below_drewN | apply below_drew1) | exact HB.out))) : w.heap.size ≤ gb416)); have n3_ := Aside0.mk ((by rw [hg]; exact (below_size (by repeat (first | (with_reducible first | exact HB.out | apply below_alloc | apply pw_below_drewN | apply below_drew1) | exact HB.out))) : w.heap.size ≤ gb416)); clear HB; have HB := n0_; have BK416 := n1_; have GW416 := n2_; have GE416 := n3_; clear n0_ n1_ n2_ n3_; clear hb hbox hg))
  (try simp only [Act.put, List.setIfInBounds_toArray, List.set_cons_zero, List.set_cons_succ])
  go_cut [3] (fun v3 wc => ∃ (kq : Nat) (x3_1 : Bool), v3 = .bool x3_1 ∧ Aside0 (spec_CellsOf.j0 kq x3_1 a0_0 a0_1 a0_2 a0_3 a0_4 = some r) ∧ Aside0 (kq ≤ k) ∧ Aside0 (wc.heap[gb416]? = some (.cells #[.int .i64 a0_0, .string a0_1, .int .i32 a0_2, .bool a0_3, .int .u32 a0_4] 27 (0, 0))) ∧ Aside0 (Below w.heap.size w wc))
  case first =>
    have H := HC2.out
    clear HC2
    by_cases c4 : a0_2 = 0
    · rw [if_pos c4] at H
      have c4b0 : (a0_2 == 0) = true := beq_iff_eq.mpr c4
      have c4b1 : (a0_2 != 0) = false := bne_eq_false_iff_eq.mpr c4
      clear c4
      (first | rw [c4b0] | (simp only [i64_w, i32_w]; rw [c4b0]) | skip)
      by_cases c5 : a0_3 = true
      · subst c5
        have H1 : (spec_CellsOf.j0 k false a0_0 a0_1 a0_2 true a0_4) = some r := by rw [if_pos rfl] at H; exact H
        clear H
        have H := H1
        clear H1
        have H' := Aside0.mk H
        clear H
        have hcz6_0 : w3.cell? ⟨gb416, 0, none⟩ = some (.int .i64 a0_0) := (blk_cell BK416.out 0).trans rfl
        have hcz6_1 : w3.cell? ⟨gb416, 1, none⟩ = some (.string a0_1) := (blk_cell BK416.out 1).trans rfl
        have hcz6_2 : w3.cell? ⟨gb416, 2, none⟩ = some (.int .i32 a0_2) := (blk_cell BK416.out 2).trans rfl
        have hcz6_3 : w3.cell? ⟨gb416, 3, none⟩ = some (.bool true) := (blk_cell BK416.out 3).trans rfl
        have hcz6_4 : w3.cell? ⟨gb416, 4, none⟩ = some (.int .u32 a0_4) := (blk_cell BK416.out 4).trans rfl
        have hfz6_0 := blk_frozen BK416.out 0
        have hfz6_1 := blk_frozen BK416.out 1
        have hfz6_2 := blk_frozen BK416.out 2
        have hfz6_3 := blk_frozen BK416.out 3
        have hfz6_4 := blk_frozen BK416.out 4
        go_wp2
        go_meet
        case rel => exact ⟨_, (false), (by first | rfl | (simp; done) | (simp [*]; done) | (simp [bne]; done)), H', ⟨by first | omega | exact Nat.le_refl _⟩, ⟨by (with_reducible repeat (first | refine blk_drewN ?_ _ | refine blk_drew ?_ | refine blk_alloc ?_ _)); exact BK416.out⟩, ⟨by repeat (first | (with_reducible first | exact HB.out | apply below_alloc | apply pw_below_drewN | apply below_drew1 | refine below_set ?_ GE416.out) | exact HB.out)⟩⟩
      · replace c5 := Bool.eq_false_iff.mpr c5
        subst c5
        have H1 : (spec_CellsOf.j0 k (a0_4 == 0) a0_0 a0_1 a0_2 false a0_4) = some r := by rw [if_neg (show ¬ (false = true) by decide)] at H; exact H
        clear H
        have H := H1
        clear H1
        have H' := Aside0.mk H
        clear H
        have hcz7_0 : w3.cell? ⟨gb416, 0, none⟩ = some (.int .i64 a0_0) := (blk_cell BK416.out 0).trans rfl
        have hcz7_1 : w3.cell? ⟨gb416, 1, none⟩ = some (.string a0_1) := (blk_cell BK416.out 1).trans rfl
        have hcz7_2 : w3.cell? ⟨gb416, 2, none⟩ = some (.int .i32 a0_2) := (blk_cell BK416.out 2).trans rfl
        have hcz7_3 : w3.cell? ⟨gb416, 3, none⟩ = some (.bool false) := (blk_cell BK416.out 3).trans rfl
        have hcz7_4 : w3.cell? ⟨gb416, 4, none⟩ = some (.int .u32 a0_4) := (blk_cell BK416.out 4).trans rfl
        have hfz7_0 := blk_frozen BK416.out 0
        have hfz7_1 := blk_frozen BK416.out 1
        have hfz7_2 := blk_frozen BK416.out 2
        have hfz7_3 := blk_frozen BK416.out 3
        have hfz7_4 := blk_frozen BK416.out 4
        go_wp2
        go_meet
        case rel => exact ⟨_, ((a0_4 == 0)), (by first | rfl | (simp; done) | (simp [*]; done) | (simp [bne]; done)), H', ⟨by first | omega | exact Nat.le_refl _⟩, ⟨by (with_reducible repeat (first | refine blk_drewN ?_ _ | refine blk_drew ?_ | refine blk_alloc ?_ _)); exact BK416.out⟩, ⟨by repeat (first | (with_reducible first | exact HB.out | apply below_alloc | apply pw_below_drewN | apply below_drew1 | refine below_set ?_ GE416.out) | exact HB.out)⟩⟩
    · rw [if_neg c4] at H
      have c4b0 : (a0_2 == 0) = false := beq_eq_false_iff_ne.mpr c4
      have c4b1 : (a0_2 != 0) = true := bne_iff_ne.mpr c4
      (first | rw [c4b0] | (simp only [i64_w, i32_w]; rw [c4b0]) | skip)
      have H' := Aside0.mk H
      clear H
      have hcz8_0 : w3.cell? ⟨gb416, 0, none⟩ = some (.int .i64 a0_0) := (blk_cell BK416.out 0).trans rfl
      have hcz8_1 : w3.cell? ⟨gb416, 1, none⟩ = some (.string a0_1) := (blk_cell BK416.out 1).trans rfl
      have hcz8_2 : w3.cell? ⟨gb416, 2, none⟩ = some (.int .i32 a0_2) := (blk_cell BK416.out 2).trans rfl
      have hcz8_3 : w3.cell? ⟨gb416, 3, none⟩ = some (.bool a0_3) := (blk_cell BK416.out 3).trans rfl
      have hcz8_4 : w3.cell? ⟨gb416, 4, none⟩ = some (.int .u32 a0_4) := (blk_cell BK416.out 4).trans rfl
      have hfz8_0 := blk_frozen BK416.out 0
      have hfz8_1 := blk_frozen BK416.out 1
      have hfz8_2 := blk_frozen BK416.out 2
      have hfz8_3 := blk_frozen BK416.out 3
      have hfz8_4 := blk_frozen BK416.out 4
      go_wp2
      go_meet
      case rel => exact ⟨_, (false), (by first | rfl | (simp; done) | (simp [*]; done) | (simp [bne]; done)), H', ⟨by first | omega | exact Nat.le_refl _⟩, ⟨by (with_reducible repeat (first | refine blk_drewN ?_ _ | refine blk_drew ?_ | refine blk_alloc ?_ _)); exact BK416.out⟩, ⟨by repeat (first | (with_reducible first | exact HB.out | apply below_alloc | apply pw_below_drewN | apply below_drew1 | refine below_set ?_ GE416.out) | exact HB.out)⟩⟩
  case rest =>
    clear HC2
    try clear p2
    try clear c3
    try clear c4
    try clear c4b0
    try clear c4b1
    try clear c5
    try clear hcz6_0
    try clear hcz6_1
    try clear hcz6_2
    try clear hcz6_3
    try clear hcz6_4
    try clear hcz7_0
    try clear hcz7_1
    try clear hcz7_2
    try clear hcz7_3
    try clear hcz7_4
    try clear hcz8_0
    try clear hcz8_1
    try clear hcz8_2
    try clear hcz8_3
    try clear hcz8_4
    try clear hfz6_0
    try clear hfz6_1
    try clear hfz6_2
    try clear hfz6_3
    try clear hfz6_4
    try clear hfz7_0
    try clear hfz7_1
    try clear hfz7_2
    try clear hfz7_3
    try clear hfz7_4
    try clear hfz8_0
    try clear hfz8_1
    try clear hfz8_2
    try clear hfz8_3
    try clear hfz8_4
    obtain ⟨kq, x3_1, rfl, HA, HJ1, BK416, HB⟩ := hcut
    cases kq with
    | zero => exact absurd HA.out (by simp [spec_CellsOf.j0])
    | succ kj1 =>
      have H := HA.out
      clear HA
      simp only [spec_CellsOf.j0] at H
      by_cases c9 : a0_0 = 0
      · rw [if_pos c9] at H
        have c9b0 : (a0_0 == 0) = true := beq_iff_eq.mpr c9
        have c9b1 : (a0_0 != 0) = false := bne_eq_false_iff_eq.mpr c9
        clear c9
        by_cases c10 : a0_1.toList = ([] : List UInt8)
        · rw [if_pos c10] at H
          have c10b0 : (a0_1.toList == ([] : List UInt8)) = true := beq_iff_eq.mpr c10
          have c10b1 : (a0_1.toList != ([] : List UInt8)) = false := bne_eq_false_iff_eq.mpr c10
          clear c10
          by_cases c11 : a0_2 = 0
          · rw [if_pos c11] at H
            have c11b0 : (a0_2 == 0) = true := beq_iff_eq.mpr c11
            have c11b1 : (a0_2 != 0) = false := bne_eq_false_iff_eq.mpr c11
            clear c11
            by_cases c12 : a0_3 = true
            · subst c12
              have H1 : (some (([] : List Int))) = some r := by rw [if_pos rfl] at H; exact H
              clear H
              have H := H1
              clear H1
              obtain ⟨y417, hy417⟩ : ∃ y_ : List Int, y_ = (([] : List Int)) := ⟨_, rfl⟩
              replace H : (some y417) = some r := by first | (rw [hy417]; with_reducible exact H) | (have H2_ := (Option.bind_some _ _).symm.trans H; rw [hy417]; with_reducible exact H2_) | (have H2_ := (Option.bind_some _ _).symm.trans H; with_reducible exact H2_) | with_reducible exact H | (rw [hy417]; exact H) | exact H
              have Ny417 := Aside0.mk hy417
              clear hy417
              obtain rfl := Option.some.inj H
              have hcz13_0 : wc.cell? ⟨gb416, 0, none⟩ = some (.int .i64 a0_0) := (blk_cell BK416.out 0).trans rfl
              have hcz13_1 : wc.cell? ⟨gb416, 1, none⟩ = some (.string a0_1) := (blk_cell BK416.out 1).trans rfl
              have hcz13_2 : wc.cell? ⟨gb416, 2, none⟩ = some (.int .i32 a0_2) := (blk_cell BK416.out 2).trans rfl
              have hcz13_3 : wc.cell? ⟨gb416, 3, none⟩ = some (.bool true) := (blk_cell BK416.out 3).trans rfl
              have hcz13_4 : wc.cell? ⟨gb416, 4, none⟩ = some (.int .u32 a0_4) := (blk_cell BK416.out 4).trans rfl
              have hfz13_0 := blk_frozen BK416.out 0
              have hfz13_1 := blk_frozen BK416.out 1
              have hfz13_2 := blk_frozen BK416.out 2
              have hfz13_3 := blk_frozen BK416.out 3
              have hfz13_4 := blk_frozen BK416.out 4
              go_wp2_with (first | ((with_reducible refine gate_dst (N := 105) rfl ?_); refine Kd.R_lit (Kd.int .u32) _ 22 ?hg (N := 105) ?hd (xs := ([] : List Int)) (inner := []) (ok := fun _ => True) (okp := fun _ => True) ?hr ?hp (fun _ hk => hk) trivial (Below.refl _ _) (Nat.le_refl _) (by simp) ?_; (case hd => rfl); (case hg => rfl); (case hr => first | (go_simp; done) | (go_simp; rfl)); (case hp => exact (Reps.none _ _)); intro v418 w14 ho15 hb hg_ hnew_; clear hg_ hnew_; (first | rw [← Ny417.out] at ho15 | (simp only [Int.reduceToNat] at ho15; rw [← Ny417.out] at ho15)); have n0_ := Aside0.mk (Kd.R_lower ho15 (below_size (by repeat (first | (with_reducible first | exact HB.out | apply below_alloc | apply pw_below_drewN | apply below_drew1 | refine below_set ?_ GE416.out) | exact HB.out)))); have n1_ := Aside0.mk (blk_below (g := gb416) (o := .cells #[.int .i64 a0_0, .string a0_1, .int .i32 a0_2, .bool true, .int .u32 a0_4] 27 (0, 0)) (by (with_reducible repeat (first | refine blk_drewN ?_ _ | refine blk_drew ?_ | refine blk_alloc ?_ _)); exact BK416.out) hb); have n2_ := Aside0.mk (below_step (by repeat (first | (with_reducible first | exact HB.out | apply below_alloc | apply pw_below_drewN | apply below_drew1 | refine below_set ?_ GE416.out) | exact HB.out)) hb); clear BK416; clear HB; have HO419 := n0_; have BK416 := n1_; have HB := n2_; clear n0_ n1_ n2_; clear hb ho15))
              go_ret
              exact ⟨_, by first | rfl | (rw [← show ∀ l_ : List UInt8, (!l_.isEmpty) = (l_ != []) from fun l_ => by cases l_ <;> rfl]; rfl) | (simp [errW_none, errW_some] <;> rfl) | (simp [*, errW_none, errW_some] <;> rfl), by (with_reducible repeat (first | apply Kd.R_alloc | apply Kd.R_drewN | apply Kd.R_drew)); exact HO419.out, by repeat (first | (with_reducible first | exact HB.out | apply below_alloc | apply pw_below_drewN | apply below_drew1 | refine below_set ?_ GE416.out) | exact HB.out)⟩
            · replace c12 := Bool.eq_false_iff.mpr c12
              subst c12
              have H1 : (some (([a0_4] : List Int))) = some r := by rw [if_neg (show ¬ (false = true) by decide)] at H; exact H
              clear H
              have H := H1
              clear H1
              obtain ⟨y420, hy420⟩ : ∃ y_ : List Int, y_ = (([a0_4] : List Int)) := ⟨_, rfl⟩
              replace H : (some y420) = some r := by first | (rw [hy420]; with_reducible exact H) | (have H2_ := (Option.bind_some _ _).symm.trans H; rw [hy420]; with_reducible exact H2_) | (have H2_ := (Option.bind_some _ _).symm.trans H; with_reducible exact H2_) | with_reducible exact H | (rw [hy420]; exact H) | exact H
              have Ny420 := Aside0.mk hy420
              clear hy420
              obtain rfl := Option.some.inj H
              have hcz16_0 : wc.cell? ⟨gb416, 0, none⟩ = some (.int .i64 a0_0) := (blk_cell BK416.out 0).trans rfl
              have hcz16_1 : wc.cell? ⟨gb416, 1, none⟩ = some (.string a0_1) := (blk_cell BK416.out 1).trans rfl
              have hcz16_2 : wc.cell? ⟨gb416, 2, none⟩ = some (.int .i32 a0_2) := (blk_cell BK416.out 2).trans rfl
              have hcz16_3 : wc.cell? ⟨gb416, 3, none⟩ = some (.bool false) := (blk_cell BK416.out 3).trans rfl
              have hcz16_4 : wc.cell? ⟨gb416, 4, none⟩ = some (.int .u32 a0_4) := (blk_cell BK416.out 4).trans rfl
              have hfz16_0 := blk_frozen BK416.out 0
              have hfz16_1 := blk_frozen BK416.out 1
              have hfz16_2 := blk_frozen BK416.out 2
              have hfz16_3 := blk_frozen BK416.out 3
              have hfz16_4 := blk_frozen BK416.out 4
              go_wp2_with (first | ((with_reducible refine gate_dst (N := 50) rfl ?_); refine Kd.R_lit (Kd.int .u32) _ 22 ?hg (N := 50) ?hd (xs := ([a0_4] : List Int)) (inner := [.int .u32 a0_4]) (ok := fun _ => True) (okp := fun _ => True) ?hr ?hp (fun _ hk => hk) trivial (Below.refl _ _) (Nat.le_refl _) (by simp) ?_; (case hd => rfl); (case hg => rfl); (case hr => first | (go_simp; done) | (go_simp; rfl)); (case hp => exact (Reps.one (show Kd.M (Kd.int .u32) _ _ _ a0_4 [.int .u32 a0_4] from rfl) (Reps.none _ _))); intro v421 w17 ho18 hb hg_ hnew_; clear hg_ hnew_; (first | rw [← Ny420.out] at ho18 | (simp only [Int.reduceToNat] at ho18; rw [← Ny420.out] at ho18)); have n0_ := Aside0.mk (Kd.R_lower ho18 (below_size (by repeat (first | (with_reducible first | exact HB.out | apply below_alloc | apply pw_below_drewN | apply below_drew1 | refine below_set ?_ GE416.out) | exact HB.out)))); have n1_ := Aside0.mk (blk_below (g := gb416) (o := .cells #[.int .i64 a0_0, .string a0_1, .int .i32 a0_2, .bool false, .int .u32 a0_4] 27 (0, 0)) (by (with_reducible repeat (first | refine blk_drewN ?_ _ | refine blk_drew ?_ | refine blk_alloc ?_ _)); exact BK416.out) hb); have n2_ := Aside0.mk (below_step (by repeat (first | (with_reducible first | exact HB.out | apply below_alloc | apply pw_below_drewN | apply below_drew1 | refine below_set ?_ GE416.out) | exact HB.out)) hb); clear BK416; clear HB; have HO422 := n0_; have BK416 := n1_; have HB := n2_; clear n0_ n1_ n2_; clear hb ho18))
              go_ret
              exact ⟨_, by first | rfl | (rw [← show ∀ l_ : List UInt8, (!l_.isEmpty) = (l_ != []) from fun l_ => by cases l_ <;> rfl]; rfl) | (simp [errW_none, errW_some] <;> rfl) | (simp [*, errW_none, errW_some] <;> rfl), by (with_reducible repeat (first | apply Kd.R_alloc | apply Kd.R_drewN | apply Kd.R_drew)); exact HO422.out, by repeat (first | (with_reducible first | exact HB.out | apply below_alloc | apply pw_below_drewN | apply below_drew1 | refine below_set ?_ GE416.out) | exact HB.out)⟩
          · rw [if_neg c11] at H
            have c11b0 : (a0_2 == 0) = false := beq_eq_false_iff_ne.mpr c11
            have c11b1 : (a0_2 != 0) = true := bne_iff_ne.mpr c11
            obtain ⟨y423, hy423⟩ : ∃ y_ : List Int, y_ = (([] : List Int)) := ⟨_, rfl⟩
            replace H : (some y423) = some r := by first | (rw [hy423]; with_reducible exact H) | (have H2_ := (Option.bind_some _ _).symm.trans H; rw [hy423]; with_reducible exact H2_) | (have H2_ := (Option.bind_some _ _).symm.trans H; with_reducible exact H2_) | with_reducible exact H | (rw [hy423]; exact H) | exact H
            have Ny423 := Aside0.mk hy423
            clear hy423
            obtain rfl := Option.some.inj H
            have hcz19_0 : wc.cell? ⟨gb416, 0, none⟩ = some (.int .i64 a0_0) := (blk_cell BK416.out 0).trans rfl
            have hcz19_1 : wc.cell? ⟨gb416, 1, none⟩ = some (.string a0_1) := (blk_cell BK416.out 1).trans rfl
            have hcz19_2 : wc.cell? ⟨gb416, 2, none⟩ = some (.int .i32 a0_2) := (blk_cell BK416.out 2).trans rfl
            have hcz19_3 : wc.cell? ⟨gb416, 3, none⟩ = some (.bool a0_3) := (blk_cell BK416.out 3).trans rfl
            have hcz19_4 : wc.cell? ⟨gb416, 4, none⟩ = some (.int .u32 a0_4) := (blk_cell BK416.out 4).trans rfl
            have hfz19_0 := blk_frozen BK416.out 0
            have hfz19_1 := blk_frozen BK416.out 1
            have hfz19_2 := blk_frozen BK416.out 2
            have hfz19_3 := blk_frozen BK416.out 3
            have hfz19_4 := blk_frozen BK416.out 4
            go_wp2_with (first | ((with_reducible refine gate_dst (N := 105) rfl ?_); refine Kd.R_lit (Kd.int .u32) _ 22 ?hg (N := 105) ?hd (xs := ([] : List Int)) (inner := []) (ok := fun _ => True) (okp := fun _ => True) ?hr ?hp (fun _ hk => hk) trivial (Below.refl _ _) (Nat.le_refl _) (by simp) ?_; (case hd => rfl); (case hg => rfl); (case hr => first | (go_simp; done) | (go_simp; rfl)); (case hp => exact (Reps.none _ _)); intro v424 w20 ho21 hb hg_ hnew_; clear hg_ hnew_; (first | rw [← Ny423.out] at ho21 | (simp only [Int.reduceToNat] at ho21; rw [← Ny423.out] at ho21)); have n0_ := Aside0.mk (Kd.R_lower ho21 (below_size (by repeat (first | (with_reducible first | exact HB.out | apply below_alloc | apply pw_below_drewN | apply below_drew1 | refine below_set ?_ GE416.out) | exact HB.out)))); have n1_ := Aside0.mk (blk_below (g := gb416) (o := .cells #[.int .i64 a0_0, .string a0_1, .int .i32 a0_2, .bool a0_3, .int .u32 a0_4] 27 (0, 0)) (by (with_reducible repeat (first | refine blk_drewN ?_ _ | refine blk_drew ?_ | refine blk_alloc ?_ _)); exact BK416.out) hb); have n2_ := Aside0.mk (below_step (by repeat (first | (with_reducible first | exact HB.out | apply below_alloc | apply pw_below_drewN | apply below_drew1 | refine below_set ?_ GE416.out) | exact HB.out)) hb); clear BK416; clear HB; have HO425 := n0_; have BK416 := n1_; have HB := n2_; clear n0_ n1_ n2_; clear hb ho21))
            go_ret
            exact ⟨_, by first | rfl | (rw [← show ∀ l_ : List UInt8, (!l_.isEmpty) = (l_ != []) from fun l_ => by cases l_ <;> rfl]; rfl) | (simp [errW_none, errW_some] <;> rfl) | (simp [*, errW_none, errW_some] <;> rfl), by (with_reducible repeat (first | apply Kd.R_alloc | apply Kd.R_drewN | apply Kd.R_drew)); exact HO425.out, by repeat (first | (with_reducible first | exact HB.out | apply below_alloc | apply pw_below_drewN | apply below_drew1 | refine below_set ?_ GE416.out) | exact HB.out)⟩
        · rw [if_neg c10] at H
          have c10b0 : (a0_1.toList == ([] : List UInt8)) = false := beq_eq_false_iff_ne.mpr c10
          have c10b1 : (a0_1.toList != ([] : List UInt8)) = true := bne_iff_ne.mpr c10
          obtain ⟨y426, hy426⟩ : ∃ y_ : List Int, y_ = (([] : List Int)) := ⟨_, rfl⟩
          replace H : (some y426) = some r := by first | (rw [hy426]; with_reducible exact H) | (have H2_ := (Option.bind_some _ _).symm.trans H; rw [hy426]; with_reducible exact H2_) | (have H2_ := (Option.bind_some _ _).symm.trans H; with_reducible exact H2_) | with_reducible exact H | (rw [hy426]; exact H) | exact H
          have Ny426 := Aside0.mk hy426
          clear hy426
          obtain rfl := Option.some.inj H
          have hcz22_0 : wc.cell? ⟨gb416, 0, none⟩ = some (.int .i64 a0_0) := (blk_cell BK416.out 0).trans rfl
          have hcz22_1 : wc.cell? ⟨gb416, 1, none⟩ = some (.string a0_1) := (blk_cell BK416.out 1).trans rfl
          have hcz22_2 : wc.cell? ⟨gb416, 2, none⟩ = some (.int .i32 a0_2) := (blk_cell BK416.out 2).trans rfl
          have hcz22_3 : wc.cell? ⟨gb416, 3, none⟩ = some (.bool a0_3) := (blk_cell BK416.out 3).trans rfl
          have hcz22_4 : wc.cell? ⟨gb416, 4, none⟩ = some (.int .u32 a0_4) := (blk_cell BK416.out 4).trans rfl
          have hfz22_0 := blk_frozen BK416.out 0
          have hfz22_1 := blk_frozen BK416.out 1
          have hfz22_2 := blk_frozen BK416.out 2
          have hfz22_3 := blk_frozen BK416.out 3
          have hfz22_4 := blk_frozen BK416.out 4
          go_wp2_with (first | ((with_reducible refine gate_dst (N := 105) rfl ?_); refine Kd.R_lit (Kd.int .u32) _ 22 ?hg (N := 105) ?hd (xs := ([] : List Int)) (inner := []) (ok := fun _ => True) (okp := fun _ => True) ?hr ?hp (fun _ hk => hk) trivial (Below.refl _ _) (Nat.le_refl _) (by simp) ?_; (case hd => rfl); (case hg => rfl); (case hr => first | (go_simp; done) | (go_simp; rfl)); (case hp => exact (Reps.none _ _)); intro v427 w23 ho24 hb hg_ hnew_; clear hg_ hnew_; (first | rw [← Ny426.out] at ho24 | (simp only [Int.reduceToNat] at ho24; rw [← Ny426.out] at ho24)); have n0_ := Aside0.mk (Kd.R_lower ho24 (below_size (by repeat (first | (with_reducible first | exact HB.out | apply below_alloc | apply pw_below_drewN | apply below_drew1 | refine below_set ?_ GE416.out) | exact HB.out)))); have n1_ := Aside0.mk (blk_below (g := gb416) (o := .cells #[.int .i64 a0_0, .string a0_1, .int .i32 a0_2, .bool a0_3, .int .u32 a0_4] 27 (0, 0)) (by (with_reducible repeat (first | refine blk_drewN ?_ _ | refine blk_drew ?_ | refine blk_alloc ?_ _)); exact BK416.out) hb); have n2_ := Aside0.mk (below_step (by repeat (first | (with_reducible first | exact HB.out | apply below_alloc | apply pw_below_drewN | apply below_drew1 | refine below_set ?_ GE416.out) | exact HB.out)) hb); clear BK416; clear HB; have HO428 := n0_; have BK416 := n1_; have HB := n2_; clear n0_ n1_ n2_; clear hb ho24))
          go_ret
          exact ⟨_, by first | rfl | (rw [← show ∀ l_ : List UInt8, (!l_.isEmpty) = (l_ != []) from fun l_ => by cases l_ <;> rfl]; rfl) | (simp [errW_none, errW_some] <;> rfl) | (simp [*, errW_none, errW_some] <;> rfl), by (with_reducible repeat (first | apply Kd.R_alloc | apply Kd.R_drewN | apply Kd.R_drew)); exact HO428.out, by repeat (first | (with_reducible first | exact HB.out | apply below_alloc | apply pw_below_drewN | apply below_drew1 | refine below_set ?_ GE416.out) | exact HB.out)⟩
      · rw [if_neg c9] at H
        have c9b0 : (a0_0 == 0) = false := beq_eq_false_iff_ne.mpr c9
        have c9b1 : (a0_0 != 0) = true := bne_iff_ne.mpr c9
        by_cases c25 : a0_0 = 7
        · rw [if_pos c25] at H
          have c25b0 : (a0_0 == 7) = true := beq_iff_eq.mpr c25
          have c25b1 : (a0_0 != 7) = false := bne_eq_false_iff_eq.mpr c25
          clear c25
          by_cases c26 : a0_1.toList = ([] : List UInt8)
          · rw [if_pos c26] at H
            have c26b0 : (a0_1.toList == ([] : List UInt8)) = true := beq_iff_eq.mpr c26
            have c26b1 : (a0_1.toList != ([] : List UInt8)) = false := bne_eq_false_iff_eq.mpr c26
            clear c26
            by_cases c27 : a0_4 = 0
            · rw [if_pos c27] at H
              have c27b0 : (a0_4 == 0) = true := beq_iff_eq.mpr c27
              have c27b1 : (a0_4 != 0) = false := bne_eq_false_iff_eq.mpr c27
              clear c27
              replace H := Option.bind_eq_some_iff.mp H
              obtain ⟨t429, A280, H⟩ := H
              replace H : (some t429) = some r := H
              have A28 := Aside0.mk A280
              clear A280
              obtain rfl := Option.some.inj H
              have hcz29_0 : wc.cell? ⟨gb416, 0, none⟩ = some (.int .i64 a0_0) := (blk_cell BK416.out 0).trans rfl
              have hcz29_1 : wc.cell? ⟨gb416, 1, none⟩ = some (.string a0_1) := (blk_cell BK416.out 1).trans rfl
              have hcz29_2 : wc.cell? ⟨gb416, 2, none⟩ = some (.int .i32 a0_2) := (blk_cell BK416.out 2).trans rfl
              have hcz29_3 : wc.cell? ⟨gb416, 3, none⟩ = some (.bool a0_3) := (blk_cell BK416.out 3).trans rfl
              have hcz29_4 : wc.cell? ⟨gb416, 4, none⟩ = some (.int .u32 a0_4) := (blk_cell BK416.out 4).trans rfl
              have hfz29_0 := blk_frozen BK416.out 0
              have hfz29_1 := blk_frozen BK416.out 1
              have hfz29_2 := blk_frozen BK416.out 2
              have hfz29_3 := blk_frozen BK416.out 3
              have hfz29_4 := blk_frozen BK416.out 4
              go_wp2_with (first | ((with_reducible refine gate_callee (f := 52) rfl ?_); refine goesL_ (some 65) rfl rfl Tryd.func52 (by kernel_rfl) rfl #[.int .i32 a0_2, .bool a0_3, .int .u32 8, .int .u32 2] rfl (by (try simp only [List.map_toArray, List.map_cons, List.map_nil]); first | done | rfl | (simp only [List.length_drop, List.length_take]; rfl)) ?_; (with_reducible refine (spec_l04Num.calls a0_2 a0_3 8 2 t429 _ A28.out).mono ?_); rintro e w30 ⟨v430, rfl, ho0, hb⟩; refine ⟨_, rfl, ?_⟩; have n0_ := Aside0.mk (Kd.R_lower ho0 (below_size (by repeat (first | (with_reducible first | exact HB.out | apply below_alloc | apply pw_below_drewN | apply below_drew1 | refine below_set ?_ GE416.out) | exact HB.out)))); have n1_ := Aside0.mk (blk_below (g := gb416) (o := .cells #[.int .i64 a0_0, .string a0_1, .int .i32 a0_2, .bool a0_3, .int .u32 a0_4] 27 (0, 0)) (by (with_reducible repeat (first | refine blk_drewN ?_ _ | refine blk_drew ?_ | refine blk_alloc ?_ _)); exact BK416.out) hb); have n2_ := Aside0.mk (below_step (by repeat (first | (with_reducible first | exact HB.out | apply below_alloc | apply pw_below_drewN | apply below_drew1 | refine below_set ?_ GE416.out) | exact HB.out)) hb); clear BK416; clear HB; have HO431 := n0_; have BK416 := n1_; have HB := n2_; clear n0_ n1_ n2_; (try clear hb); (try clear hb2); (try clear hk); (try clear hi); (try clear ho0)))
              go_ret
              exact ⟨_, by first | rfl | (rw [← show ∀ l_ : List UInt8, (!l_.isEmpty) = (l_ != []) from fun l_ => by cases l_ <;> rfl]; rfl) | (simp [errW_none, errW_some] <;> rfl) | (simp [*, errW_none, errW_some] <;> rfl), by (with_reducible repeat (first | apply Kd.R_alloc | apply Kd.R_drewN | apply Kd.R_drew)); exact HO431.out, by repeat (first | (with_reducible first | exact HB.out | apply below_alloc | apply pw_below_drewN | apply below_drew1 | refine below_set ?_ GE416.out) | exact HB.out)⟩
            · rw [if_neg c27] at H
              have c27b0 : (a0_4 == 0) = false := beq_eq_false_iff_ne.mpr c27
              have c27b1 : (a0_4 != 0) = true := bne_iff_ne.mpr c27
              obtain ⟨y432, hy432⟩ : ∃ y_ : List Int, y_ = (([] : List Int)) := ⟨_, rfl⟩
              replace H : (some y432) = some r := by first | (rw [hy432]; with_reducible exact H) | (have H2_ := (Option.bind_some _ _).symm.trans H; rw [hy432]; with_reducible exact H2_) | (have H2_ := (Option.bind_some _ _).symm.trans H; with_reducible exact H2_) | with_reducible exact H | (rw [hy432]; exact H) | exact H
              have Ny432 := Aside0.mk hy432
              clear hy432
              obtain rfl := Option.some.inj H
              have hcz31_0 : wc.cell? ⟨gb416, 0, none⟩ = some (.int .i64 a0_0) := (blk_cell BK416.out 0).trans rfl
              have hcz31_1 : wc.cell? ⟨gb416, 1, none⟩ = some (.string a0_1) := (blk_cell BK416.out 1).trans rfl
              have hcz31_2 : wc.cell? ⟨gb416, 2, none⟩ = some (.int .i32 a0_2) := (blk_cell BK416.out 2).trans rfl
              have hcz31_3 : wc.cell? ⟨gb416, 3, none⟩ = some (.bool a0_3) := (blk_cell BK416.out 3).trans rfl
              have hcz31_4 : wc.cell? ⟨gb416, 4, none⟩ = some (.int .u32 a0_4) := (blk_cell BK416.out 4).trans rfl
              have hfz31_0 := blk_frozen BK416.out 0
              have hfz31_1 := blk_frozen BK416.out 1
              have hfz31_2 := blk_frozen BK416.out 2
              have hfz31_3 := blk_frozen BK416.out 3
              have hfz31_4 := blk_frozen BK416.out 4
              go_wp2_with (first | ((with_reducible refine gate_dst (N := 105) rfl ?_); refine Kd.R_lit (Kd.int .u32) _ 22 ?hg (N := 105) ?hd (xs := ([] : List Int)) (inner := []) (ok := fun _ => True) (okp := fun _ => True) ?hr ?hp (fun _ hk => hk) trivial (Below.refl _ _) (Nat.le_refl _) (by simp) ?_; (case hd => rfl); (case hg => rfl); (case hr => first | (go_simp; done) | (go_simp; rfl)); (case hp => exact (Reps.none _ _)); intro v433 w32 ho33 hb hg_ hnew_; clear hg_ hnew_; (first | rw [← Ny432.out] at ho33 | (simp only [Int.reduceToNat] at ho33; rw [← Ny432.out] at ho33)); have n0_ := Aside0.mk (Kd.R_lower ho33 (below_size (by repeat (first | (with_reducible first | exact HB.out | apply below_alloc | apply pw_below_drewN | apply below_drew1 | refine below_set ?_ GE416.out) | exact HB.out)))); have n1_ := Aside0.mk (blk_below (g := gb416) (o := .cells #[.int .i64 a0_0, .string a0_1, .int .i32 a0_2, .bool a0_3, .int .u32 a0_4] 27 (0, 0)) (by (with_reducible repeat (first | refine blk_drewN ?_ _ | refine blk_drew ?_ | refine blk_alloc ?_ _)); exact BK416.out) hb); have n2_ := Aside0.mk (below_step (by repeat (first | (with_reducible first | exact HB.out | apply below_alloc | apply pw_below_drewN | apply below_drew1 | refine below_set ?_ GE416.out) | exact HB.out)) hb); clear BK416; clear HB; have HO434 := n0_; have BK416 := n1_; have HB := n2_; clear n0_ n1_ n2_; clear hb ho33))
              go_ret
              exact ⟨_, by first | rfl | (rw [← show ∀ l_ : List UInt8, (!l_.isEmpty) = (l_ != []) from fun l_ => by cases l_ <;> rfl]; rfl) | (simp [errW_none, errW_some] <;> rfl) | (simp [*, errW_none, errW_some] <;> rfl), by (with_reducible repeat (first | apply Kd.R_alloc | apply Kd.R_drewN | apply Kd.R_drew)); exact HO434.out, by repeat (first | (with_reducible first | exact HB.out | apply below_alloc | apply pw_below_drewN | apply below_drew1 | refine below_set ?_ GE416.out) | exact HB.out)⟩
          · rw [if_neg c26] at H
            have c26b0 : (a0_1.toList == ([] : List UInt8)) = false := beq_eq_false_iff_ne.mpr c26
            have c26b1 : (a0_1.toList != ([] : List UInt8)) = true := bne_iff_ne.mpr c26
            obtain ⟨y435, hy435⟩ : ∃ y_ : List Int, y_ = (([] : List Int)) := ⟨_, rfl⟩
            replace H : (some y435) = some r := by first | (rw [hy435]; with_reducible exact H) | (have H2_ := (Option.bind_some _ _).symm.trans H; rw [hy435]; with_reducible exact H2_) | (have H2_ := (Option.bind_some _ _).symm.trans H; with_reducible exact H2_) | with_reducible exact H | (rw [hy435]; exact H) | exact H
            have Ny435 := Aside0.mk hy435
            clear hy435
            obtain rfl := Option.some.inj H
            have hcz34_0 : wc.cell? ⟨gb416, 0, none⟩ = some (.int .i64 a0_0) := (blk_cell BK416.out 0).trans rfl
            have hcz34_1 : wc.cell? ⟨gb416, 1, none⟩ = some (.string a0_1) := (blk_cell BK416.out 1).trans rfl
            have hcz34_2 : wc.cell? ⟨gb416, 2, none⟩ = some (.int .i32 a0_2) := (blk_cell BK416.out 2).trans rfl
            have hcz34_3 : wc.cell? ⟨gb416, 3, none⟩ = some (.bool a0_3) := (blk_cell BK416.out 3).trans rfl
            have hcz34_4 : wc.cell? ⟨gb416, 4, none⟩ = some (.int .u32 a0_4) := (blk_cell BK416.out 4).trans rfl
            have hfz34_0 := blk_frozen BK416.out 0
            have hfz34_1 := blk_frozen BK416.out 1
            have hfz34_2 := blk_frozen BK416.out 2
            have hfz34_3 := blk_frozen BK416.out 3
            have hfz34_4 := blk_frozen BK416.out 4
            go_wp2_with (first | ((with_reducible refine gate_dst (N := 105) rfl ?_); refine Kd.R_lit (Kd.int .u32) _ 22 ?hg (N := 105) ?hd (xs := ([] : List Int)) (inner := []) (ok := fun _ => True) (okp := fun _ => True) ?hr ?hp (fun _ hk => hk) trivial (Below.refl _ _) (Nat.le_refl _) (by simp) ?_; (case hd => rfl); (case hg => rfl); (case hr => first | (go_simp; done) | (go_simp; rfl)); (case hp => exact (Reps.none _ _)); intro v436 w35 ho36 hb hg_ hnew_; clear hg_ hnew_; (first | rw [← Ny435.out] at ho36 | (simp only [Int.reduceToNat] at ho36; rw [← Ny435.out] at ho36)); have n0_ := Aside0.mk (Kd.R_lower ho36 (below_size (by repeat (first | (with_reducible first | exact HB.out | apply below_alloc | apply pw_below_drewN | apply below_drew1 | refine below_set ?_ GE416.out) | exact HB.out)))); have n1_ := Aside0.mk (blk_below (g := gb416) (o := .cells #[.int .i64 a0_0, .string a0_1, .int .i32 a0_2, .bool a0_3, .int .u32 a0_4] 27 (0, 0)) (by (with_reducible repeat (first | refine blk_drewN ?_ _ | refine blk_drew ?_ | refine blk_alloc ?_ _)); exact BK416.out) hb); have n2_ := Aside0.mk (below_step (by repeat (first | (with_reducible first | exact HB.out | apply below_alloc | apply pw_below_drewN | apply below_drew1 | refine below_set ?_ GE416.out) | exact HB.out)) hb); clear BK416; clear HB; have HO437 := n0_; have BK416 := n1_; have HB := n2_; clear n0_ n1_ n2_; clear hb ho36))
            go_ret
            exact ⟨_, by first | rfl | (rw [← show ∀ l_ : List UInt8, (!l_.isEmpty) = (l_ != []) from fun l_ => by cases l_ <;> rfl]; rfl) | (simp [errW_none, errW_some] <;> rfl) | (simp [*, errW_none, errW_some] <;> rfl), by (with_reducible repeat (first | apply Kd.R_alloc | apply Kd.R_drewN | apply Kd.R_drew)); exact HO437.out, by repeat (first | (with_reducible first | exact HB.out | apply below_alloc | apply pw_below_drewN | apply below_drew1 | refine below_set ?_ GE416.out) | exact HB.out)⟩
        · rw [if_neg c25] at H
          have c25b0 : (a0_0 == 7) = false := beq_eq_false_iff_ne.mpr c25
          have c25b1 : (a0_0 != 7) = true := bne_iff_ne.mpr c25
          by_cases c37 : a0_0 = 8
          · rw [if_pos c37] at H
            have c37b0 : (a0_0 == 8) = true := beq_iff_eq.mpr c37
            have c37b1 : (a0_0 != 8) = false := bne_eq_false_iff_eq.mpr c37
            clear c37
            by_cases c38 : a0_1.toList = ([] : List UInt8)
            · rw [if_pos c38] at H
              have c38b0 : (a0_1.toList == ([] : List UInt8)) = true := beq_iff_eq.mpr c38
              have c38b1 : (a0_1.toList != ([] : List UInt8)) = false := bne_eq_false_iff_eq.mpr c38
              clear c38
              by_cases c39 : a0_4 = 0
              · rw [if_pos c39] at H
                have c39b0 : (a0_4 == 0) = true := beq_iff_eq.mpr c39
                have c39b1 : (a0_4 != 0) = false := bne_eq_false_iff_eq.mpr c39
                clear c39
                replace H := Option.bind_eq_some_iff.mp H
                obtain ⟨t438, A400, H⟩ := H
                replace H : (some t438) = some r := H
                have A40 := Aside0.mk A400
                clear A400
                obtain rfl := Option.some.inj H
                have hcz41_0 : wc.cell? ⟨gb416, 0, none⟩ = some (.int .i64 a0_0) := (blk_cell BK416.out 0).trans rfl
                have hcz41_1 : wc.cell? ⟨gb416, 1, none⟩ = some (.string a0_1) := (blk_cell BK416.out 1).trans rfl
                have hcz41_2 : wc.cell? ⟨gb416, 2, none⟩ = some (.int .i32 a0_2) := (blk_cell BK416.out 2).trans rfl
                have hcz41_3 : wc.cell? ⟨gb416, 3, none⟩ = some (.bool a0_3) := (blk_cell BK416.out 3).trans rfl
                have hcz41_4 : wc.cell? ⟨gb416, 4, none⟩ = some (.int .u32 a0_4) := (blk_cell BK416.out 4).trans rfl
                have hfz41_0 := blk_frozen BK416.out 0
                have hfz41_1 := blk_frozen BK416.out 1
                have hfz41_2 := blk_frozen BK416.out 2
                have hfz41_3 := blk_frozen BK416.out 3
                have hfz41_4 := blk_frozen BK416.out 4
                go_wp2_with (first | ((with_reducible refine gate_callee (f := 52) rfl ?_); refine goesL_ (some 80) rfl rfl Tryd.func52 (by kernel_rfl) rfl #[.int .i32 a0_2, .bool a0_3, .int .u32 6, .int .u32 5] rfl (by (try simp only [List.map_toArray, List.map_cons, List.map_nil]); first | done | rfl | (simp only [List.length_drop, List.length_take]; rfl)) ?_; (with_reducible refine (spec_l04Num.calls a0_2 a0_3 6 5 t438 _ A40.out).mono ?_); rintro e w42 ⟨v439, rfl, ho0, hb⟩; refine ⟨_, rfl, ?_⟩; have n0_ := Aside0.mk (Kd.R_lower ho0 (below_size (by repeat (first | (with_reducible first | exact HB.out | apply below_alloc | apply pw_below_drewN | apply below_drew1 | refine below_set ?_ GE416.out) | exact HB.out)))); have n1_ := Aside0.mk (blk_below (g := gb416) (o := .cells #[.int .i64 a0_0, .string a0_1, .int .i32 a0_2, .bool a0_3, .int .u32 a0_4] 27 (0, 0)) (by (with_reducible repeat (first | refine blk_drewN ?_ _ | refine blk_drew ?_ | refine blk_alloc ?_ _)); exact BK416.out) hb); have n2_ := Aside0.mk (below_step (by repeat (first | (with_reducible first | exact HB.out | apply below_alloc | apply pw_below_drewN | apply below_drew1 | refine below_set ?_ GE416.out) | exact HB.out)) hb); clear BK416; clear HB; have HO440 := n0_; have BK416 := n1_; have HB := n2_; clear n0_ n1_ n2_; (try clear hb); (try clear hb2); (try clear hk); (try clear hi); (try clear ho0)))
                go_ret
                exact ⟨_, by first | rfl | (rw [← show ∀ l_ : List UInt8, (!l_.isEmpty) = (l_ != []) from fun l_ => by cases l_ <;> rfl]; rfl) | (simp [errW_none, errW_some] <;> rfl) | (simp [*, errW_none, errW_some] <;> rfl), by (with_reducible repeat (first | apply Kd.R_alloc | apply Kd.R_drewN | apply Kd.R_drew)); exact HO440.out, by repeat (first | (with_reducible first | exact HB.out | apply below_alloc | apply pw_below_drewN | apply below_drew1 | refine below_set ?_ GE416.out) | exact HB.out)⟩
              · rw [if_neg c39] at H
                have c39b0 : (a0_4 == 0) = false := beq_eq_false_iff_ne.mpr c39
                have c39b1 : (a0_4 != 0) = true := bne_iff_ne.mpr c39
                obtain ⟨y441, hy441⟩ : ∃ y_ : List Int, y_ = (([] : List Int)) := ⟨_, rfl⟩
                replace H : (some y441) = some r := by first | (rw [hy441]; with_reducible exact H) | (have H2_ := (Option.bind_some _ _).symm.trans H; rw [hy441]; with_reducible exact H2_) | (have H2_ := (Option.bind_some _ _).symm.trans H; with_reducible exact H2_) | with_reducible exact H | (rw [hy441]; exact H) | exact H
                have Ny441 := Aside0.mk hy441
                clear hy441
                obtain rfl := Option.some.inj H
                have hcz43_0 : wc.cell? ⟨gb416, 0, none⟩ = some (.int .i64 a0_0) := (blk_cell BK416.out 0).trans rfl
                have hcz43_1 : wc.cell? ⟨gb416, 1, none⟩ = some (.string a0_1) := (blk_cell BK416.out 1).trans rfl
                have hcz43_2 : wc.cell? ⟨gb416, 2, none⟩ = some (.int .i32 a0_2) := (blk_cell BK416.out 2).trans rfl
                have hcz43_3 : wc.cell? ⟨gb416, 3, none⟩ = some (.bool a0_3) := (blk_cell BK416.out 3).trans rfl
                have hcz43_4 : wc.cell? ⟨gb416, 4, none⟩ = some (.int .u32 a0_4) := (blk_cell BK416.out 4).trans rfl
                have hfz43_0 := blk_frozen BK416.out 0
                have hfz43_1 := blk_frozen BK416.out 1
                have hfz43_2 := blk_frozen BK416.out 2
                have hfz43_3 := blk_frozen BK416.out 3
                have hfz43_4 := blk_frozen BK416.out 4
                go_wp2_with (first | ((with_reducible refine gate_dst (N := 105) rfl ?_); refine Kd.R_lit (Kd.int .u32) _ 22 ?hg (N := 105) ?hd (xs := ([] : List Int)) (inner := []) (ok := fun _ => True) (okp := fun _ => True) ?hr ?hp (fun _ hk => hk) trivial (Below.refl _ _) (Nat.le_refl _) (by simp) ?_; (case hd => rfl); (case hg => rfl); (case hr => first | (go_simp; done) | (go_simp; rfl)); (case hp => exact (Reps.none _ _)); intro v442 w44 ho45 hb hg_ hnew_; clear hg_ hnew_; (first | rw [← Ny441.out] at ho45 | (simp only [Int.reduceToNat] at ho45; rw [← Ny441.out] at ho45)); have n0_ := Aside0.mk (Kd.R_lower ho45 (below_size (by repeat (first | (with_reducible first | exact HB.out | apply below_alloc | apply pw_below_drewN | apply below_drew1 | refine below_set ?_ GE416.out) | exact HB.out)))); have n1_ := Aside0.mk (blk_below (g := gb416) (o := .cells #[.int .i64 a0_0, .string a0_1, .int .i32 a0_2, .bool a0_3, .int .u32 a0_4] 27 (0, 0)) (by (with_reducible repeat (first | refine blk_drewN ?_ _ | refine blk_drew ?_ | refine blk_alloc ?_ _)); exact BK416.out) hb); have n2_ := Aside0.mk (below_step (by repeat (first | (with_reducible first | exact HB.out | apply below_alloc | apply pw_below_drewN | apply below_drew1 | refine below_set ?_ GE416.out) | exact HB.out)) hb); clear BK416; clear HB; have HO443 := n0_; have BK416 := n1_; have HB := n2_; clear n0_ n1_ n2_; clear hb ho45))
                go_ret
                exact ⟨_, by first | rfl | (rw [← show ∀ l_ : List UInt8, (!l_.isEmpty) = (l_ != []) from fun l_ => by cases l_ <;> rfl]; rfl) | (simp [errW_none, errW_some] <;> rfl) | (simp [*, errW_none, errW_some] <;> rfl), by (with_reducible repeat (first | apply Kd.R_alloc | apply Kd.R_drewN | apply Kd.R_drew)); exact HO443.out, by repeat (first | (with_reducible first | exact HB.out | apply below_alloc | apply pw_below_drewN | apply below_drew1 | refine below_set ?_ GE416.out) | exact HB.out)⟩
            · rw [if_neg c38] at H
              have c38b0 : (a0_1.toList == ([] : List UInt8)) = false := beq_eq_false_iff_ne.mpr c38
              have c38b1 : (a0_1.toList != ([] : List UInt8)) = true := bne_iff_ne.mpr c38
              obtain ⟨y444, hy444⟩ : ∃ y_ : List Int, y_ = (([] : List Int)) := ⟨_, rfl⟩
              replace H : (some y444) = some r := by first | (rw [hy444]; with_reducible exact H) | (have H2_ := (Option.bind_some _ _).symm.trans H; rw [hy444]; with_reducible exact H2_) | (have H2_ := (Option.bind_some _ _).symm.trans H; with_reducible exact H2_) | with_reducible exact H | (rw [hy444]; exact H) | exact H
              have Ny444 := Aside0.mk hy444
              clear hy444
              obtain rfl := Option.some.inj H
              have hcz46_0 : wc.cell? ⟨gb416, 0, none⟩ = some (.int .i64 a0_0) := (blk_cell BK416.out 0).trans rfl
              have hcz46_1 : wc.cell? ⟨gb416, 1, none⟩ = some (.string a0_1) := (blk_cell BK416.out 1).trans rfl
              have hcz46_2 : wc.cell? ⟨gb416, 2, none⟩ = some (.int .i32 a0_2) := (blk_cell BK416.out 2).trans rfl
              have hcz46_3 : wc.cell? ⟨gb416, 3, none⟩ = some (.bool a0_3) := (blk_cell BK416.out 3).trans rfl
              have hcz46_4 : wc.cell? ⟨gb416, 4, none⟩ = some (.int .u32 a0_4) := (blk_cell BK416.out 4).trans rfl
              have hfz46_0 := blk_frozen BK416.out 0
              have hfz46_1 := blk_frozen BK416.out 1
              have hfz46_2 := blk_frozen BK416.out 2
              have hfz46_3 := blk_frozen BK416.out 3
              have hfz46_4 := blk_frozen BK416.out 4
              go_wp2_with (first | ((with_reducible refine gate_dst (N := 105) rfl ?_); refine Kd.R_lit (Kd.int .u32) _ 22 ?hg (N := 105) ?hd (xs := ([] : List Int)) (inner := []) (ok := fun _ => True) (okp := fun _ => True) ?hr ?hp (fun _ hk => hk) trivial (Below.refl _ _) (Nat.le_refl _) (by simp) ?_; (case hd => rfl); (case hg => rfl); (case hr => first | (go_simp; done) | (go_simp; rfl)); (case hp => exact (Reps.none _ _)); intro v445 w47 ho48 hb hg_ hnew_; clear hg_ hnew_; (first | rw [← Ny444.out] at ho48 | (simp only [Int.reduceToNat] at ho48; rw [← Ny444.out] at ho48)); have n0_ := Aside0.mk (Kd.R_lower ho48 (below_size (by repeat (first | (with_reducible first | exact HB.out | apply below_alloc | apply pw_below_drewN | apply below_drew1 | refine below_set ?_ GE416.out) | exact HB.out)))); have n1_ := Aside0.mk (blk_below (g := gb416) (o := .cells #[.int .i64 a0_0, .string a0_1, .int .i32 a0_2, .bool a0_3, .int .u32 a0_4] 27 (0, 0)) (by (with_reducible repeat (first | refine blk_drewN ?_ _ | refine blk_drew ?_ | refine blk_alloc ?_ _)); exact BK416.out) hb); have n2_ := Aside0.mk (below_step (by repeat (first | (with_reducible first | exact HB.out | apply below_alloc | apply pw_below_drewN | apply below_drew1 | refine below_set ?_ GE416.out) | exact HB.out)) hb); clear BK416; clear HB; have HO446 := n0_; have BK416 := n1_; have HB := n2_; clear n0_ n1_ n2_; clear hb ho48))
              go_ret
              exact ⟨_, by first | rfl | (rw [← show ∀ l_ : List UInt8, (!l_.isEmpty) = (l_ != []) from fun l_ => by cases l_ <;> rfl]; rfl) | (simp [errW_none, errW_some] <;> rfl) | (simp [*, errW_none, errW_some] <;> rfl), by (with_reducible repeat (first | apply Kd.R_alloc | apply Kd.R_drewN | apply Kd.R_drew)); exact HO446.out, by repeat (first | (with_reducible first | exact HB.out | apply below_alloc | apply pw_below_drewN | apply below_drew1 | refine below_set ?_ GE416.out) | exact HB.out)⟩
          · rw [if_neg c37] at H
            have c37b0 : (a0_0 == 8) = false := beq_eq_false_iff_ne.mpr c37
            have c37b1 : (a0_0 != 8) = true := bne_iff_ne.mpr c37
            by_cases c49 : a0_0 = 9
            · rw [if_pos c49] at H
              have c49b0 : (a0_0 == 9) = true := beq_iff_eq.mpr c49
              have c49b1 : (a0_0 != 9) = false := bne_eq_false_iff_eq.mpr c49
              clear c49
              replace H := Option.bind_eq_some_iff.mp H
              obtain ⟨t447, A500, H⟩ := H
              replace H : (if (t447.length : Int) = 1 then (if a0_3 = true then (some (([] : List Int))) else (if a0_4 = 0 then (if t447.length < 35184372088832 then (some (t447 ++ [(a0_2) % 4294967296])) else (none)) else (some (([] : List Int))))) else (some (([] : List Int)))) = some r := H
              have A50 := Aside0.mk A500
              clear A500
              by_cases c51 : (t447.length : Int) = 1
              · rw [if_pos c51] at H
                have c51b0 : ((t447.length : Int) == 1) = true := beq_iff_eq.mpr c51
                have c51b1 : ((t447.length : Int) != 1) = false := bne_eq_false_iff_eq.mpr c51
                clear c51
                by_cases c52 : a0_3 = true
                · subst c52
                  have H1 : (some (([] : List Int))) = some r := by rw [if_pos rfl] at H; exact H
                  clear H
                  have H := H1
                  clear H1
                  obtain ⟨y450, hy450⟩ : ∃ y_ : List Int, y_ = (([] : List Int)) := ⟨_, rfl⟩
                  replace H : (some y450) = some r := by first | (rw [hy450]; with_reducible exact H) | (have H2_ := (Option.bind_some _ _).symm.trans H; rw [hy450]; with_reducible exact H2_) | (have H2_ := (Option.bind_some _ _).symm.trans H; with_reducible exact H2_) | with_reducible exact H | (rw [hy450]; exact H) | exact H
                  have Ny450 := Aside0.mk hy450
                  clear hy450
                  obtain rfl := Option.some.inj H
                  have hcz53_0 : wc.cell? ⟨gb416, 0, none⟩ = some (.int .i64 a0_0) := (blk_cell BK416.out 0).trans rfl
                  have hcz53_1 : wc.cell? ⟨gb416, 1, none⟩ = some (.string a0_1) := (blk_cell BK416.out 1).trans rfl
                  have hcz53_2 : wc.cell? ⟨gb416, 2, none⟩ = some (.int .i32 a0_2) := (blk_cell BK416.out 2).trans rfl
                  have hcz53_3 : wc.cell? ⟨gb416, 3, none⟩ = some (.bool true) := (blk_cell BK416.out 3).trans rfl
                  have hcz53_4 : wc.cell? ⟨gb416, 4, none⟩ = some (.int .u32 a0_4) := (blk_cell BK416.out 4).trans rfl
                  have hfz53_0 := blk_frozen BK416.out 0
                  have hfz53_1 := blk_frozen BK416.out 1
                  have hfz53_2 := blk_frozen BK416.out 2
                  have hfz53_3 := blk_frozen BK416.out 3
                  have hfz53_4 := blk_frozen BK416.out 4
                  go_wp2_with (first | ((with_reducible refine gate_callee (f := 53) rfl ?_); refine goesL_ (some 85) rfl rfl Tryd.func53 (by kernel_rfl) rfl #[.int .u32 12, .string a0_1] rfl (by (try simp only [List.map_toArray, List.map_cons, List.map_nil]); first | done | rfl | (simp only [List.length_drop, List.length_take]; rfl)) ?_; (with_reducible refine (spec_l04Word.calls kj1 12 a0_1 t447 _ A50.out).mono ?_); rintro e w54 ⟨v448, rfl, ho0, hb⟩; refine ⟨_, rfl, ?_⟩; have n0_ := Aside0.mk (Kd.R_lower ho0 (below_size (by repeat (first | (with_reducible first | exact HB.out | apply below_alloc | apply pw_below_drewN | apply below_drew1 | refine below_set ?_ GE416.out) | exact HB.out)))); have n1_ := Aside0.mk (blk_below (g := gb416) (o := .cells #[.int .i64 a0_0, .string a0_1, .int .i32 a0_2, .bool true, .int .u32 a0_4] 27 (0, 0)) (by (with_reducible repeat (first | refine blk_drewN ?_ _ | refine blk_drew ?_ | refine blk_alloc ?_ _)); exact BK416.out) hb); have n2_ := Aside0.mk (below_step (by repeat (first | (with_reducible first | exact HB.out | apply below_alloc | apply pw_below_drewN | apply below_drew1 | refine below_set ?_ GE416.out) | exact HB.out)) hb); clear BK416; clear HB; have HO449 := n0_; have BK416 := n1_; have HB := n2_; clear n0_ n1_ n2_; (try clear hb); (try clear hb2); (try clear hk); (try clear hi); (try clear ho0); obtain ⟨Ao55, co55, eo55⟩ := Kd.R_slice HO449.out; subst eo55; have hcz56_0 : w54.cell? ⟨gb416, 0, none⟩ = some (.int .i64 a0_0) := (blk_cell BK416.out 0).trans rfl; have hcz56_1 : w54.cell? ⟨gb416, 1, none⟩ = some (.string a0_1) := (blk_cell BK416.out 1).trans rfl; have hcz56_2 : w54.cell? ⟨gb416, 2, none⟩ = some (.int .i32 a0_2) := (blk_cell BK416.out 2).trans rfl; have hcz56_3 : w54.cell? ⟨gb416, 3, none⟩ = some (.bool true) := (blk_cell BK416.out 3).trans rfl; have hcz56_4 : w54.cell? ⟨gb416, 4, none⟩ = some (.int .u32 a0_4) := (blk_cell BK416.out 4).trans rfl; have hfz56_0 := blk_frozen BK416.out 0; have hfz56_1 := blk_frozen BK416.out 1; have hfz56_2 := blk_frozen BK416.out 2; have hfz56_3 := blk_frozen BK416.out 3; have hfz56_4 := blk_frozen BK416.out 4) | ((with_reducible refine gate_dst (N := 105) rfl ?_); refine Kd.R_lit (Kd.int .u32) _ 22 ?hg (N := 105) ?hd (xs := ([] : List Int)) (inner := []) (ok := fun _ => True) (okp := fun _ => True) ?hr ?hp (fun _ hk => hk) trivial (Below.refl _ _) (Nat.le_refl _) (by simp) ?_; (case hd => rfl); (case hg => rfl); (case hr => first | (go_simp; done) | (go_simp; rfl)); (case hp => exact (Reps.none _ _)); intro v451 w57 ho58 hb hg_ hnew_; clear hg_ hnew_; (first | rw [← Ny450.out] at ho58 | (simp only [Int.reduceToNat] at ho58; rw [← Ny450.out] at ho58)); have n0_ := Aside0.mk (Kd.R_elder' (by (with_reducible repeat (first | apply Kd.R_alloc | apply Kd.R_drewN | apply Kd.R_drew)); exact HO449.out) (Kd.R_base ho58) hb); have n1_ := Aside0.mk (Kd.R_lower (Kd.R_new' ho58 (Kd.R_lt (by (with_reducible repeat (first | apply Kd.R_alloc | apply Kd.R_drewN | apply Kd.R_drew)); exact HO449.out))) (below_size (by repeat (first | (with_reducible first | exact HB.out | apply below_alloc | apply pw_below_drewN | apply below_drew1 | refine below_set ?_ GE416.out) | exact HB.out)))); have n2_ := Aside0.mk (blk_below (g := gb416) (o := .cells #[.int .i64 a0_0, .string a0_1, .int .i32 a0_2, .bool true, .int .u32 a0_4] 27 (0, 0)) (by (with_reducible repeat (first | refine blk_drewN ?_ _ | refine blk_drew ?_ | refine blk_alloc ?_ _)); exact BK416.out) hb); have n3_ := Aside0.mk (below_step (by repeat (first | (with_reducible first | exact HB.out | apply below_alloc | apply pw_below_drewN | apply below_drew1 | refine below_set ?_ GE416.out) | exact HB.out)) hb); clear HO449; clear BK416; clear HB; have HO449 := n0_; have HO452 := n1_; have BK416 := n2_; have HB := n3_; clear n0_ n1_ n2_ n3_; clear hb ho58))
                  go_ret
                  exact ⟨_, by first | rfl | (rw [← show ∀ l_ : List UInt8, (!l_.isEmpty) = (l_ != []) from fun l_ => by cases l_ <;> rfl]; rfl) | (simp [errW_none, errW_some] <;> rfl) | (simp [*, errW_none, errW_some] <;> rfl), by (with_reducible repeat (first | apply Kd.R_alloc | apply Kd.R_drewN | apply Kd.R_drew)); exact Kd.R_mono HO452.out (fun _ hk => trivial), by repeat (first | (with_reducible first | exact HB.out | apply below_alloc | apply pw_below_drewN | apply below_drew1 | refine below_set ?_ GE416.out) | exact HB.out)⟩
                · replace c52 := Bool.eq_false_iff.mpr c52
                  subst c52
                  have H1 : (if a0_4 = 0 then (if t447.length < 35184372088832 then (some (t447 ++ [(a0_2) % 4294967296])) else (none)) else (some (([] : List Int)))) = some r := by rw [if_neg (show ¬ (false = true) by decide)] at H; exact H
                  clear H
                  have H := H1
                  clear H1
                  by_cases c59 : a0_4 = 0
                  · rw [if_pos c59] at H
                    have c59b0 : (a0_4 == 0) = true := beq_iff_eq.mpr c59
                    have c59b1 : (a0_4 != 0) = false := bne_eq_false_iff_eq.mpr c59
                    clear c59
                    by_cases c60 : t447.length < 35184372088832
                    · rw [if_pos c60] at H
                      have LMc60 := Aside0.mk c60
                      clear c60
                      obtain ⟨y453, hy453⟩ : ∃ y_ : List Int, y_ = (t447 ++ [(a0_2) % 4294967296]) := ⟨_, rfl⟩
                      replace H : (some y453) = some r := by first | (rw [hy453]; with_reducible exact H) | (have H2_ := (Option.bind_some _ _).symm.trans H; rw [hy453]; with_reducible exact H2_) | (have H2_ := (Option.bind_some _ _).symm.trans H; with_reducible exact H2_) | with_reducible exact H | (rw [hy453]; exact H) | exact H
                      have Ny453 := Aside0.mk hy453
                      clear hy453
                      obtain rfl := Option.some.inj H
                      have hcz61_0 : wc.cell? ⟨gb416, 0, none⟩ = some (.int .i64 a0_0) := (blk_cell BK416.out 0).trans rfl
                      have hcz61_1 : wc.cell? ⟨gb416, 1, none⟩ = some (.string a0_1) := (blk_cell BK416.out 1).trans rfl
                      have hcz61_2 : wc.cell? ⟨gb416, 2, none⟩ = some (.int .i32 a0_2) := (blk_cell BK416.out 2).trans rfl
                      have hcz61_3 : wc.cell? ⟨gb416, 3, none⟩ = some (.bool false) := (blk_cell BK416.out 3).trans rfl
                      have hcz61_4 : wc.cell? ⟨gb416, 4, none⟩ = some (.int .u32 a0_4) := (blk_cell BK416.out 4).trans rfl
                      have hfz61_0 := blk_frozen BK416.out 0
                      have hfz61_1 := blk_frozen BK416.out 1
                      have hfz61_2 := blk_frozen BK416.out 2
                      have hfz61_3 := blk_frozen BK416.out 3
                      have hfz61_4 := blk_frozen BK416.out 4
                      go_wp2_with (first | ((with_reducible refine gate_callee (f := 53) rfl ?_); refine goesL_ (some 85) rfl rfl Tryd.func53 (by kernel_rfl) rfl #[.int .u32 12, .string a0_1] rfl (by (try simp only [List.map_toArray, List.map_cons, List.map_nil]); first | done | rfl | (simp only [List.length_drop, List.length_take]; rfl)) ?_; (with_reducible refine (spec_l04Word.calls kj1 12 a0_1 t447 _ A50.out).mono ?_); rintro e w62 ⟨v448, rfl, ho0, hb⟩; refine ⟨_, rfl, ?_⟩; have n0_ := Aside0.mk (Kd.R_lower ho0 (below_size (by repeat (first | (with_reducible first | exact HB.out | apply below_alloc | apply pw_below_drewN | apply below_drew1 | refine below_set ?_ GE416.out) | exact HB.out)))); have n1_ := Aside0.mk (blk_below (g := gb416) (o := .cells #[.int .i64 a0_0, .string a0_1, .int .i32 a0_2, .bool false, .int .u32 a0_4] 27 (0, 0)) (by (with_reducible repeat (first | refine blk_drewN ?_ _ | refine blk_drew ?_ | refine blk_alloc ?_ _)); exact BK416.out) hb); have n2_ := Aside0.mk (below_step (by repeat (first | (with_reducible first | exact HB.out | apply below_alloc | apply pw_below_drewN | apply below_drew1 | refine below_set ?_ GE416.out) | exact HB.out)) hb); clear BK416; clear HB; have HO449 := n0_; have BK416 := n1_; have HB := n2_; clear n0_ n1_ n2_; (try clear hb); (try clear hb2); (try clear hk); (try clear hi); (try clear ho0); obtain ⟨Ao63, co63, eo63⟩ := Kd.R_slice HO449.out; subst eo63; have hcz64_0 : w62.cell? ⟨gb416, 0, none⟩ = some (.int .i64 a0_0) := (blk_cell BK416.out 0).trans rfl; have hcz64_1 : w62.cell? ⟨gb416, 1, none⟩ = some (.string a0_1) := (blk_cell BK416.out 1).trans rfl; have hcz64_2 : w62.cell? ⟨gb416, 2, none⟩ = some (.int .i32 a0_2) := (blk_cell BK416.out 2).trans rfl; have hcz64_3 : w62.cell? ⟨gb416, 3, none⟩ = some (.bool false) := (blk_cell BK416.out 3).trans rfl; have hcz64_4 : w62.cell? ⟨gb416, 4, none⟩ = some (.int .u32 a0_4) := (blk_cell BK416.out 4).trans rfl; have hfz64_0 := blk_frozen BK416.out 0; have hfz64_1 := blk_frozen BK416.out 1; have hfz64_2 := blk_frozen BK416.out 2; have hfz64_3 := blk_frozen BK416.out 3; have hfz64_4 := blk_frozen BK416.out 4) | ((with_reducible refine gate_builtin (b := .append) (xs := #[.tmp 99, .tmp 103]) rfl ?_); at_builtin; refine Kd.R_append (Kd.int .u32) (w0 := w) w.heap.size rfl (.tmp 99) (.tmp 103) 30 22 (.int .u32 0) 4 rfl Tryd.underlying30 info22 rfl (by decide) (by omega) (.slice Ao63 t447.length co63) t447 ((a0_2) % 4294967296) [.int .u32 ((a0_2) % 4294967296)] (fun _ => True) (fun _ => False) rfl rfl ?aP (fun _ hk => hk.elim) ?aF ?aO ?aB ?aS ?aL ?_; (case aP => exact rfl); (case aB => exact (by repeat (first | (with_reducible first | exact HB.out | apply below_alloc | apply pw_below_drewN | apply below_drew1 | refine below_set ?_ GE416.out) | exact HB.out))); (case aF => exact (fun _ _ => trivial)); (case aO => exact (by (with_reducible repeat (first | apply Kd.R_alloc | apply Kd.R_drewN | apply Kd.R_drew)); exact HO449.out)); (case aS => exact (below_size (by repeat (first | (with_reducible first | exact HB.out | apply below_alloc | apply pw_below_drewN | apply below_drew1 | refine below_set ?_ GE416.out) | exact HB.out)))); (case aL => have := LMc60.out; omega); intro v454 w65 ho hb hg hat; rw [← Ny453.out] at ho; have n0_ := Aside0.mk (blk_grown (g := gb416) (o := .cells #[.int .i64 a0_0, .string a0_1, .int .i32 a0_2, .bool false, .int .u32 a0_4] 27 (0, 0)) (by (with_reducible repeat (first | refine blk_drewN ?_ _ | refine blk_drew ?_ | refine blk_alloc ?_ _)); exact BK416.out) hg (Kd.R_ne HO449.out BK416.out (by decide))); have n1_ := Aside0.mk (hb); have n2_ := Aside0.mk (ho); clear BK416; clear HB; clear HO449; have BK416 := n0_; have HB := n1_; have HO455 := n2_; clear n0_ n1_ n2_; clear ho hb hg hat))
                      go_ret
                      exact ⟨_, by first | rfl | (rw [← show ∀ l_ : List UInt8, (!l_.isEmpty) = (l_ != []) from fun l_ => by cases l_ <;> rfl]; rfl) | (simp [errW_none, errW_some] <;> rfl) | (simp [*, errW_none, errW_some] <;> rfl), by (with_reducible repeat (first | apply Kd.R_alloc | apply Kd.R_drewN | apply Kd.R_drew)); exact HO455.out, by repeat (first | (with_reducible first | exact HB.out | apply below_alloc | apply pw_below_drewN | apply below_drew1 | refine below_set ?_ GE416.out) | exact HB.out)⟩
                    · rw [if_neg c60] at H
                      exact absurd H (by simp)
                  · rw [if_neg c59] at H
                    have c59b0 : (a0_4 == 0) = false := beq_eq_false_iff_ne.mpr c59
                    have c59b1 : (a0_4 != 0) = true := bne_iff_ne.mpr c59
                    obtain ⟨y456, hy456⟩ : ∃ y_ : List Int, y_ = (([] : List Int)) := ⟨_, rfl⟩
                    replace H : (some y456) = some r := by first | (rw [hy456]; with_reducible exact H) | (have H2_ := (Option.bind_some _ _).symm.trans H; rw [hy456]; with_reducible exact H2_) | (have H2_ := (Option.bind_some _ _).symm.trans H; with_reducible exact H2_) | with_reducible exact H | (rw [hy456]; exact H) | exact H
                    have Ny456 := Aside0.mk hy456
                    clear hy456
                    obtain rfl := Option.some.inj H
                    have hcz66_0 : wc.cell? ⟨gb416, 0, none⟩ = some (.int .i64 a0_0) := (blk_cell BK416.out 0).trans rfl
                    have hcz66_1 : wc.cell? ⟨gb416, 1, none⟩ = some (.string a0_1) := (blk_cell BK416.out 1).trans rfl
                    have hcz66_2 : wc.cell? ⟨gb416, 2, none⟩ = some (.int .i32 a0_2) := (blk_cell BK416.out 2).trans rfl
                    have hcz66_3 : wc.cell? ⟨gb416, 3, none⟩ = some (.bool false) := (blk_cell BK416.out 3).trans rfl
                    have hcz66_4 : wc.cell? ⟨gb416, 4, none⟩ = some (.int .u32 a0_4) := (blk_cell BK416.out 4).trans rfl
                    have hfz66_0 := blk_frozen BK416.out 0
                    have hfz66_1 := blk_frozen BK416.out 1
                    have hfz66_2 := blk_frozen BK416.out 2
                    have hfz66_3 := blk_frozen BK416.out 3
                    have hfz66_4 := blk_frozen BK416.out 4
                    go_wp2_with (first | ((with_reducible refine gate_callee (f := 53) rfl ?_); refine goesL_ (some 85) rfl rfl Tryd.func53 (by kernel_rfl) rfl #[.int .u32 12, .string a0_1] rfl (by (try simp only [List.map_toArray, List.map_cons, List.map_nil]); first | done | rfl | (simp only [List.length_drop, List.length_take]; rfl)) ?_; (with_reducible refine (spec_l04Word.calls kj1 12 a0_1 t447 _ A50.out).mono ?_); rintro e w67 ⟨v448, rfl, ho0, hb⟩; refine ⟨_, rfl, ?_⟩; have n0_ := Aside0.mk (Kd.R_lower ho0 (below_size (by repeat (first | (with_reducible first | exact HB.out | apply below_alloc | apply pw_below_drewN | apply below_drew1 | refine below_set ?_ GE416.out) | exact HB.out)))); have n1_ := Aside0.mk (blk_below (g := gb416) (o := .cells #[.int .i64 a0_0, .string a0_1, .int .i32 a0_2, .bool false, .int .u32 a0_4] 27 (0, 0)) (by (with_reducible repeat (first | refine blk_drewN ?_ _ | refine blk_drew ?_ | refine blk_alloc ?_ _)); exact BK416.out) hb); have n2_ := Aside0.mk (below_step (by repeat (first | (with_reducible first | exact HB.out | apply below_alloc | apply pw_below_drewN | apply below_drew1 | refine below_set ?_ GE416.out) | exact HB.out)) hb); clear BK416; clear HB; have HO449 := n0_; have BK416 := n1_; have HB := n2_; clear n0_ n1_ n2_; (try clear hb); (try clear hb2); (try clear hk); (try clear hi); (try clear ho0); obtain ⟨Ao68, co68, eo68⟩ := Kd.R_slice HO449.out; subst eo68; have hcz69_0 : w67.cell? ⟨gb416, 0, none⟩ = some (.int .i64 a0_0) := (blk_cell BK416.out 0).trans rfl; have hcz69_1 : w67.cell? ⟨gb416, 1, none⟩ = some (.string a0_1) := (blk_cell BK416.out 1).trans rfl; have hcz69_2 : w67.cell? ⟨gb416, 2, none⟩ = some (.int .i32 a0_2) := (blk_cell BK416.out 2).trans rfl; have hcz69_3 : w67.cell? ⟨gb416, 3, none⟩ = some (.bool false) := (blk_cell BK416.out 3).trans rfl; have hcz69_4 : w67.cell? ⟨gb416, 4, none⟩ = some (.int .u32 a0_4) := (blk_cell BK416.out 4).trans rfl; have hfz69_0 := blk_frozen BK416.out 0; have hfz69_1 := blk_frozen BK416.out 1; have hfz69_2 := blk_frozen BK416.out 2; have hfz69_3 := blk_frozen BK416.out 3; have hfz69_4 := blk_frozen BK416.out 4) | ((with_reducible refine gate_dst (N := 105) rfl ?_); refine Kd.R_lit (Kd.int .u32) _ 22 ?hg (N := 105) ?hd (xs := ([] : List Int)) (inner := []) (ok := fun _ => True) (okp := fun _ => True) ?hr ?hp (fun _ hk => hk) trivial (Below.refl _ _) (Nat.le_refl _) (by simp) ?_; (case hd => rfl); (case hg => rfl); (case hr => first | (go_simp; done) | (go_simp; rfl)); (case hp => exact (Reps.none _ _)); intro v457 w70 ho71 hb hg_ hnew_; clear hg_ hnew_; (first | rw [← Ny456.out] at ho71 | (simp only [Int.reduceToNat] at ho71; rw [← Ny456.out] at ho71)); have n0_ := Aside0.mk (Kd.R_elder' (by (with_reducible repeat (first | apply Kd.R_alloc | apply Kd.R_drewN | apply Kd.R_drew)); exact HO449.out) (Kd.R_base ho71) hb); have n1_ := Aside0.mk (Kd.R_lower (Kd.R_new' ho71 (Kd.R_lt (by (with_reducible repeat (first | apply Kd.R_alloc | apply Kd.R_drewN | apply Kd.R_drew)); exact HO449.out))) (below_size (by repeat (first | (with_reducible first | exact HB.out | apply below_alloc | apply pw_below_drewN | apply below_drew1 | refine below_set ?_ GE416.out) | exact HB.out)))); have n2_ := Aside0.mk (blk_below (g := gb416) (o := .cells #[.int .i64 a0_0, .string a0_1, .int .i32 a0_2, .bool false, .int .u32 a0_4] 27 (0, 0)) (by (with_reducible repeat (first | refine blk_drewN ?_ _ | refine blk_drew ?_ | refine blk_alloc ?_ _)); exact BK416.out) hb); have n3_ := Aside0.mk (below_step (by repeat (first | (with_reducible first | exact HB.out | apply below_alloc | apply pw_below_drewN | apply below_drew1 | refine below_set ?_ GE416.out) | exact HB.out)) hb); clear HO449; clear BK416; clear HB; have HO449 := n0_; have HO458 := n1_; have BK416 := n2_; have HB := n3_; clear n0_ n1_ n2_ n3_; clear hb ho71))
                    go_ret
                    exact ⟨_, by first | rfl | (rw [← show ∀ l_ : List UInt8, (!l_.isEmpty) = (l_ != []) from fun l_ => by cases l_ <;> rfl]; rfl) | (simp [errW_none, errW_some] <;> rfl) | (simp [*, errW_none, errW_some] <;> rfl), by (with_reducible repeat (first | apply Kd.R_alloc | apply Kd.R_drewN | apply Kd.R_drew)); exact Kd.R_mono HO458.out (fun _ hk => trivial), by repeat (first | (with_reducible first | exact HB.out | apply below_alloc | apply pw_below_drewN | apply below_drew1 | refine below_set ?_ GE416.out) | exact HB.out)⟩
              · rw [if_neg c51] at H
                have c51b0 : ((t447.length : Int) == 1) = false := beq_eq_false_iff_ne.mpr c51
                have c51b1 : ((t447.length : Int) != 1) = true := bne_iff_ne.mpr c51
                obtain ⟨y459, hy459⟩ : ∃ y_ : List Int, y_ = (([] : List Int)) := ⟨_, rfl⟩
                replace H : (some y459) = some r := by first | (rw [hy459]; with_reducible exact H) | (have H2_ := (Option.bind_some _ _).symm.trans H; rw [hy459]; with_reducible exact H2_) | (have H2_ := (Option.bind_some _ _).symm.trans H; with_reducible exact H2_) | with_reducible exact H | (rw [hy459]; exact H) | exact H
                have Ny459 := Aside0.mk hy459
                clear hy459
                obtain rfl := Option.some.inj H
                have hcz72_0 : wc.cell? ⟨gb416, 0, none⟩ = some (.int .i64 a0_0) := (blk_cell BK416.out 0).trans rfl
                have hcz72_1 : wc.cell? ⟨gb416, 1, none⟩ = some (.string a0_1) := (blk_cell BK416.out 1).trans rfl
                have hcz72_2 : wc.cell? ⟨gb416, 2, none⟩ = some (.int .i32 a0_2) := (blk_cell BK416.out 2).trans rfl
                have hcz72_3 : wc.cell? ⟨gb416, 3, none⟩ = some (.bool a0_3) := (blk_cell BK416.out 3).trans rfl
                have hcz72_4 : wc.cell? ⟨gb416, 4, none⟩ = some (.int .u32 a0_4) := (blk_cell BK416.out 4).trans rfl
                have hfz72_0 := blk_frozen BK416.out 0
                have hfz72_1 := blk_frozen BK416.out 1
                have hfz72_2 := blk_frozen BK416.out 2
                have hfz72_3 := blk_frozen BK416.out 3
                have hfz72_4 := blk_frozen BK416.out 4
                go_wp2_with (first | ((with_reducible refine gate_callee (f := 53) rfl ?_); refine goesL_ (some 85) rfl rfl Tryd.func53 (by kernel_rfl) rfl #[.int .u32 12, .string a0_1] rfl (by (try simp only [List.map_toArray, List.map_cons, List.map_nil]); first | done | rfl | (simp only [List.length_drop, List.length_take]; rfl)) ?_; (with_reducible refine (spec_l04Word.calls kj1 12 a0_1 t447 _ A50.out).mono ?_); rintro e w73 ⟨v448, rfl, ho0, hb⟩; refine ⟨_, rfl, ?_⟩; have n0_ := Aside0.mk (Kd.R_lower ho0 (below_size (by repeat (first | (with_reducible first | exact HB.out | apply below_alloc | apply pw_below_drewN | apply below_drew1 | refine below_set ?_ GE416.out) | exact HB.out)))); have n1_ := Aside0.mk (blk_below (g := gb416) (o := .cells #[.int .i64 a0_0, .string a0_1, .int .i32 a0_2, .bool a0_3, .int .u32 a0_4] 27 (0, 0)) (by (with_reducible repeat (first | refine blk_drewN ?_ _ | refine blk_drew ?_ | refine blk_alloc ?_ _)); exact BK416.out) hb); have n2_ := Aside0.mk (below_step (by repeat (first | (with_reducible first | exact HB.out | apply below_alloc | apply pw_below_drewN | apply below_drew1 | refine below_set ?_ GE416.out) | exact HB.out)) hb); clear BK416; clear HB; have HO449 := n0_; have BK416 := n1_; have HB := n2_; clear n0_ n1_ n2_; (try clear hb); (try clear hb2); (try clear hk); (try clear hi); (try clear ho0); obtain ⟨Ao74, co74, eo74⟩ := Kd.R_slice HO449.out; subst eo74) | ((with_reducible refine gate_dst (N := 105) rfl ?_); refine Kd.R_lit (Kd.int .u32) _ 22 ?hg (N := 105) ?hd (xs := ([] : List Int)) (inner := []) (ok := fun _ => True) (okp := fun _ => True) ?hr ?hp (fun _ hk => hk) trivial (Below.refl _ _) (Nat.le_refl _) (by simp) ?_; (case hd => rfl); (case hg => rfl); (case hr => first | (go_simp; done) | (go_simp; rfl)); (case hp => exact (Reps.none _ _)); intro v460 w75 ho76 hb hg_ hnew_; clear hg_ hnew_; (first | rw [← Ny459.out] at ho76 | (simp only [Int.reduceToNat] at ho76; rw [← Ny459.out] at ho76)); have n0_ := Aside0.mk (Kd.R_elder' (by (with_reducible repeat (first | apply Kd.R_alloc | apply Kd.R_drewN | apply Kd.R_drew)); exact HO449.out) (Kd.R_base ho76) hb); have n1_ := Aside0.mk (Kd.R_lower (Kd.R_new' ho76 (Kd.R_lt (by (with_reducible repeat (first | apply Kd.R_alloc | apply Kd.R_drewN | apply Kd.R_drew)); exact HO449.out))) (below_size (by repeat (first | (with_reducible first | exact HB.out | apply below_alloc | apply pw_below_drewN | apply below_drew1 | refine below_set ?_ GE416.out) | exact HB.out)))); have n2_ := Aside0.mk (blk_below (g := gb416) (o := .cells #[.int .i64 a0_0, .string a0_1, .int .i32 a0_2, .bool a0_3, .int .u32 a0_4] 27 (0, 0)) (by (with_reducible repeat (first | refine blk_drewN ?_ _ | refine blk_drew ?_ | refine blk_alloc ?_ _)); exact BK416.out) hb); have n3_ := Aside0.mk (below_step (by repeat (first | (with_reducible first | exact HB.out | apply below_alloc | apply pw_below_drewN | apply below_drew1 | refine below_set ?_ GE416.out) | exact HB.out)) hb); clear HO449; clear BK416; clear HB; have HO449 := n0_; have HO461 := n1_; have BK416 := n2_; have HB := n3_; clear n0_ n1_ n2_ n3_; clear hb ho76))
                go_ret
                exact ⟨_, by first | rfl | (rw [← show ∀ l_ : List UInt8, (!l_.isEmpty) = (l_ != []) from fun l_ => by cases l_ <;> rfl]; rfl) | (simp [errW_none, errW_some] <;> rfl) | (simp [*, errW_none, errW_some] <;> rfl), by (with_reducible repeat (first | apply Kd.R_alloc | apply Kd.R_drewN | apply Kd.R_drew)); exact Kd.R_mono HO461.out (fun _ hk => trivial), by repeat (first | (with_reducible first | exact HB.out | apply below_alloc | apply pw_below_drewN | apply below_drew1 | refine below_set ?_ GE416.out) | exact HB.out)⟩
            · rw [if_neg c49] at H
              have c49b0 : (a0_0 == 9) = false := beq_eq_false_iff_ne.mpr c49
              have c49b1 : (a0_0 != 9) = true := bne_iff_ne.mpr c49
              replace H := Option.bind_eq_some_iff.mp H
              obtain ⟨t462, A770, H⟩ := H
              replace H : (if t462 > 0 then (if x3_1 = true then ((spec_l04Word.f kj1 t462 a0_1).bind fun t463 => (some t463)) else (some (([] : List Int)))) else (some (([] : List Int)))) = some r := H
              have A77 := Aside0.mk A770
              clear A770
              by_cases c78 : t462 > 0
              · rw [if_pos c78] at H
                have c78b0 : decide (0 < t462) = true := decide_eq_true c78
                clear c78
                by_cases c79 : x3_1 = true
                · subst c79
                  have H1 : ((spec_l04Word.f kj1 t462 a0_1).bind fun t463 => (some t463)) = some r := by rw [if_pos rfl] at H; exact H
                  clear H
                  have H := H1
                  clear H1
                  replace H := Option.bind_eq_some_iff.mp H
                  obtain ⟨t463, A800, H⟩ := H
                  replace H : (some t463) = some r := H
                  have A80 := Aside0.mk A800
                  clear A800
                  obtain rfl := Option.some.inj H
                  have hcz81_0 : wc.cell? ⟨gb416, 0, none⟩ = some (.int .i64 a0_0) := (blk_cell BK416.out 0).trans rfl
                  have hcz81_1 : wc.cell? ⟨gb416, 1, none⟩ = some (.string a0_1) := (blk_cell BK416.out 1).trans rfl
                  have hcz81_2 : wc.cell? ⟨gb416, 2, none⟩ = some (.int .i32 a0_2) := (blk_cell BK416.out 2).trans rfl
                  have hcz81_3 : wc.cell? ⟨gb416, 3, none⟩ = some (.bool a0_3) := (blk_cell BK416.out 3).trans rfl
                  have hcz81_4 : wc.cell? ⟨gb416, 4, none⟩ = some (.int .u32 a0_4) := (blk_cell BK416.out 4).trans rfl
                  have hfz81_0 := blk_frozen BK416.out 0
                  have hfz81_1 := blk_frozen BK416.out 1
                  have hfz81_2 := blk_frozen BK416.out 2
                  have hfz81_3 := blk_frozen BK416.out 3
                  have hfz81_4 := blk_frozen BK416.out 4
                  go_wp2_with (first | ((with_reducible refine gate_callee (f := 54) rfl ?_); refine goesL_ (some 23) rfl rfl Tryd.func54 (by kernel_rfl) rfl #[.int .i64 a0_0] rfl (by (try simp only [List.map_toArray, List.map_cons, List.map_nil]); first | done | rfl | (simp only [List.length_drop, List.length_take]; rfl)) ?_; (with_reducible refine (spec_l04Tag.calls a0_0 t462 _ A77.out).mono ?_); rintro e w' ⟨rfl, ⟨nd, rfl⟩⟩; refine ⟨_, rfl, ?_⟩) | ((with_reducible refine gate_callee (f := 53) rfl ?_); refine goesL_ (some 32) rfl rfl Tryd.func53 (by kernel_rfl) rfl #[.int .u32 t462, .string a0_1] rfl (by (try simp only [List.map_toArray, List.map_cons, List.map_nil]); first | done | rfl | (simp only [List.length_drop, List.length_take]; rfl)) ?_; (with_reducible refine (spec_l04Word.calls kj1 t462 a0_1 t463 _ A80.out).mono ?_); rintro e w82 ⟨v464, rfl, ho0, hb⟩; refine ⟨_, rfl, ?_⟩; have n0_ := Aside0.mk (Kd.R_lower ho0 (below_size (by repeat (first | (with_reducible first | exact HB.out | apply below_alloc | apply pw_below_drewN | apply below_drew1 | refine below_set ?_ GE416.out) | exact HB.out)))); have n1_ := Aside0.mk (blk_below (g := gb416) (o := .cells #[.int .i64 a0_0, .string a0_1, .int .i32 a0_2, .bool a0_3, .int .u32 a0_4] 27 (0, 0)) (by (with_reducible repeat (first | refine blk_drewN ?_ _ | refine blk_drew ?_ | refine blk_alloc ?_ _)); exact BK416.out) hb); have n2_ := Aside0.mk (below_step (by repeat (first | (with_reducible first | exact HB.out | apply below_alloc | apply pw_below_drewN | apply below_drew1 | refine below_set ?_ GE416.out) | exact HB.out)) hb); clear BK416; clear HB; have HO465 := n0_; have BK416 := n1_; have HB := n2_; clear n0_ n1_ n2_; (try clear hb); (try clear hb2); (try clear hk); (try clear hi); (try clear ho0)))
                  go_ret
                  exact ⟨_, by first | rfl | (rw [← show ∀ l_ : List UInt8, (!l_.isEmpty) = (l_ != []) from fun l_ => by cases l_ <;> rfl]; rfl) | (simp [errW_none, errW_some] <;> rfl) | (simp [*, errW_none, errW_some] <;> rfl), by (with_reducible repeat (first | apply Kd.R_alloc | apply Kd.R_drewN | apply Kd.R_drew)); exact HO465.out, by repeat (first | (with_reducible first | exact HB.out | apply below_alloc | apply pw_below_drewN | apply below_drew1 | refine below_set ?_ GE416.out) | exact HB.out)⟩
                · replace c79 := Bool.eq_false_iff.mpr c79
                  subst c79
                  have H1 : (some (([] : List Int))) = some r := by rw [if_neg (show ¬ (false = true) by decide)] at H; exact H
                  clear H
                  have H := H1
                  clear H1
                  obtain ⟨y466, hy466⟩ : ∃ y_ : List Int, y_ = (([] : List Int)) := ⟨_, rfl⟩
                  replace H : (some y466) = some r := by first | (rw [hy466]; with_reducible exact H) | (have H2_ := (Option.bind_some _ _).symm.trans H; rw [hy466]; with_reducible exact H2_) | (have H2_ := (Option.bind_some _ _).symm.trans H; with_reducible exact H2_) | with_reducible exact H | (rw [hy466]; exact H) | exact H
                  have Ny466 := Aside0.mk hy466
                  clear hy466
                  obtain rfl := Option.some.inj H
                  have hcz83_0 : wc.cell? ⟨gb416, 0, none⟩ = some (.int .i64 a0_0) := (blk_cell BK416.out 0).trans rfl
                  have hcz83_1 : wc.cell? ⟨gb416, 1, none⟩ = some (.string a0_1) := (blk_cell BK416.out 1).trans rfl
                  have hcz83_2 : wc.cell? ⟨gb416, 2, none⟩ = some (.int .i32 a0_2) := (blk_cell BK416.out 2).trans rfl
                  have hcz83_3 : wc.cell? ⟨gb416, 3, none⟩ = some (.bool a0_3) := (blk_cell BK416.out 3).trans rfl
                  have hcz83_4 : wc.cell? ⟨gb416, 4, none⟩ = some (.int .u32 a0_4) := (blk_cell BK416.out 4).trans rfl
                  have hfz83_0 := blk_frozen BK416.out 0
                  have hfz83_1 := blk_frozen BK416.out 1
                  have hfz83_2 := blk_frozen BK416.out 2
                  have hfz83_3 := blk_frozen BK416.out 3
                  have hfz83_4 := blk_frozen BK416.out 4
                  go_wp2_with (first | ((with_reducible refine gate_callee (f := 54) rfl ?_); refine goesL_ (some 23) rfl rfl Tryd.func54 (by kernel_rfl) rfl #[.int .i64 a0_0] rfl (by (try simp only [List.map_toArray, List.map_cons, List.map_nil]); first | done | rfl | (simp only [List.length_drop, List.length_take]; rfl)) ?_; (with_reducible refine (spec_l04Tag.calls a0_0 t462 _ A77.out).mono ?_); rintro e w' ⟨rfl, ⟨nd, rfl⟩⟩; refine ⟨_, rfl, ?_⟩) | ((with_reducible refine gate_dst (N := 105) rfl ?_); refine Kd.R_lit (Kd.int .u32) _ 22 ?hg (N := 105) ?hd (xs := ([] : List Int)) (inner := []) (ok := fun _ => True) (okp := fun _ => True) ?hr ?hp (fun _ hk => hk) trivial (Below.refl _ _) (Nat.le_refl _) (by simp) ?_; (case hd => rfl); (case hg => rfl); (case hr => first | (go_simp; done) | (go_simp; rfl)); (case hp => exact (Reps.none _ _)); intro v467 w84 ho85 hb hg_ hnew_; clear hg_ hnew_; (first | rw [← Ny466.out] at ho85 | (simp only [Int.reduceToNat] at ho85; rw [← Ny466.out] at ho85)); have n0_ := Aside0.mk (Kd.R_lower ho85 (below_size (by repeat (first | (with_reducible first | exact HB.out | apply below_alloc | apply pw_below_drewN | apply below_drew1 | refine below_set ?_ GE416.out) | exact HB.out)))); have n1_ := Aside0.mk (blk_below (g := gb416) (o := .cells #[.int .i64 a0_0, .string a0_1, .int .i32 a0_2, .bool a0_3, .int .u32 a0_4] 27 (0, 0)) (by (with_reducible repeat (first | refine blk_drewN ?_ _ | refine blk_drew ?_ | refine blk_alloc ?_ _)); exact BK416.out) hb); have n2_ := Aside0.mk (below_step (by repeat (first | (with_reducible first | exact HB.out | apply below_alloc | apply pw_below_drewN | apply below_drew1 | refine below_set ?_ GE416.out) | exact HB.out)) hb); clear BK416; clear HB; have HO468 := n0_; have BK416 := n1_; have HB := n2_; clear n0_ n1_ n2_; clear hb ho85))
                  go_ret
                  exact ⟨_, by first | rfl | (rw [← show ∀ l_ : List UInt8, (!l_.isEmpty) = (l_ != []) from fun l_ => by cases l_ <;> rfl]; rfl) | (simp [errW_none, errW_some] <;> rfl) | (simp [*, errW_none, errW_some] <;> rfl), by (with_reducible repeat (first | apply Kd.R_alloc | apply Kd.R_drewN | apply Kd.R_drew)); exact HO468.out, by repeat (first | (with_reducible first | exact HB.out | apply below_alloc | apply pw_below_drewN | apply below_drew1 | refine below_set ?_ GE416.out) | exact HB.out)⟩
              · rw [if_neg c78] at H
                have c78b0 : decide (0 < t462) = false := decide_eq_false c78
                clear c78
                obtain ⟨y469, hy469⟩ : ∃ y_ : List Int, y_ = (([] : List Int)) := ⟨_, rfl⟩
                replace H : (some y469) = some r := by first | (rw [hy469]; with_reducible exact H) | (have H2_ := (Option.bind_some _ _).symm.trans H; rw [hy469]; with_reducible exact H2_) | (have H2_ := (Option.bind_some _ _).symm.trans H; with_reducible exact H2_) | with_reducible exact H | (rw [hy469]; exact H) | exact H
                have Ny469 := Aside0.mk hy469
                clear hy469
                obtain rfl := Option.some.inj H
                have hcz86_0 : wc.cell? ⟨gb416, 0, none⟩ = some (.int .i64 a0_0) := (blk_cell BK416.out 0).trans rfl
                have hcz86_1 : wc.cell? ⟨gb416, 1, none⟩ = some (.string a0_1) := (blk_cell BK416.out 1).trans rfl
                have hcz86_2 : wc.cell? ⟨gb416, 2, none⟩ = some (.int .i32 a0_2) := (blk_cell BK416.out 2).trans rfl
                have hcz86_3 : wc.cell? ⟨gb416, 3, none⟩ = some (.bool a0_3) := (blk_cell BK416.out 3).trans rfl
                have hcz86_4 : wc.cell? ⟨gb416, 4, none⟩ = some (.int .u32 a0_4) := (blk_cell BK416.out 4).trans rfl
                have hfz86_0 := blk_frozen BK416.out 0
                have hfz86_1 := blk_frozen BK416.out 1
                have hfz86_2 := blk_frozen BK416.out 2
                have hfz86_3 := blk_frozen BK416.out 3
                have hfz86_4 := blk_frozen BK416.out 4
                go_wp2_with (first | ((with_reducible refine gate_callee (f := 54) rfl ?_); refine goesL_ (some 23) rfl rfl Tryd.func54 (by kernel_rfl) rfl #[.int .i64 a0_0] rfl (by (try simp only [List.map_toArray, List.map_cons, List.map_nil]); first | done | rfl | (simp only [List.length_drop, List.length_take]; rfl)) ?_; (with_reducible refine (spec_l04Tag.calls a0_0 t462 _ A77.out).mono ?_); rintro e w' ⟨rfl, ⟨nd, rfl⟩⟩; refine ⟨_, rfl, ?_⟩) | ((with_reducible refine gate_dst (N := 105) rfl ?_); refine Kd.R_lit (Kd.int .u32) _ 22 ?hg (N := 105) ?hd (xs := ([] : List Int)) (inner := []) (ok := fun _ => True) (okp := fun _ => True) ?hr ?hp (fun _ hk => hk) trivial (Below.refl _ _) (Nat.le_refl _) (by simp) ?_; (case hd => rfl); (case hg => rfl); (case hr => first | (go_simp; done) | (go_simp; rfl)); (case hp => exact (Reps.none _ _)); intro v470 w87 ho88 hb hg_ hnew_; clear hg_ hnew_; (first | rw [← Ny469.out] at ho88 | (simp only [Int.reduceToNat] at ho88; rw [← Ny469.out] at ho88)); have n0_ := Aside0.mk (Kd.R_lower ho88 (below_size (by repeat (first | (with_reducible first | exact HB.out | apply below_alloc | apply pw_below_drewN | apply below_drew1 | refine below_set ?_ GE416.out) | exact HB.out)))); have n1_ := Aside0.mk (blk_below (g := gb416) (o := .cells #[.int .i64 a0_0, .string a0_1, .int .i32 a0_2, .bool a0_3, .int .u32 a0_4] 27 (0, 0)) (by (with_reducible repeat (first | refine blk_drewN ?_ _ | refine blk_drew ?_ | refine blk_alloc ?_ _)); exact BK416.out) hb); have n2_ := Aside0.mk (below_step (by repeat (first | (with_reducible first | exact HB.out | apply below_alloc | apply pw_below_drewN | apply below_drew1 | refine below_set ?_ GE416.out) | exact HB.out)) hb); clear BK416; clear HB; have HO471 := n0_; have BK416 := n1_; have HB := n2_; clear n0_ n1_ n2_; clear hb ho88))
                go_ret
                exact ⟨_, by first | rfl | (rw [← show ∀ l_ : List UInt8, (!l_.isEmpty) = (l_ != []) from fun l_ => by cases l_ <;> rfl]; rfl) | (simp [errW_none, errW_some] <;> rfl) | (simp [*, errW_none, errW_some] <;> rfl), by (with_reducible repeat (first | apply Kd.R_alloc | apply Kd.R_drewN | apply Kd.R_drew)); exact HO471.out, by repeat (first | (with_reducible first | exact HB.out | apply below_alloc | apply pw_below_drewN | apply below_drew1 | refine below_set ?_ GE416.out) | exact HB.out)⟩

/-! ### spec_ItemOk: function 18 -/
def spec_ItemOk.f (k : Nat) (a0_0 : Int) (a0_1 : ByteArray) (a0_2 : Int) (a0_3 : Bool) (a0_4 : Int) : Option (Bool) := (spec_CellsOf.f k a0_0 a0_1 a0_2 a0_3 a0_4).bind fun t473 => (some (decide ((t473.length : Int) > 0)))
theorem spec_ItemOk.mono : ∀ a0 a1 a2 a3 a4 k, LeO (spec_ItemOk.f k a0 a1 a2 a3 a4) (spec_ItemOk.f (k + 1) a0 a1 a2 a3 a4) := by
  intro a0 a1 a2 a3 a4 k
  unfold spec_ItemOk.f
  repeat' first
      | (with_reducible exact spec_CellsOf.mono _ _ _ _ _ _)
      | (with_reducible exact LeO.refl _)
      | (with_reducible exact LeO.none _)
      | (with_reducible refine LeO.ite ?_ ?_)
      | (with_reducible refine LeO.bind ?_ (fun _ => ?_))
      | exact spec_CellsOf.mono _ _ _ _ _ _
      | exact LeO.none _
      | refine LeO.ite ?_ ?_
      | refine LeO.bind ?_ (fun _ => ?_)
set_option maxHeartbeats 8000000 in
set_option maxRecDepth 100000 in
theorem spec_ItemOk.calls (k : Nat) (a0_0 : Int) (a0_1 : ByteArray) (a0_2 : Int) (a0_3 : Bool) (a0_4 : Int) (r : Bool) (w : World) (h : spec_ItemOk.f k a0_0 a0_1 a0_2 a0_3 a0_4 = some r) :
    Calls Tryd.prog 18 #[.agg #[.int .i64 a0_0, .string a0_1, .int .i32 a0_2, .bool a0_3, .int .u32 a0_4]] w fun e w' => e = .returned (.bool r) ∧ Below w.heap.size w w' := by
  have hu27 := Tryd.underlying27
  have HB := Aside0.mk (Below.refl w.heap.size w)
  have H : ((spec_CellsOf.f k a0_0 a0_1 a0_2 a0_3 a0_4).bind fun t473 => (some (decide ((t473.length : Int) > 0)))) = some r := h
  clear h
  replace H := Option.bind_eq_some_iff.mp H
  obtain ⟨t473, A20, H⟩ := H
  replace H : (some (decide ((t473.length : Int) > 0))) = some r := H
  have A2 := Aside0.mk A20
  clear A20
  obtain rfl := Option.some.inj H
  go_enter Tryd.func18, Tryd.ntmps18
  go_wp2_with (first | ((with_reducible refine gate_dst (N := 1) rfl ?_); refine box_event ?hg (N := 1) ?hd (cs := #[.int .i64 a0_0, .string a0_1, .int .i32 a0_2, .bool a0_3, .int .u32 a0_4]) (t := 27) ?hr ?_; (case hd => rfl); (case hg => rfl); (case hr => first | (go_simp; done) | (go_simp; rfl)); intro gb472 hg w3 hbox hb; have n0_ := Aside0.mk (below_step (by repeat (first | (with_reducible first | exact HB.out | apply below_alloc | apply pw_below_drewN | apply below_drew1) | exact HB.out)) hb); have n1_ := Aside0.mk (hbox); have n2_ := Aside0.mk ((by rw [hg]; exact (below_size (by repeat (first | (with_reducible first | exact HB.out | apply below_alloc | apply pw_below_drewN | apply below_drew1) | exact HB.out))) : w.heap.size ≤ gb472)); have n3_ := Aside0.mk ((by rw [hg]; exact (below_size (by repeat (first | (with_reducible first | exact HB.out | apply below_alloc | apply pw_below_drewN | apply below_drew1) | exact HB.out))) : w.heap.size ≤ gb472)); clear HB; have HB := n0_; have BK472 := n1_; have GW472 := n2_; have GE472 := n3_; clear n0_ n1_ n2_ n3_; clear hb hbox hg; have hcz4_0 : w3.cell? ⟨gb472, 0, none⟩ = some (.int .i64 a0_0) := (blk_cell BK472.out 0).trans rfl; have hcz4_1 : w3.cell? ⟨gb472, 1, none⟩ = some (.string a0_1) := (blk_cell BK472.out 1).trans rfl; have hcz4_2 : w3.cell? ⟨gb472, 2, none⟩ = some (.int .i32 a0_2) := (blk_cell BK472.out 2).trans rfl; have hcz4_3 : w3.cell? ⟨gb472, 3, none⟩ = some (.bool a0_3) := (blk_cell BK472.out 3).trans rfl; have hcz4_4 : w3.cell? ⟨gb472, 4, none⟩ = some (.int .u32 a0_4) := (blk_cell BK472.out 4).trans rfl; have hfz4_0 := blk_frozen BK472.out 0; have hfz4_1 := blk_frozen BK472.out 1; have hfz4_2 := blk_frozen BK472.out 2; have hfz4_3 := blk_frozen BK472.out 3; have hfz4_4 := blk_frozen BK472.out 4) | ((with_reducible refine gate_callee (f := 36) rfl ?_); refine goesL_ (some 4) rfl rfl Tryd.func36 (by kernel_rfl) rfl #[.agg #[.int .i64 a0_0, .string a0_1, .int .i32 a0_2, .bool a0_3, .int .u32 a0_4]] rfl (by (try simp only [List.map_toArray, List.map_cons, List.map_nil]); first | done | rfl | (simp only [List.length_drop, List.length_take]; rfl)) ?_; (with_reducible refine (spec_CellsOf.calls k a0_0 a0_1 a0_2 a0_3 a0_4 t473 _ A2.out).mono ?_); rintro e w5 ⟨v474, rfl, ho0, hb⟩; refine ⟨_, rfl, ?_⟩; have n0_ := Aside0.mk (Kd.R_lower ho0 (below_size (by repeat (first | (with_reducible first | exact HB.out | apply below_alloc | apply pw_below_drewN | apply below_drew1 | refine below_set ?_ GE472.out) | exact HB.out)))); have n1_ := Aside0.mk (blk_below (g := gb472) (o := .cells #[.int .i64 a0_0, .string a0_1, .int .i32 a0_2, .bool a0_3, .int .u32 a0_4] 27 (0, 0)) (by (with_reducible repeat (first | refine blk_drewN ?_ _ | refine blk_drew ?_ | refine blk_alloc ?_ _)); exact BK472.out) hb); have n2_ := Aside0.mk (below_step (by repeat (first | (with_reducible first | exact HB.out | apply below_alloc | apply pw_below_drewN | apply below_drew1 | refine below_set ?_ GE472.out) | exact HB.out)) hb); clear BK472; clear HB; have HO475 := n0_; have BK472 := n1_; have HB := n2_; clear n0_ n1_ n2_; (try clear hb); (try clear hb2); (try clear hk); (try clear hi); (try clear ho0); obtain ⟨Ao6, co6, eo6⟩ := Kd.R_slice HO475.out; subst eo6))
  go_ret
  exact ⟨by first | rfl | (rw [← show ∀ l_ : List UInt8, (!l_.isEmpty) = (l_ != []) from fun l_ => by cases l_ <;> rfl]; rfl) | (simp [errW_none, errW_some] <;> rfl) | (simp [*, errW_none, errW_some] <;> rfl), by repeat (first | (with_reducible first | exact HB.out | apply below_alloc | apply pw_below_drewN | apply below_drew1 | refine below_set ?_ GE472.out) | exact HB.out)⟩

/-! ### laws_FnItem: function 5 -/
def laws_FnItem.f (k : Nat) (l0 : List Int) : Option (Bool) := (laws_big.f l0).bind fun t476 => (if t476 = true then (some true) else ((spec_DrawItemText.f k l0).bind fun bt477 => ((impl_ItemText.f k bt477.1 bt477.2.1 bt477.2.2.1 bt477.2.2.2.1 bt477.2.2.2.2).bind fun t483 => ((impl_ReadItem.f k t483).bind fun bt484 => ((spec_ItemOk.f k bt477.1 bt477.2.1 bt477.2.2.1 bt477.2.2.2.1 bt477.2.2.2.2).bind fun t491 => (if t491 = true then (if bt484.2.2.2.2.2 = true then (some (bt484.1 == bt477.1 && (bt484.2.1.toList == bt477.2.1.toList && (bt484.2.2.1 == bt477.2.2.1 && (bt484.2.2.2.1 == bt477.2.2.2.1 && (bt484.2.2.2.2.1 == bt477.2.2.2.2)))))) else (some false)) else (if bt484.2.2.2.2.2 = true then (some false) else ((impl_ItemText.f k bt477.1 bt477.2.1 bt477.2.2.1 bt477.2.2.2.1 bt477.2.2.2.2).bind fun t492 => (some (t492.toList == ([] : List UInt8)))))))))))
theorem laws_FnItem.mono : ∀ a0 k, LeO (laws_FnItem.f k a0) (laws_FnItem.f (k + 1) a0) := by
  intro a0 k
  unfold laws_FnItem.f
  repeat' first
      | (with_reducible exact impl_ItemText.mono _ _ _ _ _ _)
      | (with_reducible exact impl_ReadItem.mono _ _)
      | (with_reducible exact spec_DrawItemText.mono _ _)
      | (with_reducible exact spec_ItemOk.mono _ _ _ _ _ _)
      | (with_reducible exact LeO.refl _)
      | (with_reducible exact LeO.none _)
      | (with_reducible refine LeO.ite ?_ ?_)
      | (with_reducible refine LeO.bind ?_ (fun _ => ?_))
      | exact impl_ItemText.mono _ _ _ _ _ _
      | exact impl_ReadItem.mono _ _
      | exact spec_DrawItemText.mono _ _
      | exact spec_ItemOk.mono _ _ _ _ _ _
      | exact LeO.none _
      | refine LeO.ite ?_ ?_
      | refine LeO.bind ?_ (fun _ => ?_)
set_option maxHeartbeats 8000000 in
set_option maxRecDepth 100000 in
theorem laws_FnItem.calls (k : Nat) (A0 : Option Addr) (c0 : Nat) (l0 : List Int) (r : Bool) (w : World) (hr0 : Kd.C (Kd.int .u8) w A0 l0.length l0) (hc0 : l0.length ≤ c0) (h : laws_FnItem.f k l0 = some r) (HT0 : Aside0 (Atoi.Tab w)) :
    Calls Tryd.prog 5 #[.slice A0 l0.length c0] w fun e w' => e = .returned (.bool r) ∧ Below w.heap.size w w' := by
  have HT1 : Aside0 (Itoa.Tab w) := ⟨HT0.out.1⟩
  have hu27 := Tryd.underlying27
  have HR0 := Aside0.mk hr0
  have HC0 := Aside0.mk hc0
  clear hr0 hc0
  have HB := Aside0.mk (Below.refl w.heap.size w)
  have H : ((laws_big.f l0).bind fun t476 => (if t476 = true then (some true) else ((spec_DrawItemText.f k l0).bind fun bt477 => ((impl_ItemText.f k bt477.1 bt477.2.1 bt477.2.2.1 bt477.2.2.2.1 bt477.2.2.2.2).bind fun t483 => ((impl_ReadItem.f k t483).bind fun bt484 => ((spec_ItemOk.f k bt477.1 bt477.2.1 bt477.2.2.1 bt477.2.2.2.1 bt477.2.2.2.2).bind fun t491 => (if t491 = true then (if bt484.2.2.2.2.2 = true then (some (bt484.1 == bt477.1 && (bt484.2.1.toList == bt477.2.1.toList && (bt484.2.2.1 == bt477.2.2.1 && (bt484.2.2.2.1 == bt477.2.2.2.1 && (bt484.2.2.2.2.1 == bt477.2.2.2.2)))))) else (some false)) else (if bt484.2.2.2.2.2 = true then (some false) else ((impl_ItemText.f k bt477.1 bt477.2.1 bt477.2.2.1 bt477.2.2.2.1 bt477.2.2.2.2).bind fun t492 => (some (t492.toList == ([] : List UInt8)))))))))))) = some r := h
  clear h
  replace H := Option.bind_eq_some_iff.mp H
  obtain ⟨t476, A20, H⟩ := H
  replace H : (if t476 = true then (some true) else ((spec_DrawItemText.f k l0).bind fun bt477 => ((impl_ItemText.f k bt477.1 bt477.2.1 bt477.2.2.1 bt477.2.2.2.1 bt477.2.2.2.2).bind fun t483 => ((impl_ReadItem.f k t483).bind fun bt484 => ((spec_ItemOk.f k bt477.1 bt477.2.1 bt477.2.2.1 bt477.2.2.2.1 bt477.2.2.2.2).bind fun t491 => (if t491 = true then (if bt484.2.2.2.2.2 = true then (some (bt484.1 == bt477.1 && (bt484.2.1.toList == bt477.2.1.toList && (bt484.2.2.1 == bt477.2.2.1 && (bt484.2.2.2.1 == bt477.2.2.2.1 && (bt484.2.2.2.2.1 == bt477.2.2.2.2)))))) else (some false)) else (if bt484.2.2.2.2.2 = true then (some false) else ((impl_ItemText.f k bt477.1 bt477.2.1 bt477.2.2.1 bt477.2.2.2.1 bt477.2.2.2.2).bind fun t492 => (some (t492.toList == ([] : List UInt8))))))))))) = some r := H
  have A2 := Aside0.mk A20
  clear A20
  by_cases c3 : t476 = true
  · subst c3
    have H1 : (some true) = some r := by rw [if_pos rfl] at H; exact H
    clear H
    have H := H1
    clear H1
    obtain rfl := Option.some.inj H
    go_enter Tryd.func5, Tryd.ntmps5
    go_wp2_with (first | ((with_reducible refine gate_callee (f := 15) rfl ?_); refine goesL_ (some 7) rfl rfl Tryd.func15 (by kernel_rfl) rfl #[.slice A0 l0.length c0] rfl (by (try simp only [List.map_toArray, List.map_cons, List.map_nil]); first | done | rfl | (simp only [List.length_drop, List.length_take]; rfl)) ?_; (with_reducible refine (laws_big.calls _ _ l0 true _ ?side1 ?side2 A2.out).mono ?_); (case side1 => repeat (first | exact HR0.out | (with_reducible refine Kd.C_alloc ?_ _) | (with_reducible refine Kd.C_drewN ?_ _) | (with_reducible refine Kd.C_drew ?_))); (case side2 => exact HC0.out); rintro e w' ⟨rfl, ⟨nd, rfl⟩⟩; refine ⟨_, rfl, ?_⟩))
    go_ret
    exact ⟨by first | rfl | (rw [← show ∀ l_ : List UInt8, (!l_.isEmpty) = (l_ != []) from fun l_ => by cases l_ <;> rfl]; rfl) | (simp [errW_none, errW_some] <;> rfl) | (simp [*, errW_none, errW_some] <;> rfl), by repeat (first | (with_reducible first | exact HB.out | apply below_alloc | apply pw_below_drewN | apply below_drew1) | exact HB.out)⟩
  · replace c3 := Bool.eq_false_iff.mpr c3
    subst c3
    have H1 : ((spec_DrawItemText.f k l0).bind fun bt477 => ((impl_ItemText.f k bt477.1 bt477.2.1 bt477.2.2.1 bt477.2.2.2.1 bt477.2.2.2.2).bind fun t483 => ((impl_ReadItem.f k t483).bind fun bt484 => ((spec_ItemOk.f k bt477.1 bt477.2.1 bt477.2.2.1 bt477.2.2.2.1 bt477.2.2.2.2).bind fun t491 => (if t491 = true then (if bt484.2.2.2.2.2 = true then (some (bt484.1 == bt477.1 && (bt484.2.1.toList == bt477.2.1.toList && (bt484.2.2.1 == bt477.2.2.1 && (bt484.2.2.2.1 == bt477.2.2.2.1 && (bt484.2.2.2.2.1 == bt477.2.2.2.2)))))) else (some false)) else (if bt484.2.2.2.2.2 = true then (some false) else ((impl_ItemText.f k bt477.1 bt477.2.1 bt477.2.2.1 bt477.2.2.2.1 bt477.2.2.2.2).bind fun t492 => (some (t492.toList == ([] : List UInt8)))))))))) = some r := by rw [if_neg (show ¬ (false = true) by decide)] at H; exact H
    clear H
    have H := H1
    clear H1
    replace H := Option.bind_eq_some_iff.mp H
    obtain ⟨⟨t477, t478, t479, t480, t481⟩, A40, H⟩ := H
    replace H : ((impl_ItemText.f k t477 t478 t479 t480 t481).bind fun t483 => ((impl_ReadItem.f k t483).bind fun bt484 => ((spec_ItemOk.f k t477 t478 t479 t480 t481).bind fun t491 => (if t491 = true then (if bt484.2.2.2.2.2 = true then (some (bt484.1 == t477 && (bt484.2.1.toList == t478.toList && (bt484.2.2.1 == t479 && (bt484.2.2.2.1 == t480 && (bt484.2.2.2.2.1 == t481)))))) else (some false)) else (if bt484.2.2.2.2.2 = true then (some false) else ((impl_ItemText.f k t477 t478 t479 t480 t481).bind fun t492 => (some (t492.toList == ([] : List UInt8))))))))) = some r := H
    have A4 := Aside0.mk A40
    clear A40
    replace H := Option.bind_eq_some_iff.mp H
    obtain ⟨t483, A50, H⟩ := H
    replace H : ((impl_ReadItem.f k t483).bind fun bt484 => ((spec_ItemOk.f k t477 t478 t479 t480 t481).bind fun t491 => (if t491 = true then (if bt484.2.2.2.2.2 = true then (some (bt484.1 == t477 && (bt484.2.1.toList == t478.toList && (bt484.2.2.1 == t479 && (bt484.2.2.2.1 == t480 && (bt484.2.2.2.2.1 == t481)))))) else (some false)) else (if bt484.2.2.2.2.2 = true then (some false) else ((impl_ItemText.f k t477 t478 t479 t480 t481).bind fun t492 => (some (t492.toList == ([] : List UInt8)))))))) = some r := H
    have A5 := Aside0.mk A50
    clear A50
    replace H := Option.bind_eq_some_iff.mp H
    obtain ⟨⟨t484, t485, t486, t487, t488, t489⟩, A60, H⟩ := H
    replace H : ((spec_ItemOk.f k t477 t478 t479 t480 t481).bind fun t491 => (if t491 = true then (if t489 = true then (some (t484 == t477 && (t485.toList == t478.toList && (t486 == t479 && (t487 == t480 && (t488 == t481)))))) else (some false)) else (if t489 = true then (some false) else ((impl_ItemText.f k t477 t478 t479 t480 t481).bind fun t492 => (some (t492.toList == ([] : List UInt8))))))) = some r := H
    have A6 := Aside0.mk A60
    clear A60
    replace H := Option.bind_eq_some_iff.mp H
    obtain ⟨t491, A70, H⟩ := H
    replace H : (if t491 = true then (if t489 = true then (some (t484 == t477 && (t485.toList == t478.toList && (t486 == t479 && (t487 == t480 && (t488 == t481)))))) else (some false)) else (if t489 = true then (some false) else ((impl_ItemText.f k t477 t478 t479 t480 t481).bind fun t492 => (some (t492.toList == ([] : List UInt8)))))) = some r := H
    have A7 := Aside0.mk A70
    clear A70
    by_cases c8 : t491 = true
    · subst c8
      have H1 : (if t489 = true then (some (t484 == t477 && (t485.toList == t478.toList && (t486 == t479 && (t487 == t480 && (t488 == t481)))))) else (some false)) = some r := by rw [if_pos rfl] at H; exact H
      clear H
      have H := H1
      clear H1
      by_cases c9 : t489 = true
      · subst c9
        have H1 : (some (t484 == t477 && (t485.toList == t478.toList && (t486 == t479 && (t487 == t480 && (t488 == t481)))))) = some r := by rw [if_pos rfl] at H; exact H
        clear H
        have H := H1
        clear H1
        obtain rfl := Option.some.inj H
        go_enter Tryd.func5, Tryd.ntmps5
        go_wp2_with (first | ((with_reducible refine gate_callee (f := 15) rfl ?_); refine goesL_ (some 7) rfl rfl Tryd.func15 (by kernel_rfl) rfl #[.slice A0 l0.length c0] rfl (by (try simp only [List.map_toArray, List.map_cons, List.map_nil]); first | done | rfl | (simp only [List.length_drop, List.length_take]; rfl)) ?_; (with_reducible refine (laws_big.calls _ _ l0 false _ ?side1 ?side2 A2.out).mono ?_); (case side1 => repeat (first | exact HR0.out | (with_reducible refine Kd.C_alloc ?_ _) | (with_reducible refine Kd.C_drewN ?_ _) | (with_reducible refine Kd.C_drew ?_))); (case side2 => exact HC0.out); rintro e w' ⟨rfl, ⟨nd, rfl⟩⟩; refine ⟨_, rfl, ?_⟩) | ((with_reducible refine gate_callee (f := 16) rfl ?_); refine goesL_ (some 9) rfl rfl Tryd.func16 (by kernel_rfl) rfl #[.slice A0 l0.length c0] rfl (by (try simp only [List.map_toArray, List.map_cons, List.map_nil]); first | done | rfl | (simp only [List.length_drop, List.length_take]; rfl)) ?_; (with_reducible refine (spec_DrawItemText.calls k _ _ l0 t477 t478 t479 t480 t481 _ ?side1 ?side2 A4.out).mono ?_); (case side1 => repeat (first | exact HR0.out | (with_reducible refine Kd.C_alloc ?_ _) | (with_reducible refine Kd.C_drewN ?_ _) | (with_reducible refine Kd.C_drew ?_))); (case side2 => exact HC0.out); rintro e w10 ⟨rfl, hb⟩; refine ⟨_, rfl, ?_⟩; have n0_ := Aside0.mk (below_step (by repeat (first | (with_reducible first | exact HB.out | apply below_alloc | apply pw_below_drewN | apply below_drew1) | exact HB.out)) hb); clear HB; have HB := n0_; clear n0_; (try clear hb); (try clear hb2); (try clear hk); (try clear hi)) | ((with_reducible refine gate_dst (N := 3) rfl ?_); refine box_event ?hg (N := 3) ?hd (cs := #[.int .i64 0, .string (⟨#[]⟩ : ByteArray), .int .i32 0, .bool false, .int .u32 0]) (t := 27) ?hr ?_; (case hd => rfl); (case hg => rfl); (case hr => first | (go_simp; done) | (go_simp; rfl)); intro gb482 hg w11 hbox hb; have n0_ := Aside0.mk (below_step (by repeat (first | (with_reducible first | exact HB.out | apply below_alloc | apply pw_below_drewN | apply below_drew1) | exact HB.out)) hb); have n1_ := Aside0.mk (hbox); have n2_ := Aside0.mk ((by rw [hg]; exact (below_size (by repeat (first | (with_reducible first | exact HB.out | apply below_alloc | apply pw_below_drewN | apply below_drew1) | exact HB.out))) : w.heap.size ≤ gb482)); have n3_ := Aside0.mk ((by rw [hg]; exact (below_size (by repeat (first | (with_reducible first | exact HB.out | apply below_alloc | apply pw_below_drewN | apply below_drew1) | exact HB.out))) : w.heap.size ≤ gb482)); clear HB; have HB := n0_; have BK482 := n1_; have GW482 := n2_; have GE482 := n3_; clear n0_ n1_ n2_ n3_; clear hb hbox hg; have hcz12_0 : w11.cell? ⟨gb482, 0, none⟩ = some (.int .i64 0) := (blk_cell BK482.out 0).trans rfl; have hcz12_1 : w11.cell? ⟨gb482, 1, none⟩ = some (.string (⟨#[]⟩ : ByteArray)) := (blk_cell BK482.out 1).trans rfl; have hcz12_2 : w11.cell? ⟨gb482, 2, none⟩ = some (.int .i32 0) := (blk_cell BK482.out 2).trans rfl; have hcz12_3 : w11.cell? ⟨gb482, 3, none⟩ = some (.bool false) := (blk_cell BK482.out 3).trans rfl; have hcz12_4 : w11.cell? ⟨gb482, 4, none⟩ = some (.int .u32 0) := (blk_cell BK482.out 4).trans rfl; have hfz12_0 := blk_frozen BK482.out 0; have hfz12_1 := blk_frozen BK482.out 1; have hfz12_2 := blk_frozen BK482.out 2; have hfz12_3 := blk_frozen BK482.out 3; have hfz12_4 := blk_frozen BK482.out 4) | ((with_reducible refine gate_callee (f := 10) rfl ?_); refine goesL_ (some 12) rfl rfl Tryd.func10 (by kernel_rfl) rfl #[.agg #[.int .i64 t477, .string t478, .int .i32 t479, .bool t480, .int .u32 t481]] rfl (by (try simp only [List.map_toArray, List.map_cons, List.map_nil]); first | done | rfl | (simp only [List.length_drop, List.length_take]; rfl)) ?_; (with_reducible refine (impl_ItemText.calls k t477 t478 t479 t480 t481 t483 _ A5.out ⟨Itoa.tab_at HT1.out (by repeat (first | (with_reducible first | exact HB.out | apply below_alloc | apply pw_below_drewN | apply below_drew1 | refine below_set ?_ (Aside0.out (by assumption))) | exact HB.out | exact Below.refl _ _))⟩).mono ?_); rintro e w13 ⟨rfl, hb⟩; refine ⟨_, rfl, ?_⟩; have n0_ := Aside0.mk (blk_below (g := gb482) (o := .cells #[.int .i64 t477, .string t478, .int .i32 t479, .bool t480, .int .u32 t481] 27 (0, 0)) (by (with_reducible repeat (first | refine blk_drewN ?_ _ | refine blk_drew ?_ | refine blk_alloc ?_ _)); refine blk_put (cs := #[.int .i64 t477, .string t478, .int .i32 t479, .bool t480, .int .u32 0]) ?_ 4 _ rfl; (with_reducible repeat (first | refine blk_drewN ?_ _ | refine blk_drew ?_ | refine blk_alloc ?_ _)); refine blk_put (cs := #[.int .i64 t477, .string t478, .int .i32 t479, .bool false, .int .u32 0]) ?_ 3 _ rfl; (with_reducible repeat (first | refine blk_drewN ?_ _ | refine blk_drew ?_ | refine blk_alloc ?_ _)); refine blk_put (cs := #[.int .i64 t477, .string t478, .int .i32 0, .bool false, .int .u32 0]) ?_ 2 _ rfl; (with_reducible repeat (first | refine blk_drewN ?_ _ | refine blk_drew ?_ | refine blk_alloc ?_ _)); refine blk_put (cs := #[.int .i64 t477, .string (⟨#[]⟩ : ByteArray), .int .i32 0, .bool false, .int .u32 0]) ?_ 1 _ rfl; (with_reducible repeat (first | refine blk_drewN ?_ _ | refine blk_drew ?_ | refine blk_alloc ?_ _)); refine blk_put (cs := #[.int .i64 0, .string (⟨#[]⟩ : ByteArray), .int .i32 0, .bool false, .int .u32 0]) ?_ 0 _ rfl; (with_reducible repeat (first | refine blk_drewN ?_ _ | refine blk_drew ?_ | refine blk_alloc ?_ _)); exact BK482.out) hb); have n1_ := Aside0.mk (below_step (by repeat (first | (with_reducible first | exact HB.out | apply below_alloc | apply pw_below_drewN | apply below_drew1 | refine below_set ?_ GE482.out) | exact HB.out)) hb); clear BK482; clear HB; have BK482 := n0_; have HB := n1_; clear n0_ n1_; (try clear hb); (try clear hb2); (try clear hk); (try clear hi)) | ((with_reducible refine gate_callee (f := 17) rfl ?_); refine goesL_ (some 13) rfl rfl Tryd.func17 (by kernel_rfl) rfl #[.string t483] rfl (by (try simp only [List.map_toArray, List.map_cons, List.map_nil]); first | done | rfl | (simp only [List.length_drop, List.length_take]; rfl)) ?_; (with_reducible refine (impl_ReadItem.calls k t483 t484 t485 t486 t487 t488 true _ A6.out ⟨Atoi.tab_at HT0.out (by repeat (first | (with_reducible first | exact HB.out | apply below_alloc | apply pw_below_drewN | apply below_drew1 | refine below_set ?_ (Aside0.out (by assumption))) | exact HB.out | exact Below.refl _ _))⟩).mono ?_); rintro e w14 ⟨rfl, hb⟩; refine ⟨_, rfl, ?_⟩; have n0_ := Aside0.mk (blk_below (g := gb482) (o := .cells #[.int .i64 t477, .string t478, .int .i32 t479, .bool t480, .int .u32 t481] 27 (0, 0)) (by (with_reducible repeat (first | refine blk_drewN ?_ _ | refine blk_drew ?_ | refine blk_alloc ?_ _)); exact BK482.out) hb); have n1_ := Aside0.mk (below_step (by repeat (first | (with_reducible first | exact HB.out | apply below_alloc | apply pw_below_drewN | apply below_drew1 | refine below_set ?_ GE482.out) | exact HB.out)) hb); clear BK482; clear HB; have BK482 := n0_; have HB := n1_; clear n0_ n1_; (try clear hb); (try clear hb2); (try clear hk); (try clear hi)) | ((with_reducible refine gate_dst (N := 4) rfl ?_); refine box_event ?hg (N := 4) ?hd (cs := #[.int .i64 0, .string (⟨#[]⟩ : ByteArray), .int .i32 0, .bool false, .int .u32 0]) (t := 27) ?hr ?_; (case hd => rfl); (case hg => rfl); (case hr => first | (go_simp; done) | (go_simp; rfl)); intro gb490 hg w15 hbox hb; have n0_ := Aside0.mk (blk_below (g := gb482) (o := .cells #[.int .i64 t477, .string t478, .int .i32 t479, .bool t480, .int .u32 t481] 27 (0, 0)) (by (with_reducible repeat (first | refine blk_drewN ?_ _ | refine blk_drew ?_ | refine blk_alloc ?_ _)); exact BK482.out) hb); have n1_ := Aside0.mk (below_step (by repeat (first | (with_reducible first | exact HB.out | apply below_alloc | apply pw_below_drewN | apply below_drew1 | refine below_set ?_ GE482.out) | exact HB.out)) hb); have n2_ := Aside0.mk (hbox); have n3_ := Aside0.mk ((by rw [hg]; exact (below_size (by repeat (first | (with_reducible first | exact HB.out | apply below_alloc | apply pw_below_drewN | apply below_drew1 | refine below_set ?_ GE482.out) | exact HB.out))) : w.heap.size ≤ gb490)); have n4_ := Aside0.mk ((by rw [hg]; exact (below_size (by repeat (first | (with_reducible first | exact HB.out | apply below_alloc | apply pw_below_drewN | apply below_drew1 | refine below_set ?_ GE482.out) | exact HB.out))) : w.heap.size ≤ gb490)); have n5_ := Aside0.mk ((by rw [hg]; exact Nat.ne_of_lt (blk_lt (g := gb482) (o := .cells #[.int .i64 t477, .string t478, .int .i32 t479, .bool t480, .int .u32 t481] 27 (0, 0)) (by (with_reducible repeat (first | refine blk_drewN ?_ _ | refine blk_drew ?_ | refine blk_alloc ?_ _)); exact BK482.out)) : gb482 ≠ gb490)); have n6_ := Aside0.mk ((by rw [hg]; exact Nat.ne_of_gt (blk_lt (g := gb482) (o := .cells #[.int .i64 t477, .string t478, .int .i32 t479, .bool t480, .int .u32 t481] 27 (0, 0)) (by (with_reducible repeat (first | refine blk_drewN ?_ _ | refine blk_drew ?_ | refine blk_alloc ?_ _)); exact BK482.out)) : gb490 ≠ gb482)); clear BK482; clear HB; have BK482 := n0_; have HB := n1_; have BK490 := n2_; have GW490 := n3_; have GE490 := n4_; have NB482_490 := n5_; have NB490_482 := n6_; clear n0_ n1_ n2_ n3_ n4_ n5_ n6_; clear hb hbox hg; have hnb16 := NB490_482.out; have hnc16 := NB482_490.out; have hcz17_0 : w15.cell? ⟨gb490, 0, none⟩ = some (.int .i64 0) := (blk_cell BK490.out 0).trans rfl; have hcz17_1 : w15.cell? ⟨gb490, 1, none⟩ = some (.string (⟨#[]⟩ : ByteArray)) := (blk_cell BK490.out 1).trans rfl; have hcz17_2 : w15.cell? ⟨gb490, 2, none⟩ = some (.int .i32 0) := (blk_cell BK490.out 2).trans rfl; have hcz17_3 : w15.cell? ⟨gb490, 3, none⟩ = some (.bool false) := (blk_cell BK490.out 3).trans rfl; have hcz17_4 : w15.cell? ⟨gb490, 4, none⟩ = some (.int .u32 0) := (blk_cell BK490.out 4).trans rfl; have hfz17_0 := blk_frozen BK490.out 0; have hfz17_1 := blk_frozen BK490.out 1; have hfz17_2 := blk_frozen BK490.out 2; have hfz17_3 := blk_frozen BK490.out 3; have hfz17_4 := blk_frozen BK490.out 4; have hcz18_0 : w15.cell? ⟨gb482, 0, none⟩ = some (.int .i64 t477) := (blk_cell BK482.out 0).trans rfl; have hcz18_1 : w15.cell? ⟨gb482, 1, none⟩ = some (.string t478) := (blk_cell BK482.out 1).trans rfl; have hcz18_2 : w15.cell? ⟨gb482, 2, none⟩ = some (.int .i32 t479) := (blk_cell BK482.out 2).trans rfl; have hcz18_3 : w15.cell? ⟨gb482, 3, none⟩ = some (.bool t480) := (blk_cell BK482.out 3).trans rfl; have hcz18_4 : w15.cell? ⟨gb482, 4, none⟩ = some (.int .u32 t481) := (blk_cell BK482.out 4).trans rfl; have hfz18_0 := blk_frozen BK482.out 0; have hfz18_1 := blk_frozen BK482.out 1; have hfz18_2 := blk_frozen BK482.out 2; have hfz18_3 := blk_frozen BK482.out 3; have hfz18_4 := blk_frozen BK482.out 4) | ((with_reducible refine gate_callee (f := 18) rfl ?_); refine goesL_ (some 17) rfl rfl Tryd.func18 (by kernel_rfl) rfl #[.agg #[.int .i64 t477, .string t478, .int .i32 t479, .bool t480, .int .u32 t481]] rfl (by (try simp only [List.map_toArray, List.map_cons, List.map_nil]); first | done | rfl | (simp only [List.length_drop, List.length_take]; rfl)) ?_; (with_reducible refine (spec_ItemOk.calls k t477 t478 t479 t480 t481 true _ A7.out).mono ?_); rintro e w19 ⟨rfl, hb⟩; refine ⟨_, rfl, ?_⟩; have n0_ := Aside0.mk (blk_below (g := gb482) (o := .cells #[.int .i64 t477, .string t478, .int .i32 t479, .bool t480, .int .u32 t481] 27 (0, 0)) (by (with_reducible repeat (first | refine blk_drewN ?_ _ | refine blk_drew ?_ | refine blk_alloc ?_ _)); refine blk_far ?_ NB482_490.out _; (with_reducible repeat (first | refine blk_drewN ?_ _ | refine blk_drew ?_ | refine blk_alloc ?_ _)); refine blk_far ?_ NB482_490.out _; (with_reducible repeat (first | refine blk_drewN ?_ _ | refine blk_drew ?_ | refine blk_alloc ?_ _)); refine blk_far ?_ NB482_490.out _; (with_reducible repeat (first | refine blk_drewN ?_ _ | refine blk_drew ?_ | refine blk_alloc ?_ _)); refine blk_far ?_ NB482_490.out _; (with_reducible repeat (first | refine blk_drewN ?_ _ | refine blk_drew ?_ | refine blk_alloc ?_ _)); refine blk_far ?_ NB482_490.out _; (with_reducible repeat (first | refine blk_drewN ?_ _ | refine blk_drew ?_ | refine blk_alloc ?_ _)); exact BK482.out) hb); have n1_ := Aside0.mk (blk_below (g := gb490) (o := .cells #[.int .i64 t484, .string t485, .int .i32 t486, .bool t487, .int .u32 t488] 27 (0, 0)) (by (with_reducible repeat (first | refine blk_drewN ?_ _ | refine blk_drew ?_ | refine blk_alloc ?_ _)); refine blk_put (cs := #[.int .i64 t484, .string t485, .int .i32 t486, .bool t487, .int .u32 0]) ?_ 4 _ rfl; (with_reducible repeat (first | refine blk_drewN ?_ _ | refine blk_drew ?_ | refine blk_alloc ?_ _)); refine blk_put (cs := #[.int .i64 t484, .string t485, .int .i32 t486, .bool false, .int .u32 0]) ?_ 3 _ rfl; (with_reducible repeat (first | refine blk_drewN ?_ _ | refine blk_drew ?_ | refine blk_alloc ?_ _)); refine blk_put (cs := #[.int .i64 t484, .string t485, .int .i32 0, .bool false, .int .u32 0]) ?_ 2 _ rfl; (with_reducible repeat (first | refine blk_drewN ?_ _ | refine blk_drew ?_ | refine blk_alloc ?_ _)); refine blk_put (cs := #[.int .i64 t484, .string (⟨#[]⟩ : ByteArray), .int .i32 0, .bool false, .int .u32 0]) ?_ 1 _ rfl; (with_reducible repeat (first | refine blk_drewN ?_ _ | refine blk_drew ?_ | refine blk_alloc ?_ _)); refine blk_put (cs := #[.int .i64 0, .string (⟨#[]⟩ : ByteArray), .int .i32 0, .bool false, .int .u32 0]) ?_ 0 _ rfl; (with_reducible repeat (first | refine blk_drewN ?_ _ | refine blk_drew ?_ | refine blk_alloc ?_ _)); exact BK490.out) hb); have n2_ := Aside0.mk (below_step (by repeat (first | (with_reducible first | exact HB.out | apply below_alloc | apply pw_below_drewN | apply below_drew1 | refine below_set ?_ GE482.out | refine below_set ?_ GE490.out) | exact HB.out)) hb); clear BK482; clear BK490; clear HB; have BK482 := n0_; have BK490 := n1_; have HB := n2_; clear n0_ n1_ n2_; (try clear hb); (try clear hb2); (try clear hk); (try clear hi); have hcz20_0 : w19.cell? ⟨gb490, 0, none⟩ = some (.int .i64 t484) := (blk_cell BK490.out 0).trans rfl; have hcz20_1 : w19.cell? ⟨gb490, 1, none⟩ = some (.string t485) := (blk_cell BK490.out 1).trans rfl; have hcz20_2 : w19.cell? ⟨gb490, 2, none⟩ = some (.int .i32 t486) := (blk_cell BK490.out 2).trans rfl; have hcz20_3 : w19.cell? ⟨gb490, 3, none⟩ = some (.bool t487) := (blk_cell BK490.out 3).trans rfl; have hcz20_4 : w19.cell? ⟨gb490, 4, none⟩ = some (.int .u32 t488) := (blk_cell BK490.out 4).trans rfl; have hfz20_0 := blk_frozen BK490.out 0; have hfz20_1 := blk_frozen BK490.out 1; have hfz20_2 := blk_frozen BK490.out 2; have hfz20_3 := blk_frozen BK490.out 3; have hfz20_4 := blk_frozen BK490.out 4; have hcz21_0 : w19.cell? ⟨gb482, 0, none⟩ = some (.int .i64 t477) := (blk_cell BK482.out 0).trans rfl; have hcz21_1 : w19.cell? ⟨gb482, 1, none⟩ = some (.string t478) := (blk_cell BK482.out 1).trans rfl; have hcz21_2 : w19.cell? ⟨gb482, 2, none⟩ = some (.int .i32 t479) := (blk_cell BK482.out 2).trans rfl; have hcz21_3 : w19.cell? ⟨gb482, 3, none⟩ = some (.bool t480) := (blk_cell BK482.out 3).trans rfl; have hcz21_4 : w19.cell? ⟨gb482, 4, none⟩ = some (.int .u32 t481) := (blk_cell BK482.out 4).trans rfl; have hfz21_0 := blk_frozen BK482.out 0; have hfz21_1 := blk_frozen BK482.out 1; have hfz21_2 := blk_frozen BK482.out 2; have hfz21_3 := blk_frozen BK482.out 3; have hfz21_4 := blk_frozen BK482.out 4))
        go_ret
        exact ⟨by first | rfl | (rw [← show ∀ l_ : List UInt8, (!l_.isEmpty) = (l_ != []) from fun l_ => by cases l_ <;> rfl]; rfl) | (simp [errW_none, errW_some] <;> rfl) | (simp [*, errW_none, errW_some] <;> rfl), by repeat (first | (with_reducible first | exact HB.out | apply below_alloc | apply pw_below_drewN | apply below_drew1 | refine below_set ?_ GE482.out | refine below_set ?_ GE490.out) | exact HB.out)⟩
      · replace c9 := Bool.eq_false_iff.mpr c9
        subst c9
        have H1 : (some false) = some r := by rw [if_neg (show ¬ (false = true) by decide)] at H; exact H
        clear H
        have H := H1
        clear H1
        obtain rfl := Option.some.inj H
        go_enter Tryd.func5, Tryd.ntmps5
        go_wp2_with (first | ((with_reducible refine gate_callee (f := 15) rfl ?_); refine goesL_ (some 7) rfl rfl Tryd.func15 (by kernel_rfl) rfl #[.slice A0 l0.length c0] rfl (by (try simp only [List.map_toArray, List.map_cons, List.map_nil]); first | done | rfl | (simp only [List.length_drop, List.length_take]; rfl)) ?_; (with_reducible refine (laws_big.calls _ _ l0 false _ ?side1 ?side2 A2.out).mono ?_); (case side1 => repeat (first | exact HR0.out | (with_reducible refine Kd.C_alloc ?_ _) | (with_reducible refine Kd.C_drewN ?_ _) | (with_reducible refine Kd.C_drew ?_))); (case side2 => exact HC0.out); rintro e w' ⟨rfl, ⟨nd, rfl⟩⟩; refine ⟨_, rfl, ?_⟩) | ((with_reducible refine gate_callee (f := 16) rfl ?_); refine goesL_ (some 9) rfl rfl Tryd.func16 (by kernel_rfl) rfl #[.slice A0 l0.length c0] rfl (by (try simp only [List.map_toArray, List.map_cons, List.map_nil]); first | done | rfl | (simp only [List.length_drop, List.length_take]; rfl)) ?_; (with_reducible refine (spec_DrawItemText.calls k _ _ l0 t477 t478 t479 t480 t481 _ ?side1 ?side2 A4.out).mono ?_); (case side1 => repeat (first | exact HR0.out | (with_reducible refine Kd.C_alloc ?_ _) | (with_reducible refine Kd.C_drewN ?_ _) | (with_reducible refine Kd.C_drew ?_))); (case side2 => exact HC0.out); rintro e w22 ⟨rfl, hb⟩; refine ⟨_, rfl, ?_⟩; have n0_ := Aside0.mk (below_step (by repeat (first | (with_reducible first | exact HB.out | apply below_alloc | apply pw_below_drewN | apply below_drew1) | exact HB.out)) hb); clear HB; have HB := n0_; clear n0_; (try clear hb); (try clear hb2); (try clear hk); (try clear hi)) | ((with_reducible refine gate_dst (N := 3) rfl ?_); refine box_event ?hg (N := 3) ?hd (cs := #[.int .i64 0, .string (⟨#[]⟩ : ByteArray), .int .i32 0, .bool false, .int .u32 0]) (t := 27) ?hr ?_; (case hd => rfl); (case hg => rfl); (case hr => first | (go_simp; done) | (go_simp; rfl)); intro gb482 hg w23 hbox hb; have n0_ := Aside0.mk (below_step (by repeat (first | (with_reducible first | exact HB.out | apply below_alloc | apply pw_below_drewN | apply below_drew1) | exact HB.out)) hb); have n1_ := Aside0.mk (hbox); have n2_ := Aside0.mk ((by rw [hg]; exact (below_size (by repeat (first | (with_reducible first | exact HB.out | apply below_alloc | apply pw_below_drewN | apply below_drew1) | exact HB.out))) : w.heap.size ≤ gb482)); have n3_ := Aside0.mk ((by rw [hg]; exact (below_size (by repeat (first | (with_reducible first | exact HB.out | apply below_alloc | apply pw_below_drewN | apply below_drew1) | exact HB.out))) : w.heap.size ≤ gb482)); clear HB; have HB := n0_; have BK482 := n1_; have GW482 := n2_; have GE482 := n3_; clear n0_ n1_ n2_ n3_; clear hb hbox hg; have hcz24_0 : w23.cell? ⟨gb482, 0, none⟩ = some (.int .i64 0) := (blk_cell BK482.out 0).trans rfl; have hcz24_1 : w23.cell? ⟨gb482, 1, none⟩ = some (.string (⟨#[]⟩ : ByteArray)) := (blk_cell BK482.out 1).trans rfl; have hcz24_2 : w23.cell? ⟨gb482, 2, none⟩ = some (.int .i32 0) := (blk_cell BK482.out 2).trans rfl; have hcz24_3 : w23.cell? ⟨gb482, 3, none⟩ = some (.bool false) := (blk_cell BK482.out 3).trans rfl; have hcz24_4 : w23.cell? ⟨gb482, 4, none⟩ = some (.int .u32 0) := (blk_cell BK482.out 4).trans rfl; have hfz24_0 := blk_frozen BK482.out 0; have hfz24_1 := blk_frozen BK482.out 1; have hfz24_2 := blk_frozen BK482.out 2; have hfz24_3 := blk_frozen BK482.out 3; have hfz24_4 := blk_frozen BK482.out 4) | ((with_reducible refine gate_callee (f := 10) rfl ?_); refine goesL_ (some 12) rfl rfl Tryd.func10 (by kernel_rfl) rfl #[.agg #[.int .i64 t477, .string t478, .int .i32 t479, .bool t480, .int .u32 t481]] rfl (by (try simp only [List.map_toArray, List.map_cons, List.map_nil]); first | done | rfl | (simp only [List.length_drop, List.length_take]; rfl)) ?_; (with_reducible refine (impl_ItemText.calls k t477 t478 t479 t480 t481 t483 _ A5.out ⟨Itoa.tab_at HT1.out (by repeat (first | (with_reducible first | exact HB.out | apply below_alloc | apply pw_below_drewN | apply below_drew1 | refine below_set ?_ (Aside0.out (by assumption))) | exact HB.out | exact Below.refl _ _))⟩).mono ?_); rintro e w25 ⟨rfl, hb⟩; refine ⟨_, rfl, ?_⟩; have n0_ := Aside0.mk (blk_below (g := gb482) (o := .cells #[.int .i64 t477, .string t478, .int .i32 t479, .bool t480, .int .u32 t481] 27 (0, 0)) (by (with_reducible repeat (first | refine blk_drewN ?_ _ | refine blk_drew ?_ | refine blk_alloc ?_ _)); refine blk_put (cs := #[.int .i64 t477, .string t478, .int .i32 t479, .bool t480, .int .u32 0]) ?_ 4 _ rfl; (with_reducible repeat (first | refine blk_drewN ?_ _ | refine blk_drew ?_ | refine blk_alloc ?_ _)); refine blk_put (cs := #[.int .i64 t477, .string t478, .int .i32 t479, .bool false, .int .u32 0]) ?_ 3 _ rfl; (with_reducible repeat (first | refine blk_drewN ?_ _ | refine blk_drew ?_ | refine blk_alloc ?_ _)); refine blk_put (cs := #[.int .i64 t477, .string t478, .int .i32 0, .bool false, .int .u32 0]) ?_ 2 _ rfl; (with_reducible repeat (first | refine blk_drewN ?_ _ | refine blk_drew ?_ | refine blk_alloc ?_ _)); refine blk_put (cs := #[.int .i64 t477, .string (⟨#[]⟩ : ByteArray), .int .i32 0, .bool false, .int .u32 0]) ?_ 1 _ rfl; (with_reducible repeat (first | refine blk_drewN ?_ _ | refine blk_drew ?_ | refine blk_alloc ?_ _)); refine blk_put (cs := #[.int .i64 0, .string (⟨#[]⟩ : ByteArray), .int .i32 0, .bool false, .int .u32 0]) ?_ 0 _ rfl; (with_reducible repeat (first | refine blk_drewN ?_ _ | refine blk_drew ?_ | refine blk_alloc ?_ _)); exact BK482.out) hb); have n1_ := Aside0.mk (below_step (by repeat (first | (with_reducible first | exact HB.out | apply below_alloc | apply pw_below_drewN | apply below_drew1 | refine below_set ?_ GE482.out) | exact HB.out)) hb); clear BK482; clear HB; have BK482 := n0_; have HB := n1_; clear n0_ n1_; (try clear hb); (try clear hb2); (try clear hk); (try clear hi)) | ((with_reducible refine gate_callee (f := 17) rfl ?_); refine goesL_ (some 13) rfl rfl Tryd.func17 (by kernel_rfl) rfl #[.string t483] rfl (by (try simp only [List.map_toArray, List.map_cons, List.map_nil]); first | done | rfl | (simp only [List.length_drop, List.length_take]; rfl)) ?_; (with_reducible refine (impl_ReadItem.calls k t483 t484 t485 t486 t487 t488 false _ A6.out ⟨Atoi.tab_at HT0.out (by repeat (first | (with_reducible first | exact HB.out | apply below_alloc | apply pw_below_drewN | apply below_drew1 | refine below_set ?_ (Aside0.out (by assumption))) | exact HB.out | exact Below.refl _ _))⟩).mono ?_); rintro e w26 ⟨rfl, hb⟩; refine ⟨_, rfl, ?_⟩; have n0_ := Aside0.mk (blk_below (g := gb482) (o := .cells #[.int .i64 t477, .string t478, .int .i32 t479, .bool t480, .int .u32 t481] 27 (0, 0)) (by (with_reducible repeat (first | refine blk_drewN ?_ _ | refine blk_drew ?_ | refine blk_alloc ?_ _)); exact BK482.out) hb); have n1_ := Aside0.mk (below_step (by repeat (first | (with_reducible first | exact HB.out | apply below_alloc | apply pw_below_drewN | apply below_drew1 | refine below_set ?_ GE482.out) | exact HB.out)) hb); clear BK482; clear HB; have BK482 := n0_; have HB := n1_; clear n0_ n1_; (try clear hb); (try clear hb2); (try clear hk); (try clear hi)) | ((with_reducible refine gate_dst (N := 4) rfl ?_); refine box_event ?hg (N := 4) ?hd (cs := #[.int .i64 0, .string (⟨#[]⟩ : ByteArray), .int .i32 0, .bool false, .int .u32 0]) (t := 27) ?hr ?_; (case hd => rfl); (case hg => rfl); (case hr => first | (go_simp; done) | (go_simp; rfl)); intro gb490 hg w27 hbox hb; have n0_ := Aside0.mk (blk_below (g := gb482) (o := .cells #[.int .i64 t477, .string t478, .int .i32 t479, .bool t480, .int .u32 t481] 27 (0, 0)) (by (with_reducible repeat (first | refine blk_drewN ?_ _ | refine blk_drew ?_ | refine blk_alloc ?_ _)); exact BK482.out) hb); have n1_ := Aside0.mk (below_step (by repeat (first | (with_reducible first | exact HB.out | apply below_alloc | apply pw_below_drewN | apply below_drew1 | refine below_set ?_ GE482.out) | exact HB.out)) hb); have n2_ := Aside0.mk (hbox); have n3_ := Aside0.mk ((by rw [hg]; exact (below_size (by repeat (first | (with_reducible first | exact HB.out | apply below_alloc | apply pw_below_drewN | apply below_drew1 | refine below_set ?_ GE482.out) | exact HB.out))) : w.heap.size ≤ gb490)); have n4_ := Aside0.mk ((by rw [hg]; exact (below_size (by repeat (first | (with_reducible first | exact HB.out | apply below_alloc | apply pw_below_drewN | apply below_drew1 | refine below_set ?_ GE482.out) | exact HB.out))) : w.heap.size ≤ gb490)); have n5_ := Aside0.mk ((by rw [hg]; exact Nat.ne_of_lt (blk_lt (g := gb482) (o := .cells #[.int .i64 t477, .string t478, .int .i32 t479, .bool t480, .int .u32 t481] 27 (0, 0)) (by (with_reducible repeat (first | refine blk_drewN ?_ _ | refine blk_drew ?_ | refine blk_alloc ?_ _)); exact BK482.out)) : gb482 ≠ gb490)); have n6_ := Aside0.mk ((by rw [hg]; exact Nat.ne_of_gt (blk_lt (g := gb482) (o := .cells #[.int .i64 t477, .string t478, .int .i32 t479, .bool t480, .int .u32 t481] 27 (0, 0)) (by (with_reducible repeat (first | refine blk_drewN ?_ _ | refine blk_drew ?_ | refine blk_alloc ?_ _)); exact BK482.out)) : gb490 ≠ gb482)); clear BK482; clear HB; have BK482 := n0_; have HB := n1_; have BK490 := n2_; have GW490 := n3_; have GE490 := n4_; have NB482_490 := n5_; have NB490_482 := n6_; clear n0_ n1_ n2_ n3_ n4_ n5_ n6_; clear hb hbox hg; have hnb28 := NB490_482.out; have hnc28 := NB482_490.out; have hcz29_0 : w27.cell? ⟨gb490, 0, none⟩ = some (.int .i64 0) := (blk_cell BK490.out 0).trans rfl; have hcz29_1 : w27.cell? ⟨gb490, 1, none⟩ = some (.string (⟨#[]⟩ : ByteArray)) := (blk_cell BK490.out 1).trans rfl; have hcz29_2 : w27.cell? ⟨gb490, 2, none⟩ = some (.int .i32 0) := (blk_cell BK490.out 2).trans rfl; have hcz29_3 : w27.cell? ⟨gb490, 3, none⟩ = some (.bool false) := (blk_cell BK490.out 3).trans rfl; have hcz29_4 : w27.cell? ⟨gb490, 4, none⟩ = some (.int .u32 0) := (blk_cell BK490.out 4).trans rfl; have hfz29_0 := blk_frozen BK490.out 0; have hfz29_1 := blk_frozen BK490.out 1; have hfz29_2 := blk_frozen BK490.out 2; have hfz29_3 := blk_frozen BK490.out 3; have hfz29_4 := blk_frozen BK490.out 4; have hcz30_0 : w27.cell? ⟨gb482, 0, none⟩ = some (.int .i64 t477) := (blk_cell BK482.out 0).trans rfl; have hcz30_1 : w27.cell? ⟨gb482, 1, none⟩ = some (.string t478) := (blk_cell BK482.out 1).trans rfl; have hcz30_2 : w27.cell? ⟨gb482, 2, none⟩ = some (.int .i32 t479) := (blk_cell BK482.out 2).trans rfl; have hcz30_3 : w27.cell? ⟨gb482, 3, none⟩ = some (.bool t480) := (blk_cell BK482.out 3).trans rfl; have hcz30_4 : w27.cell? ⟨gb482, 4, none⟩ = some (.int .u32 t481) := (blk_cell BK482.out 4).trans rfl; have hfz30_0 := blk_frozen BK482.out 0; have hfz30_1 := blk_frozen BK482.out 1; have hfz30_2 := blk_frozen BK482.out 2; have hfz30_3 := blk_frozen BK482.out 3; have hfz30_4 := blk_frozen BK482.out 4) | ((with_reducible refine gate_callee (f := 18) rfl ?_); refine goesL_ (some 17) rfl rfl Tryd.func18 (by kernel_rfl) rfl #[.agg #[.int .i64 t477, .string t478, .int .i32 t479, .bool t480, .int .u32 t481]] rfl (by (try simp only [List.map_toArray, List.map_cons, List.map_nil]); first | done | rfl | (simp only [List.length_drop, List.length_take]; rfl)) ?_; (with_reducible refine (spec_ItemOk.calls k t477 t478 t479 t480 t481 true _ A7.out).mono ?_); rintro e w31 ⟨rfl, hb⟩; refine ⟨_, rfl, ?_⟩; have n0_ := Aside0.mk (blk_below (g := gb482) (o := .cells #[.int .i64 t477, .string t478, .int .i32 t479, .bool t480, .int .u32 t481] 27 (0, 0)) (by (with_reducible repeat (first | refine blk_drewN ?_ _ | refine blk_drew ?_ | refine blk_alloc ?_ _)); refine blk_far ?_ NB482_490.out _; (with_reducible repeat (first | refine blk_drewN ?_ _ | refine blk_drew ?_ | refine blk_alloc ?_ _)); refine blk_far ?_ NB482_490.out _; (with_reducible repeat (first | refine blk_drewN ?_ _ | refine blk_drew ?_ | refine blk_alloc ?_ _)); refine blk_far ?_ NB482_490.out _; (with_reducible repeat (first | refine blk_drewN ?_ _ | refine blk_drew ?_ | refine blk_alloc ?_ _)); refine blk_far ?_ NB482_490.out _; (with_reducible repeat (first | refine blk_drewN ?_ _ | refine blk_drew ?_ | refine blk_alloc ?_ _)); refine blk_far ?_ NB482_490.out _; (with_reducible repeat (first | refine blk_drewN ?_ _ | refine blk_drew ?_ | refine blk_alloc ?_ _)); exact BK482.out) hb); have n1_ := Aside0.mk (blk_below (g := gb490) (o := .cells #[.int .i64 t484, .string t485, .int .i32 t486, .bool t487, .int .u32 t488] 27 (0, 0)) (by (with_reducible repeat (first | refine blk_drewN ?_ _ | refine blk_drew ?_ | refine blk_alloc ?_ _)); refine blk_put (cs := #[.int .i64 t484, .string t485, .int .i32 t486, .bool t487, .int .u32 0]) ?_ 4 _ rfl; (with_reducible repeat (first | refine blk_drewN ?_ _ | refine blk_drew ?_ | refine blk_alloc ?_ _)); refine blk_put (cs := #[.int .i64 t484, .string t485, .int .i32 t486, .bool false, .int .u32 0]) ?_ 3 _ rfl; (with_reducible repeat (first | refine blk_drewN ?_ _ | refine blk_drew ?_ | refine blk_alloc ?_ _)); refine blk_put (cs := #[.int .i64 t484, .string t485, .int .i32 0, .bool false, .int .u32 0]) ?_ 2 _ rfl; (with_reducible repeat (first | refine blk_drewN ?_ _ | refine blk_drew ?_ | refine blk_alloc ?_ _)); refine blk_put (cs := #[.int .i64 t484, .string (⟨#[]⟩ : ByteArray), .int .i32 0, .bool false, .int .u32 0]) ?_ 1 _ rfl; (with_reducible repeat (first | refine blk_drewN ?_ _ | refine blk_drew ?_ | refine blk_alloc ?_ _)); refine blk_put (cs := #[.int .i64 0, .string (⟨#[]⟩ : ByteArray), .int .i32 0, .bool false, .int .u32 0]) ?_ 0 _ rfl; (with_reducible repeat (first | refine blk_drewN ?_ _ | refine blk_drew ?_ | refine blk_alloc ?_ _)); exact BK490.out) hb); have n2_ := Aside0.mk (below_step (by repeat (first | (with_reducible first | exact HB.out | apply below_alloc | apply pw_below_drewN | apply below_drew1 | refine below_set ?_ GE482.out | refine below_set ?_ GE490.out) | exact HB.out)) hb); clear BK482; clear BK490; clear HB; have BK482 := n0_; have BK490 := n1_; have HB := n2_; clear n0_ n1_ n2_; (try clear hb); (try clear hb2); (try clear hk); (try clear hi)))
        go_ret
        exact ⟨by first | rfl | (rw [← show ∀ l_ : List UInt8, (!l_.isEmpty) = (l_ != []) from fun l_ => by cases l_ <;> rfl]; rfl) | (simp [errW_none, errW_some] <;> rfl) | (simp [*, errW_none, errW_some] <;> rfl), by repeat (first | (with_reducible first | exact HB.out | apply below_alloc | apply pw_below_drewN | apply below_drew1 | refine below_set ?_ GE482.out | refine below_set ?_ GE490.out) | exact HB.out)⟩
    · replace c8 := Bool.eq_false_iff.mpr c8
      subst c8
      have H1 : (if t489 = true then (some false) else ((impl_ItemText.f k t477 t478 t479 t480 t481).bind fun t492 => (some (t492.toList == ([] : List UInt8))))) = some r := by rw [if_neg (show ¬ (false = true) by decide)] at H; exact H
      clear H
      have H := H1
      clear H1
      by_cases c32 : t489 = true
      · subst c32
        have H1 : (some false) = some r := by rw [if_pos rfl] at H; exact H
        clear H
        have H := H1
        clear H1
        obtain rfl := Option.some.inj H
        go_enter Tryd.func5, Tryd.ntmps5
        go_wp2_with (first | ((with_reducible refine gate_callee (f := 15) rfl ?_); refine goesL_ (some 7) rfl rfl Tryd.func15 (by kernel_rfl) rfl #[.slice A0 l0.length c0] rfl (by (try simp only [List.map_toArray, List.map_cons, List.map_nil]); first | done | rfl | (simp only [List.length_drop, List.length_take]; rfl)) ?_; (with_reducible refine (laws_big.calls _ _ l0 false _ ?side1 ?side2 A2.out).mono ?_); (case side1 => repeat (first | exact HR0.out | (with_reducible refine Kd.C_alloc ?_ _) | (with_reducible refine Kd.C_drewN ?_ _) | (with_reducible refine Kd.C_drew ?_))); (case side2 => exact HC0.out); rintro e w' ⟨rfl, ⟨nd, rfl⟩⟩; refine ⟨_, rfl, ?_⟩) | ((with_reducible refine gate_callee (f := 16) rfl ?_); refine goesL_ (some 9) rfl rfl Tryd.func16 (by kernel_rfl) rfl #[.slice A0 l0.length c0] rfl (by (try simp only [List.map_toArray, List.map_cons, List.map_nil]); first | done | rfl | (simp only [List.length_drop, List.length_take]; rfl)) ?_; (with_reducible refine (spec_DrawItemText.calls k _ _ l0 t477 t478 t479 t480 t481 _ ?side1 ?side2 A4.out).mono ?_); (case side1 => repeat (first | exact HR0.out | (with_reducible refine Kd.C_alloc ?_ _) | (with_reducible refine Kd.C_drewN ?_ _) | (with_reducible refine Kd.C_drew ?_))); (case side2 => exact HC0.out); rintro e w33 ⟨rfl, hb⟩; refine ⟨_, rfl, ?_⟩; have n0_ := Aside0.mk (below_step (by repeat (first | (with_reducible first | exact HB.out | apply below_alloc | apply pw_below_drewN | apply below_drew1) | exact HB.out)) hb); clear HB; have HB := n0_; clear n0_; (try clear hb); (try clear hb2); (try clear hk); (try clear hi)) | ((with_reducible refine gate_dst (N := 3) rfl ?_); refine box_event ?hg (N := 3) ?hd (cs := #[.int .i64 0, .string (⟨#[]⟩ : ByteArray), .int .i32 0, .bool false, .int .u32 0]) (t := 27) ?hr ?_; (case hd => rfl); (case hg => rfl); (case hr => first | (go_simp; done) | (go_simp; rfl)); intro gb482 hg w34 hbox hb; have n0_ := Aside0.mk (below_step (by repeat (first | (with_reducible first | exact HB.out | apply below_alloc | apply pw_below_drewN | apply below_drew1) | exact HB.out)) hb); have n1_ := Aside0.mk (hbox); have n2_ := Aside0.mk ((by rw [hg]; exact (below_size (by repeat (first | (with_reducible first | exact HB.out | apply below_alloc | apply pw_below_drewN | apply below_drew1) | exact HB.out))) : w.heap.size ≤ gb482)); have n3_ := Aside0.mk ((by rw [hg]; exact (below_size (by repeat (first | (with_reducible first | exact HB.out | apply below_alloc | apply pw_below_drewN | apply below_drew1) | exact HB.out))) : w.heap.size ≤ gb482)); clear HB; have HB := n0_; have BK482 := n1_; have GW482 := n2_; have GE482 := n3_; clear n0_ n1_ n2_ n3_; clear hb hbox hg; have hcz35_0 : w34.cell? ⟨gb482, 0, none⟩ = some (.int .i64 0) := (blk_cell BK482.out 0).trans rfl; have hcz35_1 : w34.cell? ⟨gb482, 1, none⟩ = some (.string (⟨#[]⟩ : ByteArray)) := (blk_cell BK482.out 1).trans rfl; have hcz35_2 : w34.cell? ⟨gb482, 2, none⟩ = some (.int .i32 0) := (blk_cell BK482.out 2).trans rfl; have hcz35_3 : w34.cell? ⟨gb482, 3, none⟩ = some (.bool false) := (blk_cell BK482.out 3).trans rfl; have hcz35_4 : w34.cell? ⟨gb482, 4, none⟩ = some (.int .u32 0) := (blk_cell BK482.out 4).trans rfl; have hfz35_0 := blk_frozen BK482.out 0; have hfz35_1 := blk_frozen BK482.out 1; have hfz35_2 := blk_frozen BK482.out 2; have hfz35_3 := blk_frozen BK482.out 3; have hfz35_4 := blk_frozen BK482.out 4) | ((with_reducible refine gate_callee (f := 10) rfl ?_); refine goesL_ (some 12) rfl rfl Tryd.func10 (by kernel_rfl) rfl #[.agg #[.int .i64 t477, .string t478, .int .i32 t479, .bool t480, .int .u32 t481]] rfl (by (try simp only [List.map_toArray, List.map_cons, List.map_nil]); first | done | rfl | (simp only [List.length_drop, List.length_take]; rfl)) ?_; (with_reducible refine (impl_ItemText.calls k t477 t478 t479 t480 t481 t483 _ A5.out ⟨Itoa.tab_at HT1.out (by repeat (first | (with_reducible first | exact HB.out | apply below_alloc | apply pw_below_drewN | apply below_drew1 | refine below_set ?_ (Aside0.out (by assumption))) | exact HB.out | exact Below.refl _ _))⟩).mono ?_); rintro e w36 ⟨rfl, hb⟩; refine ⟨_, rfl, ?_⟩; have n0_ := Aside0.mk (blk_below (g := gb482) (o := .cells #[.int .i64 t477, .string t478, .int .i32 t479, .bool t480, .int .u32 t481] 27 (0, 0)) (by (with_reducible repeat (first | refine blk_drewN ?_ _ | refine blk_drew ?_ | refine blk_alloc ?_ _)); refine blk_put (cs := #[.int .i64 t477, .string t478, .int .i32 t479, .bool t480, .int .u32 0]) ?_ 4 _ rfl; (with_reducible repeat (first | refine blk_drewN ?_ _ | refine blk_drew ?_ | refine blk_alloc ?_ _)); refine blk_put (cs := #[.int .i64 t477, .string t478, .int .i32 t479, .bool false, .int .u32 0]) ?_ 3 _ rfl; (with_reducible repeat (first | refine blk_drewN ?_ _ | refine blk_drew ?_ | refine blk_alloc ?_ _)); refine blk_put (cs := #[.int .i64 t477, .string t478, .int .i32 0, .bool false, .int .u32 0]) ?_ 2 _ rfl; (with_reducible repeat (first | refine blk_drewN ?_ _ | refine blk_drew ?_ | refine blk_alloc ?_ _)); refine blk_put (cs := #[.int .i64 t477, .string (⟨#[]⟩ : ByteArray), .int .i32 0, .bool false, .int .u32 0]) ?_ 1 _ rfl; (with_reducible repeat (first | refine blk_drewN ?_ _ | refine blk_drew ?_ | refine blk_alloc ?_ _)); refine blk_put (cs := #[.int .i64 0, .string (⟨#[]⟩ : ByteArray), .int .i32 0, .bool false, .int .u32 0]) ?_ 0 _ rfl; (with_reducible repeat (first | refine blk_drewN ?_ _ | refine blk_drew ?_ | refine blk_alloc ?_ _)); exact BK482.out) hb); have n1_ := Aside0.mk (below_step (by repeat (first | (with_reducible first | exact HB.out | apply below_alloc | apply pw_below_drewN | apply below_drew1 | refine below_set ?_ GE482.out) | exact HB.out)) hb); clear BK482; clear HB; have BK482 := n0_; have HB := n1_; clear n0_ n1_; (try clear hb); (try clear hb2); (try clear hk); (try clear hi)) | ((with_reducible refine gate_callee (f := 17) rfl ?_); refine goesL_ (some 13) rfl rfl Tryd.func17 (by kernel_rfl) rfl #[.string t483] rfl (by (try simp only [List.map_toArray, List.map_cons, List.map_nil]); first | done | rfl | (simp only [List.length_drop, List.length_take]; rfl)) ?_; (with_reducible refine (impl_ReadItem.calls k t483 t484 t485 t486 t487 t488 true _ A6.out ⟨Atoi.tab_at HT0.out (by repeat (first | (with_reducible first | exact HB.out | apply below_alloc | apply pw_below_drewN | apply below_drew1 | refine below_set ?_ (Aside0.out (by assumption))) | exact HB.out | exact Below.refl _ _))⟩).mono ?_); rintro e w37 ⟨rfl, hb⟩; refine ⟨_, rfl, ?_⟩; have n0_ := Aside0.mk (blk_below (g := gb482) (o := .cells #[.int .i64 t477, .string t478, .int .i32 t479, .bool t480, .int .u32 t481] 27 (0, 0)) (by (with_reducible repeat (first | refine blk_drewN ?_ _ | refine blk_drew ?_ | refine blk_alloc ?_ _)); exact BK482.out) hb); have n1_ := Aside0.mk (below_step (by repeat (first | (with_reducible first | exact HB.out | apply below_alloc | apply pw_below_drewN | apply below_drew1 | refine below_set ?_ GE482.out) | exact HB.out)) hb); clear BK482; clear HB; have BK482 := n0_; have HB := n1_; clear n0_ n1_; (try clear hb); (try clear hb2); (try clear hk); (try clear hi)) | ((with_reducible refine gate_dst (N := 4) rfl ?_); refine box_event ?hg (N := 4) ?hd (cs := #[.int .i64 0, .string (⟨#[]⟩ : ByteArray), .int .i32 0, .bool false, .int .u32 0]) (t := 27) ?hr ?_; (case hd => rfl); (case hg => rfl); (case hr => first | (go_simp; done) | (go_simp; rfl)); intro gb490 hg w38 hbox hb; have n0_ := Aside0.mk (blk_below (g := gb482) (o := .cells #[.int .i64 t477, .string t478, .int .i32 t479, .bool t480, .int .u32 t481] 27 (0, 0)) (by (with_reducible repeat (first | refine blk_drewN ?_ _ | refine blk_drew ?_ | refine blk_alloc ?_ _)); exact BK482.out) hb); have n1_ := Aside0.mk (below_step (by repeat (first | (with_reducible first | exact HB.out | apply below_alloc | apply pw_below_drewN | apply below_drew1 | refine below_set ?_ GE482.out) | exact HB.out)) hb); have n2_ := Aside0.mk (hbox); have n3_ := Aside0.mk ((by rw [hg]; exact (below_size (by repeat (first | (with_reducible first | exact HB.out | apply below_alloc | apply pw_below_drewN | apply below_drew1 | refine below_set ?_ GE482.out) | exact HB.out))) : w.heap.size ≤ gb490)); have n4_ := Aside0.mk ((by rw [hg]; exact (below_size (by repeat (first | (with_reducible first | exact HB.out | apply below_alloc | apply pw_below_drewN | apply below_drew1 | refine below_set ?_ GE482.out) | exact HB.out))) : w.heap.size ≤ gb490)); have n5_ := Aside0.mk ((by rw [hg]; exact Nat.ne_of_lt (blk_lt (g := gb482) (o := .cells #[.int .i64 t477, .string t478, .int .i32 t479, .bool t480, .int .u32 t481] 27 (0, 0)) (by (with_reducible repeat (first | refine blk_drewN ?_ _ | refine blk_drew ?_ | refine blk_alloc ?_ _)); exact BK482.out)) : gb482 ≠ gb490)); have n6_ := Aside0.mk ((by rw [hg]; exact Nat.ne_of_gt (blk_lt (g := gb482) (o := .cells #[.int .i64 t477, .string t478, .int .i32 t479, .bool t480, .int .u32 t481] 27 (0, 0)) (by (with_reducible repeat (first | refine blk_drewN ?_ _ | refine blk_drew ?_ | refine blk_alloc ?_ _)); exact BK482.out)) : gb490 ≠ gb482)); clear BK482; clear HB; have BK482 := n0_; have HB := n1_; have BK490 := n2_; have GW490 := n3_; have GE490 := n4_; have NB482_490 := n5_; have NB490_482 := n6_; clear n0_ n1_ n2_ n3_ n4_ n5_ n6_; clear hb hbox hg; have hnb39 := NB490_482.out; have hnc39 := NB482_490.out; have hcz40_0 : w38.cell? ⟨gb490, 0, none⟩ = some (.int .i64 0) := (blk_cell BK490.out 0).trans rfl; have hcz40_1 : w38.cell? ⟨gb490, 1, none⟩ = some (.string (⟨#[]⟩ : ByteArray)) := (blk_cell BK490.out 1).trans rfl; have hcz40_2 : w38.cell? ⟨gb490, 2, none⟩ = some (.int .i32 0) := (blk_cell BK490.out 2).trans rfl; have hcz40_3 : w38.cell? ⟨gb490, 3, none⟩ = some (.bool false) := (blk_cell BK490.out 3).trans rfl; have hcz40_4 : w38.cell? ⟨gb490, 4, none⟩ = some (.int .u32 0) := (blk_cell BK490.out 4).trans rfl; have hfz40_0 := blk_frozen BK490.out 0; have hfz40_1 := blk_frozen BK490.out 1; have hfz40_2 := blk_frozen BK490.out 2; have hfz40_3 := blk_frozen BK490.out 3; have hfz40_4 := blk_frozen BK490.out 4; have hcz41_0 : w38.cell? ⟨gb482, 0, none⟩ = some (.int .i64 t477) := (blk_cell BK482.out 0).trans rfl; have hcz41_1 : w38.cell? ⟨gb482, 1, none⟩ = some (.string t478) := (blk_cell BK482.out 1).trans rfl; have hcz41_2 : w38.cell? ⟨gb482, 2, none⟩ = some (.int .i32 t479) := (blk_cell BK482.out 2).trans rfl; have hcz41_3 : w38.cell? ⟨gb482, 3, none⟩ = some (.bool t480) := (blk_cell BK482.out 3).trans rfl; have hcz41_4 : w38.cell? ⟨gb482, 4, none⟩ = some (.int .u32 t481) := (blk_cell BK482.out 4).trans rfl; have hfz41_0 := blk_frozen BK482.out 0; have hfz41_1 := blk_frozen BK482.out 1; have hfz41_2 := blk_frozen BK482.out 2; have hfz41_3 := blk_frozen BK482.out 3; have hfz41_4 := blk_frozen BK482.out 4) | ((with_reducible refine gate_callee (f := 18) rfl ?_); refine goesL_ (some 17) rfl rfl Tryd.func18 (by kernel_rfl) rfl #[.agg #[.int .i64 t477, .string t478, .int .i32 t479, .bool t480, .int .u32 t481]] rfl (by (try simp only [List.map_toArray, List.map_cons, List.map_nil]); first | done | rfl | (simp only [List.length_drop, List.length_take]; rfl)) ?_; (with_reducible refine (spec_ItemOk.calls k t477 t478 t479 t480 t481 false _ A7.out).mono ?_); rintro e w42 ⟨rfl, hb⟩; refine ⟨_, rfl, ?_⟩; have n0_ := Aside0.mk (blk_below (g := gb482) (o := .cells #[.int .i64 t477, .string t478, .int .i32 t479, .bool t480, .int .u32 t481] 27 (0, 0)) (by (with_reducible repeat (first | refine blk_drewN ?_ _ | refine blk_drew ?_ | refine blk_alloc ?_ _)); refine blk_far ?_ NB482_490.out _; (with_reducible repeat (first | refine blk_drewN ?_ _ | refine blk_drew ?_ | refine blk_alloc ?_ _)); refine blk_far ?_ NB482_490.out _; (with_reducible repeat (first | refine blk_drewN ?_ _ | refine blk_drew ?_ | refine blk_alloc ?_ _)); refine blk_far ?_ NB482_490.out _; (with_reducible repeat (first | refine blk_drewN ?_ _ | refine blk_drew ?_ | refine blk_alloc ?_ _)); refine blk_far ?_ NB482_490.out _; (with_reducible repeat (first | refine blk_drewN ?_ _ | refine blk_drew ?_ | refine blk_alloc ?_ _)); refine blk_far ?_ NB482_490.out _; (with_reducible repeat (first | refine blk_drewN ?_ _ | refine blk_drew ?_ | refine blk_alloc ?_ _)); exact BK482.out) hb); have n1_ := Aside0.mk (blk_below (g := gb490) (o := .cells #[.int .i64 t484, .string t485, .int .i32 t486, .bool t487, .int .u32 t488] 27 (0, 0)) (by (with_reducible repeat (first | refine blk_drewN ?_ _ | refine blk_drew ?_ | refine blk_alloc ?_ _)); refine blk_put (cs := #[.int .i64 t484, .string t485, .int .i32 t486, .bool t487, .int .u32 0]) ?_ 4 _ rfl; (with_reducible repeat (first | refine blk_drewN ?_ _ | refine blk_drew ?_ | refine blk_alloc ?_ _)); refine blk_put (cs := #[.int .i64 t484, .string t485, .int .i32 t486, .bool false, .int .u32 0]) ?_ 3 _ rfl; (with_reducible repeat (first | refine blk_drewN ?_ _ | refine blk_drew ?_ | refine blk_alloc ?_ _)); refine blk_put (cs := #[.int .i64 t484, .string t485, .int .i32 0, .bool false, .int .u32 0]) ?_ 2 _ rfl; (with_reducible repeat (first | refine blk_drewN ?_ _ | refine blk_drew ?_ | refine blk_alloc ?_ _)); refine blk_put (cs := #[.int .i64 t484, .string (⟨#[]⟩ : ByteArray), .int .i32 0, .bool false, .int .u32 0]) ?_ 1 _ rfl; (with_reducible repeat (first | refine blk_drewN ?_ _ | refine blk_drew ?_ | refine blk_alloc ?_ _)); refine blk_put (cs := #[.int .i64 0, .string (⟨#[]⟩ : ByteArray), .int .i32 0, .bool false, .int .u32 0]) ?_ 0 _ rfl; (with_reducible repeat (first | refine blk_drewN ?_ _ | refine blk_drew ?_ | refine blk_alloc ?_ _)); exact BK490.out) hb); have n2_ := Aside0.mk (below_step (by repeat (first | (with_reducible first | exact HB.out | apply below_alloc | apply pw_below_drewN | apply below_drew1 | refine below_set ?_ GE482.out | refine below_set ?_ GE490.out) | exact HB.out)) hb); clear BK482; clear BK490; clear HB; have BK482 := n0_; have BK490 := n1_; have HB := n2_; clear n0_ n1_ n2_; (try clear hb); (try clear hb2); (try clear hk); (try clear hi)))
        go_ret
        exact ⟨by first | rfl | (rw [← show ∀ l_ : List UInt8, (!l_.isEmpty) = (l_ != []) from fun l_ => by cases l_ <;> rfl]; rfl) | (simp [errW_none, errW_some] <;> rfl) | (simp [*, errW_none, errW_some] <;> rfl), by repeat (first | (with_reducible first | exact HB.out | apply below_alloc | apply pw_below_drewN | apply below_drew1 | refine below_set ?_ GE482.out | refine below_set ?_ GE490.out) | exact HB.out)⟩
      · replace c32 := Bool.eq_false_iff.mpr c32
        subst c32
        have H1 : ((impl_ItemText.f k t477 t478 t479 t480 t481).bind fun t492 => (some (t492.toList == ([] : List UInt8)))) = some r := by rw [if_neg (show ¬ (false = true) by decide)] at H; exact H
        clear H
        have H := H1
        clear H1
        replace H := Option.bind_eq_some_iff.mp H
        obtain ⟨t492, A430, H⟩ := H
        replace H : (some (t492.toList == ([] : List UInt8))) = some r := H
        have A43 := Aside0.mk A430
        clear A430
        obtain rfl := Option.some.inj H
        go_enter Tryd.func5, Tryd.ntmps5
        go_wp2_with (first | ((with_reducible refine gate_callee (f := 15) rfl ?_); refine goesL_ (some 7) rfl rfl Tryd.func15 (by kernel_rfl) rfl #[.slice A0 l0.length c0] rfl (by (try simp only [List.map_toArray, List.map_cons, List.map_nil]); first | done | rfl | (simp only [List.length_drop, List.length_take]; rfl)) ?_; (with_reducible refine (laws_big.calls _ _ l0 false _ ?side1 ?side2 A2.out).mono ?_); (case side1 => repeat (first | exact HR0.out | (with_reducible refine Kd.C_alloc ?_ _) | (with_reducible refine Kd.C_drewN ?_ _) | (with_reducible refine Kd.C_drew ?_))); (case side2 => exact HC0.out); rintro e w' ⟨rfl, ⟨nd, rfl⟩⟩; refine ⟨_, rfl, ?_⟩) | ((with_reducible refine gate_callee (f := 16) rfl ?_); refine goesL_ (some 9) rfl rfl Tryd.func16 (by kernel_rfl) rfl #[.slice A0 l0.length c0] rfl (by (try simp only [List.map_toArray, List.map_cons, List.map_nil]); first | done | rfl | (simp only [List.length_drop, List.length_take]; rfl)) ?_; (with_reducible refine (spec_DrawItemText.calls k _ _ l0 t477 t478 t479 t480 t481 _ ?side1 ?side2 A4.out).mono ?_); (case side1 => repeat (first | exact HR0.out | (with_reducible refine Kd.C_alloc ?_ _) | (with_reducible refine Kd.C_drewN ?_ _) | (with_reducible refine Kd.C_drew ?_))); (case side2 => exact HC0.out); rintro e w44 ⟨rfl, hb⟩; refine ⟨_, rfl, ?_⟩; have n0_ := Aside0.mk (below_step (by repeat (first | (with_reducible first | exact HB.out | apply below_alloc | apply pw_below_drewN | apply below_drew1) | exact HB.out)) hb); clear HB; have HB := n0_; clear n0_; (try clear hb); (try clear hb2); (try clear hk); (try clear hi)) | ((with_reducible refine gate_dst (N := 3) rfl ?_); refine box_event ?hg (N := 3) ?hd (cs := #[.int .i64 0, .string (⟨#[]⟩ : ByteArray), .int .i32 0, .bool false, .int .u32 0]) (t := 27) ?hr ?_; (case hd => rfl); (case hg => rfl); (case hr => first | (go_simp; done) | (go_simp; rfl)); intro gb482 hg w45 hbox hb; have n0_ := Aside0.mk (below_step (by repeat (first | (with_reducible first | exact HB.out | apply below_alloc | apply pw_below_drewN | apply below_drew1) | exact HB.out)) hb); have n1_ := Aside0.mk (hbox); have n2_ := Aside0.mk ((by rw [hg]; exact (below_size (by repeat (first | (with_reducible first | exact HB.out | apply below_alloc | apply pw_below_drewN | apply below_drew1) | exact HB.out))) : w.heap.size ≤ gb482)); have n3_ := Aside0.mk ((by rw [hg]; exact (below_size (by repeat (first | (with_reducible first | exact HB.out | apply below_alloc | apply pw_below_drewN | apply below_drew1) | exact HB.out))) : w.heap.size ≤ gb482)); clear HB; have HB := n0_; have BK482 := n1_; have GW482 := n2_; have GE482 := n3_; clear n0_ n1_ n2_ n3_; clear hb hbox hg; have hcz46_0 : w45.cell? ⟨gb482, 0, none⟩ = some (.int .i64 0) := (blk_cell BK482.out 0).trans rfl; have hcz46_1 : w45.cell? ⟨gb482, 1, none⟩ = some (.string (⟨#[]⟩ : ByteArray)) := (blk_cell BK482.out 1).trans rfl; have hcz46_2 : w45.cell? ⟨gb482, 2, none⟩ = some (.int .i32 0) := (blk_cell BK482.out 2).trans rfl; have hcz46_3 : w45.cell? ⟨gb482, 3, none⟩ = some (.bool false) := (blk_cell BK482.out 3).trans rfl; have hcz46_4 : w45.cell? ⟨gb482, 4, none⟩ = some (.int .u32 0) := (blk_cell BK482.out 4).trans rfl; have hfz46_0 := blk_frozen BK482.out 0; have hfz46_1 := blk_frozen BK482.out 1; have hfz46_2 := blk_frozen BK482.out 2; have hfz46_3 := blk_frozen BK482.out 3; have hfz46_4 := blk_frozen BK482.out 4) | ((with_reducible refine gate_callee (f := 10) rfl ?_); refine goesL_ (some 12) rfl rfl Tryd.func10 (by kernel_rfl) rfl #[.agg #[.int .i64 t477, .string t478, .int .i32 t479, .bool t480, .int .u32 t481]] rfl (by (try simp only [List.map_toArray, List.map_cons, List.map_nil]); first | done | rfl | (simp only [List.length_drop, List.length_take]; rfl)) ?_; (with_reducible refine (impl_ItemText.calls k t477 t478 t479 t480 t481 t483 _ A5.out ⟨Itoa.tab_at HT1.out (by repeat (first | (with_reducible first | exact HB.out | apply below_alloc | apply pw_below_drewN | apply below_drew1 | refine below_set ?_ (Aside0.out (by assumption))) | exact HB.out | exact Below.refl _ _))⟩).mono ?_); rintro e w47 ⟨rfl, hb⟩; refine ⟨_, rfl, ?_⟩; have n0_ := Aside0.mk (blk_below (g := gb482) (o := .cells #[.int .i64 t477, .string t478, .int .i32 t479, .bool t480, .int .u32 t481] 27 (0, 0)) (by (with_reducible repeat (first | refine blk_drewN ?_ _ | refine blk_drew ?_ | refine blk_alloc ?_ _)); refine blk_put (cs := #[.int .i64 t477, .string t478, .int .i32 t479, .bool t480, .int .u32 0]) ?_ 4 _ rfl; (with_reducible repeat (first | refine blk_drewN ?_ _ | refine blk_drew ?_ | refine blk_alloc ?_ _)); refine blk_put (cs := #[.int .i64 t477, .string t478, .int .i32 t479, .bool false, .int .u32 0]) ?_ 3 _ rfl; (with_reducible repeat (first | refine blk_drewN ?_ _ | refine blk_drew ?_ | refine blk_alloc ?_ _)); refine blk_put (cs := #[.int .i64 t477, .string t478, .int .i32 0, .bool false, .int .u32 0]) ?_ 2 _ rfl; (with_reducible repeat (first | refine blk_drewN ?_ _ | refine blk_drew ?_ | refine blk_alloc ?_ _)); refine blk_put (cs := #[.int .i64 t477, .string (⟨#[]⟩ : ByteArray), .int .i32 0, .bool false, .int .u32 0]) ?_ 1 _ rfl; (with_reducible repeat (first | refine blk_drewN ?_ _ | refine blk_drew ?_ | refine blk_alloc ?_ _)); refine blk_put (cs := #[.int .i64 0, .string (⟨#[]⟩ : ByteArray), .int .i32 0, .bool false, .int .u32 0]) ?_ 0 _ rfl; (with_reducible repeat (first | refine blk_drewN ?_ _ | refine blk_drew ?_ | refine blk_alloc ?_ _)); exact BK482.out) hb); have n1_ := Aside0.mk (below_step (by repeat (first | (with_reducible first | exact HB.out | apply below_alloc | apply pw_below_drewN | apply below_drew1 | refine below_set ?_ GE482.out) | exact HB.out)) hb); clear BK482; clear HB; have BK482 := n0_; have HB := n1_; clear n0_ n1_; (try clear hb); (try clear hb2); (try clear hk); (try clear hi)) | ((with_reducible refine gate_callee (f := 17) rfl ?_); refine goesL_ (some 13) rfl rfl Tryd.func17 (by kernel_rfl) rfl #[.string t483] rfl (by (try simp only [List.map_toArray, List.map_cons, List.map_nil]); first | done | rfl | (simp only [List.length_drop, List.length_take]; rfl)) ?_; (with_reducible refine (impl_ReadItem.calls k t483 t484 t485 t486 t487 t488 false _ A6.out ⟨Atoi.tab_at HT0.out (by repeat (first | (with_reducible first | exact HB.out | apply below_alloc | apply pw_below_drewN | apply below_drew1 | refine below_set ?_ (Aside0.out (by assumption))) | exact HB.out | exact Below.refl _ _))⟩).mono ?_); rintro e w48 ⟨rfl, hb⟩; refine ⟨_, rfl, ?_⟩; have n0_ := Aside0.mk (blk_below (g := gb482) (o := .cells #[.int .i64 t477, .string t478, .int .i32 t479, .bool t480, .int .u32 t481] 27 (0, 0)) (by (with_reducible repeat (first | refine blk_drewN ?_ _ | refine blk_drew ?_ | refine blk_alloc ?_ _)); exact BK482.out) hb); have n1_ := Aside0.mk (below_step (by repeat (first | (with_reducible first | exact HB.out | apply below_alloc | apply pw_below_drewN | apply below_drew1 | refine below_set ?_ GE482.out) | exact HB.out)) hb); clear BK482; clear HB; have BK482 := n0_; have HB := n1_; clear n0_ n1_; (try clear hb); (try clear hb2); (try clear hk); (try clear hi)) | ((with_reducible refine gate_dst (N := 4) rfl ?_); refine box_event ?hg (N := 4) ?hd (cs := #[.int .i64 0, .string (⟨#[]⟩ : ByteArray), .int .i32 0, .bool false, .int .u32 0]) (t := 27) ?hr ?_; (case hd => rfl); (case hg => rfl); (case hr => first | (go_simp; done) | (go_simp; rfl)); intro gb490 hg w49 hbox hb; have n0_ := Aside0.mk (blk_below (g := gb482) (o := .cells #[.int .i64 t477, .string t478, .int .i32 t479, .bool t480, .int .u32 t481] 27 (0, 0)) (by (with_reducible repeat (first | refine blk_drewN ?_ _ | refine blk_drew ?_ | refine blk_alloc ?_ _)); exact BK482.out) hb); have n1_ := Aside0.mk (below_step (by repeat (first | (with_reducible first | exact HB.out | apply below_alloc | apply pw_below_drewN | apply below_drew1 | refine below_set ?_ GE482.out) | exact HB.out)) hb); have n2_ := Aside0.mk (hbox); have n3_ := Aside0.mk ((by rw [hg]; exact (below_size (by repeat (first | (with_reducible first | exact HB.out | apply below_alloc | apply pw_below_drewN | apply below_drew1 | refine below_set ?_ GE482.out) | exact HB.out))) : w.heap.size ≤ gb490)); have n4_ := Aside0.mk ((by rw [hg]; exact (below_size (by repeat (first | (with_reducible first | exact HB.out | apply below_alloc | apply pw_below_drewN | apply below_drew1 | refine below_set ?_ GE482.out) | exact HB.out))) : w.heap.size ≤ gb490)); have n5_ := Aside0.mk ((by rw [hg]; exact Nat.ne_of_lt (blk_lt (g := gb482) (o := .cells #[.int .i64 t477, .string t478, .int .i32 t479, .bool t480, .int .u32 t481] 27 (0, 0)) (by (with_reducible repeat (first | refine blk_drewN ?_ _ | refine blk_drew ?_ | refine blk_alloc ?_ _)); exact BK482.out)) : gb482 ≠ gb490)); have n6_ := Aside0.mk ((by rw [hg]; exact Nat.ne_of_gt (blk_lt (g := gb482) (o := .cells #[.int .i64 t477, .string t478, .int .i32 t479, .bool t480, .int .u32 t481] 27 (0, 0)) (by (with_reducible repeat (first | refine blk_drewN ?_ _ | refine blk_drew ?_ | refine blk_alloc ?_ _)); exact BK482.out)) : gb490 ≠ gb482)); clear BK482; clear HB; have BK482 := n0_; have HB := n1_; have BK490 := n2_; have GW490 := n3_; have GE490 := n4_; have NB482_490 := n5_; have NB490_482 := n6_; clear n0_ n1_ n2_ n3_ n4_ n5_ n6_; clear hb hbox hg; have hnb50 := NB490_482.out; have hnc50 := NB482_490.out; have hcz51_0 : w49.cell? ⟨gb490, 0, none⟩ = some (.int .i64 0) := (blk_cell BK490.out 0).trans rfl; have hcz51_1 : w49.cell? ⟨gb490, 1, none⟩ = some (.string (⟨#[]⟩ : ByteArray)) := (blk_cell BK490.out 1).trans rfl; have hcz51_2 : w49.cell? ⟨gb490, 2, none⟩ = some (.int .i32 0) := (blk_cell BK490.out 2).trans rfl; have hcz51_3 : w49.cell? ⟨gb490, 3, none⟩ = some (.bool false) := (blk_cell BK490.out 3).trans rfl; have hcz51_4 : w49.cell? ⟨gb490, 4, none⟩ = some (.int .u32 0) := (blk_cell BK490.out 4).trans rfl; have hfz51_0 := blk_frozen BK490.out 0; have hfz51_1 := blk_frozen BK490.out 1; have hfz51_2 := blk_frozen BK490.out 2; have hfz51_3 := blk_frozen BK490.out 3; have hfz51_4 := blk_frozen BK490.out 4; have hcz52_0 : w49.cell? ⟨gb482, 0, none⟩ = some (.int .i64 t477) := (blk_cell BK482.out 0).trans rfl; have hcz52_1 : w49.cell? ⟨gb482, 1, none⟩ = some (.string t478) := (blk_cell BK482.out 1).trans rfl; have hcz52_2 : w49.cell? ⟨gb482, 2, none⟩ = some (.int .i32 t479) := (blk_cell BK482.out 2).trans rfl; have hcz52_3 : w49.cell? ⟨gb482, 3, none⟩ = some (.bool t480) := (blk_cell BK482.out 3).trans rfl; have hcz52_4 : w49.cell? ⟨gb482, 4, none⟩ = some (.int .u32 t481) := (blk_cell BK482.out 4).trans rfl; have hfz52_0 := blk_frozen BK482.out 0; have hfz52_1 := blk_frozen BK482.out 1; have hfz52_2 := blk_frozen BK482.out 2; have hfz52_3 := blk_frozen BK482.out 3; have hfz52_4 := blk_frozen BK482.out 4) | ((with_reducible refine gate_callee (f := 18) rfl ?_); refine goesL_ (some 17) rfl rfl Tryd.func18 (by kernel_rfl) rfl #[.agg #[.int .i64 t477, .string t478, .int .i32 t479, .bool t480, .int .u32 t481]] rfl (by (try simp only [List.map_toArray, List.map_cons, List.map_nil]); first | done | rfl | (simp only [List.length_drop, List.length_take]; rfl)) ?_; (with_reducible refine (spec_ItemOk.calls k t477 t478 t479 t480 t481 false _ A7.out).mono ?_); rintro e w53 ⟨rfl, hb⟩; refine ⟨_, rfl, ?_⟩; have n0_ := Aside0.mk (blk_below (g := gb482) (o := .cells #[.int .i64 t477, .string t478, .int .i32 t479, .bool t480, .int .u32 t481] 27 (0, 0)) (by (with_reducible repeat (first | refine blk_drewN ?_ _ | refine blk_drew ?_ | refine blk_alloc ?_ _)); refine blk_far ?_ NB482_490.out _; (with_reducible repeat (first | refine blk_drewN ?_ _ | refine blk_drew ?_ | refine blk_alloc ?_ _)); refine blk_far ?_ NB482_490.out _; (with_reducible repeat (first | refine blk_drewN ?_ _ | refine blk_drew ?_ | refine blk_alloc ?_ _)); refine blk_far ?_ NB482_490.out _; (with_reducible repeat (first | refine blk_drewN ?_ _ | refine blk_drew ?_ | refine blk_alloc ?_ _)); refine blk_far ?_ NB482_490.out _; (with_reducible repeat (first | refine blk_drewN ?_ _ | refine blk_drew ?_ | refine blk_alloc ?_ _)); refine blk_far ?_ NB482_490.out _; (with_reducible repeat (first | refine blk_drewN ?_ _ | refine blk_drew ?_ | refine blk_alloc ?_ _)); exact BK482.out) hb); have n1_ := Aside0.mk (blk_below (g := gb490) (o := .cells #[.int .i64 t484, .string t485, .int .i32 t486, .bool t487, .int .u32 t488] 27 (0, 0)) (by (with_reducible repeat (first | refine blk_drewN ?_ _ | refine blk_drew ?_ | refine blk_alloc ?_ _)); refine blk_put (cs := #[.int .i64 t484, .string t485, .int .i32 t486, .bool t487, .int .u32 0]) ?_ 4 _ rfl; (with_reducible repeat (first | refine blk_drewN ?_ _ | refine blk_drew ?_ | refine blk_alloc ?_ _)); refine blk_put (cs := #[.int .i64 t484, .string t485, .int .i32 t486, .bool false, .int .u32 0]) ?_ 3 _ rfl; (with_reducible repeat (first | refine blk_drewN ?_ _ | refine blk_drew ?_ | refine blk_alloc ?_ _)); refine blk_put (cs := #[.int .i64 t484, .string t485, .int .i32 0, .bool false, .int .u32 0]) ?_ 2 _ rfl; (with_reducible repeat (first | refine blk_drewN ?_ _ | refine blk_drew ?_ | refine blk_alloc ?_ _)); refine blk_put (cs := #[.int .i64 t484, .string (⟨#[]⟩ : ByteArray), .int .i32 0, .bool false, .int .u32 0]) ?_ 1 _ rfl; (with_reducible repeat (first | refine blk_drewN ?_ _ | refine blk_drew ?_ | refine blk_alloc ?_ _)); refine blk_put (cs := #[.int .i64 0, .string (⟨#[]⟩ : ByteArray), .int .i32 0, .bool false, .int .u32 0]) ?_ 0 _ rfl; (with_reducible repeat (first | refine blk_drewN ?_ _ | refine blk_drew ?_ | refine blk_alloc ?_ _)); exact BK490.out) hb); have n2_ := Aside0.mk (below_step (by repeat (first | (with_reducible first | exact HB.out | apply below_alloc | apply pw_below_drewN | apply below_drew1 | refine below_set ?_ GE482.out | refine below_set ?_ GE490.out) | exact HB.out)) hb); clear BK482; clear BK490; clear HB; have BK482 := n0_; have BK490 := n1_; have HB := n2_; clear n0_ n1_ n2_; (try clear hb); (try clear hb2); (try clear hk); (try clear hi); have hcz54_0 : w53.cell? ⟨gb482, 0, none⟩ = some (.int .i64 t477) := (blk_cell BK482.out 0).trans rfl; have hcz54_1 : w53.cell? ⟨gb482, 1, none⟩ = some (.string t478) := (blk_cell BK482.out 1).trans rfl; have hcz54_2 : w53.cell? ⟨gb482, 2, none⟩ = some (.int .i32 t479) := (blk_cell BK482.out 2).trans rfl; have hcz54_3 : w53.cell? ⟨gb482, 3, none⟩ = some (.bool t480) := (blk_cell BK482.out 3).trans rfl; have hcz54_4 : w53.cell? ⟨gb482, 4, none⟩ = some (.int .u32 t481) := (blk_cell BK482.out 4).trans rfl; have hfz54_0 := blk_frozen BK482.out 0; have hfz54_1 := blk_frozen BK482.out 1; have hfz54_2 := blk_frozen BK482.out 2; have hfz54_3 := blk_frozen BK482.out 3; have hfz54_4 := blk_frozen BK482.out 4) | (go_at_call 10; (with_reducible refine (impl_ItemText.calls k t477 t478 t479 t480 t481 t492 _ A43.out ⟨Itoa.tab_at HT1.out (by repeat (first | (with_reducible first | exact HB.out | apply below_alloc | apply pw_below_drewN | apply below_drew1 | refine below_set ?_ (Aside0.out (by assumption))) | exact HB.out | exact Below.refl _ _))⟩).mono ?_); rintro e w55 ⟨rfl, hb⟩; have n0_ := Aside0.mk (blk_below (g := gb482) (o := .cells #[.int .i64 t477, .string t478, .int .i32 t479, .bool t480, .int .u32 t481] 27 (0, 0)) (by (with_reducible repeat (first | refine blk_drewN ?_ _ | refine blk_drew ?_ | refine blk_alloc ?_ _)); exact BK482.out) hb); have n1_ := Aside0.mk (blk_below (g := gb490) (o := .cells #[.int .i64 t484, .string t485, .int .i32 t486, .bool t487, .int .u32 t488] 27 (0, 0)) (by (with_reducible repeat (first | refine blk_drewN ?_ _ | refine blk_drew ?_ | refine blk_alloc ?_ _)); exact BK490.out) hb); have n2_ := Aside0.mk (below_step (by repeat (first | (with_reducible first | exact HB.out | apply below_alloc | apply pw_below_drewN | apply below_drew1 | refine below_set ?_ GE482.out | refine below_set ?_ GE490.out) | exact HB.out)) hb); clear BK482; clear BK490; clear HB; have BK482 := n0_; have BK490 := n1_; have HB := n2_; clear n0_ n1_ n2_; (try clear hb); (try clear hb2); (try clear hk); (try clear hi)))
        go_ret
        exact ⟨by first | rfl | (rw [← show ∀ l_ : List UInt8, (!l_.isEmpty) = (l_ != []) from fun l_ => by cases l_ <;> rfl]; rfl) | (simp [errW_none, errW_some] <;> rfl) | (simp [*, errW_none, errW_some] <;> rfl), by repeat (first | (with_reducible first | exact HB.out | apply below_alloc | apply pw_below_drewN | apply below_drew1 | refine below_set ?_ GE482.out | refine below_set ?_ GE490.out) | exact HB.out)⟩

/-- THE ONE PURE STATEMENT of laws_FnItem: yours. -/
def laws_FnItem.Pure : Prop := ∀ (l0 : List Int), l0.length ≤ maxLen → l0.length * 1 ≤ 140737488351232 → (∀ x ∈ l0, (Lit.int .u8 x).wf = true) → ∃ k, laws_FnItem.f k l0 = some true
theorem laws_FnItem.walk (P : laws_FnItem.Pure) (a0 : Option Addr) (len0 cap0 : Nat) (z0 : List Int) (w : World) (w0 : (a0 = none ∧ len0 = 0 ∧ cap0 = 0 ∧ z0 = []) ∨ ∃ x, a0 = some x ∧ len0 ≤ cap0 ∧ cap0 ≤ maxLen ∧ z0.length = cap0 ∧ (∀ i, i < z0.length → w.cell? (x.add i) = some (.int .u8 (z0.getD i 0))) ∧ ∀ n ∈ z0, (Lit.int .u8 n).wf = true) (y0 : len0 * 1 ≤ 140737488351232) (HT0 : Aside0 (Atoi.Tab w)) :
    Calls Tryd.prog 5 #[.slice a0 len0 cap0] w fun e w' => e = .returned (.bool true) ∧ Below w.heap.size w w' := by
  obtain ⟨l0, rfl, hr0, hm0, hw0, hc0⟩ := ReadsInt.ofRowC w0
  obtain ⟨k, h⟩ := P l0 hm0 y0 hw0
  refine (laws_FnItem.calls k _ _ l0 true w (Kd.C_of_reads (d := (0 : Int)) (h1 := fun _ => rfl) hr0) hc0 h HT0).mono ?_
  rintro e w' ⟨rfl, hd⟩
  exact ⟨rfl, hd⟩

end Go.Proofs.YtfjmpdcflnaogaaDoor.QFnItem
