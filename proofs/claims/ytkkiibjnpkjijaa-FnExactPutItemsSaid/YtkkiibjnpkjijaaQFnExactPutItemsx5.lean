/-
Plain functions for the Go functions that a law reaches, each with a proof that the translation's call comes to just that; no conditions beyond those written in each.
-/
import Derived.Test.YtkkiibjnpkjijaaSFnExactPutItems
import Derived.Test.YtkkiibjnpkjijaaQFnExactPutItemsx3
import Derived.Test.YtkkiibjnpkjijaaQFnExactPutItemsx4
namespace Go.Proofs.Ytkkiibjnpkjijaa.QFnExactPutItems
open Go.RowKit Go.Proofs.YtkkiibjnpkjijaaW.PrintWords Go.Proofs.YtkkiibjnpkjijaaW.PrintLast Go.Proofs.YtkkiibjnpkjijaaW.PrintMore
attribute [local go_sem] max2_int min2_int max_two min_two max_three min_three max_four min_four   -- for this text's walks alone
set_option linter.unusedVariables false
set_option linter.unusedSimpArgs false

/-! ### spec_CellsOf: function 83 -/
def spec_CellsOf.j0 : Nat → Bool → Int → ByteArray → Int → Bool → Int → Option (List Int)
 | 0, _, _, _, _, _, _ => none
 | k + 1, x3, x189000, x189001, x189002, x189003, x189004 => if x189000 = 0 then (if x189001.toList = ([] : List UInt8) then (if x189002 = 0 then (if x189003 = true then (some (([] : List Int))) else (some (([x189004] : List Int)))) else (some (([] : List Int)))) else (some (([] : List Int)))) else (if x189000 = 7 then (if x189001.toList = ([] : List UInt8) then (if x189004 = 0 then ((spec_l04Num.f x189002 x189003 8 2).bind fun t201 => (some t201)) else (some (([] : List Int)))) else (some (([] : List Int)))) else (if x189000 = 8 then (if x189001.toList = ([] : List UInt8) then (if x189004 = 0 then ((spec_l04Num.f x189002 x189003 6 5).bind fun t210 => (some t210)) else (some (([] : List Int)))) else (some (([] : List Int)))) else (if x189000 = 9 then ((spec_l04Word.f k 12 x189001).bind fun t219 => (if (t219.length : Int) = 1 then (if x189003 = true then (some (([] : List Int))) else (if x189004 = 0 then (if t219.length < 35184372088832 then (some (t219 ++ [(x189002) % 4294967296])) else (none)) else (some (([] : List Int))))) else (some (([] : List Int))))) else ((spec_l04Tag.f x189000).bind fun t234 => (if t234 > 0 then (if x3 = true then ((spec_l04Word.f k t234 x189001).bind fun t235 => (some t235)) else (some (([] : List Int)))) else (some (([] : List Int))))))))
def spec_CellsOf.f (k : Nat) (a0_0 : Int) (a0_1 : ByteArray) (a0_2 : Int) (a0_3 : Bool) (a0_4 : Int) : Option (List Int) := if a0_2 = 0 then (if a0_3 = true then (spec_CellsOf.j0 k false a0_0 a0_1 a0_2 a0_3 a0_4) else (spec_CellsOf.j0 k (a0_4 == 0) a0_0 a0_1 a0_2 a0_3 a0_4)) else (spec_CellsOf.j0 k false a0_0 a0_1 a0_2 a0_3 a0_4)
theorem spec_CellsOf.mono_l : ∀ k, (∀ y0 y1 y2 y3 y4 y5, LeO (spec_CellsOf.j0 k y0 y1 y2 y3 y4 y5) (spec_CellsOf.j0 (k + 1) y0 y1 y2 y3 y4 y5))
 | 0 => fun _ _ _ _ _ _ r h => by simp [spec_CellsOf.j0] at h
 | k + 1 => by
  have ih0 := spec_CellsOf.mono_l k
  ·intro y0 y1 y2 y3 y4 y5
   unfold spec_CellsOf.j0
   repeat' first
   | (with_reducible exact ih0 _ _ _ _ _ _)
   | (with_reducible exact spec_l04Word.mono _ _ _)
   | (with_reducible exact LeO.refl _)
   | (with_reducible exact LeO.none _)
   | (with_reducible refine LeO.ite ?_ ?_)
   | (with_reducible refine LeO.bind ?_ (fun _ => ?_))
   | exact ih0 _ _ _ _ _ _
   | exact spec_l04Word.mono _ _ _
   | exact LeO.none _
   | refine LeO.ite ?_ ?_
   | refine LeO.bind ?_ (fun _ => ?_)
theorem spec_CellsOf.mono : ∀ a0 a1 a2 a3 a4 k, LeO (spec_CellsOf.f k a0 a1 a2 a3 a4) (spec_CellsOf.f (k + 1) a0 a1 a2 a3 a4) := by
 intro a0 a1 a2 a3 a4 k
 have ih0 := spec_CellsOf.mono_l k
 unfold spec_CellsOf.f
 repeat' first
   | (with_reducible exact ih0 _ _ _ _ _ _)
   | (with_reducible exact spec_l04Word.mono _ _ _)
   | (with_reducible exact LeO.refl _)
   | (with_reducible exact LeO.none _)
   | (with_reducible refine LeO.ite ?_ ?_)
   | (with_reducible refine LeO.bind ?_ (fun _ => ?_))
   | exact ih0 _ _ _ _ _ _
   | exact spec_l04Word.mono _ _ _
   | exact LeO.none _
   | refine LeO.ite ?_ ?_
   | refine LeO.bind ?_ (fun _ => ?_)
set_option maxHeartbeats 8000000 in
set_option maxRecDepth 100000 in
theorem spec_CellsOf.calls (k : Nat) (a0_0 : Int) (a0_1 : ByteArray) (a0_2 : Int) (a0_3 : Bool) (a0_4 : Int) (r : List Int) (w : World) (h : spec_CellsOf.f k a0_0 a0_1 a0_2 a0_3 a0_4 = some r) :
  Calls Try.prog 83 #[.agg #[.int .i64 a0_0, .string a0_1, .int .i32 a0_2, .bool a0_3, .int .u32 a0_4]] w fun e w' => ∃ v0_ : Value, e = .returned (v0_) ∧ Kd.R (Kd.int .u32) 47 w' w.heap.size (fun _ => True) v0_ r ∧ Below w.heap.size w w' := by
 have hu51 := Try.underlying51
 have HB := Z (Below.refl w.heap.size w)
 have H : (if a0_2 = 0 then (if a0_3 = true then (spec_CellsOf.j0 k false a0_0 a0_1 a0_2 a0_3 a0_4) else (spec_CellsOf.j0 k (a0_4 == 0) a0_0 a0_1 a0_2 a0_3 a0_4)) else (spec_CellsOf.j0 k false a0_0 a0_1 a0_2 a0_3 a0_4)) = some r := h
 clear h
 have HC2 := Aside0.mk H
 clear H
 go_enter Try.func83, Try.ntmps83
 go_upto_region 1 with (first | ((with_reducible refine gate_dst (N := 1) rfl ?_); refine box_event (by rfl) (N := 1) (by rfl) (cs := #[.int .i64 a0_0, .string a0_1, .int .i32 a0_2, .bool a0_3, .int .u32 a0_4]) (t := 51) Z8 ?_; intro gb188 hg w3 hbox hb; have BK188 := Z (hbox); have GW188 := Z ((Z63 : w.heap.size ≤ gb188)); have GE188 := Z ((Z63 : w.heap.size ≤ gb188)); replace HB := Z (below_step Z42 hb); clear hb hbox hg))
 (try simp only [Act.put, List.setIfInBounds_toArray, List.set_cons_zero, List.set_cons_succ])
 go_cut [3] (fun v3 wc => ∃ (kq : Nat) (x3_1 : Bool), v3 = .bool x3_1 ∧ Aside0 (spec_CellsOf.j0 kq x3_1 a0_0 a0_1 a0_2 a0_3 a0_4 = some r) ∧ Aside0 (kq ≤ k) ∧ Aside0 (wc.heap[gb188]? = some (.cells #[.int .i64 a0_0, .string a0_1, .int .i32 a0_2, .bool a0_3, .int .u32 a0_4] 51 (0, 0))) ∧ Aside0 (Below w.heap.size w wc))
 case first =>
  have H := HC2.out
  clear HC2
  by_cases c4 : a0_2 = 0
  ·rw [if_pos c4] at H
   have c4b0 : (a0_2 == 0) = true := beq_iff_eq.mpr c4
   have c4b1 : (a0_2 != 0) = false := bne_eq_false_iff_eq.mpr c4
   clear c4
   (first | rw [c4b0] | (simp only [i64_w, i32_w]; rw [c4b0]) | skip)
   by_cases c5 : a0_3 = true
   ·subst c5
    have H1 : (spec_CellsOf.j0 k false a0_0 a0_1 a0_2 true a0_4) = some r := Z7
    clear H
    have H := H1
    clear H1
    have H' := Aside0.mk H
    clear H
    have hcz6_0 : w3.cell? ⟨gb188, 0, none⟩ = some (.int .i64 a0_0) := (blk_cell BK188.out 0).trans rfl
    have hcz6_1 : w3.cell? ⟨gb188, 1, none⟩ = some (.string a0_1) := (blk_cell BK188.out 1).trans rfl
    have hcz6_2 : w3.cell? ⟨gb188, 2, none⟩ = some (.int .i32 a0_2) := (blk_cell BK188.out 2).trans rfl
    have hcz6_3 : w3.cell? ⟨gb188, 3, none⟩ = some (.bool true) := (blk_cell BK188.out 3).trans rfl
    have hcz6_4 : w3.cell? ⟨gb188, 4, none⟩ = some (.int .u32 a0_4) := (blk_cell BK188.out 4).trans rfl
    have hfz6_0 := blk_frozen BK188.out 0
    have hfz6_1 := blk_frozen BK188.out 1
    have hfz6_2 := blk_frozen BK188.out 2
    have hfz6_3 := blk_frozen BK188.out 3
    have hfz6_4 := blk_frozen BK188.out 4
    go_wp2
    go_meet
    case rel => exact ⟨_, (false), Z3, H', ⟨Z17⟩, ⟨(Z10 BK188)⟩, ⟨Z42⟩⟩
   ·replace c5 := Bool.eq_false_iff.mpr c5
    subst c5
    have H1 : (spec_CellsOf.j0 k (a0_4 == 0) a0_0 a0_1 a0_2 false a0_4) = some r := by rw [if_neg (show ¬ (false = true) by decide)] at H; exact H
    clear H
    have H := H1
    clear H1
    have H' := Aside0.mk H
    clear H
    have hcz7_0 : w3.cell? ⟨gb188, 0, none⟩ = some (.int .i64 a0_0) := (blk_cell BK188.out 0).trans rfl
    have hcz7_1 : w3.cell? ⟨gb188, 1, none⟩ = some (.string a0_1) := (blk_cell BK188.out 1).trans rfl
    have hcz7_2 : w3.cell? ⟨gb188, 2, none⟩ = some (.int .i32 a0_2) := (blk_cell BK188.out 2).trans rfl
    have hcz7_3 : w3.cell? ⟨gb188, 3, none⟩ = some (.bool false) := (blk_cell BK188.out 3).trans rfl
    have hcz7_4 : w3.cell? ⟨gb188, 4, none⟩ = some (.int .u32 a0_4) := (blk_cell BK188.out 4).trans rfl
    have hfz7_0 := blk_frozen BK188.out 0
    have hfz7_1 := blk_frozen BK188.out 1
    have hfz7_2 := blk_frozen BK188.out 2
    have hfz7_3 := blk_frozen BK188.out 3
    have hfz7_4 := blk_frozen BK188.out 4
    go_wp2
    go_meet
    case rel => exact ⟨_, ((a0_4 == 0)), Z3, H', ⟨Z17⟩, ⟨(Z10 BK188)⟩, ⟨Z42⟩⟩
  ·rw [if_neg c4] at H
   have c4b0 : (a0_2 == 0) = false := beq_eq_false_iff_ne.mpr c4
   have c4b1 : (a0_2 != 0) = true := bne_iff_ne.mpr c4
   (first | rw [c4b0] | (simp only [i64_w, i32_w]; rw [c4b0]) | skip)
   have H' := Aside0.mk H
   clear H
   have hcz8_0 : w3.cell? ⟨gb188, 0, none⟩ = some (.int .i64 a0_0) := (blk_cell BK188.out 0).trans rfl
   have hcz8_1 : w3.cell? ⟨gb188, 1, none⟩ = some (.string a0_1) := (blk_cell BK188.out 1).trans rfl
   have hcz8_2 : w3.cell? ⟨gb188, 2, none⟩ = some (.int .i32 a0_2) := (blk_cell BK188.out 2).trans rfl
   have hcz8_3 : w3.cell? ⟨gb188, 3, none⟩ = some (.bool a0_3) := (blk_cell BK188.out 3).trans rfl
   have hcz8_4 : w3.cell? ⟨gb188, 4, none⟩ = some (.int .u32 a0_4) := (blk_cell BK188.out 4).trans rfl
   have hfz8_0 := blk_frozen BK188.out 0
   have hfz8_1 := blk_frozen BK188.out 1
   have hfz8_2 := blk_frozen BK188.out 2
   have hfz8_3 := blk_frozen BK188.out 3
   have hfz8_4 := blk_frozen BK188.out 4
   go_wp2
   go_meet
   case rel => exact ⟨_, (false), Z3, H', ⟨Z17⟩, ⟨(Z10 BK188)⟩, ⟨Z42⟩⟩
 case rest =>
  clear HC2
  try clear p2
  try clear c4
  try clear c4b0
  try clear c4b1
  try clear c5
  try clear c8
  try clear hcz6_0
  try clear hcz6_1
  try clear hcz6_2
  try clear hcz6_3
  try clear hcz6_4
  try clear hcz7_0
  try clear hcz7_1
  try clear hcz7_2
  try clear hcz7_3
  try clear hcz7_4
  try clear hcz8_0
  try clear hcz8_1
  try clear hcz8_2
  try clear hcz8_3
  try clear hcz8_4
  try clear hfz6_0
  try clear hfz6_1
  try clear hfz6_2
  try clear hfz6_3
  try clear hfz6_4
  try clear hfz7_0
  try clear hfz7_1
  try clear hfz7_2
  try clear hfz7_3
  try clear hfz7_4
  try clear hfz8_0
  try clear hfz8_1
  try clear hfz8_2
  try clear hfz8_3
  try clear hfz8_4
  obtain ⟨kq, x3_1, rfl, HA, HJ1, BK188, HB⟩ := hcut
  cases kq with
  | zero => exact absurd HA.out (by simp [spec_CellsOf.j0])
  | succ kj1 =>
   have H := HA.out
   clear HA
   simp only [spec_CellsOf.j0] at H
   by_cases c9 : a0_0 = 0
   ·rw [if_pos c9] at H
    have c9b0 : (a0_0 == 0) = true := beq_iff_eq.mpr c9
    have c9b1 : (a0_0 != 0) = false := bne_eq_false_iff_eq.mpr c9
    clear c9
    by_cases c10 : a0_1.toList = ([] : List UInt8)
    ·rw [if_pos c10] at H
     have c10b0 : (a0_1.toList == ([] : List UInt8)) = true := beq_iff_eq.mpr c10
     have c10b1 : (a0_1.toList != ([] : List UInt8)) = false := bne_eq_false_iff_eq.mpr c10
     clear c10
     by_cases c11 : a0_2 = 0
     ·rw [if_pos c11] at H
      have c11b0 : (a0_2 == 0) = true := beq_iff_eq.mpr c11
      have c11b1 : (a0_2 != 0) = false := bne_eq_false_iff_eq.mpr c11
      clear c11
      by_cases c12 : a0_3 = true
      ·subst c12
       have H1 : (some (([] : List Int))) = some r := Z7
       clear H
       have H := H1
       clear H1
       obtain ⟨y189, hy189⟩ : ∃ y_ : List Int, y_ = (([] : List Int)) := ⟨_, rfl⟩
       replace H : (some y189) = some r := by first | (rw [hy189]; with_reducible exact H) | (have H2_ := (Option.bind_some _ _).symm.trans H; rw [hy189]; with_reducible exact H2_) | (have H2_ := (Option.bind_some _ _).symm.trans H; with_reducible exact H2_) | with_reducible exact H | (rw [hy189]; exact H) | exact H
       have Ny189 := Aside0.mk hy189
       clear hy189
       obtain rfl := Option.some.inj H
       have hcz13_0 : wc.cell? ⟨gb188, 0, none⟩ = some (.int .i64 a0_0) := (blk_cell BK188.out 0).trans rfl
       have hcz13_1 : wc.cell? ⟨gb188, 1, none⟩ = some (.string a0_1) := (blk_cell BK188.out 1).trans rfl
       have hcz13_2 : wc.cell? ⟨gb188, 2, none⟩ = some (.int .i32 a0_2) := (blk_cell BK188.out 2).trans rfl
       have hcz13_3 : wc.cell? ⟨gb188, 3, none⟩ = some (.bool true) := (blk_cell BK188.out 3).trans rfl
       have hcz13_4 : wc.cell? ⟨gb188, 4, none⟩ = some (.int .u32 a0_4) := (blk_cell BK188.out 4).trans rfl
       have hfz13_0 := blk_frozen BK188.out 0
       have hfz13_1 := blk_frozen BK188.out 1
       have hfz13_2 := blk_frozen BK188.out 2
       have hfz13_3 := blk_frozen BK188.out 3
       have hfz13_4 := blk_frozen BK188.out 4
       go_wp2_with (first | ((with_reducible refine gate_dst (N := 105) rfl ?_); refine Kd.R_lit (Kd.int .u32) _ 47 (by rfl) (N := 105) (by rfl) (xs := ([] : List Int)) (inner := []) (ok := fun _ => True) (okp := fun _ => True) Z8 (Reps.none _ _) (fun _ hk => hk) trivial (Below.refl _ _) (Nat.le_refl _) (by simp) ?_; intro v190 w14 ho15 hb hg_ hnew_; clear hg_ hnew_; (first | rw [← Ny189.out] at ho15 | (simp only [Int.reduceToNat] at ho15; rw [← Ny189.out] at ho15)); have HO191 := Z (Kd.R_lower ho15 (below_size Z42)); replace BK188 := Z (blk_below (g := gb188) (o := .cells #[.int .i64 a0_0, .string a0_1, .int .i32 a0_2, .bool true, .int .u32 a0_4] 51 (0, 0)) (Z10 BK188) hb); replace HB := Z (below_step Z42 hb); clear hb ho15))
       go_ret
       exact ⟨_, Z13, (Z14 HO191), Z42⟩
      ·replace c12 := Bool.eq_false_iff.mpr c12
       subst c12
       have H1 : (some (([a0_4] : List Int))) = some r := by rw [if_neg (show ¬ (false = true) by decide)] at H; exact H
       clear H
       have H := H1
       clear H1
       obtain ⟨y192, hy192⟩ : ∃ y_ : List Int, y_ = (([a0_4] : List Int)) := ⟨_, rfl⟩
       replace H : (some y192) = some r := by first | (rw [hy192]; with_reducible exact H) | (have H2_ := (Option.bind_some _ _).symm.trans H; rw [hy192]; with_reducible exact H2_) | (have H2_ := (Option.bind_some _ _).symm.trans H; with_reducible exact H2_) | with_reducible exact H | (rw [hy192]; exact H) | exact H
       have Ny192 := Aside0.mk hy192
       clear hy192
       obtain rfl := Option.some.inj H
       have hcz16_0 : wc.cell? ⟨gb188, 0, none⟩ = some (.int .i64 a0_0) := (blk_cell BK188.out 0).trans rfl
       have hcz16_1 : wc.cell? ⟨gb188, 1, none⟩ = some (.string a0_1) := (blk_cell BK188.out 1).trans rfl
       have hcz16_2 : wc.cell? ⟨gb188, 2, none⟩ = some (.int .i32 a0_2) := (blk_cell BK188.out 2).trans rfl
       have hcz16_3 : wc.cell? ⟨gb188, 3, none⟩ = some (.bool false) := (blk_cell BK188.out 3).trans rfl
       have hcz16_4 : wc.cell? ⟨gb188, 4, none⟩ = some (.int .u32 a0_4) := (blk_cell BK188.out 4).trans rfl
       have hfz16_0 := blk_frozen BK188.out 0
       have hfz16_1 := blk_frozen BK188.out 1
       have hfz16_2 := blk_frozen BK188.out 2
       have hfz16_3 := blk_frozen BK188.out 3
       have hfz16_4 := blk_frozen BK188.out 4
       go_wp2_with (first | ((with_reducible refine gate_dst (N := 50) rfl ?_); refine Kd.R_lit (Kd.int .u32) _ 47 (by rfl) (N := 50) (by rfl) (xs := ([a0_4] : List Int)) (inner := [.int .u32 a0_4]) (ok := fun _ => True) (okp := fun _ => True) Z8 (Reps.one (show Kd.M (Kd.int .u32) _ _ _ a0_4 [.int .u32 a0_4] from rfl) (Reps.none _ _)) (fun _ hk => hk) trivial (Below.refl _ _) (Nat.le_refl _) (by simp) ?_; intro v193 w17 ho18 hb hg_ hnew_; clear hg_ hnew_; (first | rw [← Ny192.out] at ho18 | (simp only [Int.reduceToNat] at ho18; rw [← Ny192.out] at ho18)); have HO194 := Z (Kd.R_lower ho18 (below_size Z42)); replace BK188 := Z (blk_below (g := gb188) (o := .cells #[.int .i64 a0_0, .string a0_1, .int .i32 a0_2, .bool false, .int .u32 a0_4] 51 (0, 0)) (Z10 BK188) hb); replace HB := Z (below_step Z42 hb); clear hb ho18))
       go_ret
       exact ⟨_, Z13, (Z14 HO194), Z42⟩
     ·rw [if_neg c11] at H
      have c11b0 : (a0_2 == 0) = false := beq_eq_false_iff_ne.mpr c11
      have c11b1 : (a0_2 != 0) = true := bne_iff_ne.mpr c11
      obtain ⟨y195, hy195⟩ : ∃ y_ : List Int, y_ = (([] : List Int)) := ⟨_, rfl⟩
      replace H : (some y195) = some r := by first | (rw [hy195]; with_reducible exact H) | (have H2_ := (Option.bind_some _ _).symm.trans H; rw [hy195]; with_reducible exact H2_) | (have H2_ := (Option.bind_some _ _).symm.trans H; with_reducible exact H2_) | with_reducible exact H | (rw [hy195]; exact H) | exact H
      have Ny195 := Aside0.mk hy195
      clear hy195
      obtain rfl := Option.some.inj H
      have hcz19_0 : wc.cell? ⟨gb188, 0, none⟩ = some (.int .i64 a0_0) := (blk_cell BK188.out 0).trans rfl
      have hcz19_1 : wc.cell? ⟨gb188, 1, none⟩ = some (.string a0_1) := (blk_cell BK188.out 1).trans rfl
      have hcz19_2 : wc.cell? ⟨gb188, 2, none⟩ = some (.int .i32 a0_2) := (blk_cell BK188.out 2).trans rfl
      have hcz19_3 : wc.cell? ⟨gb188, 3, none⟩ = some (.bool a0_3) := (blk_cell BK188.out 3).trans rfl
      have hcz19_4 : wc.cell? ⟨gb188, 4, none⟩ = some (.int .u32 a0_4) := (blk_cell BK188.out 4).trans rfl
      have hfz19_0 := blk_frozen BK188.out 0
      have hfz19_1 := blk_frozen BK188.out 1
      have hfz19_2 := blk_frozen BK188.out 2
      have hfz19_3 := blk_frozen BK188.out 3
      have hfz19_4 := blk_frozen BK188.out 4
      go_wp2_with (first | ((with_reducible refine gate_dst (N := 105) rfl ?_); refine Kd.R_lit (Kd.int .u32) _ 47 (by rfl) (N := 105) (by rfl) (xs := ([] : List Int)) (inner := []) (ok := fun _ => True) (okp := fun _ => True) Z8 (Reps.none _ _) (fun _ hk => hk) trivial (Below.refl _ _) (Nat.le_refl _) (by simp) ?_; intro v196 w20 ho21 hb hg_ hnew_; clear hg_ hnew_; (first | rw [← Ny195.out] at ho21 | (simp only [Int.reduceToNat] at ho21; rw [← Ny195.out] at ho21)); have HO197 := Z (Kd.R_lower ho21 (below_size Z42)); replace BK188 := Z (blk_below (g := gb188) (o := .cells #[.int .i64 a0_0, .string a0_1, .int .i32 a0_2, .bool a0_3, .int .u32 a0_4] 51 (0, 0)) (Z10 BK188) hb); replace HB := Z (below_step Z42 hb); clear hb ho21))
      go_ret
      exact ⟨_, Z13, (Z14 HO197), Z42⟩
    ·rw [if_neg c10] at H
     have c10b0 : (a0_1.toList == ([] : List UInt8)) = false := beq_eq_false_iff_ne.mpr c10
     have c10b1 : (a0_1.toList != ([] : List UInt8)) = true := bne_iff_ne.mpr c10
     obtain ⟨y198, hy198⟩ : ∃ y_ : List Int, y_ = (([] : List Int)) := ⟨_, rfl⟩
     replace H : (some y198) = some r := by first | (rw [hy198]; with_reducible exact H) | (have H2_ := (Option.bind_some _ _).symm.trans H; rw [hy198]; with_reducible exact H2_) | (have H2_ := (Option.bind_some _ _).symm.trans H; with_reducible exact H2_) | with_reducible exact H | (rw [hy198]; exact H) | exact H
     have Ny198 := Aside0.mk hy198
     clear hy198
     obtain rfl := Option.some.inj H
     have hcz22_0 : wc.cell? ⟨gb188, 0, none⟩ = some (.int .i64 a0_0) := (blk_cell BK188.out 0).trans rfl
     have hcz22_1 : wc.cell? ⟨gb188, 1, none⟩ = some (.string a0_1) := (blk_cell BK188.out 1).trans rfl
     have hcz22_2 : wc.cell? ⟨gb188, 2, none⟩ = some (.int .i32 a0_2) := (blk_cell BK188.out 2).trans rfl
     have hcz22_3 : wc.cell? ⟨gb188, 3, none⟩ = some (.bool a0_3) := (blk_cell BK188.out 3).trans rfl
     have hcz22_4 : wc.cell? ⟨gb188, 4, none⟩ = some (.int .u32 a0_4) := (blk_cell BK188.out 4).trans rfl
     have hfz22_0 := blk_frozen BK188.out 0
     have hfz22_1 := blk_frozen BK188.out 1
     have hfz22_2 := blk_frozen BK188.out 2
     have hfz22_3 := blk_frozen BK188.out 3
     have hfz22_4 := blk_frozen BK188.out 4
     go_wp2_with (first | ((with_reducible refine gate_dst (N := 105) rfl ?_); refine Kd.R_lit (Kd.int .u32) _ 47 (by rfl) (N := 105) (by rfl) (xs := ([] : List Int)) (inner := []) (ok := fun _ => True) (okp := fun _ => True) Z8 (Reps.none _ _) (fun _ hk => hk) trivial (Below.refl _ _) (Nat.le_refl _) (by simp) ?_; intro v199 w23 ho24 hb hg_ hnew_; clear hg_ hnew_; (first | rw [← Ny198.out] at ho24 | (simp only [Int.reduceToNat] at ho24; rw [← Ny198.out] at ho24)); have HO200 := Z (Kd.R_lower ho24 (below_size Z42)); replace BK188 := Z (blk_below (g := gb188) (o := .cells #[.int .i64 a0_0, .string a0_1, .int .i32 a0_2, .bool a0_3, .int .u32 a0_4] 51 (0, 0)) (Z10 BK188) hb); replace HB := Z (below_step Z42 hb); clear hb ho24))
     go_ret
     exact ⟨_, Z13, (Z14 HO200), Z42⟩
   ·rw [if_neg c9] at H
    have c9b0 : (a0_0 == 0) = false := beq_eq_false_iff_ne.mpr c9
    have c9b1 : (a0_0 != 0) = true := bne_iff_ne.mpr c9
    by_cases c25 : a0_0 = 7
    ·rw [if_pos c25] at H
     have c25b0 : (a0_0 == 7) = true := beq_iff_eq.mpr c25
     have c25b1 : (a0_0 != 7) = false := bne_eq_false_iff_eq.mpr c25
     clear c25
     by_cases c26 : a0_1.toList = ([] : List UInt8)
     ·rw [if_pos c26] at H
      have c26b0 : (a0_1.toList == ([] : List UInt8)) = true := beq_iff_eq.mpr c26
      have c26b1 : (a0_1.toList != ([] : List UInt8)) = false := bne_eq_false_iff_eq.mpr c26
      clear c26
      by_cases c27 : a0_4 = 0
      ·rw [if_pos c27] at H
       have c27b0 : (a0_4 == 0) = true := beq_iff_eq.mpr c27
       have c27b1 : (a0_4 != 0) = false := bne_eq_false_iff_eq.mpr c27
       clear c27
       replace H := Option.bind_eq_some_iff.mp H
       obtain ⟨t201, A280, H⟩ := H
       replace H : (some t201) = some r := H
       have A28 := Aside0.mk A280
       clear A280
       obtain rfl := Option.some.inj H
       have hcz29_0 : wc.cell? ⟨gb188, 0, none⟩ = some (.int .i64 a0_0) := (blk_cell BK188.out 0).trans rfl
       have hcz29_1 : wc.cell? ⟨gb188, 1, none⟩ = some (.string a0_1) := (blk_cell BK188.out 1).trans rfl
       have hcz29_2 : wc.cell? ⟨gb188, 2, none⟩ = some (.int .i32 a0_2) := (blk_cell BK188.out 2).trans rfl
       have hcz29_3 : wc.cell? ⟨gb188, 3, none⟩ = some (.bool a0_3) := (blk_cell BK188.out 3).trans rfl
       have hcz29_4 : wc.cell? ⟨gb188, 4, none⟩ = some (.int .u32 a0_4) := (blk_cell BK188.out 4).trans rfl
       have hfz29_0 := blk_frozen BK188.out 0
       have hfz29_1 := blk_frozen BK188.out 1
       have hfz29_2 := blk_frozen BK188.out 2
       have hfz29_3 := blk_frozen BK188.out 3
       have hfz29_4 := blk_frozen BK188.out 4
       go_wp2_with (first | ((with_reducible refine gate_callee (f := 108) rfl ?_); refine goesL_ (some 65) rfl rfl Try.func108 Z0 rfl #[.int .i32 a0_2, .bool a0_3, .int .u32 8, .int .u32 2] rfl Z11 ?_; (with_reducible refine (spec_l04Num.calls a0_2 a0_3 8 2 t201 _ A28.out).mono ?_); rintro e w30 ⟨v202, rfl, ho0, hb⟩; refine ⟨_, rfl, ?_⟩; have HO203 := Z (Kd.R_lower ho0 (below_size Z42)); replace BK188 := Z (blk_below (g := gb188) (o := .cells #[.int .i64 a0_0, .string a0_1, .int .i32 a0_2, .bool a0_3, .int .u32 a0_4] 51 (0, 0)) (Z10 BK188) hb); replace HB := Z (below_step Z42 hb); (try clear hb); (try clear hb2); (try clear hk); (try clear hi); (try clear ho0)))
       go_ret
       exact ⟨_, Z13, (Z14 HO203), Z42⟩
      ·rw [if_neg c27] at H
       have c27b0 : (a0_4 == 0) = false := beq_eq_false_iff_ne.mpr c27
       have c27b1 : (a0_4 != 0) = true := bne_iff_ne.mpr c27
       obtain ⟨y204, hy204⟩ : ∃ y_ : List Int, y_ = (([] : List Int)) := ⟨_, rfl⟩
       replace H : (some y204) = some r := by first | (rw [hy204]; with_reducible exact H) | (have H2_ := (Option.bind_some _ _).symm.trans H; rw [hy204]; with_reducible exact H2_) | (have H2_ := (Option.bind_some _ _).symm.trans H; with_reducible exact H2_) | with_reducible exact H | (rw [hy204]; exact H) | exact H
       have Ny204 := Aside0.mk hy204
       clear hy204
       obtain rfl := Option.some.inj H
       have hcz31_0 : wc.cell? ⟨gb188, 0, none⟩ = some (.int .i64 a0_0) := (blk_cell BK188.out 0).trans rfl
       have hcz31_1 : wc.cell? ⟨gb188, 1, none⟩ = some (.string a0_1) := (blk_cell BK188.out 1).trans rfl
       have hcz31_2 : wc.cell? ⟨gb188, 2, none⟩ = some (.int .i32 a0_2) := (blk_cell BK188.out 2).trans rfl
       have hcz31_3 : wc.cell? ⟨gb188, 3, none⟩ = some (.bool a0_3) := (blk_cell BK188.out 3).trans rfl
       have hcz31_4 : wc.cell? ⟨gb188, 4, none⟩ = some (.int .u32 a0_4) := (blk_cell BK188.out 4).trans rfl
       have hfz31_0 := blk_frozen BK188.out 0
       have hfz31_1 := blk_frozen BK188.out 1
       have hfz31_2 := blk_frozen BK188.out 2
       have hfz31_3 := blk_frozen BK188.out 3
       have hfz31_4 := blk_frozen BK188.out 4
       go_wp2_with (first | ((with_reducible refine gate_dst (N := 105) rfl ?_); refine Kd.R_lit (Kd.int .u32) _ 47 (by rfl) (N := 105) (by rfl) (xs := ([] : List Int)) (inner := []) (ok := fun _ => True) (okp := fun _ => True) Z8 (Reps.none _ _) (fun _ hk => hk) trivial (Below.refl _ _) (Nat.le_refl _) (by simp) ?_; intro v205 w32 ho33 hb hg_ hnew_; clear hg_ hnew_; (first | rw [← Ny204.out] at ho33 | (simp only [Int.reduceToNat] at ho33; rw [← Ny204.out] at ho33)); have HO206 := Z (Kd.R_lower ho33 (below_size Z42)); replace BK188 := Z (blk_below (g := gb188) (o := .cells #[.int .i64 a0_0, .string a0_1, .int .i32 a0_2, .bool a0_3, .int .u32 a0_4] 51 (0, 0)) (Z10 BK188) hb); replace HB := Z (below_step Z42 hb); clear hb ho33))
       go_ret
       exact ⟨_, Z13, (Z14 HO206), Z42⟩
     ·rw [if_neg c26] at H
      have c26b0 : (a0_1.toList == ([] : List UInt8)) = false := beq_eq_false_iff_ne.mpr c26
      have c26b1 : (a0_1.toList != ([] : List UInt8)) = true := bne_iff_ne.mpr c26
      obtain ⟨y207, hy207⟩ : ∃ y_ : List Int, y_ = (([] : List Int)) := ⟨_, rfl⟩
      replace H : (some y207) = some r := by first | (rw [hy207]; with_reducible exact H) | (have H2_ := (Option.bind_some _ _).symm.trans H; rw [hy207]; with_reducible exact H2_) | (have H2_ := (Option.bind_some _ _).symm.trans H; with_reducible exact H2_) | with_reducible exact H | (rw [hy207]; exact H) | exact H
      have Ny207 := Aside0.mk hy207
      clear hy207
      obtain rfl := Option.some.inj H
      have hcz34_0 : wc.cell? ⟨gb188, 0, none⟩ = some (.int .i64 a0_0) := (blk_cell BK188.out 0).trans rfl
      have hcz34_1 : wc.cell? ⟨gb188, 1, none⟩ = some (.string a0_1) := (blk_cell BK188.out 1).trans rfl
      have hcz34_2 : wc.cell? ⟨gb188, 2, none⟩ = some (.int .i32 a0_2) := (blk_cell BK188.out 2).trans rfl
      have hcz34_3 : wc.cell? ⟨gb188, 3, none⟩ = some (.bool a0_3) := (blk_cell BK188.out 3).trans rfl
      have hcz34_4 : wc.cell? ⟨gb188, 4, none⟩ = some (.int .u32 a0_4) := (blk_cell BK188.out 4).trans rfl
      have hfz34_0 := blk_frozen BK188.out 0
      have hfz34_1 := blk_frozen BK188.out 1
      have hfz34_2 := blk_frozen BK188.out 2
      have hfz34_3 := blk_frozen BK188.out 3
      have hfz34_4 := blk_frozen BK188.out 4
      go_wp2_with (first | ((with_reducible refine gate_dst (N := 105) rfl ?_); refine Kd.R_lit (Kd.int .u32) _ 47 (by rfl) (N := 105) (by rfl) (xs := ([] : List Int)) (inner := []) (ok := fun _ => True) (okp := fun _ => True) Z8 (Reps.none _ _) (fun _ hk => hk) trivial (Below.refl _ _) (Nat.le_refl _) (by simp) ?_; intro v208 w35 ho36 hb hg_ hnew_; clear hg_ hnew_; (first | rw [← Ny207.out] at ho36 | (simp only [Int.reduceToNat] at ho36; rw [← Ny207.out] at ho36)); have HO209 := Z (Kd.R_lower ho36 (below_size Z42)); replace BK188 := Z (blk_below (g := gb188) (o := .cells #[.int .i64 a0_0, .string a0_1, .int .i32 a0_2, .bool a0_3, .int .u32 a0_4] 51 (0, 0)) (Z10 BK188) hb); replace HB := Z (below_step Z42 hb); clear hb ho36))
      go_ret
      exact ⟨_, Z13, (Z14 HO209), Z42⟩
    ·rw [if_neg c25] at H
     have c25b0 : (a0_0 == 7) = false := beq_eq_false_iff_ne.mpr c25
     have c25b1 : (a0_0 != 7) = true := bne_iff_ne.mpr c25
     by_cases c37 : a0_0 = 8
     ·rw [if_pos c37] at H
      have c37b0 : (a0_0 == 8) = true := beq_iff_eq.mpr c37
      have c37b1 : (a0_0 != 8) = false := bne_eq_false_iff_eq.mpr c37
      clear c37
      by_cases c38 : a0_1.toList = ([] : List UInt8)
      ·rw [if_pos c38] at H
       have c38b0 : (a0_1.toList == ([] : List UInt8)) = true := beq_iff_eq.mpr c38
       have c38b1 : (a0_1.toList != ([] : List UInt8)) = false := bne_eq_false_iff_eq.mpr c38
       clear c38
       by_cases c39 : a0_4 = 0
       ·rw [if_pos c39] at H
        have c39b0 : (a0_4 == 0) = true := beq_iff_eq.mpr c39
        have c39b1 : (a0_4 != 0) = false := bne_eq_false_iff_eq.mpr c39
        clear c39
        replace H := Option.bind_eq_some_iff.mp H
        obtain ⟨t210, A400, H⟩ := H
        replace H : (some t210) = some r := H
        have A40 := Aside0.mk A400
        clear A400
        obtain rfl := Option.some.inj H
        have hcz41_0 : wc.cell? ⟨gb188, 0, none⟩ = some (.int .i64 a0_0) := (blk_cell BK188.out 0).trans rfl
        have hcz41_1 : wc.cell? ⟨gb188, 1, none⟩ = some (.string a0_1) := (blk_cell BK188.out 1).trans rfl
        have hcz41_2 : wc.cell? ⟨gb188, 2, none⟩ = some (.int .i32 a0_2) := (blk_cell BK188.out 2).trans rfl
        have hcz41_3 : wc.cell? ⟨gb188, 3, none⟩ = some (.bool a0_3) := (blk_cell BK188.out 3).trans rfl
        have hcz41_4 : wc.cell? ⟨gb188, 4, none⟩ = some (.int .u32 a0_4) := (blk_cell BK188.out 4).trans rfl
        have hfz41_0 := blk_frozen BK188.out 0
        have hfz41_1 := blk_frozen BK188.out 1
        have hfz41_2 := blk_frozen BK188.out 2
        have hfz41_3 := blk_frozen BK188.out 3
        have hfz41_4 := blk_frozen BK188.out 4
        go_wp2_with (first | ((with_reducible refine gate_callee (f := 108) rfl ?_); refine goesL_ (some 80) rfl rfl Try.func108 Z0 rfl #[.int .i32 a0_2, .bool a0_3, .int .u32 6, .int .u32 5] rfl Z11 ?_; (with_reducible refine (spec_l04Num.calls a0_2 a0_3 6 5 t210 _ A40.out).mono ?_); rintro e w42 ⟨v211, rfl, ho0, hb⟩; refine ⟨_, rfl, ?_⟩; have HO212 := Z (Kd.R_lower ho0 (below_size Z42)); replace BK188 := Z (blk_below (g := gb188) (o := .cells #[.int .i64 a0_0, .string a0_1, .int .i32 a0_2, .bool a0_3, .int .u32 a0_4] 51 (0, 0)) (Z10 BK188) hb); replace HB := Z (below_step Z42 hb); (try clear hb); (try clear hb2); (try clear hk); (try clear hi); (try clear ho0)))
        go_ret
        exact ⟨_, Z13, (Z14 HO212), Z42⟩
       ·rw [if_neg c39] at H
        have c39b0 : (a0_4 == 0) = false := beq_eq_false_iff_ne.mpr c39
        have c39b1 : (a0_4 != 0) = true := bne_iff_ne.mpr c39
        obtain ⟨y213, hy213⟩ : ∃ y_ : List Int, y_ = (([] : List Int)) := ⟨_, rfl⟩
        replace H : (some y213) = some r := by first | (rw [hy213]; with_reducible exact H) | (have H2_ := (Option.bind_some _ _).symm.trans H; rw [hy213]; with_reducible exact H2_) | (have H2_ := (Option.bind_some _ _).symm.trans H; with_reducible exact H2_) | with_reducible exact H | (rw [hy213]; exact H) | exact H
        have Ny213 := Aside0.mk hy213
        clear hy213
        obtain rfl := Option.some.inj H
        have hcz43_0 : wc.cell? ⟨gb188, 0, none⟩ = some (.int .i64 a0_0) := (blk_cell BK188.out 0).trans rfl
        have hcz43_1 : wc.cell? ⟨gb188, 1, none⟩ = some (.string a0_1) := (blk_cell BK188.out 1).trans rfl
        have hcz43_2 : wc.cell? ⟨gb188, 2, none⟩ = some (.int .i32 a0_2) := (blk_cell BK188.out 2).trans rfl
        have hcz43_3 : wc.cell? ⟨gb188, 3, none⟩ = some (.bool a0_3) := (blk_cell BK188.out 3).trans rfl
        have hcz43_4 : wc.cell? ⟨gb188, 4, none⟩ = some (.int .u32 a0_4) := (blk_cell BK188.out 4).trans rfl
        have hfz43_0 := blk_frozen BK188.out 0
        have hfz43_1 := blk_frozen BK188.out 1
        have hfz43_2 := blk_frozen BK188.out 2
        have hfz43_3 := blk_frozen BK188.out 3
        have hfz43_4 := blk_frozen BK188.out 4
        go_wp2_with (first | ((with_reducible refine gate_dst (N := 105) rfl ?_); refine Kd.R_lit (Kd.int .u32) _ 47 (by rfl) (N := 105) (by rfl) (xs := ([] : List Int)) (inner := []) (ok := fun _ => True) (okp := fun _ => True) Z8 (Reps.none _ _) (fun _ hk => hk) trivial (Below.refl _ _) (Nat.le_refl _) (by simp) ?_; intro v214 w44 ho45 hb hg_ hnew_; clear hg_ hnew_; (first | rw [← Ny213.out] at ho45 | (simp only [Int.reduceToNat] at ho45; rw [← Ny213.out] at ho45)); have HO215 := Z (Kd.R_lower ho45 (below_size Z42)); replace BK188 := Z (blk_below (g := gb188) (o := .cells #[.int .i64 a0_0, .string a0_1, .int .i32 a0_2, .bool a0_3, .int .u32 a0_4] 51 (0, 0)) (Z10 BK188) hb); replace HB := Z (below_step Z42 hb); clear hb ho45))
        go_ret
        exact ⟨_, Z13, (Z14 HO215), Z42⟩
      ·rw [if_neg c38] at H
       have c38b0 : (a0_1.toList == ([] : List UInt8)) = false := beq_eq_false_iff_ne.mpr c38
       have c38b1 : (a0_1.toList != ([] : List UInt8)) = true := bne_iff_ne.mpr c38
       obtain ⟨y216, hy216⟩ : ∃ y_ : List Int, y_ = (([] : List Int)) := ⟨_, rfl⟩
       replace H : (some y216) = some r := by first | (rw [hy216]; with_reducible exact H) | (have H2_ := (Option.bind_some _ _).symm.trans H; rw [hy216]; with_reducible exact H2_) | (have H2_ := (Option.bind_some _ _).symm.trans H; with_reducible exact H2_) | with_reducible exact H | (rw [hy216]; exact H) | exact H
       have Ny216 := Aside0.mk hy216
       clear hy216
       obtain rfl := Option.some.inj H
       have hcz46_0 : wc.cell? ⟨gb188, 0, none⟩ = some (.int .i64 a0_0) := (blk_cell BK188.out 0).trans rfl
       have hcz46_1 : wc.cell? ⟨gb188, 1, none⟩ = some (.string a0_1) := (blk_cell BK188.out 1).trans rfl
       have hcz46_2 : wc.cell? ⟨gb188, 2, none⟩ = some (.int .i32 a0_2) := (blk_cell BK188.out 2).trans rfl
       have hcz46_3 : wc.cell? ⟨gb188, 3, none⟩ = some (.bool a0_3) := (blk_cell BK188.out 3).trans rfl
       have hcz46_4 : wc.cell? ⟨gb188, 4, none⟩ = some (.int .u32 a0_4) := (blk_cell BK188.out 4).trans rfl
       have hfz46_0 := blk_frozen BK188.out 0
       have hfz46_1 := blk_frozen BK188.out 1
       have hfz46_2 := blk_frozen BK188.out 2
       have hfz46_3 := blk_frozen BK188.out 3
       have hfz46_4 := blk_frozen BK188.out 4
       go_wp2_with (first | ((with_reducible refine gate_dst (N := 105) rfl ?_); refine Kd.R_lit (Kd.int .u32) _ 47 (by rfl) (N := 105) (by rfl) (xs := ([] : List Int)) (inner := []) (ok := fun _ => True) (okp := fun _ => True) Z8 (Reps.none _ _) (fun _ hk => hk) trivial (Below.refl _ _) (Nat.le_refl _) (by simp) ?_; intro v217 w47 ho48 hb hg_ hnew_; clear hg_ hnew_; (first | rw [← Ny216.out] at ho48 | (simp only [Int.reduceToNat] at ho48; rw [← Ny216.out] at ho48)); have HO218 := Z (Kd.R_lower ho48 (below_size Z42)); replace BK188 := Z (blk_below (g := gb188) (o := .cells #[.int .i64 a0_0, .string a0_1, .int .i32 a0_2, .bool a0_3, .int .u32 a0_4] 51 (0, 0)) (Z10 BK188) hb); replace HB := Z (below_step Z42 hb); clear hb ho48))
       go_ret
       exact ⟨_, Z13, (Z14 HO218), Z42⟩
     ·rw [if_neg c37] at H
      have c37b0 : (a0_0 == 8) = false := beq_eq_false_iff_ne.mpr c37
      have c37b1 : (a0_0 != 8) = true := bne_iff_ne.mpr c37
      by_cases c49 : a0_0 = 9
      ·rw [if_pos c49] at H
       have c49b0 : (a0_0 == 9) = true := beq_iff_eq.mpr c49
       have c49b1 : (a0_0 != 9) = false := bne_eq_false_iff_eq.mpr c49
       clear c49
       replace H := Option.bind_eq_some_iff.mp H
       obtain ⟨t219, A500, H⟩ := H
       replace H : (if (t219.length : Int) = 1 then (if a0_3 = true then (some (([] : List Int))) else (if a0_4 = 0 then (if t219.length < 35184372088832 then (some (t219 ++ [(a0_2) % 4294967296])) else (none)) else (some (([] : List Int))))) else (some (([] : List Int)))) = some r := H
       have A50 := Aside0.mk A500
       clear A500
       by_cases c51 : (t219.length : Int) = 1
       ·rw [if_pos c51] at H
        have c51b0 : ((t219.length : Int) == 1) = true := beq_iff_eq.mpr c51
        have c51b1 : ((t219.length : Int) != 1) = false := bne_eq_false_iff_eq.mpr c51
        clear c51
        by_cases c52 : a0_3 = true
        ·subst c52
         have H1 : (some (([] : List Int))) = some r := Z7
         clear H
         have H := H1
         clear H1
         obtain ⟨y222, hy222⟩ : ∃ y_ : List Int, y_ = (([] : List Int)) := ⟨_, rfl⟩
         replace H : (some y222) = some r := by first | (rw [hy222]; with_reducible exact H) | (have H2_ := (Option.bind_some _ _).symm.trans H; rw [hy222]; with_reducible exact H2_) | (have H2_ := (Option.bind_some _ _).symm.trans H; with_reducible exact H2_) | with_reducible exact H | (rw [hy222]; exact H) | exact H
         have Ny222 := Aside0.mk hy222
         clear hy222
         obtain rfl := Option.some.inj H
         have hcz53_0 : wc.cell? ⟨gb188, 0, none⟩ = some (.int .i64 a0_0) := (blk_cell BK188.out 0).trans rfl
         have hcz53_1 : wc.cell? ⟨gb188, 1, none⟩ = some (.string a0_1) := (blk_cell BK188.out 1).trans rfl
         have hcz53_2 : wc.cell? ⟨gb188, 2, none⟩ = some (.int .i32 a0_2) := (blk_cell BK188.out 2).trans rfl
         have hcz53_3 : wc.cell? ⟨gb188, 3, none⟩ = some (.bool true) := (blk_cell BK188.out 3).trans rfl
         have hcz53_4 : wc.cell? ⟨gb188, 4, none⟩ = some (.int .u32 a0_4) := (blk_cell BK188.out 4).trans rfl
         have hfz53_0 := blk_frozen BK188.out 0
         have hfz53_1 := blk_frozen BK188.out 1
         have hfz53_2 := blk_frozen BK188.out 2
         have hfz53_3 := blk_frozen BK188.out 3
         have hfz53_4 := blk_frozen BK188.out 4
         go_wp2_with (first | ((with_reducible refine gate_callee (f := 109) rfl ?_); refine goesL_ (some 85) rfl rfl Try.func109 Z0 rfl #[.int .u32 12, .string a0_1] rfl Z11 ?_; (with_reducible refine (spec_l04Word.calls kj1 12 a0_1 t219 _ A50.out).mono ?_); rintro e w54 ⟨v220, rfl, ho0, hb⟩; refine ⟨_, rfl, ?_⟩; have HO221 := Z (Kd.R_lower ho0 (below_size Z42)); replace BK188 := Z (blk_below (g := gb188) (o := .cells #[.int .i64 a0_0, .string a0_1, .int .i32 a0_2, .bool true, .int .u32 a0_4] 51 (0, 0)) (Z10 BK188) hb); replace HB := Z (below_step Z42 hb); (try clear hb); (try clear hb2); (try clear hk); (try clear hi); (try clear ho0); obtain ⟨Ao55, co55, eo55⟩ := Kd.R_slice HO221.out; subst eo55; have hcz56_0 : w54.cell? ⟨gb188, 0, none⟩ = some (.int .i64 a0_0) := (blk_cell BK188.out 0).trans rfl; have hcz56_1 : w54.cell? ⟨gb188, 1, none⟩ = some (.string a0_1) := (blk_cell BK188.out 1).trans rfl; have hcz56_2 : w54.cell? ⟨gb188, 2, none⟩ = some (.int .i32 a0_2) := (blk_cell BK188.out 2).trans rfl; have hcz56_3 : w54.cell? ⟨gb188, 3, none⟩ = some (.bool true) := (blk_cell BK188.out 3).trans rfl; have hcz56_4 : w54.cell? ⟨gb188, 4, none⟩ = some (.int .u32 a0_4) := (blk_cell BK188.out 4).trans rfl; have hfz56_0 := blk_frozen BK188.out 0; have hfz56_1 := blk_frozen BK188.out 1; have hfz56_2 := blk_frozen BK188.out 2; have hfz56_3 := blk_frozen BK188.out 3; have hfz56_4 := blk_frozen BK188.out 4) | ((with_reducible refine gate_dst (N := 105) rfl ?_); refine Kd.R_lit (Kd.int .u32) _ 47 (by rfl) (N := 105) (by rfl) (xs := ([] : List Int)) (inner := []) (ok := fun _ => True) (okp := fun _ => True) Z8 (Reps.none _ _) (fun _ hk => hk) trivial (Below.refl _ _) (Nat.le_refl _) (by simp) ?_; intro v223 w57 ho58 hb hg_ hnew_; clear hg_ hnew_; (first | rw [← Ny222.out] at ho58 | (simp only [Int.reduceToNat] at ho58; rw [← Ny222.out] at ho58)); have HO224 := Z (Kd.R_lower (Kd.R_new' ho58 (Kd.R_lt (Z14 HO221))) (below_size Z42)); replace HO221 := Z (Kd.R_elder' (Z14 HO221) (Kd.R_base ho58) hb); replace BK188 := Z (blk_below (g := gb188) (o := .cells #[.int .i64 a0_0, .string a0_1, .int .i32 a0_2, .bool true, .int .u32 a0_4] 51 (0, 0)) (Z10 BK188) hb); replace HB := Z (below_step Z42 hb); clear hb ho58))
         go_ret
         exact ⟨_, Z13, (Z20 HO224), Z42⟩
        ·replace c52 := Bool.eq_false_iff.mpr c52
         subst c52
         have H1 : (if a0_4 = 0 then (if t219.length < 35184372088832 then (some (t219 ++ [(a0_2) % 4294967296])) else (none)) else (some (([] : List Int)))) = some r := by rw [if_neg (show ¬ (false = true) by decide)] at H; exact H
         clear H
         have H := H1
         clear H1
         by_cases c59 : a0_4 = 0
         ·rw [if_pos c59] at H
          have c59b0 : (a0_4 == 0) = true := beq_iff_eq.mpr c59
          have c59b1 : (a0_4 != 0) = false := bne_eq_false_iff_eq.mpr c59
          clear c59
          by_cases c60 : t219.length < 35184372088832
          ·rw [if_pos c60] at H
           have LMc60 := Aside0.mk c60
           clear c60
           obtain ⟨y225, hy225⟩ : ∃ y_ : List Int, y_ = (t219 ++ [(a0_2) % 4294967296]) := ⟨_, rfl⟩
           replace H : (some y225) = some r := by first | (rw [hy225]; with_reducible exact H) | (have H2_ := (Option.bind_some _ _).symm.trans H; rw [hy225]; with_reducible exact H2_) | (have H2_ := (Option.bind_some _ _).symm.trans H; with_reducible exact H2_) | with_reducible exact H | (rw [hy225]; exact H) | exact H
           have Ny225 := Aside0.mk hy225
           clear hy225
           obtain rfl := Option.some.inj H
           have hcz61_0 : wc.cell? ⟨gb188, 0, none⟩ = some (.int .i64 a0_0) := (blk_cell BK188.out 0).trans rfl
           have hcz61_1 : wc.cell? ⟨gb188, 1, none⟩ = some (.string a0_1) := (blk_cell BK188.out 1).trans rfl
           have hcz61_2 : wc.cell? ⟨gb188, 2, none⟩ = some (.int .i32 a0_2) := (blk_cell BK188.out 2).trans rfl
           have hcz61_3 : wc.cell? ⟨gb188, 3, none⟩ = some (.bool false) := (blk_cell BK188.out 3).trans rfl
           have hcz61_4 : wc.cell? ⟨gb188, 4, none⟩ = some (.int .u32 a0_4) := (blk_cell BK188.out 4).trans rfl
           have hfz61_0 := blk_frozen BK188.out 0
           have hfz61_1 := blk_frozen BK188.out 1
           have hfz61_2 := blk_frozen BK188.out 2
           have hfz61_3 := blk_frozen BK188.out 3
           have hfz61_4 := blk_frozen BK188.out 4
           go_wp2_with (first | ((with_reducible refine gate_callee (f := 109) rfl ?_); refine goesL_ (some 85) rfl rfl Try.func109 Z0 rfl #[.int .u32 12, .string a0_1] rfl Z11 ?_; (with_reducible refine (spec_l04Word.calls kj1 12 a0_1 t219 _ A50.out).mono ?_); rintro e w62 ⟨v220, rfl, ho0, hb⟩; refine ⟨_, rfl, ?_⟩; have HO221 := Z (Kd.R_lower ho0 (below_size Z42)); replace BK188 := Z (blk_below (g := gb188) (o := .cells #[.int .i64 a0_0, .string a0_1, .int .i32 a0_2, .bool false, .int .u32 a0_4] 51 (0, 0)) (Z10 BK188) hb); replace HB := Z (below_step Z42 hb); (try clear hb); (try clear hb2); (try clear hk); (try clear hi); (try clear ho0); obtain ⟨Ao63, co63, eo63⟩ := Kd.R_slice HO221.out; subst eo63; have hcz64_0 : w62.cell? ⟨gb188, 0, none⟩ = some (.int .i64 a0_0) := (blk_cell BK188.out 0).trans rfl; have hcz64_1 : w62.cell? ⟨gb188, 1, none⟩ = some (.string a0_1) := (blk_cell BK188.out 1).trans rfl; have hcz64_2 : w62.cell? ⟨gb188, 2, none⟩ = some (.int .i32 a0_2) := (blk_cell BK188.out 2).trans rfl; have hcz64_3 : w62.cell? ⟨gb188, 3, none⟩ = some (.bool false) := (blk_cell BK188.out 3).trans rfl; have hcz64_4 : w62.cell? ⟨gb188, 4, none⟩ = some (.int .u32 a0_4) := (blk_cell BK188.out 4).trans rfl; have hfz64_0 := blk_frozen BK188.out 0; have hfz64_1 := blk_frozen BK188.out 1; have hfz64_2 := blk_frozen BK188.out 2; have hfz64_3 := blk_frozen BK188.out 3; have hfz64_4 := blk_frozen BK188.out 4) | ((with_reducible refine gate_builtin (b := .append) (xs := #[.tmp 99, .tmp 103]) rfl ?_); at_builtin; refine Kd.R_append (Kd.int .u32) (w0 := w) w.heap.size rfl (.tmp 99) (.tmp 103) 24 47 (.int .u32 0) 4 rfl Try.underlying24 info47 rfl (by decide) (by omega) (.slice Ao63 t219.length co63) t219 ((a0_2) % 4294967296) [.int .u32 ((a0_2) % 4294967296)] (fun _ => True) (fun _ => False) rfl rfl ?aP (fun _ hk => hk.elim) ?aF ?aO ?aB ?aS ?aL ?_; (case aP => exact rfl); (case aB => exact Z42); (case aF => exact (fun _ _ => trivial)); (case aO => exact (Z14 HO221)); (case aS => exact (below_size Z42)); (case aL => have := LMc60.out; omega); intro v226 w65 ho hb hg hat; rw [← Ny225.out] at ho; replace BK188 := Z (blk_grown (g := gb188) (o := .cells #[.int .i64 a0_0, .string a0_1, .int .i32 a0_2, .bool false, .int .u32 a0_4] 51 (0, 0)) (Z10 BK188) hg (Kd.R_ne HO221.out BK188.out (by decide))); replace HB := Z (hb); have HO227 := Z (ho); clear HO221; clear ho hb hg hat))
           go_ret
           exact ⟨_, Z13, (Z14 HO227), Z42⟩
          ·rw [if_neg c60] at H
           exact absurd H (by simp)
         ·rw [if_neg c59] at H
          have c59b0 : (a0_4 == 0) = false := beq_eq_false_iff_ne.mpr c59
          have c59b1 : (a0_4 != 0) = true := bne_iff_ne.mpr c59
          obtain ⟨y228, hy228⟩ : ∃ y_ : List Int, y_ = (([] : List Int)) := ⟨_, rfl⟩
          replace H : (some y228) = some r := by first | (rw [hy228]; with_reducible exact H) | (have H2_ := (Option.bind_some _ _).symm.trans H; rw [hy228]; with_reducible exact H2_) | (have H2_ := (Option.bind_some _ _).symm.trans H; with_reducible exact H2_) | with_reducible exact H | (rw [hy228]; exact H) | exact H
          have Ny228 := Aside0.mk hy228
          clear hy228
          obtain rfl := Option.some.inj H
          have hcz66_0 : wc.cell? ⟨gb188, 0, none⟩ = some (.int .i64 a0_0) := (blk_cell BK188.out 0).trans rfl
          have hcz66_1 : wc.cell? ⟨gb188, 1, none⟩ = some (.string a0_1) := (blk_cell BK188.out 1).trans rfl
          have hcz66_2 : wc.cell? ⟨gb188, 2, none⟩ = some (.int .i32 a0_2) := (blk_cell BK188.out 2).trans rfl
          have hcz66_3 : wc.cell? ⟨gb188, 3, none⟩ = some (.bool false) := (blk_cell BK188.out 3).trans rfl
          have hcz66_4 : wc.cell? ⟨gb188, 4, none⟩ = some (.int .u32 a0_4) := (blk_cell BK188.out 4).trans rfl
          have hfz66_0 := blk_frozen BK188.out 0
          have hfz66_1 := blk_frozen BK188.out 1
          have hfz66_2 := blk_frozen BK188.out 2
          have hfz66_3 := blk_frozen BK188.out 3
          have hfz66_4 := blk_frozen BK188.out 4
          go_wp2_with (first | ((with_reducible refine gate_callee (f := 109) rfl ?_); refine goesL_ (some 85) rfl rfl Try.func109 Z0 rfl #[.int .u32 12, .string a0_1] rfl Z11 ?_; (with_reducible refine (spec_l04Word.calls kj1 12 a0_1 t219 _ A50.out).mono ?_); rintro e w67 ⟨v220, rfl, ho0, hb⟩; refine ⟨_, rfl, ?_⟩; have HO221 := Z (Kd.R_lower ho0 (below_size Z42)); replace BK188 := Z (blk_below (g := gb188) (o := .cells #[.int .i64 a0_0, .string a0_1, .int .i32 a0_2, .bool false, .int .u32 a0_4] 51 (0, 0)) (Z10 BK188) hb); replace HB := Z (below_step Z42 hb); (try clear hb); (try clear hb2); (try clear hk); (try clear hi); (try clear ho0); obtain ⟨Ao68, co68, eo68⟩ := Kd.R_slice HO221.out; subst eo68; have hcz69_0 : w67.cell? ⟨gb188, 0, none⟩ = some (.int .i64 a0_0) := (blk_cell BK188.out 0).trans rfl; have hcz69_1 : w67.cell? ⟨gb188, 1, none⟩ = some (.string a0_1) := (blk_cell BK188.out 1).trans rfl; have hcz69_2 : w67.cell? ⟨gb188, 2, none⟩ = some (.int .i32 a0_2) := (blk_cell BK188.out 2).trans rfl; have hcz69_3 : w67.cell? ⟨gb188, 3, none⟩ = some (.bool false) := (blk_cell BK188.out 3).trans rfl; have hcz69_4 : w67.cell? ⟨gb188, 4, none⟩ = some (.int .u32 a0_4) := (blk_cell BK188.out 4).trans rfl; have hfz69_0 := blk_frozen BK188.out 0; have hfz69_1 := blk_frozen BK188.out 1; have hfz69_2 := blk_frozen BK188.out 2; have hfz69_3 := blk_frozen BK188.out 3; have hfz69_4 := blk_frozen BK188.out 4) | ((with_reducible refine gate_dst (N := 105) rfl ?_); refine Kd.R_lit (Kd.int .u32) _ 47 (by rfl) (N := 105) (by rfl) (xs := ([] : List Int)) (inner := []) (ok := fun _ => True) (okp := fun _ => True) Z8 (Reps.none _ _) (fun _ hk => hk) trivial (Below.refl _ _) (Nat.le_refl _) (by simp) ?_; intro v229 w70 ho71 hb hg_ hnew_; clear hg_ hnew_; (first | rw [← Ny228.out] at ho71 | (simp only [Int.reduceToNat] at ho71; rw [← Ny228.out] at ho71)); have HO230 := Z (Kd.R_lower (Kd.R_new' ho71 (Kd.R_lt (Z14 HO221))) (below_size Z42)); replace HO221 := Z (Kd.R_elder' (Z14 HO221) (Kd.R_base ho71) hb); replace BK188 := Z (blk_below (g := gb188) (o := .cells #[.int .i64 a0_0, .string a0_1, .int .i32 a0_2, .bool false, .int .u32 a0_4] 51 (0, 0)) (Z10 BK188) hb); replace HB := Z (below_step Z42 hb); clear hb ho71))
          go_ret
          exact ⟨_, Z13, (Z20 HO230), Z42⟩
       ·rw [if_neg c51] at H
        have c51b0 : ((t219.length : Int) == 1) = false := beq_eq_false_iff_ne.mpr c51
        have c51b1 : ((t219.length : Int) != 1) = true := bne_iff_ne.mpr c51
        obtain ⟨y231, hy231⟩ : ∃ y_ : List Int, y_ = (([] : List Int)) := ⟨_, rfl⟩
        replace H : (some y231) = some r := by first | (rw [hy231]; with_reducible exact H) | (have H2_ := (Option.bind_some _ _).symm.trans H; rw [hy231]; with_reducible exact H2_) | (have H2_ := (Option.bind_some _ _).symm.trans H; with_reducible exact H2_) | with_reducible exact H | (rw [hy231]; exact H) | exact H
        have Ny231 := Aside0.mk hy231
        clear hy231
        obtain rfl := Option.some.inj H
        have hcz72_0 : wc.cell? ⟨gb188, 0, none⟩ = some (.int .i64 a0_0) := (blk_cell BK188.out 0).trans rfl
        have hcz72_1 : wc.cell? ⟨gb188, 1, none⟩ = some (.string a0_1) := (blk_cell BK188.out 1).trans rfl
        have hcz72_2 : wc.cell? ⟨gb188, 2, none⟩ = some (.int .i32 a0_2) := (blk_cell BK188.out 2).trans rfl
        have hcz72_3 : wc.cell? ⟨gb188, 3, none⟩ = some (.bool a0_3) := (blk_cell BK188.out 3).trans rfl
        have hcz72_4 : wc.cell? ⟨gb188, 4, none⟩ = some (.int .u32 a0_4) := (blk_cell BK188.out 4).trans rfl
        have hfz72_0 := blk_frozen BK188.out 0
        have hfz72_1 := blk_frozen BK188.out 1
        have hfz72_2 := blk_frozen BK188.out 2
        have hfz72_3 := blk_frozen BK188.out 3
        have hfz72_4 := blk_frozen BK188.out 4
        go_wp2_with (first | ((with_reducible refine gate_callee (f := 109) rfl ?_); refine goesL_ (some 85) rfl rfl Try.func109 Z0 rfl #[.int .u32 12, .string a0_1] rfl Z11 ?_; (with_reducible refine (spec_l04Word.calls kj1 12 a0_1 t219 _ A50.out).mono ?_); rintro e w73 ⟨v220, rfl, ho0, hb⟩; refine ⟨_, rfl, ?_⟩; have HO221 := Z (Kd.R_lower ho0 (below_size Z42)); replace BK188 := Z (blk_below (g := gb188) (o := .cells #[.int .i64 a0_0, .string a0_1, .int .i32 a0_2, .bool a0_3, .int .u32 a0_4] 51 (0, 0)) (Z10 BK188) hb); replace HB := Z (below_step Z42 hb); (try clear hb); (try clear hb2); (try clear hk); (try clear hi); (try clear ho0); obtain ⟨Ao74, co74, eo74⟩ := Kd.R_slice HO221.out; subst eo74) | ((with_reducible refine gate_dst (N := 105) rfl ?_); refine Kd.R_lit (Kd.int .u32) _ 47 (by rfl) (N := 105) (by rfl) (xs := ([] : List Int)) (inner := []) (ok := fun _ => True) (okp := fun _ => True) Z8 (Reps.none _ _) (fun _ hk => hk) trivial (Below.refl _ _) (Nat.le_refl _) (by simp) ?_; intro v232 w75 ho76 hb hg_ hnew_; clear hg_ hnew_; (first | rw [← Ny231.out] at ho76 | (simp only [Int.reduceToNat] at ho76; rw [← Ny231.out] at ho76)); have HO233 := Z (Kd.R_lower (Kd.R_new' ho76 (Kd.R_lt (Z14 HO221))) (below_size Z42)); replace HO221 := Z (Kd.R_elder' (Z14 HO221) (Kd.R_base ho76) hb); replace BK188 := Z (blk_below (g := gb188) (o := .cells #[.int .i64 a0_0, .string a0_1, .int .i32 a0_2, .bool a0_3, .int .u32 a0_4] 51 (0, 0)) (Z10 BK188) hb); replace HB := Z (below_step Z42 hb); clear hb ho76))
        go_ret
        exact ⟨_, Z13, (Z20 HO233), Z42⟩
      ·rw [if_neg c49] at H
       have c49b0 : (a0_0 == 9) = false := beq_eq_false_iff_ne.mpr c49
       have c49b1 : (a0_0 != 9) = true := bne_iff_ne.mpr c49
       replace H := Option.bind_eq_some_iff.mp H
       obtain ⟨t234, A770, H⟩ := H
       replace H : (if t234 > 0 then (if x3_1 = true then ((spec_l04Word.f kj1 t234 a0_1).bind fun t235 => (some t235)) else (some (([] : List Int)))) else (some (([] : List Int)))) = some r := H
       have A77 := Aside0.mk A770
       clear A770
       by_cases c78 : t234 > 0
       ·rw [if_pos c78] at H
        have c78b0 : decide (0 < t234) = true := decide_eq_true c78
        clear c78
        by_cases c79 : x3_1 = true
        ·subst c79
         have H1 : ((spec_l04Word.f kj1 t234 a0_1).bind fun t235 => (some t235)) = some r := Z7
         clear H
         have H := H1
         clear H1
         replace H := Option.bind_eq_some_iff.mp H
         obtain ⟨t235, A800, H⟩ := H
         replace H : (some t235) = some r := H
         have A80 := Aside0.mk A800
         clear A800
         obtain rfl := Option.some.inj H
         have hcz81_0 : wc.cell? ⟨gb188, 0, none⟩ = some (.int .i64 a0_0) := (blk_cell BK188.out 0).trans rfl
         have hcz81_1 : wc.cell? ⟨gb188, 1, none⟩ = some (.string a0_1) := (blk_cell BK188.out 1).trans rfl
         have hcz81_2 : wc.cell? ⟨gb188, 2, none⟩ = some (.int .i32 a0_2) := (blk_cell BK188.out 2).trans rfl
         have hcz81_3 : wc.cell? ⟨gb188, 3, none⟩ = some (.bool a0_3) := (blk_cell BK188.out 3).trans rfl
         have hcz81_4 : wc.cell? ⟨gb188, 4, none⟩ = some (.int .u32 a0_4) := (blk_cell BK188.out 4).trans rfl
         have hfz81_0 := blk_frozen BK188.out 0
         have hfz81_1 := blk_frozen BK188.out 1
         have hfz81_2 := blk_frozen BK188.out 2
         have hfz81_3 := blk_frozen BK188.out 3
         have hfz81_4 := blk_frozen BK188.out 4
         go_wp2_with (first | ((with_reducible refine gate_callee (f := 110) rfl ?_); refine goesL_ (some 23) rfl rfl Try.func110 Z0 rfl #[.int .i64 a0_0] rfl Z11 ?_; (with_reducible refine (spec_l04Tag.calls a0_0 t234 _ A77.out).mono ?_); rintro e w' ⟨rfl, ⟨nd, rfl⟩⟩; refine ⟨_, rfl, ?_⟩) | ((with_reducible refine gate_callee (f := 109) rfl ?_); refine goesL_ (some 32) rfl rfl Try.func109 Z0 rfl #[.int .u32 t234, .string a0_1] rfl Z11 ?_; (with_reducible refine (spec_l04Word.calls kj1 t234 a0_1 t235 _ A80.out).mono ?_); rintro e w82 ⟨v236, rfl, ho0, hb⟩; refine ⟨_, rfl, ?_⟩; have HO237 := Z (Kd.R_lower ho0 (below_size Z42)); replace BK188 := Z (blk_below (g := gb188) (o := .cells #[.int .i64 a0_0, .string a0_1, .int .i32 a0_2, .bool a0_3, .int .u32 a0_4] 51 (0, 0)) (Z10 BK188) hb); replace HB := Z (below_step Z42 hb); (try clear hb); (try clear hb2); (try clear hk); (try clear hi); (try clear ho0)))
         go_ret
         exact ⟨_, Z13, (Z14 HO237), Z42⟩
        ·replace c79 := Bool.eq_false_iff.mpr c79
         subst c79
         have H1 : (some (([] : List Int))) = some r := by rw [if_neg (show ¬ (false = true) by decide)] at H; exact H
         clear H
         have H := H1
         clear H1
         obtain ⟨y238, hy238⟩ : ∃ y_ : List Int, y_ = (([] : List Int)) := ⟨_, rfl⟩
         replace H : (some y238) = some r := by first | (rw [hy238]; with_reducible exact H) | (have H2_ := (Option.bind_some _ _).symm.trans H; rw [hy238]; with_reducible exact H2_) | (have H2_ := (Option.bind_some _ _).symm.trans H; with_reducible exact H2_) | with_reducible exact H | (rw [hy238]; exact H) | exact H
         have Ny238 := Aside0.mk hy238
         clear hy238
         obtain rfl := Option.some.inj H
         have hcz83_0 : wc.cell? ⟨gb188, 0, none⟩ = some (.int .i64 a0_0) := (blk_cell BK188.out 0).trans rfl
         have hcz83_1 : wc.cell? ⟨gb188, 1, none⟩ = some (.string a0_1) := (blk_cell BK188.out 1).trans rfl
         have hcz83_2 : wc.cell? ⟨gb188, 2, none⟩ = some (.int .i32 a0_2) := (blk_cell BK188.out 2).trans rfl
         have hcz83_3 : wc.cell? ⟨gb188, 3, none⟩ = some (.bool a0_3) := (blk_cell BK188.out 3).trans rfl
         have hcz83_4 : wc.cell? ⟨gb188, 4, none⟩ = some (.int .u32 a0_4) := (blk_cell BK188.out 4).trans rfl
         have hfz83_0 := blk_frozen BK188.out 0
         have hfz83_1 := blk_frozen BK188.out 1
         have hfz83_2 := blk_frozen BK188.out 2
         have hfz83_3 := blk_frozen BK188.out 3
         have hfz83_4 := blk_frozen BK188.out 4
         go_wp2_with (first | ((with_reducible refine gate_callee (f := 110) rfl ?_); refine goesL_ (some 23) rfl rfl Try.func110 Z0 rfl #[.int .i64 a0_0] rfl Z11 ?_; (with_reducible refine (spec_l04Tag.calls a0_0 t234 _ A77.out).mono ?_); rintro e w' ⟨rfl, ⟨nd, rfl⟩⟩; refine ⟨_, rfl, ?_⟩) | ((with_reducible refine gate_dst (N := 105) rfl ?_); refine Kd.R_lit (Kd.int .u32) _ 47 (by rfl) (N := 105) (by rfl) (xs := ([] : List Int)) (inner := []) (ok := fun _ => True) (okp := fun _ => True) Z8 (Reps.none _ _) (fun _ hk => hk) trivial (Below.refl _ _) (Nat.le_refl _) (by simp) ?_; intro v239 w84 ho85 hb hg_ hnew_; clear hg_ hnew_; (first | rw [← Ny238.out] at ho85 | (simp only [Int.reduceToNat] at ho85; rw [← Ny238.out] at ho85)); have HO240 := Z (Kd.R_lower ho85 (below_size Z42)); replace BK188 := Z (blk_below (g := gb188) (o := .cells #[.int .i64 a0_0, .string a0_1, .int .i32 a0_2, .bool a0_3, .int .u32 a0_4] 51 (0, 0)) (Z10 BK188) hb); replace HB := Z (below_step Z42 hb); clear hb ho85))
         go_ret
         exact ⟨_, Z13, (Z14 HO240), Z42⟩
       ·rw [if_neg c78] at H
        have c78b0 : decide (0 < t234) = false := decide_eq_false c78
        clear c78
        obtain ⟨y241, hy241⟩ : ∃ y_ : List Int, y_ = (([] : List Int)) := ⟨_, rfl⟩
        replace H : (some y241) = some r := by first | (rw [hy241]; with_reducible exact H) | (have H2_ := (Option.bind_some _ _).symm.trans H; rw [hy241]; with_reducible exact H2_) | (have H2_ := (Option.bind_some _ _).symm.trans H; with_reducible exact H2_) | with_reducible exact H | (rw [hy241]; exact H) | exact H
        have Ny241 := Aside0.mk hy241
        clear hy241
        obtain rfl := Option.some.inj H
        have hcz86_0 : wc.cell? ⟨gb188, 0, none⟩ = some (.int .i64 a0_0) := (blk_cell BK188.out 0).trans rfl
        have hcz86_1 : wc.cell? ⟨gb188, 1, none⟩ = some (.string a0_1) := (blk_cell BK188.out 1).trans rfl
        have hcz86_2 : wc.cell? ⟨gb188, 2, none⟩ = some (.int .i32 a0_2) := (blk_cell BK188.out 2).trans rfl
        have hcz86_3 : wc.cell? ⟨gb188, 3, none⟩ = some (.bool a0_3) := (blk_cell BK188.out 3).trans rfl
        have hcz86_4 : wc.cell? ⟨gb188, 4, none⟩ = some (.int .u32 a0_4) := (blk_cell BK188.out 4).trans rfl
        have hfz86_0 := blk_frozen BK188.out 0
        have hfz86_1 := blk_frozen BK188.out 1
        have hfz86_2 := blk_frozen BK188.out 2
        have hfz86_3 := blk_frozen BK188.out 3
        have hfz86_4 := blk_frozen BK188.out 4
        go_wp2_with (first | ((with_reducible refine gate_callee (f := 110) rfl ?_); refine goesL_ (some 23) rfl rfl Try.func110 Z0 rfl #[.int .i64 a0_0] rfl Z11 ?_; (with_reducible refine (spec_l04Tag.calls a0_0 t234 _ A77.out).mono ?_); rintro e w' ⟨rfl, ⟨nd, rfl⟩⟩; refine ⟨_, rfl, ?_⟩) | ((with_reducible refine gate_dst (N := 105) rfl ?_); refine Kd.R_lit (Kd.int .u32) _ 47 (by rfl) (N := 105) (by rfl) (xs := ([] : List Int)) (inner := []) (ok := fun _ => True) (okp := fun _ => True) Z8 (Reps.none _ _) (fun _ hk => hk) trivial (Below.refl _ _) (Nat.le_refl _) (by simp) ?_; intro v242 w87 ho88 hb hg_ hnew_; clear hg_ hnew_; (first | rw [← Ny241.out] at ho88 | (simp only [Int.reduceToNat] at ho88; rw [← Ny241.out] at ho88)); have HO243 := Z (Kd.R_lower ho88 (below_size Z42)); replace BK188 := Z (blk_below (g := gb188) (o := .cells #[.int .i64 a0_0, .string a0_1, .int .i32 a0_2, .bool a0_3, .int .u32 a0_4] 51 (0, 0)) (Z10 BK188) hb); replace HB := Z (below_step Z42 hb); clear hb ho88))
        go_ret
        exact ⟨_, Z13, (Z14 HO243), Z42⟩

/-! ### spec_Unparse: function 80 -/
def spec_Unparse.l0 : Nat → List (S51) → List Int → Int → Option (List Int × Bool)
 | 0, _, _, _ => none
 | k + 1, x0, x4, x5 => if x5 < (x0.length : Int) then (if 0 ≤ x5 then ((spec_CellsOf.f k ((rd_T51 x0 x5).f0) ((rd_T51 x0 x5).f1) ((rd_T51 x0 x5).f2) ((rd_T51 x0 x5).f3) ((rd_T51 x0 x5).f4)).bind fun t248 => (if (t248.length : Int) = 0 then (some ((([] : List Int)), false)) else (if (wrap64 ((x4.length : Int) + (t248.length : Int))) > 64 then (some ((([] : List Int)), false)) else (if x4.length + t248.length < 35184372088832 then (spec_Unparse.l0 k x0 (x4 ++ t248) (wrap64 (x5 + 1))) else (none))))) else (none)) else (some (x4, true))
def spec_Unparse.f (k : Nat) (l0 : List (S51)) : Option (List Int × Bool) := spec_Unparse.l0 k l0 (([] : List Int)) 0
theorem spec_Unparse.mono_l : ∀ k, (∀ y0 y1 y2, LeO (spec_Unparse.l0 k y0 y1 y2) (spec_Unparse.l0 (k + 1) y0 y1 y2))
 | 0 => fun _ _ _ r h => by simp [spec_Unparse.l0] at h
 | k + 1 => by
  have ih0 := spec_Unparse.mono_l k
  ·intro y0 y1 y2
   unfold spec_Unparse.l0
   repeat' first
   | (with_reducible exact ih0 _ _ _)
   | (with_reducible exact spec_CellsOf.mono _ _ _ _ _ _)
   | (with_reducible exact LeO.refl _)
   | (with_reducible exact LeO.none _)
   | (with_reducible refine LeO.ite ?_ ?_)
   | (with_reducible refine LeO.bind ?_ (fun _ => ?_))
   | exact ih0 _ _ _
   | exact spec_CellsOf.mono _ _ _ _ _ _
   | exact LeO.none _
   | refine LeO.ite ?_ ?_
   | refine LeO.bind ?_ (fun _ => ?_)
theorem spec_Unparse.mono : ∀ a0 k, LeO (spec_Unparse.f k a0) (spec_Unparse.f (k + 1) a0) := by
 intro a0 k
 have ih0 := spec_Unparse.mono_l k
 unfold spec_Unparse.f
 repeat' first
   | (with_reducible exact ih0 _ _ _)
   | (with_reducible exact spec_CellsOf.mono _ _ _ _ _ _)
   | (with_reducible exact LeO.refl _)
   | (with_reducible exact LeO.none _)
   | (with_reducible refine LeO.ite ?_ ?_)
   | (with_reducible refine LeO.bind ?_ (fun _ => ?_))
   | exact ih0 _ _ _
   | exact spec_CellsOf.mono _ _ _ _ _ _
   | exact LeO.none _
   | refine LeO.ite ?_ ?_
   | refine LeO.bind ?_ (fun _ => ?_)
set_option maxHeartbeats 8000000 in
set_option maxRecDepth 100000 in
theorem spec_Unparse.calls (k : Nat) (A0 : Option Addr) (c0 : Nat) (l0 : List (S51)) (r1 : List Int) (r2 : Bool) (w : World) (hr0 : Kd.C k51 w A0 l0.length l0) (hc0 : l0.length ≤ c0) (h : spec_Unparse.f k l0 = some (r1, r2)) :
  Calls Try.prog 80 #[.slice A0 l0.length c0] w fun e w' => ∃ v0_ : Value, e = .returned (.tuple #[v0_, .bool r2]) ∧ Kd.R (Kd.int .u32) 47 w' w.heap.size (fun _ => True) v0_ r1 ∧ Below w.heap.size w w' := by
 have hu51 := Try.underlying51
 have HR0 := Aside0.mk hr0
 have HC0 := Aside0.mk hc0
 clear hr0 hc0
 have HB := Z (Below.refl w.heap.size w)
 have H : (spec_Unparse.l0 k l0 (([] : List Int)) 0) = some (r1, r2) := h
 clear h
 obtain ⟨y244, hy244⟩ : ∃ y_ : List Int, y_ = (([] : List Int)) := ⟨_, rfl⟩
 replace H : (spec_Unparse.l0 k l0 y244 0) = some (r1, r2) := by first | (rw [hy244]; with_reducible exact H) | (have H2_ := (Option.bind_some _ _).symm.trans H; rw [hy244]; with_reducible exact H2_) | (have H2_ := (Option.bind_some _ _).symm.trans H; with_reducible exact H2_) | with_reducible exact H | (rw [hy244]; exact H) | exact H
 have Ny244 := Aside0.mk hy244
 clear hy244
 have H' := Aside0.mk H
 clear H
 go_enter Try.func80, Try.ntmps80
 go_wp2_with (first | ((with_reducible refine gate_dst (N := 7) rfl ?_); (try (refine gate_guard (by rfl) ?_; dsimp only)); refine Kd.R_lit (Kd.int .u32) _ 47 (by rfl) (N := 7) (by rfl) (xs := ([] : List Int)) (inner := []) (ok := fun _ => True) (okp := fun _ => True) Z8 (Reps.none _ _) (fun _ hk => hk) trivial (Below.refl _ _) (Nat.le_refl _) (by simp) ?_; intro v245 w2 ho3 hb hg_ hnew_; clear hg_ hnew_; (first | rw [← Ny244.out] at ho3 | (simp only [Int.reduceToNat] at ho3; rw [← Ny244.out] at ho3)); have HO246 := Z (Kd.R_lower ho3 (below_size Z42)); replace HB := Z (below_step Z42 hb); clear hb ho3))
 go_loopg [4, 5] k (fun kq v4 v5 w' => ∃ (x4_1 : List Int) (x5_1 : Int), v5 = .int .i64 x5_1 ∧ Aside0 (spec_Unparse.l0 kq l0 x4_1 x5_1 = some (r1, r2)) ∧ Aside0 (kq ≤ k) ∧ Aside0 (Kd.R (Kd.int .u32) 47 w' w.heap.size (fun _ => True) v4 x4_1) ∧ Aside0 (Below w.heap.size w w'))
 case atStart => exact ⟨(y244), (0), Z3, H', ⟨Nat.le_refl _⟩, ⟨(Z14 HO246)⟩, ⟨Z42⟩⟩
 case round =>
  clear H'
  try clear p2
  obtain ⟨x4_1, x5_1, rfl, HA, HK1, HO_4, HB⟩ := hrel
  cases gk with
  | zero => exact absurd HA.out (by simp [spec_Unparse.l0])
  | succ k1 =>
   have H := HA.out
   clear HA
   simp only [spec_Unparse.l0] at H
   by_cases c4 : x5_1 < (l0.length : Int)
   ·rw [if_pos c4] at H
    have c4b0 : decide (x5_1 < (l0.length : Int)) = true := decide_eq_true c4
    clear c4
    by_cases c5 : 0 ≤ x5_1
    ·rw [if_pos c5] at H
     have c5b0 : decide (0 ≤ x5_1) = true := decide_eq_true c5
     clear c5
     replace H := Option.bind_eq_some_iff.mp H
     obtain ⟨t248, A60, H⟩ := H
     replace H : (if (t248.length : Int) = 0 then (some ((([] : List Int)), false)) else (if (wrap64 ((x4_1.length : Int) + (t248.length : Int))) > 64 then (some ((([] : List Int)), false)) else (if x4_1.length + t248.length < 35184372088832 then (spec_Unparse.l0 k1 l0 (x4_1 ++ t248) (wrap64 (x5_1 + 1))) else (none)))) = some (r1, r2) := H
     have A6 := Aside0.mk A60
     clear A60
     by_cases c7 : (t248.length : Int) = 0
     ·rw [if_pos c7] at H
      have c7b0 : ((t248.length : Int) == 0) = true := beq_iff_eq.mpr c7
      have c7b1 : ((t248.length : Int) != 0) = false := bne_eq_false_iff_eq.mpr c7
      clear c7
      obtain ⟨y251, hy251⟩ : ∃ y_ : List Int, y_ = (([] : List Int)) := ⟨_, rfl⟩
      replace H : (some (y251, false)) = some (r1, r2) := by first | (rw [hy251]; with_reducible exact H) | (have H2_ := (Option.bind_some _ _).symm.trans H; rw [hy251]; with_reducible exact H2_) | (have H2_ := (Option.bind_some _ _).symm.trans H; with_reducible exact H2_) | with_reducible exact H | (rw [hy251]; exact H) | exact H
      have Ny251 := Aside0.mk hy251
      clear hy251
      simp only [Option.some.injEq, Prod.mk.injEq] at H
      obtain ⟨rfl, rfl⟩ := H
      have p247 : 0 ≤ (x5_1 : Int) := of_decide_eq_true Z5
      have q247 : x5_1 < (l0.length : Int) := of_decide_eq_true Z5
      obtain ⟨ad247, e247, hx247_0, hx247_1, hx247_2, hx247_3, hx247_4⟩ := at_T51 HR0.out x5_1 p247 q247
      cases e247
      replace hx247_0 := (HB.out.cell (World.block_lt_of_cell? w _ hx247_0)).trans hx247_0
      replace hx247_1 := (HB.out.cell (World.block_lt_of_cell? w _ hx247_1)).trans hx247_1
      replace hx247_2 := (HB.out.cell (World.block_lt_of_cell? w _ hx247_2)).trans hx247_2
      replace hx247_3 := (HB.out.cell (World.block_lt_of_cell? w _ hx247_3)).trans hx247_3
      replace hx247_4 := (HB.out.cell (World.block_lt_of_cell? w _ hx247_4)).trans hx247_4
      replace p247 := eq_true p247
      replace q247 := eq_true q247
      go_wp2_with (first | ((with_reducible refine gate_callee (f := 83) rfl ?_); refine goesL_ (some 18) rfl rfl Try.func83 Z0 rfl #[.agg #[.int .i64 ((rd_T51 l0 x5_1).f0), .string ((rd_T51 l0 x5_1).f1), .int .i32 ((rd_T51 l0 x5_1).f2), .bool ((rd_T51 l0 x5_1).f3), .int .u32 ((rd_T51 l0 x5_1).f4)]] rfl Z11 ?_; (with_reducible refine (spec_CellsOf.calls k1 ((rd_T51 l0 x5_1).f0) ((rd_T51 l0 x5_1).f1) ((rd_T51 l0 x5_1).f2) ((rd_T51 l0 x5_1).f3) ((rd_T51 l0 x5_1).f4) t248 _ A6.out).mono ?_); rintro e w8 ⟨v249, rfl, ho0, hb⟩; refine ⟨_, rfl, ?_⟩; have HO250 := Z (Kd.R_lower (Kd.R_new' ho0 (Kd.R_lt (Z14 HO_4))) (below_size Z42)); replace HO_4 := Z (Kd.R_elder' (Z14 HO_4) (Kd.R_base ho0) hb); replace HB := Z (below_step Z42 hb); (try clear hb); (try clear hb2); (try clear hk); (try clear hi); (try clear ho0); obtain ⟨Ao9, co9, eo9⟩ := Kd.R_slice HO250.out; subst eo9) | ((with_reducible refine gate_dst (N := 30) rfl ?_); (try (refine gate_guard (by rfl) ?_; dsimp only)); refine Kd.R_lit (Kd.int .u32) _ 47 (by rfl) (N := 30) (by rfl) (xs := ([] : List Int)) (inner := []) (ok := fun _ => True) (okp := fun _ => True) Z8 (Reps.none _ _) (fun _ hk => hk) trivial (Below.refl _ _) (Nat.le_refl _) (by simp) ?_; intro v252 w10 ho11 hb hg_ hnew_; clear hg_ hnew_; (first | rw [← Ny251.out] at ho11 | (simp only [Int.reduceToNat] at ho11; rw [← Ny251.out] at ho11)); have HO253 := Z (Kd.R_lower (Kd.R_new' (Kd.R_new' ho11 (Kd.R_lt (Z14 HO_4))) (Kd.R_lt (Z14 HO250))) (below_size Z42)); replace HO_4 := Z (Kd.R_elder' (Z14 HO_4) (Kd.R_base ho11) hb); replace HO250 := Z (Kd.R_elder' (Z14 HO250) (Kd.R_base ho11) hb); replace HB := Z (below_step Z42 hb); clear hb ho11))
      go_ret2
      exact ⟨_, Z13, (Z20 HO253), Z42⟩
     ·rw [if_neg c7] at H
      have c7b0 : ((t248.length : Int) == 0) = false := beq_eq_false_iff_ne.mpr c7
      have c7b1 : ((t248.length : Int) != 0) = true := bne_iff_ne.mpr c7
      have c7b2 : ¬ (t248 = []) := fun h_ => c7 (by rw [h_]; rfl)
      by_cases c12 : (wrap64 ((x4_1.length : Int) + (t248.length : Int))) > 64
      ·rw [if_pos c12] at H
       have c12b0 : decide (64 < (wrap64 ((x4_1.length : Int) + (t248.length : Int)))) = true := decide_eq_true c12
       clear c12
       obtain ⟨y254, hy254⟩ : ∃ y_ : List Int, y_ = (([] : List Int)) := ⟨_, rfl⟩
       replace H : (some (y254, false)) = some (r1, r2) := by first | (rw [hy254]; with_reducible exact H) | (have H2_ := (Option.bind_some _ _).symm.trans H; rw [hy254]; with_reducible exact H2_) | (have H2_ := (Option.bind_some _ _).symm.trans H; with_reducible exact H2_) | with_reducible exact H | (rw [hy254]; exact H) | exact H
       have Ny254 := Aside0.mk hy254
       clear hy254
       simp only [Option.some.injEq, Prod.mk.injEq] at H
       obtain ⟨rfl, rfl⟩ := H
       have p247 : 0 ≤ (x5_1 : Int) := of_decide_eq_true Z5
       have q247 : x5_1 < (l0.length : Int) := of_decide_eq_true Z5
       obtain ⟨ad247, e247, hx247_0, hx247_1, hx247_2, hx247_3, hx247_4⟩ := at_T51 HR0.out x5_1 p247 q247
       cases e247
       replace hx247_0 := (HB.out.cell (World.block_lt_of_cell? w _ hx247_0)).trans hx247_0
       replace hx247_1 := (HB.out.cell (World.block_lt_of_cell? w _ hx247_1)).trans hx247_1
       replace hx247_2 := (HB.out.cell (World.block_lt_of_cell? w _ hx247_2)).trans hx247_2
       replace hx247_3 := (HB.out.cell (World.block_lt_of_cell? w _ hx247_3)).trans hx247_3
       replace hx247_4 := (HB.out.cell (World.block_lt_of_cell? w _ hx247_4)).trans hx247_4
       replace p247 := eq_true p247
       replace q247 := eq_true q247
       go_wp2_with (first | ((with_reducible refine gate_callee (f := 83) rfl ?_); refine goesL_ (some 18) rfl rfl Try.func83 Z0 rfl #[.agg #[.int .i64 ((rd_T51 l0 x5_1).f0), .string ((rd_T51 l0 x5_1).f1), .int .i32 ((rd_T51 l0 x5_1).f2), .bool ((rd_T51 l0 x5_1).f3), .int .u32 ((rd_T51 l0 x5_1).f4)]] rfl Z11 ?_; (with_reducible refine (spec_CellsOf.calls k1 ((rd_T51 l0 x5_1).f0) ((rd_T51 l0 x5_1).f1) ((rd_T51 l0 x5_1).f2) ((rd_T51 l0 x5_1).f3) ((rd_T51 l0 x5_1).f4) t248 _ A6.out).mono ?_); rintro e w13 ⟨v249, rfl, ho0, hb⟩; refine ⟨_, rfl, ?_⟩; have HO250 := Z (Kd.R_lower (Kd.R_new' ho0 (Kd.R_lt (Z14 HO_4))) (below_size Z42)); replace HO_4 := Z (Kd.R_elder' (Z14 HO_4) (Kd.R_base ho0) hb); replace HB := Z (below_step Z42 hb); (try clear hb); (try clear hb2); (try clear hk); (try clear hi); (try clear ho0); obtain ⟨Ao14, co14, eo14⟩ := Kd.R_slice HO250.out; subst eo14; obtain ⟨Ao15, co15, eo15⟩ := Kd.R_slice HO_4.out; subst eo15) | ((with_reducible refine gate_dst (N := 30) rfl ?_); (try (refine gate_guard (by rfl) ?_; dsimp only)); refine Kd.R_lit (Kd.int .u32) _ 47 (by rfl) (N := 30) (by rfl) (xs := ([] : List Int)) (inner := []) (ok := fun _ => True) (okp := fun _ => True) Z8 (Reps.none _ _) (fun _ hk => hk) trivial (Below.refl _ _) (Nat.le_refl _) (by simp) ?_; intro v255 w16 ho17 hb hg_ hnew_; clear hg_ hnew_; (first | rw [← Ny254.out] at ho17 | (simp only [Int.reduceToNat] at ho17; rw [← Ny254.out] at ho17)); have HO256 := Z (Kd.R_lower (Kd.R_new' (Kd.R_new' ho17 (Kd.R_lt (Z14 HO_4))) (Kd.R_lt (Z14 HO250))) (below_size Z42)); replace HO_4 := Z (Kd.R_elder' (Z14 HO_4) (Kd.R_base ho17) hb); replace HO250 := Z (Kd.R_elder' (Z14 HO250) (Kd.R_base ho17) hb); replace HB := Z (below_step Z42 hb); clear hb ho17))
       go_ret2
       exact ⟨_, Z13, (Z20 HO256), Z42⟩
      ·rw [if_neg c12] at H
       have c12b0 : decide (64 < (wrap64 ((x4_1.length : Int) + (t248.length : Int)))) = false := decide_eq_false c12
       clear c12
       by_cases c18 : x4_1.length + t248.length < 35184372088832
       ·rw [if_pos c18] at H
        have LMc18 := Aside0.mk c18
        clear c18
        obtain ⟨y257, hy257⟩ : ∃ y_ : List Int, y_ = (x4_1 ++ t248) := ⟨_, rfl⟩
        replace H : (spec_Unparse.l0 k1 l0 y257 (wrap64 (x5_1 + 1))) = some (r1, r2) := by first | (rw [hy257]; with_reducible exact H) | (have H2_ := (Option.bind_some _ _).symm.trans H; rw [hy257]; with_reducible exact H2_) | (have H2_ := (Option.bind_some _ _).symm.trans H; with_reducible exact H2_) | with_reducible exact H | (rw [hy257]; exact H) | exact H
        have Ny257 := Aside0.mk hy257
        clear hy257
        have H' := Aside0.mk H
        clear H
        have p247 : 0 ≤ (x5_1 : Int) := of_decide_eq_true Z5
        have q247 : x5_1 < (l0.length : Int) := of_decide_eq_true Z5
        obtain ⟨ad247, e247, hx247_0, hx247_1, hx247_2, hx247_3, hx247_4⟩ := at_T51 HR0.out x5_1 p247 q247
        cases e247
        replace hx247_0 := (HB.out.cell (World.block_lt_of_cell? w _ hx247_0)).trans hx247_0
        replace hx247_1 := (HB.out.cell (World.block_lt_of_cell? w _ hx247_1)).trans hx247_1
        replace hx247_2 := (HB.out.cell (World.block_lt_of_cell? w _ hx247_2)).trans hx247_2
        replace hx247_3 := (HB.out.cell (World.block_lt_of_cell? w _ hx247_3)).trans hx247_3
        replace hx247_4 := (HB.out.cell (World.block_lt_of_cell? w _ hx247_4)).trans hx247_4
        replace p247 := eq_true p247
        replace q247 := eq_true q247
        go_wp2_with (first | ((with_reducible refine gate_callee (f := 83) rfl ?_); refine goesL_ (some 18) rfl rfl Try.func83 Z0 rfl #[.agg #[.int .i64 ((rd_T51 l0 x5_1).f0), .string ((rd_T51 l0 x5_1).f1), .int .i32 ((rd_T51 l0 x5_1).f2), .bool ((rd_T51 l0 x5_1).f3), .int .u32 ((rd_T51 l0 x5_1).f4)]] rfl Z11 ?_; (with_reducible refine (spec_CellsOf.calls k1 ((rd_T51 l0 x5_1).f0) ((rd_T51 l0 x5_1).f1) ((rd_T51 l0 x5_1).f2) ((rd_T51 l0 x5_1).f3) ((rd_T51 l0 x5_1).f4) t248 _ A6.out).mono ?_); rintro e w19 ⟨v249, rfl, ho0, hb⟩; refine ⟨_, rfl, ?_⟩; have HO250 := Z (Kd.R_lower (Kd.R_new' ho0 (Kd.R_lt (Z14 HO_4))) (below_size Z42)); replace HO_4 := Z (Kd.R_elder' (Z14 HO_4) (Kd.R_base ho0) hb); replace HB := Z (below_step Z42 hb); (try clear hb); (try clear hb2); (try clear hk); (try clear hi); (try clear ho0); obtain ⟨Ao20, co20, eo20⟩ := Kd.R_slice HO250.out; subst eo20; obtain ⟨Ao21, co21, eo21⟩ := Kd.R_slice HO_4.out; subst eo21) | ((with_reducible refine gate_builtin (b := .append) (xs := #[.tmp 31, .tmp 32]) rfl ?_); (try (refine gate_guard (by rfl) ?_; dsimp only)); at_builtin; refine Kd.R_append_rows (Kd.int .u32) (w0 := w) w.heap.size rfl (.tmp 31) (.tmp 32) 24 47 (.int .u32 0) 4 rfl Try.underlying24 info47 rfl (by decide) (by omega) (.slice Ao21 x4_1.length co21) x4_1 t248 _ _ _ (fun k_ => some k_ ≠ (.slice Ao20 t248.length co20 : Value).ownBlock) (fun _ => False) rfl rfl ?aO ?aR (fun _ _ h => h) (fun _ h => h.elim) ?aF ?aB ?aS ?aL ?_; (case aR => exact (Z21 HO250)); (case aB => exact Z42); (case aF => exact (fun k_ hk => Kd.fresh' (Kd.R_lt (Z14 HO250)) k_ hk)); (case aO => exact (Z22 HO_4)); (case aS => exact (below_size Z42)); (case aL => have := LMc18.out; omega); intro v258 w22 ho hb hg hat; rw [← Ny257.out] at ho; replace HO250 := Z (Kd.R_after (ok := (fun _ => True)) (Z14 HO250) hg hat); replace HB := Z (hb); have HO259 := Z (ho); clear HO_4; clear ho hb hg hat))
        go_roundg k1
        case measure => have := HK1.out; omega
        case rel => exact ⟨(y257), (wrap64 (x5_1 + 1)), Z3, H', ⟨Z6⟩, ⟨(Z20 HO259)⟩, ⟨Z42⟩⟩
       ·rw [if_neg c18] at H
        exact absurd H (by simp)
    ·rw [if_neg c5] at H
     exact absurd H (by simp)
   ·rw [if_neg c4] at H
    have c4b0 : decide (x5_1 < (l0.length : Int)) = false := decide_eq_false c4
    clear c4
    simp only [Option.some.injEq, Prod.mk.injEq] at H
    obtain ⟨rfl, rfl⟩ := H
    go_wp2
    go_ret2
    exact ⟨_, Z13, (Z14 HO_4), Z42⟩

/-! ### spec_PutItems: function 45 -/
def spec_PutItems.f (k : Nat) (l0_0 : List Int) (a1 : Int) (l2 : List (S51)) : Option (List Int × Bool) := (spec_Unparse.f k l2).bind fun bt262 => (if bt262.2 = true then ((spec_PutBlock.f k l0_0 a1 bt262.1).bind fun bt266 => (some (bt266.1, bt266.2))) else (some (([] : List Int), false)))
theorem spec_PutItems.mono : ∀ a0 a1 a2 k, LeO (spec_PutItems.f k a0 a1 a2) (spec_PutItems.f (k + 1) a0 a1 a2) := by
 intro a0 a1 a2 k
 unfold spec_PutItems.f
 repeat' first
   | (with_reducible exact spec_PutBlock.mono _ _ _ _)
   | (with_reducible exact spec_Unparse.mono _ _)
   | (with_reducible exact LeO.refl _)
   | (with_reducible exact LeO.none _)
   | (with_reducible refine LeO.ite ?_ ?_)
   | (with_reducible refine LeO.bind ?_ (fun _ => ?_))
   | exact spec_PutBlock.mono _ _ _ _
   | exact spec_Unparse.mono _ _
   | exact LeO.none _
   | refine LeO.ite ?_ ?_
   | refine LeO.bind ?_ (fun _ => ?_)
set_option maxHeartbeats 8000000 in
set_option maxRecDepth 100000 in
theorem spec_PutItems.calls (k : Nat) (A0_0 : Option Addr) (c0_0 : Nat) (l0_0 : List Int) (a1 : Int) (A2 : Option Addr) (c2 : Nat) (l2 : List (S51)) (r1 : List Int) (r2 : Bool) (w : World) (hr0_0 : Kd.C (Kd.int .u32) w A0_0 l0_0.length l0_0) (hc0_0 : l0_0.length ≤ c0_0) (hr2 : Kd.C k51 w A2 l2.length l2) (hc2 : l2.length ≤ c2) (h : spec_PutItems.f k l0_0 a1 l2 = some (r1, r2)) :
  Calls Try.prog 45 #[.agg #[.slice A0_0 l0_0.length c0_0], .int .i64 a1, .slice A2 l2.length c2] w fun e w' => ∃ v0_ : Value, e = .returned (.tuple #[.agg #[v0_], .bool r2]) ∧ Kd.R (Kd.int .u32) 47 w' w.heap.size (fun _ => True) v0_ r1 ∧ Below w.heap.size w w' := by
 have hu34 := Try.underlying34
 have HR0_0 := Aside0.mk hr0_0
 have HC0_0 := Aside0.mk hc0_0
 clear hr0_0 hc0_0
 have HR2 := Aside0.mk hr2
 have HC2 := Aside0.mk hc2
 clear hr2 hc2
 have HB := Z (Below.refl w.heap.size w)
 have H : ((spec_Unparse.f k l2).bind fun bt262 => (if bt262.2 = true then ((spec_PutBlock.f k l0_0 a1 bt262.1).bind fun bt266 => (some (bt266.1, bt266.2))) else (some (([] : List Int), false)))) = some (r1, r2) := h
 clear h
 replace H := Option.bind_eq_some_iff.mp H
 obtain ⟨⟨t262, t263⟩, A40, H⟩ := H
 replace H : (if t263 = true then ((spec_PutBlock.f k l0_0 a1 t262).bind fun bt266 => (some (bt266.1, bt266.2))) else (some (([] : List Int), false))) = some (r1, r2) := H
 have A4 := Aside0.mk A40
 clear A40
 by_cases c5 : t263 = true
 ·subst c5
  have H1 : ((spec_PutBlock.f k l0_0 a1 t262).bind fun bt266 => (some (bt266.1, bt266.2))) = some (r1, r2) := Z7
  clear H
  have H := H1
  clear H1
  replace H := Option.bind_eq_some_iff.mp H
  obtain ⟨⟨t266, t269⟩, A60, H⟩ := H
  replace H : (some (t266, t269)) = some (r1, r2) := H
  have A6 := Aside0.mk A60
  clear A60
  simp only [Option.some.injEq, Prod.mk.injEq] at H
  obtain ⟨rfl, rfl⟩ := H
  go_enter Try.func45, Try.ntmps45
  go_wp2_with (first | ((with_reducible refine gate_dst (N := 3) rfl ?_); refine box_event (by rfl) (N := 3) (by rfl) (cs := #[.slice A0_0 l0_0.length c0_0]) (t := 34) Z8 ?_; intro gb260 hg w7 hbox hb; have BK260 := Z (hbox); have GW260 := Z ((Z63 : w.heap.size ≤ gb260)); have GE260 := Z ((Z63 : w.heap.size ≤ gb260)); replace HB := Z (below_step Z42 hb); clear hb hbox hg) | ((with_reducible refine gate_dst (N := 6) rfl ?_); refine box_event (by rfl) (N := 6) (by rfl) (cs := #[.slice none 0 0]) (t := 34) Z8 ?_; intro gb261 hg w8 hbox hb; have BK261 := Z (hbox); have GW261 := Z ((Z63 : w.heap.size ≤ gb261)); have GE261 := Z ((Z63 : w.heap.size ≤ gb261)); replace HB := Z (below_step Z42 hb); have NB260_261 := Z ((Z47 : gb260 ≠ gb261)); have NB261_260 := Z ((Z48 : gb261 ≠ gb260)); replace BK260 := Z (blk_below (g := gb260) (o := .cells #[.slice A0_0 l0_0.length c0_0] 34 (0, 0)) (Z10 BK260) hb); clear hb hbox hg) | ((with_reducible refine gate_callee (f := 80) rfl ?_); refine goesL_ (some 12) rfl rfl Try.func80 Z0 rfl #[.slice A2 l2.length c2] rfl Z11 ?_; (with_reducible refine (spec_Unparse.calls k _ _ l2 t262 true _ ?side1 ?side2 A4.out).mono ?_); (case side1 => exact (Z12 HR2)); (case side2 => exact HC2.out); rintro e w9 ⟨v264, rfl, ho0, hb⟩; refine ⟨_, rfl, ?_⟩; have HO265 := Z (Kd.R_lower ho0 (below_size Z42)); replace BK260 := Z (blk_below (g := gb260) (o := .cells #[.slice A0_0 l0_0.length c0_0] 34 (0, 0)) (Z10 BK260) hb); replace BK261 := Z (blk_below (g := gb261) (o := .cells #[.slice none 0 0] 34 (0, 0)) (Z10 BK261) hb); replace HB := Z (below_step Z42 hb); (try clear hb); (try clear hb2); (try clear hk); (try clear hi); (try clear ho0); have hnb10 := NB260_261.out; have hnc10 := NB261_260.out; have hcz11_0 : w9.cell? ⟨gb260, 0, none⟩ = some (.slice A0_0 l0_0.length c0_0) := (blk_cell BK260.out 0).trans rfl; have hfz11_0 := blk_frozen BK260.out 0; obtain ⟨Ao12, co12, eo12⟩ := Kd.R_slice HO265.out; subst eo12) | ((with_reducible refine gate_callee (f := 40) rfl ?_); refine goesL_ (some 21) rfl rfl Try.func40 Z0 rfl #[.agg #[.slice A0_0 l0_0.length c0_0], .int .i64 a1, .slice Ao12 t262.length co12] rfl Z11 ?_; (with_reducible refine (spec_PutBlock.calls k _ _ l0_0 a1 _ _ t262 t266 t269 _ ?side1 ?side2 ?side3 ?side4 A6.out).mono ?_); (case side1 => exact (Z12 HR0_0)); (case side2 => exact HC0_0.out); (case side3 => exact (Z21 HO265)); (case side4 => exact (Kd.R_reads' HO265.out).2.1); rintro e w13 ⟨v267, rfl, ho0, hb⟩; refine ⟨_, rfl, ?_⟩; have HO268 := Z (Kd.R_lower (Kd.R_new' ho0 (Kd.R_lt (Z14 HO265))) (below_size Z42)); replace HO265 := Z (Kd.R_elder' (Z14 HO265) (Kd.R_base ho0) hb); replace BK260 := Z (blk_below (g := gb260) (o := .cells #[.slice A0_0 l0_0.length c0_0] 34 (0, 0)) (Z10 BK260) hb); replace BK261 := Z (blk_below (g := gb261) (o := .cells #[.slice none 0 0] 34 (0, 0)) (Z10 BK261) hb); replace HB := Z (below_step Z42 hb); (try clear hb); (try clear hb2); (try clear hk); (try clear hi); (try clear ho0); obtain ⟨Ao14, co14, eo14⟩ := Kd.R_slice HO268.out; subst eo14; have hcz15_0 : w13.cell? ⟨gb261, 0, none⟩ = some (.slice none 0 0) := (blk_cell BK261.out 0).trans rfl; have hfz15_0 := blk_frozen BK261.out 0))
  refine bodyPost_ret (results_ct rfl _ _ gb261 34 #[.slice Ao14 t266.length co14] (0, 0) _ rfl (Z18 BK261) Try.underlying34 rfl Z0) rfl ?_
  exact ⟨_, Z13, by (with_reducible repeat (first | apply Kd.R_alloc | apply Kd.R_drewN | apply Kd.R_drew)); exact Kd.R_mono (Kd.R_far (p := ⟨gb261, 0, none⟩) (Kd.R_types HO268.out BK261.out (by decide)) (fun _ hk => hk.2) (.slice Ao14 t266.length co14)) (fun _ hk => trivial), Z42⟩
 ·replace c5 := Bool.eq_false_iff.mpr c5
  subst c5
  have H1 : (some (([] : List Int), false)) = some (r1, r2) := by rw [if_neg (show ¬ (false = true) by decide)] at H; exact H
  clear H
  have H := H1
  clear H1
  simp only [Option.some.injEq, Prod.mk.injEq] at H
  obtain ⟨rfl, rfl⟩ := H
  go_enter Try.func45, Try.ntmps45
  go_wp2_with (first | ((with_reducible refine gate_dst (N := 3) rfl ?_); refine box_event (by rfl) (N := 3) (by rfl) (cs := #[.slice A0_0 l0_0.length c0_0]) (t := 34) Z8 ?_; intro gb260 hg w16 hbox hb; have BK260 := Z (hbox); have GW260 := Z ((Z63 : w.heap.size ≤ gb260)); have GE260 := Z ((Z63 : w.heap.size ≤ gb260)); replace HB := Z (below_step Z42 hb); clear hb hbox hg) | ((with_reducible refine gate_dst (N := 6) rfl ?_); refine box_event (by rfl) (N := 6) (by rfl) (cs := #[.slice none 0 0]) (t := 34) Z8 ?_; intro gb261 hg w17 hbox hb; have BK261 := Z (hbox); have GW261 := Z ((Z63 : w.heap.size ≤ gb261)); have GE261 := Z ((Z63 : w.heap.size ≤ gb261)); replace HB := Z (below_step Z42 hb); have NB260_261 := Z ((Z47 : gb260 ≠ gb261)); have NB261_260 := Z ((Z48 : gb261 ≠ gb260)); replace BK260 := Z (blk_below (g := gb260) (o := .cells #[.slice A0_0 l0_0.length c0_0] 34 (0, 0)) (Z10 BK260) hb); clear hb hbox hg) | ((with_reducible refine gate_callee (f := 80) rfl ?_); refine goesL_ (some 12) rfl rfl Try.func80 Z0 rfl #[.slice A2 l2.length c2] rfl Z11 ?_; (with_reducible refine (spec_Unparse.calls k _ _ l2 t262 false _ ?side1 ?side2 A4.out).mono ?_); (case side1 => exact (Z12 HR2)); (case side2 => exact HC2.out); rintro e w18 ⟨v264, rfl, ho0, hb⟩; refine ⟨_, rfl, ?_⟩; have HO265 := Z (Kd.R_lower ho0 (below_size Z42)); replace BK260 := Z (blk_below (g := gb260) (o := .cells #[.slice A0_0 l0_0.length c0_0] 34 (0, 0)) (Z10 BK260) hb); replace BK261 := Z (blk_below (g := gb261) (o := .cells #[.slice none 0 0] 34 (0, 0)) (Z10 BK261) hb); replace HB := Z (below_step Z42 hb); (try clear hb); (try clear hb2); (try clear hk); (try clear hi); (try clear ho0); have hnb19 := NB261_260.out; have hnc19 := NB260_261.out; have hcz20_0 : w18.cell? ⟨gb261, 0, none⟩ = some (.slice none 0 0) := (blk_cell BK261.out 0).trans rfl; have hfz20_0 := blk_frozen BK261.out 0))
  refine bodyPost_ret (results_ct rfl _ _ gb261 34 #[.slice none 0 0] (0, 0) _ rfl (Z18 BK261) Try.underlying34 rfl Z0) rfl ?_
  exact ⟨_, Z13, Z19, Z42⟩

/-! ### laws_toItem: function 35 -/
def laws_toItem.f (a0_0 : Int) (a0_1 : ByteArray) (a0_2 : Int) (a0_3 : Bool) (a0_4 : Int) : Option (Int × ByteArray × Int × Bool × Int) := some (a0_0, a0_1, a0_2, a0_3, a0_4)
set_option maxHeartbeats 8000000 in
set_option maxRecDepth 100000 in
theorem laws_toItem.calls (a0_0 : Int) (a0_1 : ByteArray) (a0_2 : Int) (a0_3 : Bool) (a0_4 : Int) (r1 : Int) (r2 : ByteArray) (r3 : Int) (r4 : Bool) (r5 : Int) (w : World) (h : laws_toItem.f a0_0 a0_1 a0_2 a0_3 a0_4 = some (r1, r2, r3, r4, r5)) :
  Calls Try.prog 35 #[.agg #[.int .i64 a0_0, .string a0_1, .int .i32 a0_2, .bool a0_3, .int .u32 a0_4]] w fun e w' => e = .returned (.agg #[.int .i64 r1, .string r2, .int .i32 r3, .bool r4, .int .u32 r5]) ∧ Below w.heap.size w w' := by
 have hu49 := Try.underlying49
 have hu51 := Try.underlying51
 have HB := Z (Below.refl w.heap.size w)
 have H : (some (a0_0, a0_1, a0_2, a0_3, a0_4)) = some (r1, r2, r3, r4, r5) := h
 clear h
 simp only [Option.some.injEq, Prod.mk.injEq] at H
 obtain ⟨rfl, rfl, rfl, rfl, rfl⟩ := H
 go_enter Try.func35, Try.ntmps35
 go_wp2_with (first | ((with_reducible refine gate_dst (N := 1) rfl ?_); refine box_event (by rfl) (N := 1) (by rfl) (cs := #[.int .i64 a0_0, .string a0_1, .int .i32 a0_2, .bool a0_3, .int .u32 a0_4]) (t := 49) Z8 ?_; intro gb270 hg w2 hbox hb; have BK270 := Z (hbox); have GW270 := Z ((Z63 : w.heap.size ≤ gb270)); have GE270 := Z ((Z63 : w.heap.size ≤ gb270)); replace HB := Z (below_step Z42 hb); clear hb hbox hg) | ((with_reducible refine gate_dst (N := 2) rfl ?_); refine box_event (by rfl) (N := 2) (by rfl) (cs := #[.int .i64 0, .string (⟨#[]⟩ : ByteArray), .int .i32 0, .bool false, .int .u32 0]) (t := 51) Z8 ?_; intro gb271 hg w3 hbox hb; have BK271 := Z (hbox); have GW271 := Z ((Z63 : w.heap.size ≤ gb271)); have GE271 := Z ((Z63 : w.heap.size ≤ gb271)); replace HB := Z (below_step Z42 hb); have NB270_271 := Z ((Z49 : gb270 ≠ gb271)); have NB271_270 := Z ((Z50 : gb271 ≠ gb270)); replace BK270 := Z (blk_below (g := gb270) (o := .cells #[.int .i64 a0_0, .string a0_1, .int .i32 a0_2, .bool a0_3, .int .u32 a0_4] 49 (0, 0)) (Z10 BK270) hb); clear hb hbox hg) | ((with_reducible refine gate_dst (N := 3) rfl ?_); refine box_event (by rfl) (N := 3) (by rfl) (cs := #[.int .i64 0, .string (⟨#[]⟩ : ByteArray), .int .i32 0, .bool false, .int .u32 0]) (t := 51) Z8 ?_; intro gb272 hg w4 hbox hb; have BK272 := Z (hbox); have GW272 := Z ((Z63 : w.heap.size ≤ gb272)); have GE272 := Z ((Z63 : w.heap.size ≤ gb272)); replace HB := Z (below_step Z42 hb); have NB270_272 := Z ((Z49 : gb270 ≠ gb272)); have NB272_270 := Z ((Z50 : gb272 ≠ gb270)); replace BK270 := Z (blk_below (g := gb270) (o := .cells #[.int .i64 a0_0, .string a0_1, .int .i32 a0_2, .bool a0_3, .int .u32 a0_4] 49 (0, 0)) (Z10 BK270) hb); have NB271_272 := Z ((by rw [hg]; exact Nat.ne_of_lt (blk_lt (g := gb271) (o := .cells #[.int .i64 0, .string (⟨#[]⟩ : ByteArray), .int .i32 0, .bool false, .int .u32 0] 51 (0, 0)) (Z10 BK271)) : gb271 ≠ gb272)); have NB272_271 := Z ((by rw [hg]; exact Nat.ne_of_gt (blk_lt (g := gb271) (o := .cells #[.int .i64 0, .string (⟨#[]⟩ : ByteArray), .int .i32 0, .bool false, .int .u32 0] 51 (0, 0)) (Z10 BK271)) : gb272 ≠ gb271)); replace BK271 := Z (blk_below (g := gb271) (o := .cells #[.int .i64 0, .string (⟨#[]⟩ : ByteArray), .int .i32 0, .bool false, .int .u32 0] 51 (0, 0)) (Z10 BK271) hb); clear hb hbox hg; have hnb5 := NB270_271.out; have hnc5 := NB271_270.out; have hnb6 := NB270_272.out; have hnc6 := NB272_270.out; have hcz7_0 : w4.cell? ⟨gb270, 0, none⟩ = some (.int .i64 a0_0) := (blk_cell BK270.out 0).trans rfl; have hcz7_1 : w4.cell? ⟨gb270, 1, none⟩ = some (.string a0_1) := (blk_cell BK270.out 1).trans rfl; have hcz7_2 : w4.cell? ⟨gb270, 2, none⟩ = some (.int .i32 a0_2) := (blk_cell BK270.out 2).trans rfl; have hcz7_3 : w4.cell? ⟨gb270, 3, none⟩ = some (.bool a0_3) := (blk_cell BK270.out 3).trans rfl; have hcz7_4 : w4.cell? ⟨gb270, 4, none⟩ = some (.int .u32 a0_4) := (blk_cell BK270.out 4).trans rfl; have hfz7_0 := blk_frozen BK270.out 0; have hfz7_1 := blk_frozen BK270.out 1; have hfz7_2 := blk_frozen BK270.out 2; have hfz7_3 := blk_frozen BK270.out 3; have hfz7_4 := blk_frozen BK270.out 4; have hnb8 := NB272_271.out; have hnc8 := NB271_272.out; have hcz9_0 : w4.cell? ⟨gb272, 0, none⟩ = some (.int .i64 0) := (blk_cell BK272.out 0).trans rfl; have hcz9_1 : w4.cell? ⟨gb272, 1, none⟩ = some (.string (⟨#[]⟩ : ByteArray)) := (blk_cell BK272.out 1).trans rfl; have hcz9_2 : w4.cell? ⟨gb272, 2, none⟩ = some (.int .i32 0) := (blk_cell BK272.out 2).trans rfl; have hcz9_3 : w4.cell? ⟨gb272, 3, none⟩ = some (.bool false) := (blk_cell BK272.out 3).trans rfl; have hcz9_4 : w4.cell? ⟨gb272, 4, none⟩ = some (.int .u32 0) := (blk_cell BK272.out 4).trans rfl; have hfz9_0 := blk_frozen BK272.out 0; have hfz9_1 := blk_frozen BK272.out 1; have hfz9_2 := blk_frozen BK272.out 2; have hfz9_3 := blk_frozen BK272.out 3; have hfz9_4 := blk_frozen BK272.out 4; have hcz10_0 : w4.cell? ⟨gb271, 0, none⟩ = some (.int .i64 0) := (blk_cell BK271.out 0).trans rfl; have hcz10_1 : w4.cell? ⟨gb271, 1, none⟩ = some (.string (⟨#[]⟩ : ByteArray)) := (blk_cell BK271.out 1).trans rfl; have hcz10_2 : w4.cell? ⟨gb271, 2, none⟩ = some (.int .i32 0) := (blk_cell BK271.out 2).trans rfl; have hcz10_3 : w4.cell? ⟨gb271, 3, none⟩ = some (.bool false) := (blk_cell BK271.out 3).trans rfl; have hcz10_4 : w4.cell? ⟨gb271, 4, none⟩ = some (.int .u32 0) := (blk_cell BK271.out 4).trans rfl; have hfz10_0 := blk_frozen BK271.out 0; have hfz10_1 := blk_frozen BK271.out 1; have hfz10_2 := blk_frozen BK271.out 2; have hfz10_3 := blk_frozen BK271.out 3; have hfz10_4 := blk_frozen BK271.out 4))
 refine bodyPost_ret (results_cell_row rfl _ _ gb271 51 #[.int .i64 a0_0, .string a0_1, .int .i32 a0_2, .bool a0_3, .int .u32 a0_4] (0, 0) _ rfl (by (with_reducible repeat (first | refine blk_drewN ?_ _ | refine blk_drew ?_ | refine blk_alloc ?_ _)); refine blk_put (cs := #[.int .i64 a0_0, .string a0_1, .int .i32 a0_2, .bool a0_3, .int .u32 0]) ?_ 4 _ rfl; (with_reducible repeat (first | refine blk_drewN ?_ _ | refine blk_drew ?_ | refine blk_alloc ?_ _)); refine blk_put (cs := #[.int .i64 a0_0, .string a0_1, .int .i32 a0_2, .bool false, .int .u32 0]) ?_ 3 _ rfl; (with_reducible repeat (first | refine blk_drewN ?_ _ | refine blk_drew ?_ | refine blk_alloc ?_ _)); refine blk_put (cs := #[.int .i64 a0_0, .string a0_1, .int .i32 0, .bool false, .int .u32 0]) ?_ 2 _ rfl; (with_reducible repeat (first | refine blk_drewN ?_ _ | refine blk_drew ?_ | refine blk_alloc ?_ _)); refine blk_put (cs := #[.int .i64 a0_0, .string (⟨#[]⟩ : ByteArray), .int .i32 0, .bool false, .int .u32 0]) ?_ 1 _ rfl; (with_reducible repeat (first | refine blk_drewN ?_ _ | refine blk_drew ?_ | refine blk_alloc ?_ _)); refine blk_put (cs := #[.int .i64 0, .string (⟨#[]⟩ : ByteArray), .int .i32 0, .bool false, .int .u32 0]) ?_ 0 _ rfl; (with_reducible repeat (first | refine blk_drewN ?_ _ | refine blk_drew ?_ | refine blk_alloc ?_ _)); refine blk_far ?_ NB271_272.out _; (with_reducible repeat (first | refine blk_drewN ?_ _ | refine blk_drew ?_ | refine blk_alloc ?_ _)); refine blk_far ?_ NB271_272.out _; (with_reducible repeat (first | refine blk_drewN ?_ _ | refine blk_drew ?_ | refine blk_alloc ?_ _)); refine blk_far ?_ NB271_272.out _; (with_reducible repeat (first | refine blk_drewN ?_ _ | refine blk_drew ?_ | refine blk_alloc ?_ _)); refine blk_far ?_ NB271_272.out _; (with_reducible repeat (first | refine blk_drewN ?_ _ | refine blk_drew ?_ | refine blk_alloc ?_ _)); refine blk_far ?_ NB271_272.out _; (with_reducible repeat (first | refine blk_drewN ?_ _ | refine blk_drew ?_ | refine blk_alloc ?_ _)); exact BK271.out) Try.underlying51 rfl Z0) rfl ?_
 exact ⟨Z13, Z42⟩

end Go.Proofs.Ytkkiibjnpkjijaa.QFnExactPutItems
