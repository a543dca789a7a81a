/-
Plain functions for the Go functions that a law reaches, each with a proof that the translation's call comes to just that; no conditions beyond those written in each.
-/
import Derived.Test.YtkkiibjnpkjijaaSFnExactListOk
import Derived.Test.YtkkiibjnpkjijaaQFnExactListOkx1
import Derived.Test.YtkkiibjnpkjijaaQFnExactListOkx6
import Derived.Test.YtkkiibjnpkjijaaQFnExactListOkx7
import Derived.Test.YtkkiibjnpkjijaaQFnExactListOkx11
import Derived.Test.YtkkiibjnpkjijaaQFnExactListOkx13
namespace Go.Proofs.Ytkkiibjnpkjijaa.QFnExactListOk
open Go.RowKit Go.Proofs.YtkkiibjnpkjijaaW.PrintWords Go.Proofs.YtkkiibjnpkjijaaW.PrintLast Go.Proofs.YtkkiibjnpkjijaaW.PrintMore
attribute [local go_sem] max2_int min2_int max_two min_two max_three min_three max_four min_four   -- for this text's walks alone
set_option linter.unusedVariables false
set_option linter.unusedSimpArgs false

attribute [local go_sem high] eqA51
/-! ### spec_ParseCells: function 17 -/
mutual
def spec_ParseCells.l0 : Nat → List Int → List (S51) → Int → Option ((List (S51)))
 | 0, _, _, _ => none
 | k + 1, x0, x3, x4 => if x4 < (x0.length : Int) then ((spec_l04Item.f k x0 x4).bind fun bt478 => (if x3.length < 3518437208883 then (spec_ParseCells.l0 k x0 (x3 ++ [(⟨bt478.1, bt478.2.1, bt478.2.2.1, bt478.2.2.2.1, bt478.2.2.2.2.1⟩ : S51)]) (wrap64 (x4 + bt478.2.2.2.2.2))) else (none))) else (spec_ParseCells.l1 k x3)
def spec_ParseCells.l1 : Nat → List (S51) → Option ((List (S51)))
 | 0, _ => none
 | k + 1, x3 => if (x3.length : Int) > 0 then (if 0 ≤ (wrap64 ((x3.length : Int) - 1)) then (if (wrap64 ((x3.length : Int) - 1)) < (x3.length : Int) then (if (((rd_T51 x3 (wrap64 ((x3.length : Int) - 1))).f0) == 0 && ((((rd_T51 x3 (wrap64 ((x3.length : Int) - 1))).f1).toList) == ([] : List UInt8) && (((rd_T51 x3 (wrap64 ((x3.length : Int) - 1))).f2) == 0 && (!((rd_T51 x3 (wrap64 ((x3.length : Int) - 1))).f3) && (((rd_T51 x3 (wrap64 ((x3.length : Int) - 1))).f4) == 0))))) = true then (if (wrap64 ((x3.length : Int) - 1)) ≤ (x3.length : Int) then (spec_ParseCells.l1 k (x3.take ((wrap64 ((x3.length : Int) - 1)) : Int).toNat)) else (none)) else (some x3)) else (none)) else (none)) else (some x3)
end
def spec_ParseCells.f (k : Nat) (l0 : List Int) : Option ((List (S51))) := (some (([] : List (S51)) : List (S51))).bind fun y475 => (if (l0.length : Int) > 64 then (some y475) else (spec_ParseCells.l0 k l0 y475 0))
theorem spec_ParseCells.mono_l : ∀ k, (∀ y0 y1 y2, LeO (spec_ParseCells.l0 k y0 y1 y2) (spec_ParseCells.l0 (k + 1) y0 y1 y2)) ∧ (∀ y0, LeO (spec_ParseCells.l1 k y0) (spec_ParseCells.l1 (k + 1) y0))
 | 0 => ⟨fun _ _ _ r h => by simp [spec_ParseCells.l0] at h, fun _ r h => by simp [spec_ParseCells.l1] at h⟩
 | k + 1 => by
  obtain ⟨ih0, ih1⟩ := spec_ParseCells.mono_l k
  refine ⟨?_, ?_⟩
  ·intro y0 y1 y2
   unfold spec_ParseCells.l0
   repeat' first
   | (with_reducible exact ih0 _ _ _)
   | (with_reducible exact ih1 _)
   | (with_reducible exact spec_l04Item.mono _ _ _)
   | (with_reducible exact LeO.refl _)
   | (with_reducible exact LeO.none _)
   | (with_reducible refine LeO.ite ?_ ?_)
   | (with_reducible refine LeO.bind ?_ (fun _ => ?_))
   | exact ih0 _ _ _
   | exact ih1 _
   | exact spec_l04Item.mono _ _ _
   | exact LeO.none _
   | refine LeO.ite ?_ ?_
   | refine LeO.bind ?_ (fun _ => ?_)
  ·intro y0
   unfold spec_ParseCells.l1
   repeat' first
   | (with_reducible exact ih0 _ _ _)
   | (with_reducible exact ih1 _)
   | (with_reducible exact spec_l04Item.mono _ _ _)
   | (with_reducible exact LeO.refl _)
   | (with_reducible exact LeO.none _)
   | (with_reducible refine LeO.ite ?_ ?_)
   | (with_reducible refine LeO.bind ?_ (fun _ => ?_))
   | exact ih0 _ _ _
   | exact ih1 _
   | exact spec_l04Item.mono _ _ _
   | exact LeO.none _
   | refine LeO.ite ?_ ?_
   | refine LeO.bind ?_ (fun _ => ?_)
theorem spec_ParseCells.mono : ∀ a0 k, LeO (spec_ParseCells.f k a0) (spec_ParseCells.f (k + 1) a0) := by
 intro a0 k
 obtain ⟨ih0, ih1⟩ := spec_ParseCells.mono_l k
 unfold spec_ParseCells.f
 repeat' first
   | (with_reducible exact ih0 _ _ _)
   | (with_reducible exact ih1 _)
   | (with_reducible exact spec_l04Item.mono _ _ _)
   | (with_reducible exact LeO.refl _)
   | (with_reducible exact LeO.none _)
   | (with_reducible refine LeO.ite ?_ ?_)
   | (with_reducible refine LeO.bind ?_ (fun _ => ?_))
   | exact ih0 _ _ _
   | exact ih1 _
   | exact spec_l04Item.mono _ _ _
   | exact LeO.none _
   | refine LeO.ite ?_ ?_
   | refine LeO.bind ?_ (fun _ => ?_)
set_option maxHeartbeats 8000000 in
set_option maxRecDepth 100000 in
theorem spec_ParseCells.calls (k : Nat) (A0 : Option Addr) (c0 : Nat) (l0 : List Int) (r : List (S51)) (w : World) (hr0 : Kd.C (Kd.int .u32) w A0 l0.length l0) (hc0 : l0.length ≤ c0) (h : spec_ParseCells.f k l0 = some r) :
  Calls Try.prog 17 #[.slice A0 l0.length c0] w fun e w' => ∃ v0_ : Value, e = .returned (v0_) ∧ Kd.R k51 51 w' w.heap.size (fun _ => True) v0_ r ∧ Below w.heap.size w w' := by
 have hu51 := Try.underlying51
 have HR0 := Aside0.mk hr0
 have HC0 := Aside0.mk hc0
 clear hr0 hc0
 have HB := Z (Below.refl w.heap.size w)
 have H : ((some (([] : List (S51)) : List (S51))).bind fun y475 => (if (l0.length : Int) > 64 then (some y475) else (spec_ParseCells.l0 k l0 y475 0))) = some r := h
 clear h
 obtain ⟨y475, hy475⟩ : ∃ y_ : List (S51), y_ = (([] : List (S51))) := ⟨_, rfl⟩
 replace H : (if (l0.length : Int) > 64 then (some y475) else (spec_ParseCells.l0 k l0 y475 0)) = some r := by first | (rw [hy475]; with_reducible exact H) | (have H2_ := (Option.bind_some _ _).symm.trans H; rw [hy475]; with_reducible exact H2_) | (have H2_ := (Option.bind_some _ _).symm.trans H; with_reducible exact H2_) | with_reducible exact H | (rw [hy475]; exact H) | exact H
 have Ny475 := Aside0.mk hy475
 clear hy475
 by_cases c2 : (l0.length : Int) > 64
 ·rw [if_pos c2] at H
  have c2b0 : decide (64 < (l0.length : Int)) = true := decide_eq_true c2
  have c2b1 : decide (64 < l0.length) = true := decide_eq_true (by omega)
  clear c2
  obtain rfl := Option.some.inj H
  go_enter Try.func17, Try.ntmps17
  go_wp2_with (first | ((with_reducible refine gate_dst (N := 7) rfl ?_); (try (refine gate_guard (by rfl) ?_; dsimp only)); refine Kd.R_lit k51 _ 51 (by rfl) (N := 7) (by rfl) (xs := ([] : List (S51))) (inner := []) (ok := fun _ => True) (okp := fun _ => True) Z10 (Reps.none _ _) (fun _ hk => hk) trivial (Below.refl _ _) (Nat.le_refl _) (by simp) ?_; intro v476 w3 ho4 hb hg_ hnew_; clear hg_ hnew_; (first | rw [← Ny475.out] at ho4 | (simp only [Int.reduceToNat] at ho4; rw [← Ny475.out] at ho4)); have HO477 := Z (Kd.R_lower ho4 (below_size Z61)); replace HB := Z (below_step Z61 hb); clear hb ho4))
  go_ret
  exact ⟨_, Z13, (Z12 HO477), Z61⟩
 ·rw [if_neg c2] at H
  have c2b0 : decide (64 < (l0.length : Int)) = false := decide_eq_false c2
  have c2b1 : decide (64 < l0.length) = false := decide_eq_false (by omega)
  clear c2
  have H' := Aside0.mk H
  clear H
  go_enter Try.func17, Try.ntmps17
  go_wp2_with (first | ((with_reducible refine gate_dst (N := 7) rfl ?_); (try (refine gate_guard (by rfl) ?_; dsimp only)); refine Kd.R_lit k51 _ 51 (by rfl) (N := 7) (by rfl) (xs := ([] : List (S51))) (inner := []) (ok := fun _ => True) (okp := fun _ => True) Z10 (Reps.none _ _) (fun _ hk => hk) trivial (Below.refl _ _) (Nat.le_refl _) (by simp) ?_; intro v476 w5 ho6 hb hg_ hnew_; clear hg_ hnew_; (first | rw [← Ny475.out] at ho6 | (simp only [Int.reduceToNat] at ho6; rw [← Ny475.out] at ho6)); have HO477 := Z (Kd.R_lower ho6 (below_size Z61)); replace HB := Z (below_step Z61 hb); clear hb ho6))
  go_loopg [3, 4] k (fun kq v3 v4 w' => ∃ (x3_1 : List (S51)) (x4_1 : Int), v4 = .int .i64 x4_1 ∧ Aside0 (spec_ParseCells.l0 kq l0 x3_1 x4_1 = some r) ∧ Aside0 (kq ≤ k) ∧ Aside0 (Kd.R k51 51 w' w.heap.size (fun _ => True) v3 x3_1) ∧ Aside0 (Below w.heap.size w w'))
  case atStart => exact ⟨(y475), (0), Z2, H', ⟨Nat.le_refl _⟩, ⟨(Z12 HO477)⟩, ⟨Z61⟩⟩
  case round =>
   clear H'
   try clear c1
   try clear c2
   try clear c2b0
   try clear c2b1
   try clear p2
   obtain ⟨x3_1, x4_1, rfl, HA, HK1, HO_3, HB⟩ := hrel
   cases gk with
   | zero => exact absurd HA.out (by simp [spec_ParseCells.l0])
   | succ k1 =>
    have H := HA.out
    clear HA
    simp only [spec_ParseCells.l0] at H
    by_cases c7 : x4_1 < (l0.length : Int)
    ·rw [if_pos c7] at H
     have c7b0 : decide (x4_1 < (l0.length : Int)) = true := decide_eq_true c7
     clear c7
     replace H := Option.bind_eq_some_iff.mp H
     obtain ⟨⟨t478, t479, t480, t481, t482, t483⟩, A80, H⟩ := H
     replace H : (if x3_1.length < 3518437208883 then (spec_ParseCells.l0 k1 l0 (x3_1 ++ [(⟨t478, t479, t480, t481, t482⟩ : S51)]) (wrap64 (x4_1 + t483))) else (none)) = some r := H
     have A8 := Aside0.mk A80
     clear A80
     by_cases c9 : x3_1.length < 3518437208883
     ·rw [if_pos c9] at H
      have LMc9 := Aside0.mk c9
      clear c9
      obtain ⟨y485, hy485⟩ : ∃ y_ : List (S51), y_ = (x3_1 ++ [(⟨t478, t479, t480, t481, t482⟩ : S51)]) := ⟨_, rfl⟩
      replace H : (spec_ParseCells.l0 k1 l0 y485 (wrap64 (x4_1 + t483))) = some r := by first | (rw [hy485]; with_reducible exact H) | (have H2_ := (Option.bind_some _ _).symm.trans H; rw [hy485]; with_reducible exact H2_) | (have H2_ := (Option.bind_some _ _).symm.trans H; with_reducible exact H2_) | with_reducible exact H | (rw [hy485]; exact H) | exact H
      have Ny485 := Aside0.mk hy485
      clear hy485
      have H' := Aside0.mk H
      clear H
      go_wp2_with (first | ((with_reducible refine gate_callee (f := 60) rfl ?_); refine goesL_ (some 19) rfl rfl Try.func60 Z0 rfl #[.slice A0 l0.length c0, .int .i64 x4_1] rfl Z4 ?_; (with_reducible refine (spec_l04Item.calls k1 _ _ l0 x4_1 t478 t479 t480 t481 t482 t483 _ ?side1 ?side2 A8.out).mono ?_); (case side1 => exact (Z27 HR0)); (case side2 => exact HC0.out); rintro e w10 ⟨rfl, hb⟩; refine ⟨_, rfl, ?_⟩; replace HO_3 := Z (Kd.R_below (Z12 HO_3) hb); replace HB := Z (below_step Z61 hb); (try clear hb); (try clear hb2); (try clear hk); (try clear hi)) | ((with_reducible refine gate_dst (N := 5) rfl ?_); (try (refine gate_guard (by rfl) ?_; dsimp only)); refine box_event (by rfl) (N := 5) (by rfl) (cs := #[.int .i64 0, .string (⟨#[]⟩ : ByteArray), .int .i32 0, .bool false, .int .u32 0]) (t := 51) Z10 ?_; intro gb484 hg w11 hbox hb; replace HO_3 := Z (Kd.R_below (Kd.R_elderB (Z12 HO_3) gb484 (Nat.le_of_eq hg.symm)) hb); have BK484 := Z (hbox); have GW484 := Z ((Z75 : w.heap.size ≤ gb484)); have GE484 := Z ((Z75 : w.heap.size ≤ gb484)); replace HB := Z (below_step Z61 hb); clear hb hbox hg; have hcz12_0 : w11.cell? ⟨gb484, 0, none⟩ = some (.int .i64 0) := (blk_cell BK484.out 0).trans rfl; have hcz12_1 : w11.cell? ⟨gb484, 1, none⟩ = some (.string (⟨#[]⟩ : ByteArray)) := (blk_cell BK484.out 1).trans rfl; have hcz12_2 : w11.cell? ⟨gb484, 2, none⟩ = some (.int .i32 0) := (blk_cell BK484.out 2).trans rfl; have hcz12_3 : w11.cell? ⟨gb484, 3, none⟩ = some (.bool false) := (blk_cell BK484.out 3).trans rfl; have hcz12_4 : w11.cell? ⟨gb484, 4, none⟩ = some (.int .u32 0) := (blk_cell BK484.out 4).trans rfl; have hfz12_0 := blk_frozen BK484.out 0; have hfz12_1 := blk_frozen BK484.out 1; have hfz12_2 := blk_frozen BK484.out 2; have hfz12_3 := blk_frozen BK484.out 3; have hfz12_4 := blk_frozen BK484.out 4) | ((with_reducible refine gate_builtin (b := .append) (xs := #[.tmp 22, .tmp 24]) rfl ?_); (try (refine gate_guard (by rfl) ?_; dsimp only)); at_builtin; refine Kd.R_append k51 (w0 := w) w.heap.size rfl (.tmp 22) (.tmp 24) 26 51 (.agg #[(.int .i64 0), (.string ⟨#[]⟩), (.int .i32 0), (.bool false), (.int .u32 0)]) 40 rfl Try.underlying26 info51 rfl (by decide) (by omega) u3 x3_1 (⟨t478, t479, t480, t481, t482⟩ : S51) [.int .i64 t478, .string t479, .int .i32 t480, .bool t481, .int .u32 t482] (fun k_ => k_ ≠ gb484) (fun _ => False) rfl Z10 ?aP (fun _ hk => hk.elim) ?aF ?aO ?aB ?aS ?aL ?_; (case aP => exact k51_mkM _ _ _ (⟨t478, t479, t480, t481, t482⟩ : S51)); (case aB => exact Z61); (case aF => exact (fun k_ hk => Kd.freshB (g := gb484) (o := .cells #[.int .i64 t478, .string t479, .int .i32 t480, .bool t481, .int .u32 t482] 51 (0, 0)) (Z59 BK484) k_ hk)); (case aO => exact (by (with_reducible repeat (first | apply Kd.R_alloc | apply Kd.R_drewN | apply Kd.R_drew)); exact Kd.R_mono (Kd.R_far (p := ⟨gb484, 4, none⟩) (Kd.R_far (p := ⟨gb484, 3, none⟩) (Kd.R_far (p := ⟨gb484, 2, none⟩) (Kd.R_far (p := ⟨gb484, 1, none⟩) (Kd.R_far (p := ⟨gb484, 0, none⟩) (Kd.R_mono HO_3.out (fun k_ hk => (⟨hk, hk.2⟩ : _ ∧ k_ ≠ gb484))) (fun _ hk => hk.2) (.int .i64 t478)) (fun _ hk => hk.2) (.string t479)) (fun _ hk => hk.2) (.int .i32 t480)) (fun _ hk => hk.2) (.bool t481)) (fun _ hk => hk.2) (.int .u32 t482)) (fun _ hk => hk.1.2))); (case aS => exact (below_size Z61)); (case aL => have := LMc9.out; omega); intro v486 w13 ho hb hg hat; rw [← Ny485.out] at ho; replace BK484 := Z (blk_grown (g := gb484) (o := .cells #[.int .i64 t478, .string t479, .int .i32 t480, .bool t481, .int .u32 t482] 51 (0, 0)) (Z59 BK484) hg (Kd.R_away HO_3.out (fun _ hk => hk.2))); replace HB := Z (hb); have HO487 := Z (ho); clear HO_3; clear ho hb hg hat))
      go_roundg k1
      case measure => have := HK1.out; omega
      case rel => exact ⟨(y485), (wrap64 (x4_1 + t483)), Z2, H', ⟨Z6⟩, ⟨(Z17 HO487)⟩, ⟨Z61⟩⟩
     ·rw [if_neg c9] at H
      exact absurd H (by simp)
    ·rw [if_neg c7] at H
     have c7b0 : decide (x4_1 < (l0.length : Int)) = false := decide_eq_false c7
     clear c7
     have H' := Aside0.mk H
     clear H
     go_wp2
     go_loopg [3] k1 (fun kq v3 w' => ∃ (x3_2 : List (S51)), Aside0 (spec_ParseCells.l1 kq x3_2 = some r) ∧ Aside0 (kq ≤ k1) ∧ Aside0 (Kd.R k51 51 w' w.heap.size (fun _ => True) v3 x3_2) ∧ Aside0 (Below w.heap.size w w'))
     case atStart => exact ⟨(x3_1), H', ⟨Nat.le_refl _⟩, ⟨(Z12 HO_3)⟩, ⟨Z61⟩⟩
     case round =>
      clear H'
      try clear c1
      try clear c2
      try clear c2b0
      try clear c2b1
      try clear p2
      try clear c6
      try clear p6
      try clear c7
      try clear c7b0
      try clear c9
      try clear hcz12_0
      try clear hcz12_1
      try clear hcz12_2
      try clear hcz12_3
      try clear hcz12_4
      try clear hfz12_0
      try clear hfz12_1
      try clear hfz12_2
      try clear hfz12_3
      try clear hfz12_4
      try clear p2
      obtain ⟨x3_2, HA, HK2, HO_3, HB⟩ := hrel
      cases gk with
      | zero => exact absurd HA.out (by simp [spec_ParseCells.l1])
      | succ k2 =>
       have H := HA.out
       clear HA
       simp only [spec_ParseCells.l1] at H
       by_cases c14 : (x3_2.length : Int) > 0
       ·rw [if_pos c14] at H
        have c14b0 : decide (0 < (x3_2.length : Int)) = true := decide_eq_true c14
        have c14b1 : decide (0 < x3_2.length) = true := decide_eq_true (by omega)
        clear c14
        obtain ⟨ji15, hji15⟩ : ∃ j_ : Int, (wrap64 ((x3_2.length : Int) - 1)) = j_ := ⟨_, rfl⟩
        replace H : (if 0 ≤ (ji15) then (if (ji15) < (x3_2.length : Int) then (if (((rd_T51 x3_2 (ji15)).f0) == 0 && ((((rd_T51 x3_2 (ji15)).f1).toList) == ([] : List UInt8) && (((rd_T51 x3_2 (ji15)).f2) == 0 && (!((rd_T51 x3_2 (ji15)).f3) && (((rd_T51 x3_2 (ji15)).f4) == 0))))) = true then (if (ji15) ≤ (x3_2.length : Int) then (spec_ParseCells.l1 k2 (x3_2.take ((ji15) : Int).toNat)) else (none)) else (some x3_2)) else (none)) else (none)) = some r := Z9
        have hji15w : (IntKind.i64.wrap ((x3_2.length : Int) - 1)) = ji15 := (i64_w _).trans hji15
        by_cases c16 : 0 ≤ (ji15)
        ·rw [if_pos c16] at H
         have c16b0 : decide (0 ≤ (ji15)) = true := decide_eq_true c16
         clear c16
         by_cases c17 : (ji15) < (x3_2.length : Int)
         ·rw [if_pos c17] at H
          have c17b0 : decide ((ji15) < (x3_2.length : Int)) = true := decide_eq_true c17
          clear c17
          by_cases c18 : (((rd_T51 x3_2 (ji15)).f0) == 0 && ((((rd_T51 x3_2 (ji15)).f1).toList) == ([] : List UInt8) && (((rd_T51 x3_2 (ji15)).f2) == 0 && (!((rd_T51 x3_2 (ji15)).f3) && (((rd_T51 x3_2 (ji15)).f4) == 0))))) = true
          ·rw [if_pos c18] at H
           have c18b0 : (((rd_T51 x3_2 (ji15)).f0) == 0 && ((((rd_T51 x3_2 (ji15)).f1).toList) == ([] : List UInt8) && (((rd_T51 x3_2 (ji15)).f2) == 0 && (!((rd_T51 x3_2 (ji15)).f3) && (((rd_T51 x3_2 (ji15)).f4) == 0))))) = true := c18
           (try (have c18b1 : (((rd_T51 x3_2 (ji15)).f0) == 0 && ((((rd_T51 x3_2 (ji15)).f1).toList).isEmpty && (((rd_T51 x3_2 (ji15)).f2) == 0 && (!((rd_T51 x3_2 (ji15)).f3) && (((rd_T51 x3_2 (ji15)).f4) == 0))))) = true := by have h_ : (((rd_T51 x3_2 (ji15)).f0) == 0 && ((((rd_T51 x3_2 (ji15)).f1).toList) == ([] : List UInt8) && (((rd_T51 x3_2 (ji15)).f2) == 0 && (!((rd_T51 x3_2 (ji15)).f3) && (((rd_T51 x3_2 (ji15)).f4) == 0))))) = true := c18; simpa only [List.beq_nil_eq] using h_))
           (try (have c18b2 : decide (((rd_T51 x3_2 (ji15)).f0) = 0 && ((((rd_T51 x3_2 (ji15)).f1).toList) == ([] : List UInt8) && (((rd_T51 x3_2 (ji15)).f2) == 0 && (!((rd_T51 x3_2 (ji15)).f3) && (((rd_T51 x3_2 (ji15)).f4) == 0))))) = true := Z60))
           (try (have c18b3 : (((rd_T51 x3_2 (ji15)).f0) == 0 && ((((rd_T51 x3_2 (ji15)).f1).toList) == ([] : List UInt8) && (((rd_T51 x3_2 (ji15)).f2) == 0 && (!((rd_T51 x3_2 (ji15)).f3) && (((rd_T51 x3_2 (ji15)).f4) == 0))))) = true := Z60))
           clear c18
           by_cases c19 : (ji15) ≤ (x3_2.length : Int)
           ·rw [if_pos c19] at H
            have c19b0 := eq_true c19
            have c19b1 : decide ((ji15) ≤ (x3_2.length : Int)) = true := decide_eq_true c19
            clear c19
            obtain ⟨y489, hy489⟩ : ∃ y_ : List (S51), y_ = (x3_2.take ((ji15) : Int).toNat) := ⟨_, rfl⟩
            replace H : (spec_ParseCells.l1 k2 y489) = some r := by first | (rw [hy489]; with_reducible exact H) | (have H2_ := (Option.bind_some _ _).symm.trans H; rw [hy489]; with_reducible exact H2_) | (have H2_ := (Option.bind_some _ _).symm.trans H; with_reducible exact H2_) | with_reducible exact H | (rw [hy489]; exact H) | exact H
            have Ny489 := Aside0.mk hy489
            clear hy489
            have H' := Aside0.mk H
            clear H
            obtain ⟨Ao20, co20, eo20⟩ := Kd.R_slice HO_3.out
            subst eo20
            have p488 : 0 ≤ ((ji15) : Int) := of_decide_eq_true Z5
            have q488 : (ji15) < (x3_2.length : Int) := of_decide_eq_true Z5
            obtain ⟨ad488, e488, hx488_0, hx488_1, hx488_2, hx488_3, hx488_4⟩ := at_T51 (Kd.R_reads' HO_3.out).2.2 (ji15) p488 q488
            cases e488
            replace p488 := eq_true p488
            replace q488 := eq_true q488
            (try clear hcut20)
            have q21 : ((ji15) : Int) ≤ ((x3_2.length : Int) : Int) := of_decide_eq_true Z5
            obtain ⟨i021, hi021, _, hsz21, _⟩ := info_parts info51
            have hcut21 := cut_to (P := Try.prog) 26 51 .i64 Try.underlying26 hi021 (some ad488) x3_2.length co20 (ji15) (of_decide_eq_true Z5) q21 (Kd.R_reads' HO_3.out).2.1
            have hr21 := Kd.R_take (m := ((ji15) : Int).toNat) HO_3.out (by omega)
            have hy21 : y489.length = ((ji15) : Int).toNat := (by rw [Ny489.out, List.length_take]; omega)
            rw [← Ny489.out] at hr21
            rw [← hy21] at hr21 hcut21
            clear hy21 hi021 hsz21 HO_3
            have HO491 := Aside0.mk hr21
            clear hr21
            replace q21 := eq_true q21
            go_wp2
            go_roundg k2
            case measure => have := HK1.out; have := HK2.out; omega
            case rel => exact ⟨(y489), H', ⟨by have := HK1.out; have := HK2.out; omega⟩, ⟨(Z12 HO491)⟩, ⟨Z61⟩⟩
           ·rw [if_neg c19] at H
            exact absurd H (by simp)
          ·rw [if_neg c18] at H
           have c18b0 : (((rd_T51 x3_2 (ji15)).f0) == 0 && ((((rd_T51 x3_2 (ji15)).f1).toList) == ([] : List UInt8) && (((rd_T51 x3_2 (ji15)).f2) == 0 && (!((rd_T51 x3_2 (ji15)).f3) && (((rd_T51 x3_2 (ji15)).f4) == 0))))) = false := Z60
           (try (have c18b1 : (((rd_T51 x3_2 (ji15)).f0) == 0 && ((((rd_T51 x3_2 (ji15)).f1).toList).isEmpty && (((rd_T51 x3_2 (ji15)).f2) == 0 && (!((rd_T51 x3_2 (ji15)).f3) && (((rd_T51 x3_2 (ji15)).f4) == 0))))) = false := by have h_ : (((rd_T51 x3_2 (ji15)).f0) == 0 && ((((rd_T51 x3_2 (ji15)).f1).toList) == ([] : List UInt8) && (((rd_T51 x3_2 (ji15)).f2) == 0 && (!((rd_T51 x3_2 (ji15)).f3) && (((rd_T51 x3_2 (ji15)).f4) == 0))))) = false := Z60; simpa only [List.beq_nil_eq] using h_))
           (try (have c18b2 : decide (((rd_T51 x3_2 (ji15)).f0) = 0 && ((((rd_T51 x3_2 (ji15)).f1).toList) == ([] : List UInt8) && (((rd_T51 x3_2 (ji15)).f2) == 0 && (!((rd_T51 x3_2 (ji15)).f3) && (((rd_T51 x3_2 (ji15)).f4) == 0))))) = false := Z60))
           (try (have c18b3 : (((rd_T51 x3_2 (ji15)).f0) == 0 && ((((rd_T51 x3_2 (ji15)).f1).toList) == ([] : List UInt8) && (((rd_T51 x3_2 (ji15)).f2) == 0 && (!((rd_T51 x3_2 (ji15)).f3) && (((rd_T51 x3_2 (ji15)).f4) == 0))))) = false := Z60))
           (try (have c18b4 : ¬ (((rd_T51 x3_2 (ji15)).f0) = 0 && ((((rd_T51 x3_2 (ji15)).f1).toList) == ([] : List UInt8) && (((rd_T51 x3_2 (ji15)).f2) == 0 && (!((rd_T51 x3_2 (ji15)).f3) && (((rd_T51 x3_2 (ji15)).f4) == 0))))) := Z60))
           clear c18
           obtain rfl := Option.some.inj H
           obtain ⟨Ao22, co22, eo22⟩ := Kd.R_slice HO_3.out
           subst eo22
           have p488 : 0 ≤ ((ji15) : Int) := of_decide_eq_true Z5
           have q488 : (ji15) < (x3_2.length : Int) := of_decide_eq_true Z5
           obtain ⟨ad488, e488, hx488_0, hx488_1, hx488_2, hx488_3, hx488_4⟩ := at_T51 (Kd.R_reads' HO_3.out).2.2 (ji15) p488 q488
           cases e488
           replace p488 := eq_true p488
           replace q488 := eq_true q488
           go_wp2
           go_ret
           exact ⟨_, by first | rfl | (simp [errW_none, errW_some] <;> rfl) | (simp only [← hji15]; first | rfl | (simp [errW_none, errW_some] <;> rfl)) | (simp [*, errW_none, errW_some] <;> rfl), (Z12 HO_3), Z61⟩
         ·rw [if_neg c17] at H
          exact absurd H (by simp)
        ·rw [if_neg c16] at H
         exact absurd H (by simp)
       ·rw [if_neg c14] at H
        have c14b0 : decide (0 < (x3_2.length : Int)) = false := decide_eq_false c14
        have c14b1 : decide (0 < x3_2.length) = false := decide_eq_false (by omega)
        clear c14
        obtain rfl := Option.some.inj H
        obtain ⟨Ao23, co23, eo23⟩ := Kd.R_slice HO_3.out
        subst eo23
        go_wp2
        go_ret
        exact ⟨_, Z13, (Z12 HO_3), Z61⟩

/-! ### spec_Unparse: function 80 -/
def spec_Unparse.l0 : Nat → List (S51) → List Int → Int → Option (List Int × Bool)
 | 0, _, _, _ => none
 | k + 1, x0, x4, x5 => if x5 < (x0.length : Int) then (if 0 ≤ x5 then ((spec_CellsOf.f k ((rd_T51 x0 x5).f0) ((rd_T51 x0 x5).f1) ((rd_T51 x0 x5).f2) ((rd_T51 x0 x5).f3) ((rd_T51 x0 x5).f4)).bind fun t496 => (if (t496.length : Int) = 0 then (some ((([] : List Int)), false)) else (if (wrap64 ((x4.length : Int) + (t496.length : Int))) > 64 then (some ((([] : List Int)), false)) else (if x4.length + t496.length < 35184372088832 then (spec_Unparse.l0 k x0 (x4 ++ t496) (wrap64 (x5 + 1))) else (none))))) else (none)) else (some (x4, true))
def spec_Unparse.f (k : Nat) (l0 : List (S51)) : Option (List Int × Bool) := spec_Unparse.l0 k l0 (([] : List Int)) 0
theorem spec_Unparse.mono_l : ∀ k, (∀ y0 y1 y2, LeO (spec_Unparse.l0 k y0 y1 y2) (spec_Unparse.l0 (k + 1) y0 y1 y2))
 | 0 => fun _ _ _ r h => by simp [spec_Unparse.l0] at h
 | k + 1 => by
  have ih0 := spec_Unparse.mono_l k
  ·intro y0 y1 y2
   unfold spec_Unparse.l0
   repeat' first
   | (with_reducible exact ih0 _ _ _)
   | (with_reducible exact spec_CellsOf.mono _ _ _ _ _ _)
   | (with_reducible exact LeO.refl _)
   | (with_reducible exact LeO.none _)
   | (with_reducible refine LeO.ite ?_ ?_)
   | (with_reducible refine LeO.bind ?_ (fun _ => ?_))
   | exact ih0 _ _ _
   | exact spec_CellsOf.mono _ _ _ _ _ _
   | exact LeO.none _
   | refine LeO.ite ?_ ?_
   | refine LeO.bind ?_ (fun _ => ?_)
theorem spec_Unparse.mono : ∀ a0 k, LeO (spec_Unparse.f k a0) (spec_Unparse.f (k + 1) a0) := by
 intro a0 k
 have ih0 := spec_Unparse.mono_l k
 unfold spec_Unparse.f
 repeat' first
   | (with_reducible exact ih0 _ _ _)
   | (with_reducible exact spec_CellsOf.mono _ _ _ _ _ _)
   | (with_reducible exact LeO.refl _)
   | (with_reducible exact LeO.none _)
   | (with_reducible refine LeO.ite ?_ ?_)
   | (with_reducible refine LeO.bind ?_ (fun _ => ?_))
   | exact ih0 _ _ _
   | exact spec_CellsOf.mono _ _ _ _ _ _
   | exact LeO.none _
   | refine LeO.ite ?_ ?_
   | refine LeO.bind ?_ (fun _ => ?_)
set_option maxHeartbeats 8000000 in
set_option maxRecDepth 100000 in
theorem spec_Unparse.calls (k : Nat) (A0 : Option Addr) (c0 : Nat) (l0 : List (S51)) (r1 : List Int) (r2 : Bool) (w : World) (hr0 : Kd.C k51 w A0 l0.length l0) (hc0 : l0.length ≤ c0) (h : spec_Unparse.f k l0 = some (r1, r2)) :
  Calls Try.prog 80 #[.slice A0 l0.length c0] w fun e w' => ∃ v0_ : Value, e = .returned (.tuple #[v0_, .bool r2]) ∧ Kd.R (Kd.int .u32) 47 w' w.heap.size (fun _ => True) v0_ r1 ∧ Below w.heap.size w w' := by
 have hu51 := Try.underlying51
 have HR0 := Aside0.mk hr0
 have HC0 := Aside0.mk hc0
 clear hr0 hc0
 have HB := Z (Below.refl w.heap.size w)
 have H : (spec_Unparse.l0 k l0 (([] : List Int)) 0) = some (r1, r2) := h
 clear h
 obtain ⟨y492, hy492⟩ : ∃ y_ : List Int, y_ = (([] : List Int)) := ⟨_, rfl⟩
 replace H : (spec_Unparse.l0 k l0 y492 0) = some (r1, r2) := by first | (rw [hy492]; with_reducible exact H) | (have H2_ := (Option.bind_some _ _).symm.trans H; rw [hy492]; with_reducible exact H2_) | (have H2_ := (Option.bind_some _ _).symm.trans H; with_reducible exact H2_) | with_reducible exact H | (rw [hy492]; exact H) | exact H
 have Ny492 := Aside0.mk hy492
 clear hy492
 have H' := Aside0.mk H
 clear H
 go_enter Try.func80, Try.ntmps80
 go_wp2_with (first | ((with_reducible refine gate_dst (N := 7) rfl ?_); (try (refine gate_guard (by rfl) ?_; dsimp only)); refine Kd.R_lit (Kd.int .u32) _ 47 (by rfl) (N := 7) (by rfl) (xs := ([] : List Int)) (inner := []) (ok := fun _ => True) (okp := fun _ => True) Z10 (Reps.none _ _) (fun _ hk => hk) trivial (Below.refl _ _) (Nat.le_refl _) (by simp) ?_; intro v493 w2 ho3 hb hg_ hnew_; clear hg_ hnew_; (first | rw [← Ny492.out] at ho3 | (simp only [Int.reduceToNat] at ho3; rw [← Ny492.out] at ho3)); have HO494 := Z (Kd.R_lower ho3 (below_size Z61)); replace HB := Z (below_step Z61 hb); clear hb ho3))
 go_loopg [4, 5] k (fun kq v4 v5 w' => ∃ (x4_1 : List Int) (x5_1 : Int), v5 = .int .i64 x5_1 ∧ Aside0 (spec_Unparse.l0 kq l0 x4_1 x5_1 = some (r1, r2)) ∧ Aside0 (kq ≤ k) ∧ Aside0 (Kd.R (Kd.int .u32) 47 w' w.heap.size (fun _ => True) v4 x4_1) ∧ Aside0 (Below w.heap.size w w'))
 case atStart => exact ⟨(y492), (0), Z2, H', ⟨Nat.le_refl _⟩, ⟨(Z12 HO494)⟩, ⟨Z61⟩⟩
 case round =>
  clear H'
  try clear p2
  obtain ⟨x4_1, x5_1, rfl, HA, HK1, HO_4, HB⟩ := hrel
  cases gk with
  | zero => exact absurd HA.out (by simp [spec_Unparse.l0])
  | succ k1 =>
   have H := HA.out
   clear HA
   simp only [spec_Unparse.l0] at H
   by_cases c4 : x5_1 < (l0.length : Int)
   ·rw [if_pos c4] at H
    have c4b0 : decide (x5_1 < (l0.length : Int)) = true := decide_eq_true c4
    clear c4
    by_cases c5 : 0 ≤ x5_1
    ·rw [if_pos c5] at H
     have c5b0 : decide (0 ≤ x5_1) = true := decide_eq_true c5
     clear c5
     replace H := Option.bind_eq_some_iff.mp H
     obtain ⟨t496, A60, H⟩ := H
     replace H : (if (t496.length : Int) = 0 then (some ((([] : List Int)), false)) else (if (wrap64 ((x4_1.length : Int) + (t496.length : Int))) > 64 then (some ((([] : List Int)), false)) else (if x4_1.length + t496.length < 35184372088832 then (spec_Unparse.l0 k1 l0 (x4_1 ++ t496) (wrap64 (x5_1 + 1))) else (none)))) = some (r1, r2) := H
     have A6 := Aside0.mk A60
     clear A60
     by_cases c7 : (t496.length : Int) = 0
     ·rw [if_pos c7] at H
      have c7b0 : ((t496.length : Int) == 0) = true := beq_iff_eq.mpr c7
      have c7b1 : ((t496.length : Int) != 0) = false := bne_eq_false_iff_eq.mpr c7
      clear c7
      obtain ⟨y499, hy499⟩ : ∃ y_ : List Int, y_ = (([] : List Int)) := ⟨_, rfl⟩
      replace H : (some (y499, false)) = some (r1, r2) := by first | (rw [hy499]; with_reducible exact H) | (have H2_ := (Option.bind_some _ _).symm.trans H; rw [hy499]; with_reducible exact H2_) | (have H2_ := (Option.bind_some _ _).symm.trans H; with_reducible exact H2_) | with_reducible exact H | (rw [hy499]; exact H) | exact H
      have Ny499 := Aside0.mk hy499
      clear hy499
      simp only [Option.some.injEq, Prod.mk.injEq] at H
      obtain ⟨rfl, rfl⟩ := H
      have p495 : 0 ≤ (x5_1 : Int) := of_decide_eq_true Z5
      have q495 : x5_1 < (l0.length : Int) := of_decide_eq_true Z5
      obtain ⟨ad495, e495, hx495_0, hx495_1, hx495_2, hx495_3, hx495_4⟩ := at_T51 HR0.out x5_1 p495 q495
      cases e495
      replace hx495_0 := (HB.out.cell (World.block_lt_of_cell? w _ hx495_0)).trans hx495_0
      replace hx495_1 := (HB.out.cell (World.block_lt_of_cell? w _ hx495_1)).trans hx495_1
      replace hx495_2 := (HB.out.cell (World.block_lt_of_cell? w _ hx495_2)).trans hx495_2
      replace hx495_3 := (HB.out.cell (World.block_lt_of_cell? w _ hx495_3)).trans hx495_3
      replace hx495_4 := (HB.out.cell (World.block_lt_of_cell? w _ hx495_4)).trans hx495_4
      replace p495 := eq_true p495
      replace q495 := eq_true q495
      go_wp2_with (first | ((with_reducible refine gate_callee (f := 83) rfl ?_); refine goesL_ (some 18) rfl rfl Try.func83 Z0 rfl #[.agg #[.int .i64 ((rd_T51 l0 x5_1).f0), .string ((rd_T51 l0 x5_1).f1), .int .i32 ((rd_T51 l0 x5_1).f2), .bool ((rd_T51 l0 x5_1).f3), .int .u32 ((rd_T51 l0 x5_1).f4)]] rfl Z4 ?_; (with_reducible refine (spec_CellsOf.calls k1 ((rd_T51 l0 x5_1).f0) ((rd_T51 l0 x5_1).f1) ((rd_T51 l0 x5_1).f2) ((rd_T51 l0 x5_1).f3) ((rd_T51 l0 x5_1).f4) t496 _ A6.out).mono ?_); rintro e w8 ⟨v497, rfl, ho0, hb⟩; refine ⟨_, rfl, ?_⟩; have HO498 := Z (Kd.R_lower (Kd.R_new' ho0 (Kd.R_lt (Z12 HO_4))) (below_size Z61)); replace HO_4 := Z (Kd.R_elder' (Z12 HO_4) (Kd.R_base ho0) hb); replace HB := Z (below_step Z61 hb); (try clear hb); (try clear hb2); (try clear hk); (try clear hi); (try clear ho0); obtain ⟨Ao9, co9, eo9⟩ := Kd.R_slice HO498.out; subst eo9) | ((with_reducible refine gate_dst (N := 30) rfl ?_); (try (refine gate_guard (by rfl) ?_; dsimp only)); refine Kd.R_lit (Kd.int .u32) _ 47 (by rfl) (N := 30) (by rfl) (xs := ([] : List Int)) (inner := []) (ok := fun _ => True) (okp := fun _ => True) Z10 (Reps.none _ _) (fun _ hk => hk) trivial (Below.refl _ _) (Nat.le_refl _) (by simp) ?_; intro v500 w10 ho11 hb hg_ hnew_; clear hg_ hnew_; (first | rw [← Ny499.out] at ho11 | (simp only [Int.reduceToNat] at ho11; rw [← Ny499.out] at ho11)); have HO501 := Z (Kd.R_lower (Kd.R_new' (Kd.R_new' ho11 (Kd.R_lt (Z12 HO_4))) (Kd.R_lt (Z12 HO498))) (below_size Z61)); replace HO_4 := Z (Kd.R_elder' (Z12 HO_4) (Kd.R_base ho11) hb); replace HO498 := Z (Kd.R_elder' (Z12 HO498) (Kd.R_base ho11) hb); replace HB := Z (below_step Z61 hb); clear hb ho11))
      go_ret2
      exact ⟨_, Z13, (Z17 HO501), Z61⟩
     ·rw [if_neg c7] at H
      have c7b0 : ((t496.length : Int) == 0) = false := beq_eq_false_iff_ne.mpr c7
      have c7b1 : ((t496.length : Int) != 0) = true := bne_iff_ne.mpr c7
      have c7b2 : ¬ (t496 = []) := fun h_ => c7 (by rw [h_]; rfl)
      by_cases c12 : (wrap64 ((x4_1.length : Int) + (t496.length : Int))) > 64
      ·rw [if_pos c12] at H
       have c12b0 : decide (64 < (wrap64 ((x4_1.length : Int) + (t496.length : Int)))) = true := decide_eq_true c12
       clear c12
       obtain ⟨y502, hy502⟩ : ∃ y_ : List Int, y_ = (([] : List Int)) := ⟨_, rfl⟩
       replace H : (some (y502, false)) = some (r1, r2) := by first | (rw [hy502]; with_reducible exact H) | (have H2_ := (Option.bind_some _ _).symm.trans H; rw [hy502]; with_reducible exact H2_) | (have H2_ := (Option.bind_some _ _).symm.trans H; with_reducible exact H2_) | with_reducible exact H | (rw [hy502]; exact H) | exact H
       have Ny502 := Aside0.mk hy502
       clear hy502
       simp only [Option.some.injEq, Prod.mk.injEq] at H
       obtain ⟨rfl, rfl⟩ := H
       have p495 : 0 ≤ (x5_1 : Int) := of_decide_eq_true Z5
       have q495 : x5_1 < (l0.length : Int) := of_decide_eq_true Z5
       obtain ⟨ad495, e495, hx495_0, hx495_1, hx495_2, hx495_3, hx495_4⟩ := at_T51 HR0.out x5_1 p495 q495
       cases e495
       replace hx495_0 := (HB.out.cell (World.block_lt_of_cell? w _ hx495_0)).trans hx495_0
       replace hx495_1 := (HB.out.cell (World.block_lt_of_cell? w _ hx495_1)).trans hx495_1
       replace hx495_2 := (HB.out.cell (World.block_lt_of_cell? w _ hx495_2)).trans hx495_2
       replace hx495_3 := (HB.out.cell (World.block_lt_of_cell? w _ hx495_3)).trans hx495_3
       replace hx495_4 := (HB.out.cell (World.block_lt_of_cell? w _ hx495_4)).trans hx495_4
       replace p495 := eq_true p495
       replace q495 := eq_true q495
       go_wp2_with (first | ((with_reducible refine gate_callee (f := 83) rfl ?_); refine goesL_ (some 18) rfl rfl Try.func83 Z0 rfl #[.agg #[.int .i64 ((rd_T51 l0 x5_1).f0), .string ((rd_T51 l0 x5_1).f1), .int .i32 ((rd_T51 l0 x5_1).f2), .bool ((rd_T51 l0 x5_1).f3), .int .u32 ((rd_T51 l0 x5_1).f4)]] rfl Z4 ?_; (with_reducible refine (spec_CellsOf.calls k1 ((rd_T51 l0 x5_1).f0) ((rd_T51 l0 x5_1).f1) ((rd_T51 l0 x5_1).f2) ((rd_T51 l0 x5_1).f3) ((rd_T51 l0 x5_1).f4) t496 _ A6.out).mono ?_); rintro e w13 ⟨v497, rfl, ho0, hb⟩; refine ⟨_, rfl, ?_⟩; have HO498 := Z (Kd.R_lower (Kd.R_new' ho0 (Kd.R_lt (Z12 HO_4))) (below_size Z61)); replace HO_4 := Z (Kd.R_elder' (Z12 HO_4) (Kd.R_base ho0) hb); replace HB := Z (below_step Z61 hb); (try clear hb); (try clear hb2); (try clear hk); (try clear hi); (try clear ho0); obtain ⟨Ao14, co14, eo14⟩ := Kd.R_slice HO498.out; subst eo14; obtain ⟨Ao15, co15, eo15⟩ := Kd.R_slice HO_4.out; subst eo15) | ((with_reducible refine gate_dst (N := 30) rfl ?_); (try (refine gate_guard (by rfl) ?_; dsimp only)); refine Kd.R_lit (Kd.int .u32) _ 47 (by rfl) (N := 30) (by rfl) (xs := ([] : List Int)) (inner := []) (ok := fun _ => True) (okp := fun _ => True) Z10 (Reps.none _ _) (fun _ hk => hk) trivial (Below.refl _ _) (Nat.le_refl _) (by simp) ?_; intro v503 w16 ho17 hb hg_ hnew_; clear hg_ hnew_; (first | rw [← Ny502.out] at ho17 | (simp only [Int.reduceToNat] at ho17; rw [← Ny502.out] at ho17)); have HO504 := Z (Kd.R_lower (Kd.R_new' (Kd.R_new' ho17 (Kd.R_lt (Z12 HO_4))) (Kd.R_lt (Z12 HO498))) (below_size Z61)); replace HO_4 := Z (Kd.R_elder' (Z12 HO_4) (Kd.R_base ho17) hb); replace HO498 := Z (Kd.R_elder' (Z12 HO498) (Kd.R_base ho17) hb); replace HB := Z (below_step Z61 hb); clear hb ho17))
       go_ret2
       exact ⟨_, Z13, (Z17 HO504), Z61⟩
      ·rw [if_neg c12] at H
       have c12b0 : decide (64 < (wrap64 ((x4_1.length : Int) + (t496.length : Int)))) = false := decide_eq_false c12
       clear c12
       by_cases c18 : x4_1.length + t496.length < 35184372088832
       ·rw [if_pos c18] at H
        have LMc18 := Aside0.mk c18
        clear c18
        obtain ⟨y505, hy505⟩ : ∃ y_ : List Int, y_ = (x4_1 ++ t496) := ⟨_, rfl⟩
        replace H : (spec_Unparse.l0 k1 l0 y505 (wrap64 (x5_1 + 1))) = some (r1, r2) := by first | (rw [hy505]; with_reducible exact H) | (have H2_ := (Option.bind_some _ _).symm.trans H; rw [hy505]; with_reducible exact H2_) | (have H2_ := (Option.bind_some _ _).symm.trans H; with_reducible exact H2_) | with_reducible exact H | (rw [hy505]; exact H) | exact H
        have Ny505 := Aside0.mk hy505
        clear hy505
        have H' := Aside0.mk H
        clear H
        have p495 : 0 ≤ (x5_1 : Int) := of_decide_eq_true Z5
        have q495 : x5_1 < (l0.length : Int) := of_decide_eq_true Z5
        obtain ⟨ad495, e495, hx495_0, hx495_1, hx495_2, hx495_3, hx495_4⟩ := at_T51 HR0.out x5_1 p495 q495
        cases e495
        replace hx495_0 := (HB.out.cell (World.block_lt_of_cell? w _ hx495_0)).trans hx495_0
        replace hx495_1 := (HB.out.cell (World.block_lt_of_cell? w _ hx495_1)).trans hx495_1
        replace hx495_2 := (HB.out.cell (World.block_lt_of_cell? w _ hx495_2)).trans hx495_2
        replace hx495_3 := (HB.out.cell (World.block_lt_of_cell? w _ hx495_3)).trans hx495_3
        replace hx495_4 := (HB.out.cell (World.block_lt_of_cell? w _ hx495_4)).trans hx495_4
        replace p495 := eq_true p495
        replace q495 := eq_true q495
        go_wp2_with (first | ((with_reducible refine gate_callee (f := 83) rfl ?_); refine goesL_ (some 18) rfl rfl Try.func83 Z0 rfl #[.agg #[.int .i64 ((rd_T51 l0 x5_1).f0), .string ((rd_T51 l0 x5_1).f1), .int .i32 ((rd_T51 l0 x5_1).f2), .bool ((rd_T51 l0 x5_1).f3), .int .u32 ((rd_T51 l0 x5_1).f4)]] rfl Z4 ?_; (with_reducible refine (spec_CellsOf.calls k1 ((rd_T51 l0 x5_1).f0) ((rd_T51 l0 x5_1).f1) ((rd_T51 l0 x5_1).f2) ((rd_T51 l0 x5_1).f3) ((rd_T51 l0 x5_1).f4) t496 _ A6.out).mono ?_); rintro e w19 ⟨v497, rfl, ho0, hb⟩; refine ⟨_, rfl, ?_⟩; have HO498 := Z (Kd.R_lower (Kd.R_new' ho0 (Kd.R_lt (Z12 HO_4))) (below_size Z61)); replace HO_4 := Z (Kd.R_elder' (Z12 HO_4) (Kd.R_base ho0) hb); replace HB := Z (below_step Z61 hb); (try clear hb); (try clear hb2); (try clear hk); (try clear hi); (try clear ho0); obtain ⟨Ao20, co20, eo20⟩ := Kd.R_slice HO498.out; subst eo20; obtain ⟨Ao21, co21, eo21⟩ := Kd.R_slice HO_4.out; subst eo21) | ((with_reducible refine gate_builtin (b := .append) (xs := #[.tmp 31, .tmp 32]) rfl ?_); (try (refine gate_guard (by rfl) ?_; dsimp only)); at_builtin; refine Kd.R_append_rows (Kd.int .u32) (w0 := w) w.heap.size rfl (.tmp 31) (.tmp 32) 24 47 (.int .u32 0) 4 rfl Try.underlying24 info47 rfl (by decide) (by omega) (.slice Ao21 x4_1.length co21) x4_1 t496 _ _ _ (fun k_ => some k_ ≠ (.slice Ao20 t496.length co20 : Value).ownBlock) (fun _ => False) rfl rfl ?aO ?aR (fun _ _ h => h) (fun _ h => h.elim) ?aF ?aB ?aS ?aL ?_; (case aR => exact (Z26 HO498)); (case aB => exact Z61); (case aF => exact (fun k_ hk => Kd.fresh' (Kd.R_lt (Z12 HO498)) k_ hk)); (case aO => exact (Z16 HO_4)); (case aS => exact (below_size Z61)); (case aL => have := LMc18.out; omega); intro v506 w22 ho hb hg hat; rw [← Ny505.out] at ho; replace HO498 := Z (Kd.R_after (ok := (fun _ => True)) (Z12 HO498) hg hat); replace HB := Z (hb); have HO507 := Z (ho); clear HO_4; clear ho hb hg hat))
        go_roundg k1
        case measure => have := HK1.out; omega
        case rel => exact ⟨(y505), (wrap64 (x5_1 + 1)), Z2, H', ⟨Z6⟩, ⟨(Z17 HO507)⟩, ⟨Z61⟩⟩
       ·rw [if_neg c18] at H
        exact absurd H (by simp)
    ·rw [if_neg c5] at H
     exact absurd H (by simp)
   ·rw [if_neg c4] at H
    have c4b0 : decide (x5_1 < (l0.length : Int)) = false := decide_eq_false c4
    clear c4
    simp only [Option.some.injEq, Prod.mk.injEq] at H
    obtain ⟨rfl, rfl⟩ := H
    go_wp2
    go_ret2
    exact ⟨_, Z13, (Z12 HO_4), Z61⟩

/-! ### spec_l04Same: function 82 -/
def spec_l04Same.l0 : Nat → List (S51) → List (S51) → Int → Option (Bool)
 | 0, _, _, _ => none
 | k + 1, x0, x1, x5 => if x5 < (x0.length : Int) then (if 0 ≤ x5 then (if x5 < (x1.length : Int) then (if (!(((rd_T51 x0 x5).f0) == ((rd_T51 x1 x5).f0)) || (!((((rd_T51 x0 x5).f1).toList) == (((rd_T51 x1 x5).f1).toList)) || (!(((rd_T51 x0 x5).f2) == ((rd_T51 x1 x5).f2)) || (!(((rd_T51 x0 x5).f3) == ((rd_T51 x1 x5).f3)) || (!(((rd_T51 x0 x5).f4) == ((rd_T51 x1 x5).f4))))))) = true then (some false) else (spec_l04Same.l0 k x0 x1 (wrap64 (x5 + 1)))) else (none)) else (none)) else (some true)
def spec_l04Same.f (k : Nat) (l0 : List (S51)) (l1 : List (S51)) : Option (Bool) := if (l0.length : Int) = (l1.length : Int) then (spec_l04Same.l0 k l0 l1 0) else (some false)
theorem spec_l04Same.mono_l : ∀ k, (∀ y0 y1 y2, LeO (spec_l04Same.l0 k y0 y1 y2) (spec_l04Same.l0 (k + 1) y0 y1 y2))
 | 0 => fun _ _ _ r h => by simp [spec_l04Same.l0] at h
 | k + 1 => by
  have ih0 := spec_l04Same.mono_l k
  ·intro y0 y1 y2
   unfold spec_l04Same.l0
   repeat' first
   | (with_reducible exact ih0 _ _ _)
   | (with_reducible exact LeO.refl _)
   | (with_reducible exact LeO.none _)
   | (with_reducible refine LeO.ite ?_ ?_)
   | (with_reducible refine LeO.bind ?_ (fun _ => ?_))
   | exact ih0 _ _ _
   | exact LeO.none _
   | refine LeO.ite ?_ ?_
   | refine LeO.bind ?_ (fun _ => ?_)
theorem spec_l04Same.mono : ∀ a0 a1 k, LeO (spec_l04Same.f k a0 a1) (spec_l04Same.f (k + 1) a0 a1) := by
 intro a0 a1 k
 have ih0 := spec_l04Same.mono_l k
 unfold spec_l04Same.f
 repeat' first
   | (with_reducible exact ih0 _ _ _)
   | (with_reducible exact LeO.refl _)
   | (with_reducible exact LeO.none _)
   | (with_reducible refine LeO.ite ?_ ?_)
   | (with_reducible refine LeO.bind ?_ (fun _ => ?_))
   | exact ih0 _ _ _
   | exact LeO.none _
   | refine LeO.ite ?_ ?_
   | refine LeO.bind ?_ (fun _ => ?_)
set_option maxHeartbeats 8000000 in
set_option maxRecDepth 100000 in
theorem spec_l04Same.calls (k : Nat) (A0 : Option Addr) (c0 : Nat) (l0 : List (S51)) (A1 : Option Addr) (c1 : Nat) (l1 : List (S51)) (r : Bool) (w : World) (hr0 : Kd.C k51 w A0 l0.length l0) (hc0 : l0.length ≤ c0) (hr1 : Kd.C k51 w A1 l1.length l1) (hc1 : l1.length ≤ c1) (h : spec_l04Same.f k l0 l1 = some r) :
  Calls Try.prog 82 #[.slice A0 l0.length c0, .slice A1 l1.length c1] w fun e w' => e = .returned (.bool r) ∧ Drawn0 w w' := by
 have hu51 := Try.underlying51
 have HR0 := Aside0.mk hr0
 have HC0 := Aside0.mk hc0
 clear hr0 hc0
 have HR1 := Aside0.mk hr1
 have HC1 := Aside0.mk hc1
 clear hr1 hc1
 have H : (if (l0.length : Int) = (l1.length : Int) then (spec_l04Same.l0 k l0 l1 0) else (some false)) = some r := h
 clear h
 by_cases c3 : (l0.length : Int) = (l1.length : Int)
 ·rw [if_pos c3] at H
  have c3b0 : ((l0.length : Int) == (l1.length : Int)) = true := beq_iff_eq.mpr c3
  have c3b1 : ((l0.length : Int) != (l1.length : Int)) = false := bne_eq_false_iff_eq.mpr c3
  have c3b2 : (l0.length == l1.length) = true := Z22
  clear c3
  have H' := Aside0.mk H
  clear H
  go_enter Try.func82, Try.ntmps82
  go_wp2
  repeat (go_quiet (fail); try go_wp2)
  go_loopg [5] k (fun kq v5 w' => ∃ (x5_1 : Int), v5 = .int .i64 x5_1 ∧ Aside0 (spec_l04Same.l0 kq l0 l1 x5_1 = some r) ∧ Aside0 (kq ≤ k) ∧ Drawn0 w w')
  case atStart => exact ⟨(0), Z2, H', ⟨Nat.le_refl _⟩, Z3⟩
  case round =>
   clear H'
   try clear c1
   try clear p2
   try clear c3
   try clear c3b0
   try clear c3b1
   try clear c3b2
   obtain ⟨x5_1, rfl, HA, HK1, ⟨m1, rfl⟩⟩ := hrel
   cases gk with
   | zero => exact absurd HA.out (by simp [spec_l04Same.l0])
   | succ k1 =>
    have H := HA.out
    clear HA
    simp only [spec_l04Same.l0] at H
    by_cases c4 : x5_1 < (l0.length : Int)
    ·rw [if_pos c4] at H
     have c4b0 : decide (x5_1 < (l0.length : Int)) = true := decide_eq_true c4
     clear c4
     by_cases c5 : 0 ≤ x5_1
     ·rw [if_pos c5] at H
      have c5b0 : decide (0 ≤ x5_1) = true := decide_eq_true c5
      clear c5
      by_cases c6 : x5_1 < (l1.length : Int)
      ·rw [if_pos c6] at H
       have c6b0 : decide (x5_1 < (l1.length : Int)) = true := decide_eq_true c6
       clear c6
       by_cases c7 : (!(((rd_T51 l0 x5_1).f0) == ((rd_T51 l1 x5_1).f0)) || (!((((rd_T51 l0 x5_1).f1).toList) == (((rd_T51 l1 x5_1).f1).toList)) || (!(((rd_T51 l0 x5_1).f2) == ((rd_T51 l1 x5_1).f2)) || (!(((rd_T51 l0 x5_1).f3) == ((rd_T51 l1 x5_1).f3)) || (!(((rd_T51 l0 x5_1).f4) == ((rd_T51 l1 x5_1).f4))))))) = true
       ·rw [if_pos c7] at H
        have c7b0 : (!(((rd_T51 l0 x5_1).f0) == ((rd_T51 l1 x5_1).f0)) || (!((((rd_T51 l0 x5_1).f1).toList) == (((rd_T51 l1 x5_1).f1).toList)) || (!(((rd_T51 l0 x5_1).f2) == ((rd_T51 l1 x5_1).f2)) || (!(((rd_T51 l0 x5_1).f3) == ((rd_T51 l1 x5_1).f3)) || (!(((rd_T51 l0 x5_1).f4) == ((rd_T51 l1 x5_1).f4))))))) = true := c7
        clear c7
        obtain rfl := Option.some.inj H
        have p508 : 0 ≤ (x5_1 : Int) := of_decide_eq_true Z5
        have q508 : x5_1 < (l0.length : Int) := of_decide_eq_true Z5
        obtain ⟨ad508, e508, hx508_0, hx508_1, hx508_2, hx508_3, hx508_4⟩ := at_T51 HR0.out x5_1 p508 q508
        cases e508
        replace p508 := eq_true p508
        replace q508 := eq_true q508
        have p509 : 0 ≤ (x5_1 : Int) := of_decide_eq_true Z5
        have q509 : x5_1 < (l1.length : Int) := of_decide_eq_true Z5
        obtain ⟨ad509, e509, hx509_0, hx509_1, hx509_2, hx509_3, hx509_4⟩ := at_T51 HR1.out x5_1 p509 q509
        cases e509
        replace p509 := eq_true p509
        replace q509 := eq_true q509
        go_wp2
        repeat (go_quiet (fail); try go_wp2)
        go_ret
        exact ⟨Z2, Z3⟩
       ·rw [if_neg c7] at H
        have c7b0 : (!(((rd_T51 l0 x5_1).f0) == ((rd_T51 l1 x5_1).f0)) || (!((((rd_T51 l0 x5_1).f1).toList) == (((rd_T51 l1 x5_1).f1).toList)) || (!(((rd_T51 l0 x5_1).f2) == ((rd_T51 l1 x5_1).f2)) || (!(((rd_T51 l0 x5_1).f3) == ((rd_T51 l1 x5_1).f3)) || (!(((rd_T51 l0 x5_1).f4) == ((rd_T51 l1 x5_1).f4))))))) = false := by simpa using c7
        clear c7
        have H' := Aside0.mk H
        clear H
        have p508 : 0 ≤ (x5_1 : Int) := of_decide_eq_true Z5
        have q508 : x5_1 < (l0.length : Int) := of_decide_eq_true Z5
        obtain ⟨ad508, e508, hx508_0, hx508_1, hx508_2, hx508_3, hx508_4⟩ := at_T51 HR0.out x5_1 p508 q508
        cases e508
        replace p508 := eq_true p508
        replace q508 := eq_true q508
        have p509 : 0 ≤ (x5_1 : Int) := of_decide_eq_true Z5
        have q509 : x5_1 < (l1.length : Int) := of_decide_eq_true Z5
        obtain ⟨ad509, e509, hx509_0, hx509_1, hx509_2, hx509_3, hx509_4⟩ := at_T51 HR1.out x5_1 p509 q509
        cases e509
        replace p509 := eq_true p509
        replace q509 := eq_true q509
        go_wp2
        repeat (go_quiet (fail); try go_wp2)
        go_roundg k1
        case measure => have := HK1.out; omega
        case rel => exact ⟨(wrap64 (x5_1 + 1)), Z2, H', ⟨Z6⟩, Z3⟩
      ·rw [if_neg c6] at H
       exact absurd H (by simp)
     ·rw [if_neg c5] at H
      exact absurd H (by simp)
    ·rw [if_neg c4] at H
     have c4b0 : decide (x5_1 < (l0.length : Int)) = false := decide_eq_false c4
     clear c4
     obtain rfl := Option.some.inj H
     go_wp2
     repeat (go_quiet (fail); try go_wp2)
     go_ret
     exact ⟨Z2, Z3⟩
 ·rw [if_neg c3] at H
  have c3b0 : ((l0.length : Int) == (l1.length : Int)) = false := beq_eq_false_iff_ne.mpr c3
  have c3b1 : ((l0.length : Int) != (l1.length : Int)) = true := bne_iff_ne.mpr c3
  have c3b2 : (l0.length == l1.length) = false := Z22
  obtain rfl := Option.some.inj H
  go_enter Try.func82, Try.ntmps82
  go_wp2
  repeat (go_quiet (fail); try go_wp2)
  go_ret
  exact ⟨Z2, Z3⟩

/-! ### spec_ListOk: function 54 -/
def spec_ListOk.f (k : Nat) (l0 : List (S51)) : Option (Bool) := (spec_Unparse.f k l0).bind fun bt510 => (if bt510.2 = true then ((spec_ParseCells.f k bt510.1).bind fun t514 => ((spec_l04Same.f k t514 l0).bind fun t517 => (some t517))) else (some false))
theorem spec_ListOk.mono : ∀ a0 k, LeO (spec_ListOk.f k a0) (spec_ListOk.f (k + 1) a0) := by
 intro a0 k
 unfold spec_ListOk.f
 repeat' first
   | (with_reducible exact spec_ParseCells.mono _ _)
   | (with_reducible exact spec_Unparse.mono _ _)
   | (with_reducible exact spec_l04Same.mono _ _ _)
   | (with_reducible exact LeO.refl _)
   | (with_reducible exact LeO.none _)
   | (with_reducible refine LeO.ite ?_ ?_)
   | (with_reducible refine LeO.bind ?_ (fun _ => ?_))
   | exact spec_ParseCells.mono _ _
   | exact spec_Unparse.mono _ _
   | exact spec_l04Same.mono _ _ _
   | exact LeO.none _
   | refine LeO.ite ?_ ?_
   | refine LeO.bind ?_ (fun _ => ?_)
set_option maxHeartbeats 8000000 in
set_option maxRecDepth 100000 in
theorem spec_ListOk.calls (k : Nat) (A0 : Option Addr) (c0 : Nat) (l0 : List (S51)) (r : Bool) (w : World) (hr0 : Kd.C k51 w A0 l0.length l0) (hc0 : l0.length ≤ c0) (h : spec_ListOk.f k l0 = some r) :
  Calls Try.prog 54 #[.slice A0 l0.length c0] w fun e w' => e = .returned (.bool r) ∧ Below w.heap.size w w' := by
 have HR0 := Aside0.mk hr0
 have HC0 := Aside0.mk hc0
 clear hr0 hc0
 have HB := Z (Below.refl w.heap.size w)
 have H : ((spec_Unparse.f k l0).bind fun bt510 => (if bt510.2 = true then ((spec_ParseCells.f k bt510.1).bind fun t514 => ((spec_l04Same.f k t514 l0).bind fun t517 => (some t517))) else (some false))) = some r := h
 clear h
 replace H := Option.bind_eq_some_iff.mp H
 obtain ⟨⟨t510, t511⟩, A20, H⟩ := H
 replace H : (if t511 = true then ((spec_ParseCells.f k t510).bind fun t514 => ((spec_l04Same.f k t514 l0).bind fun t517 => (some t517))) else (some false)) = some r := H
 have A2 := Aside0.mk A20
 clear A20
 by_cases c3 : t511 = true
 ·subst c3
  have H1 : ((spec_ParseCells.f k t510).bind fun t514 => ((spec_l04Same.f k t514 l0).bind fun t517 => (some t517))) = some r := Z7
  clear H
  have H := H1
  clear H1
  replace H := Option.bind_eq_some_iff.mp H
  obtain ⟨t514, A40, H⟩ := H
  replace H : ((spec_l04Same.f k t514 l0).bind fun t517 => (some t517)) = some r := H
  have A4 := Aside0.mk A40
  clear A40
  replace H := Option.bind_eq_some_iff.mp H
  obtain ⟨t517, A50, H⟩ := H
  replace H : (some t517) = some r := H
  have A5 := Aside0.mk A50
  clear A50
  obtain rfl := Option.some.inj H
  go_enter Try.func54, Try.ntmps54
  go_wp2_with (first | ((with_reducible refine gate_callee (f := 80) rfl ?_); refine goesL_ (some 7) rfl rfl Try.func80 Z0 rfl #[.slice A0 l0.length c0] rfl Z4 ?_; (with_reducible refine (spec_Unparse.calls k _ _ l0 t510 true _ ?side1 ?side2 A2.out).mono ?_); (case side1 => exact (Z39 HR0)); (case side2 => exact HC0.out); rintro e w6 ⟨v512, rfl, ho0, hb⟩; refine ⟨_, rfl, ?_⟩; have HO513 := Z (Kd.R_lower ho0 (below_size Z61)); replace HB := Z (below_step Z61 hb); (try clear hb); (try clear hb2); (try clear hk); (try clear hi); (try clear ho0); obtain ⟨Ao7, co7, eo7⟩ := Kd.R_slice HO513.out; subst eo7) | (go_at_call 17; (with_reducible refine (spec_ParseCells.calls k _ _ t510 t514 _ ?side1 ?side2 A4.out).mono ?_); (case side1 => exact (Z26 HO513)); (case side2 => exact (Kd.R_reads' HO513.out).2.1); rintro e w8 ⟨v515, rfl, ho0, hb⟩; replace HO513 := Z (Kd.R_below (Z12 HO513) hb); have HO516 := Z (Kd.R_lower ho0 (below_size Z61)); replace HB := Z (below_step Z61 hb); (try clear hb); (try clear hb2); (try clear hk); (try clear hi); (try clear ho0); obtain ⟨Ao9, co9, eo9⟩ := Kd.R_slice HO516.out; subst eo9) | (go_at_call 82; (with_reducible refine (spec_l04Same.calls k _ _ t514 _ _ l0 t517 _ ?side1 ?side2 ?side3 ?side4 A5.out).mono ?_); (case side1 => exact (Z26 HO516)); (case side2 => exact (Kd.R_reads' HO516.out).2.1); (case side3 => exact (Z27 HR0)); (case side4 => exact HC0.out); rintro e w' ⟨rfl, ⟨nd, rfl⟩⟩))
  go_ret
  exact ⟨Z13, Z61⟩
 ·replace c3 := Bool.eq_false_iff.mpr c3
  subst c3
  have H1 : (some false) = some r := by rw [if_neg (show ¬ (false = true) by decide)] at H; exact H
  clear H
  have H := H1
  clear H1
  obtain rfl := Option.some.inj H
  go_enter Try.func54, Try.ntmps54
  go_wp2_with (first | ((with_reducible refine gate_callee (f := 80) rfl ?_); refine goesL_ (some 7) rfl rfl Try.func80 Z0 rfl #[.slice A0 l0.length c0] rfl Z4 ?_; (with_reducible refine (spec_Unparse.calls k _ _ l0 t510 false _ ?side1 ?side2 A2.out).mono ?_); (case side1 => exact (Z39 HR0)); (case side2 => exact HC0.out); rintro e w10 ⟨v512, rfl, ho0, hb⟩; refine ⟨_, rfl, ?_⟩; have HO513 := Z (Kd.R_lower ho0 (below_size Z61)); replace HB := Z (below_step Z61 hb); (try clear hb); (try clear hb2); (try clear hk); (try clear hi); (try clear ho0)))
  go_ret
  exact ⟨Z13, Z61⟩

/-! ### laws_FnExactListOk: function 11 -/
def laws_FnExactListOk.f (k : Nat) (l0 : List (S49)) : Option (Bool) := (laws_szItemS.f k l0 1048576).bind fun t518 => (if t518 < 0 then (some true) else ((laws_toItemS.f k l0).bind fun t519 => ((spec_ListOk.f k t519).bind fun t522 => ((laws_toItemS.f k l0).bind fun t523 => ((impl_ListOk.f k t523).bind fun t526 => (if (t526 != t522) = true then (some false) else ((laws_toItemS.f k l0).bind fun t527 => ((laws_eqItemS.f k t523 t527).bind fun t530 => (if t530 = true then (some true) else (some false))))))))))
theorem laws_FnExactListOk.mono : ∀ a0 k, LeO (laws_FnExactListOk.f k a0) (laws_FnExactListOk.f (k + 1) a0) := by
 intro a0 k
 unfold laws_FnExactListOk.f
 repeat' first
   | (with_reducible exact impl_ListOk.mono _ _)
   | (with_reducible exact laws_eqItemS.mono _ _ _)
   | (with_reducible exact laws_szItemS.mono _ _ _)
   | (with_reducible exact laws_toItemS.mono _ _)
   | (with_reducible exact spec_ListOk.mono _ _)
   | (with_reducible exact LeO.refl _)
   | (with_reducible exact LeO.none _)
   | (with_reducible refine LeO.ite ?_ ?_)
   | (with_reducible refine LeO.bind ?_ (fun _ => ?_))
   | exact impl_ListOk.mono _ _
   | exact laws_eqItemS.mono _ _ _
   | exact laws_szItemS.mono _ _ _
   | exact laws_toItemS.mono _ _
   | exact spec_ListOk.mono _ _
   | exact LeO.none _
   | refine LeO.ite ?_ ?_
   | refine LeO.bind ?_ (fun _ => ?_)
set_option maxHeartbeats 8000000 in
set_option maxRecDepth 100000 in
theorem laws_FnExactListOk.calls (k : Nat) (A0 : Option Addr) (c0 : Nat) (l0 : List (S49)) (r : Bool) (w : World) (hr0 : Kd.C k49 w A0 l0.length l0) (hc0 : l0.length ≤ c0) (h : laws_FnExactListOk.f k l0 = some r) :
  Calls Try.prog 11 #[.slice A0 l0.length c0] w fun e w' => e = .returned (.bool r) ∧ Below w.heap.size w w' := by
 have HR0 := Aside0.mk hr0
 have HC0 := Aside0.mk hc0
 clear hr0 hc0
 have HB := Z (Below.refl w.heap.size w)
 have H : ((laws_szItemS.f k l0 1048576).bind fun t518 => (if t518 < 0 then (some true) else ((laws_toItemS.f k l0).bind fun t519 => ((spec_ListOk.f k t519).bind fun t522 => ((laws_toItemS.f k l0).bind fun t523 => ((impl_ListOk.f k t523).bind fun t526 => (if (t526 != t522) = true then (some false) else ((laws_toItemS.f k l0).bind fun t527 => ((laws_eqItemS.f k t523 t527).bind fun t530 => (if t530 = true then (some true) else (some false))))))))))) = some r := h
 clear h
 replace H := Option.bind_eq_some_iff.mp H
 obtain ⟨t518, A20, H⟩ := H
 replace H : (if t518 < 0 then (some true) else ((laws_toItemS.f k l0).bind fun t519 => ((spec_ListOk.f k t519).bind fun t522 => ((laws_toItemS.f k l0).bind fun t523 => ((impl_ListOk.f k t523).bind fun t526 => (if (t526 != t522) = true then (some false) else ((laws_toItemS.f k l0).bind fun t527 => ((laws_eqItemS.f k t523 t527).bind fun t530 => (if t530 = true then (some true) else (some false)))))))))) = some r := H
 have A2 := Aside0.mk A20
 clear A20
 by_cases c3 : t518 < 0
 ·rw [if_pos c3] at H
  have c3b0 : decide (t518 < 0) = true := decide_eq_true c3
  clear c3
  obtain rfl := Option.some.inj H
  go_enter Try.func11, Try.ntmps11
  go_wp2_with (first | ((with_reducible refine gate_callee (f := 44) rfl ?_); refine goesL_ (some 9) rfl rfl Try.func44 Z0 rfl #[.slice A0 l0.length c0, .int .i64 1048576] rfl Z4 ?_; (with_reducible refine (laws_szItemS.calls k _ _ l0 1048576 t518 _ ?side1 ?side2 A2.out).mono ?_); (case side1 => exact (Z39 HR0)); (case side2 => exact HC0.out); rintro e w4 ⟨rfl, hb⟩; refine ⟨_, rfl, ?_⟩; replace HB := Z (below_step Z61 hb); (try clear hb); (try clear hb2); (try clear hk); (try clear hi)))
  go_ret
  exact ⟨Z13, Z61⟩
 ·rw [if_neg c3] at H
  have c3b0 : decide (t518 < 0) = false := decide_eq_false c3
  clear c3
  replace H := Option.bind_eq_some_iff.mp H
  obtain ⟨t519, A50, H⟩ := H
  replace H : ((spec_ListOk.f k t519).bind fun t522 => ((laws_toItemS.f k l0).bind fun t523 => ((impl_ListOk.f k t523).bind fun t526 => (if (t526 != t522) = true then (some false) else ((laws_toItemS.f k l0).bind fun t527 => ((laws_eqItemS.f k t523 t527).bind fun t530 => (if t530 = true then (some true) else (some false)))))))) = some r := H
  have A5 := Aside0.mk A50
  clear A50
  replace H := Option.bind_eq_some_iff.mp H
  obtain ⟨t522, A60, H⟩ := H
  replace H : ((laws_toItemS.f k l0).bind fun t523 => ((impl_ListOk.f k t523).bind fun t526 => (if (t526 != t522) = true then (some false) else ((laws_toItemS.f k l0).bind fun t527 => ((laws_eqItemS.f k t523 t527).bind fun t530 => (if t530 = true then (some true) else (some false))))))) = some r := H
  have A6 := Aside0.mk A60
  clear A60
  replace H := Option.bind_eq_some_iff.mp H
  obtain ⟨t523, A70, H⟩ := H
  replace H : ((impl_ListOk.f k t523).bind fun t526 => (if (t526 != t522) = true then (some false) else ((laws_toItemS.f k l0).bind fun t527 => ((laws_eqItemS.f k t523 t527).bind fun t530 => (if t530 = true then (some true) else (some false)))))) = some r := H
  have A7 := Aside0.mk A70
  clear A70
  replace H := Option.bind_eq_some_iff.mp H
  obtain ⟨t526, A80, H⟩ := H
  replace H : (if (t526 != t522) = true then (some false) else ((laws_toItemS.f k l0).bind fun t527 => ((laws_eqItemS.f k t523 t527).bind fun t530 => (if t530 = true then (some true) else (some false))))) = some r := H
  have A8 := Aside0.mk A80
  clear A80
  by_cases c9 : (t526 != t522) = true
  ·rw [if_pos c9] at H
   have c9b0 : (t526 != t522) = true := c9
   (try (have c9b1 : decide (t526 = t522) = false := by simpa using c9))
   (try (have c9b2 : (t526 == t522) = false := by simpa using c9))
   (try (have c9b3 : ¬ (t526 = t522) := by simpa using c9))
   clear c9
   obtain rfl := Option.some.inj H
   go_enter Try.func11, Try.ntmps11
   go_wp2_with (first | ((with_reducible refine gate_callee (f := 44) rfl ?_); refine goesL_ (some 9) rfl rfl Try.func44 Z0 rfl #[.slice A0 l0.length c0, .int .i64 1048576] rfl Z4 ?_; (with_reducible refine (laws_szItemS.calls k _ _ l0 1048576 t518 _ ?side1 ?side2 A2.out).mono ?_); (case side1 => exact (Z39 HR0)); (case side2 => exact HC0.out); rintro e w10 ⟨rfl, hb⟩; refine ⟨_, rfl, ?_⟩; replace HB := Z (below_step Z61 hb); (try clear hb); (try clear hb2); (try clear hk); (try clear hi)) | ((with_reducible refine gate_callee (f := 46) rfl ?_); refine goesL_ (some 13) rfl rfl Try.func46 Z0 rfl #[.slice A0 l0.length c0] rfl Z4 ?_; (with_reducible refine (laws_toItemS.calls k _ _ l0 t519 _ ?side1 ?side2 A5.out).mono ?_); (case side1 => exact (Z27 HR0)); (case side2 => exact HC0.out); rintro e w11 ⟨v520, rfl, ho0, hb⟩; refine ⟨_, rfl, ?_⟩; have HO521 := Z (Kd.R_lower ho0 (below_size Z61)); replace HB := Z (below_step Z61 hb); (try clear hb); (try clear hb2); (try clear hk); (try clear hi); (try clear ho0); obtain ⟨Ao12, co12, eo12⟩ := Kd.R_slice HO521.out; subst eo12) | ((with_reducible refine gate_callee (f := 54) rfl ?_); refine goesL_ (some 14) rfl rfl Try.func54 Z0 rfl #[.slice Ao12 t519.length co12] rfl Z4 ?_; (with_reducible refine (spec_ListOk.calls k _ _ t519 t522 _ ?side1 ?side2 A6.out).mono ?_); (case side1 => exact (Z26 HO521)); (case side2 => exact (Kd.R_reads' HO521.out).2.1); rintro e w13 ⟨rfl, hb⟩; refine ⟨_, rfl, ?_⟩; replace HO521 := Z (Kd.R_below (Z12 HO521) hb); replace HB := Z (below_step Z61 hb); (try clear hb); (try clear hb2); (try clear hk); (try clear hi)) | ((with_reducible refine gate_callee (f := 46) rfl ?_); refine goesL_ (some 16) rfl rfl Try.func46 Z0 rfl #[.slice A0 l0.length c0] rfl Z4 ?_; (with_reducible refine (laws_toItemS.calls k _ _ l0 t523 _ ?side1 ?side2 A7.out).mono ?_); (case side1 => exact (Z27 HR0)); (case side2 => exact HC0.out); rintro e w14 ⟨v524, rfl, ho0, hb⟩; refine ⟨_, rfl, ?_⟩; have HO525 := Z (Kd.R_lower (Kd.R_new' ho0 (Kd.R_lt (Z12 HO521))) (below_size Z61)); replace HO521 := Z (Kd.R_elder' (Z12 HO521) (Kd.R_base ho0) hb); replace HB := Z (below_step Z61 hb); (try clear hb); (try clear hb2); (try clear hk); (try clear hi); (try clear ho0); obtain ⟨Ao15, co15, eo15⟩ := Kd.R_slice HO525.out; subst eo15) | ((with_reducible refine gate_callee (f := 20) rfl ?_); refine goesL_ (some 18) rfl rfl Try.func20 Z0 rfl #[.slice Ao15 t523.length co15] rfl Z4 ?_; (with_reducible refine (impl_ListOk.calls k _ _ t523 t526 _ ?side1 ?side2 A8.out).mono ?_); (case side1 => exact (Z26 HO525)); (case side2 => exact (Kd.R_reads' HO525.out).2.1); rintro e w16 ⟨rfl, hb⟩; refine ⟨_, rfl, ?_⟩; replace HO521 := Z (Kd.R_below (Z12 HO521) hb); replace HO525 := Z (Kd.R_below (Z12 HO525) hb); replace HB := Z (below_step Z61 hb); (try clear hb); (try clear hb2); (try clear hk); (try clear hi)))
   go_ret
   exact ⟨Z13, Z61⟩
  ·rw [if_neg c9] at H
   have c9b0 : (t526 != t522) = false := by simpa using c9
   (try (have c9b1 : decide (t526 = t522) = true := by simpa using c9))
   (try (have c9b2 : (t526 == t522) = true := by simpa using c9))
   clear c9
   replace H := Option.bind_eq_some_iff.mp H
   obtain ⟨t527, A170, H⟩ := H
   replace H : ((laws_eqItemS.f k t523 t527).bind fun t530 => (if t530 = true then (some true) else (some false))) = some r := H
   have A17 := Aside0.mk A170
   clear A170
   replace H := Option.bind_eq_some_iff.mp H
   obtain ⟨t530, A180, H⟩ := H
   replace H : (if t530 = true then (some true) else (some false)) = some r := H
   have A18 := Aside0.mk A180
   clear A180
   by_cases c19 : t530 = true
   ·subst c19
    have H1 : (some true) = some r := Z7
    clear H
    have H := H1
    clear H1
    obtain rfl := Option.some.inj H
    go_enter Try.func11, Try.ntmps11
    go_wp2_with (first | ((with_reducible refine gate_callee (f := 44) rfl ?_); refine goesL_ (some 9) rfl rfl Try.func44 Z0 rfl #[.slice A0 l0.length c0, .int .i64 1048576] rfl Z4 ?_; (with_reducible refine (laws_szItemS.calls k _ _ l0 1048576 t518 _ ?side1 ?side2 A2.out).mono ?_); (case side1 => exact (Z39 HR0)); (case side2 => exact HC0.out); rintro e w20 ⟨rfl, hb⟩; refine ⟨_, rfl, ?_⟩; replace HB := Z (below_step Z61 hb); (try clear hb); (try clear hb2); (try clear hk); (try clear hi)) | ((with_reducible refine gate_callee (f := 46) rfl ?_); refine goesL_ (some 13) rfl rfl Try.func46 Z0 rfl #[.slice A0 l0.length c0] rfl Z4 ?_; (with_reducible refine (laws_toItemS.calls k _ _ l0 t519 _ ?side1 ?side2 A5.out).mono ?_); (case side1 => exact (Z27 HR0)); (case side2 => exact HC0.out); rintro e w21 ⟨v520, rfl, ho0, hb⟩; refine ⟨_, rfl, ?_⟩; have HO521 := Z (Kd.R_lower ho0 (below_size Z61)); replace HB := Z (below_step Z61 hb); (try clear hb); (try clear hb2); (try clear hk); (try clear hi); (try clear ho0); obtain ⟨Ao22, co22, eo22⟩ := Kd.R_slice HO521.out; subst eo22) | ((with_reducible refine gate_callee (f := 54) rfl ?_); refine goesL_ (some 14) rfl rfl Try.func54 Z0 rfl #[.slice Ao22 t519.length co22] rfl Z4 ?_; (with_reducible refine (spec_ListOk.calls k _ _ t519 t522 _ ?side1 ?side2 A6.out).mono ?_); (case side1 => exact (Z26 HO521)); (case side2 => exact (Kd.R_reads' HO521.out).2.1); rintro e w23 ⟨rfl, hb⟩; refine ⟨_, rfl, ?_⟩; replace HO521 := Z (Kd.R_below (Z12 HO521) hb); replace HB := Z (below_step Z61 hb); (try clear hb); (try clear hb2); (try clear hk); (try clear hi)) | ((with_reducible refine gate_callee (f := 46) rfl ?_); refine goesL_ (some 16) rfl rfl Try.func46 Z0 rfl #[.slice A0 l0.length c0] rfl Z4 ?_; (with_reducible refine (laws_toItemS.calls k _ _ l0 t523 _ ?side1 ?side2 A7.out).mono ?_); (case side1 => exact (Z27 HR0)); (case side2 => exact HC0.out); rintro e w24 ⟨v524, rfl, ho0, hb⟩; refine ⟨_, rfl, ?_⟩; have HO525 := Z (Kd.R_lower (Kd.R_new' ho0 (Kd.R_lt (Z12 HO521))) (below_size Z61)); replace HO521 := Z (Kd.R_elder' (Z12 HO521) (Kd.R_base ho0) hb); replace HB := Z (below_step Z61 hb); (try clear hb); (try clear hb2); (try clear hk); (try clear hi); (try clear ho0); obtain ⟨Ao25, co25, eo25⟩ := Kd.R_slice HO525.out; subst eo25) | ((with_reducible refine gate_callee (f := 20) rfl ?_); refine goesL_ (some 18) rfl rfl Try.func20 Z0 rfl #[.slice Ao25 t523.length co25] rfl Z4 ?_; (with_reducible refine (impl_ListOk.calls k _ _ t523 t526 _ ?side1 ?side2 A8.out).mono ?_); (case side1 => exact (Z26 HO525)); (case side2 => exact (Kd.R_reads' HO525.out).2.1); rintro e w26 ⟨rfl, hb⟩; refine ⟨_, rfl, ?_⟩; replace HO521 := Z (Kd.R_below (Z12 HO521) hb); replace HO525 := Z (Kd.R_below (Z12 HO525) hb); replace HB := Z (below_step Z61 hb); (try clear hb); (try clear hb2); (try clear hk); (try clear hi)) | ((with_reducible refine gate_callee (f := 46) rfl ?_); refine goesL_ (some 24) rfl rfl Try.func46 Z0 rfl #[.slice A0 l0.length c0] rfl Z4 ?_; (with_reducible refine (laws_toItemS.calls k _ _ l0 t527 _ ?side1 ?side2 A17.out).mono ?_); (case side1 => exact (Z27 HR0)); (case side2 => exact HC0.out); rintro e w27 ⟨v528, rfl, ho0, hb⟩; refine ⟨_, rfl, ?_⟩; have HO529 := Z (Kd.R_lower (Kd.R_new' (Kd.R_new' ho0 (Kd.R_lt (Z12 HO521))) (Kd.R_lt (Z12 HO525))) (below_size Z61)); replace HO521 := Z (Kd.R_elder' (Z12 HO521) (Kd.R_base ho0) hb); replace HO525 := Z (Kd.R_elder' (Z12 HO525) (Kd.R_base ho0) hb); replace HB := Z (below_step Z61 hb); (try clear hb); (try clear hb2); (try clear hk); (try clear hi); (try clear ho0); obtain ⟨Ao28, co28, eo28⟩ := Kd.R_slice HO529.out; subst eo28) | ((with_reducible refine gate_callee (f := 48) rfl ?_); refine goesL_ (some 25) rfl rfl Try.func48 Z0 rfl #[.slice Ao25 t523.length co25, .slice Ao28 t527.length co28] rfl Z4 ?_; (with_reducible refine (laws_eqItemS.calls k _ _ t523 _ _ t527 true _ ?side1 ?side2 ?side3 ?side4 A18.out).mono ?_); (case side1 => exact (Z26 HO525)); (case side2 => exact (Kd.R_reads' HO525.out).2.1); (case side3 => exact (Z26 HO529)); (case side4 => exact (Kd.R_reads' HO529.out).2.1); rintro e w29 ⟨rfl, hb⟩; refine ⟨_, rfl, ?_⟩; replace HO521 := Z (Kd.R_below (Z12 HO521) hb); replace HO525 := Z (Kd.R_below (Z12 HO525) hb); replace HO529 := Z (Kd.R_below (Z12 HO529) hb); replace HB := Z (below_step Z61 hb); (try clear hb); (try clear hb2); (try clear hk); (try clear hi)))
    go_ret
    exact ⟨Z13, Z61⟩
   ·replace c19 := Bool.eq_false_iff.mpr c19
    subst c19
    have H1 : (some false) = some r := by rw [if_neg (show ¬ (false = true) by decide)] at H; exact H
    clear H
    have H := H1
    clear H1
    obtain rfl := Option.some.inj H
    go_enter Try.func11, Try.ntmps11
    go_wp2_with (first | ((with_reducible refine gate_callee (f := 44) rfl ?_); refine goesL_ (some 9) rfl rfl Try.func44 Z0 rfl #[.slice A0 l0.length c0, .int .i64 1048576] rfl Z4 ?_; (with_reducible refine (laws_szItemS.calls k _ _ l0 1048576 t518 _ ?side1 ?side2 A2.out).mono ?_); (case side1 => exact (Z39 HR0)); (case side2 => exact HC0.out); rintro e w30 ⟨rfl, hb⟩; refine ⟨_, rfl, ?_⟩; replace HB := Z (below_step Z61 hb); (try clear hb); (try clear hb2); (try clear hk); (try clear hi)) | ((with_reducible refine gate_callee (f := 46) rfl ?_); refine goesL_ (some 13) rfl rfl Try.func46 Z0 rfl #[.slice A0 l0.length c0] rfl Z4 ?_; (with_reducible refine (laws_toItemS.calls k _ _ l0 t519 _ ?side1 ?side2 A5.out).mono ?_); (case side1 => exact (Z27 HR0)); (case side2 => exact HC0.out); rintro e w31 ⟨v520, rfl, ho0, hb⟩; refine ⟨_, rfl, ?_⟩; have HO521 := Z (Kd.R_lower ho0 (below_size Z61)); replace HB := Z (below_step Z61 hb); (try clear hb); (try clear hb2); (try clear hk); (try clear hi); (try clear ho0); obtain ⟨Ao32, co32, eo32⟩ := Kd.R_slice HO521.out; subst eo32) | ((with_reducible refine gate_callee (f := 54) rfl ?_); refine goesL_ (some 14) rfl rfl Try.func54 Z0 rfl #[.slice Ao32 t519.length co32] rfl Z4 ?_; (with_reducible refine (spec_ListOk.calls k _ _ t519 t522 _ ?side1 ?side2 A6.out).mono ?_); (case side1 => exact (Z26 HO521)); (case side2 => exact (Kd.R_reads' HO521.out).2.1); rintro e w33 ⟨rfl, hb⟩; refine ⟨_, rfl, ?_⟩; replace HO521 := Z (Kd.R_below (Z12 HO521) hb); replace HB := Z (below_step Z61 hb); (try clear hb); (try clear hb2); (try clear hk); (try clear hi)) | ((with_reducible refine gate_callee (f := 46) rfl ?_); refine goesL_ (some 16) rfl rfl Try.func46 Z0 rfl #[.slice A0 l0.length c0] rfl Z4 ?_; (with_reducible refine (laws_toItemS.calls k _ _ l0 t523 _ ?side1 ?side2 A7.out).mono ?_); (case side1 => exact (Z27 HR0)); (case side2 => exact HC0.out); rintro e w34 ⟨v524, rfl, ho0, hb⟩; refine ⟨_, rfl, ?_⟩; have HO525 := Z (Kd.R_lower (Kd.R_new' ho0 (Kd.R_lt (Z12 HO521))) (below_size Z61)); replace HO521 := Z (Kd.R_elder' (Z12 HO521) (Kd.R_base ho0) hb); replace HB := Z (below_step Z61 hb); (try clear hb); (try clear hb2); (try clear hk); (try clear hi); (try clear ho0); obtain ⟨Ao35, co35, eo35⟩ := Kd.R_slice HO525.out; subst eo35) | ((with_reducible refine gate_callee (f := 20) rfl ?_); refine goesL_ (some 18) rfl rfl Try.func20 Z0 rfl #[.slice Ao35 t523.length co35] rfl Z4 ?_; (with_reducible refine (impl_ListOk.calls k _ _ t523 t526 _ ?side1 ?side2 A8.out).mono ?_); (case side1 => exact (Z26 HO525)); (case side2 => exact (Kd.R_reads' HO525.out).2.1); rintro e w36 ⟨rfl, hb⟩; refine ⟨_, rfl, ?_⟩; replace HO521 := Z (Kd.R_below (Z12 HO521) hb); replace HO525 := Z (Kd.R_below (Z12 HO525) hb); replace HB := Z (below_step Z61 hb); (try clear hb); (try clear hb2); (try clear hk); (try clear hi)) | ((with_reducible refine gate_callee (f := 46) rfl ?_); refine goesL_ (some 24) rfl rfl Try.func46 Z0 rfl #[.slice A0 l0.length c0] rfl Z4 ?_; (with_reducible refine (laws_toItemS.calls k _ _ l0 t527 _ ?side1 ?side2 A17.out).mono ?_); (case side1 => exact (Z27 HR0)); (case side2 => exact HC0.out); rintro e w37 ⟨v528, rfl, ho0, hb⟩; refine ⟨_, rfl, ?_⟩; have HO529 := Z (Kd.R_lower (Kd.R_new' (Kd.R_new' ho0 (Kd.R_lt (Z12 HO521))) (Kd.R_lt (Z12 HO525))) (below_size Z61)); replace HO521 := Z (Kd.R_elder' (Z12 HO521) (Kd.R_base ho0) hb); replace HO525 := Z (Kd.R_elder' (Z12 HO525) (Kd.R_base ho0) hb); replace HB := Z (below_step Z61 hb); (try clear hb); (try clear hb2); (try clear hk); (try clear hi); (try clear ho0); obtain ⟨Ao38, co38, eo38⟩ := Kd.R_slice HO529.out; subst eo38) | ((with_reducible refine gate_callee (f := 48) rfl ?_); refine goesL_ (some 25) rfl rfl Try.func48 Z0 rfl #[.slice Ao35 t523.length co35, .slice Ao38 t527.length co38] rfl Z4 ?_; (with_reducible refine (laws_eqItemS.calls k _ _ t523 _ _ t527 false _ ?side1 ?side2 ?side3 ?side4 A18.out).mono ?_); (case side1 => exact (Z26 HO525)); (case side2 => exact (Kd.R_reads' HO525.out).2.1); (case side3 => exact (Z26 HO529)); (case side4 => exact (Kd.R_reads' HO529.out).2.1); rintro e w39 ⟨rfl, hb⟩; refine ⟨_, rfl, ?_⟩; replace HO521 := Z (Kd.R_below (Z12 HO521) hb); replace HO525 := Z (Kd.R_below (Z12 HO525) hb); replace HO529 := Z (Kd.R_below (Z12 HO529) hb); replace HB := Z (below_step Z61 hb); (try clear hb); (try clear hb2); (try clear hk); (try clear hi)))
    go_ret
    exact ⟨Z13, Z61⟩

/-- THE ONE PURE STATEMENT of laws_FnExactListOk. -/
def laws_FnExactListOk.Pure : Prop := ∀ (l0 : List (S49)), l0.length ≤ maxLen → l0.length * 40 ≤ 140737488351232 → (∀ x ∈ l0, (Lit.int .i64 x.f0).wf = true ∧ x.f1.size ≤ 140737488351232 ∧ (Lit.int .i32 x.f2).wf = true ∧ (Lit.int .u32 x.f4).wf = true) → ∃ k, laws_FnExactListOk.f k l0 = some true

end Go.Proofs.Ytkkiibjnpkjijaa.QFnExactListOk
