/-
Plain functions for the Go functions that a law reaches, each with a proof that the translation's call comes to just that; no conditions beyond those written in each.
-/
import Derived.Test.YtfjmpdcflnaogaaDoorSFnExactExport
import Derived.Test.YtfjmpdcflnaogaaDoorQFnExactExportx1
import Derived.Test.YtfjmpdcflnaogaaDoorQFnExactExportx2
import Derived.Test.YtfjmpdcflnaogaaDoorQFnExactExportx3
namespace Go.Proofs.YtfjmpdcflnaogaaDoor.QFnExactExport
open Go.RowKit Go.Proofs.YtfjmpdcflnaogaaDoorW.PrintWords Go.Proofs.YtfjmpdcflnaogaaDoorW.PrintLast Go.Proofs.YtfjmpdcflnaogaaDoorW.PrintMore
attribute [local go_sem] max2_int min2_int max_two min_two max_three min_three max_four min_four   -- for this text's walks alone
set_option linter.unusedVariables false
set_option linter.unusedSimpArgs false

attribute [local go_sem high] eqA27
/-! ### spec_ParseCells: function 28 -/
mutual
def spec_ParseCells.l0 : Nat → List Int → List (S27) → Int → Option ((List (S27)))
 | 0, _, _, _ => none
 | k + 1, x0, x3, x4 => if x4 < (x0.length : Int) then ((spec_l04Item.f k x0 x4).bind fun bt294 => (if x3.length < 3518437208883 then (spec_ParseCells.l0 k x0 (x3 ++ [(⟨bt294.1, bt294.2.1, bt294.2.2.1, bt294.2.2.2.1, bt294.2.2.2.2.1⟩ : S27)]) (wrap64 (x4 + bt294.2.2.2.2.2))) else (none))) else (spec_ParseCells.l1 k x3)
def spec_ParseCells.l1 : Nat → List (S27) → Option ((List (S27)))
 | 0, _ => none
 | k + 1, x3 => if (x3.length : Int) > 0 then (if 0 ≤ (wrap64 ((x3.length : Int) - 1)) then (if (wrap64 ((x3.length : Int) - 1)) < (x3.length : Int) then (if (((rd_T27 x3 (wrap64 ((x3.length : Int) - 1))).f0) == 0 && ((((rd_T27 x3 (wrap64 ((x3.length : Int) - 1))).f1).toList) == ([] : List UInt8) && (((rd_T27 x3 (wrap64 ((x3.length : Int) - 1))).f2) == 0 && (!((rd_T27 x3 (wrap64 ((x3.length : Int) - 1))).f3) && (((rd_T27 x3 (wrap64 ((x3.length : Int) - 1))).f4) == 0))))) = true then (if (wrap64 ((x3.length : Int) - 1)) ≤ (x3.length : Int) then (spec_ParseCells.l1 k (x3.take ((wrap64 ((x3.length : Int) - 1)) : Int).toNat)) else (none)) else (some x3)) else (none)) else (none)) else (some x3)
end
def spec_ParseCells.f (k : Nat) (l0 : List Int) : Option ((List (S27))) := (some (([] : List (S27)) : List (S27))).bind fun y291 => (if (l0.length : Int) > 64 then (some y291) else (spec_ParseCells.l0 k l0 y291 0))
theorem spec_ParseCells.mono_l : ∀ k, (∀ y0 y1 y2, LeO (spec_ParseCells.l0 k y0 y1 y2) (spec_ParseCells.l0 (k + 1) y0 y1 y2)) ∧ (∀ y0, LeO (spec_ParseCells.l1 k y0) (spec_ParseCells.l1 (k + 1) y0))
 | 0 => ⟨fun _ _ _ r h => by simp [spec_ParseCells.l0] at h, fun _ r h => by simp [spec_ParseCells.l1] at h⟩
 | k + 1 => by
  obtain ⟨ih0, ih1⟩ := spec_ParseCells.mono_l k
  refine ⟨?_, ?_⟩
  ·intro y0 y1 y2
   unfold spec_ParseCells.l0
   repeat' first
   | (with_reducible exact ih0 _ _ _)
   | (with_reducible exact ih1 _)
   | (with_reducible exact spec_l04Item.mono _ _ _)
   | (with_reducible exact LeO.refl _)
   | (with_reducible exact LeO.none _)
   | (with_reducible refine LeO.ite ?_ ?_)
   | (with_reducible refine LeO.bind ?_ (fun _ => ?_))
   | exact ih0 _ _ _
   | exact ih1 _
   | exact spec_l04Item.mono _ _ _
   | exact LeO.none _
   | refine LeO.ite ?_ ?_
   | refine LeO.bind ?_ (fun _ => ?_)
  ·intro y0
   unfold spec_ParseCells.l1
   repeat' first
   | (with_reducible exact ih0 _ _ _)
   | (with_reducible exact ih1 _)
   | (with_reducible exact spec_l04Item.mono _ _ _)
   | (with_reducible exact LeO.refl _)
   | (with_reducible exact LeO.none _)
   | (with_reducible refine LeO.ite ?_ ?_)
   | (with_reducible refine LeO.bind ?_ (fun _ => ?_))
   | exact ih0 _ _ _
   | exact ih1 _
   | exact spec_l04Item.mono _ _ _
   | exact LeO.none _
   | refine LeO.ite ?_ ?_
   | refine LeO.bind ?_ (fun _ => ?_)
theorem spec_ParseCells.mono : ∀ a0 k, LeO (spec_ParseCells.f k a0) (spec_ParseCells.f (k + 1) a0) := by
 intro a0 k
 obtain ⟨ih0, ih1⟩ := spec_ParseCells.mono_l k
 unfold spec_ParseCells.f
 repeat' first
   | (with_reducible exact ih0 _ _ _)
   | (with_reducible exact ih1 _)
   | (with_reducible exact spec_l04Item.mono _ _ _)
   | (with_reducible exact LeO.refl _)
   | (with_reducible exact LeO.none _)
   | (with_reducible refine LeO.ite ?_ ?_)
   | (with_reducible refine LeO.bind ?_ (fun _ => ?_))
   | exact ih0 _ _ _
   | exact ih1 _
   | exact spec_l04Item.mono _ _ _
   | exact LeO.none _
   | refine LeO.ite ?_ ?_
   | refine LeO.bind ?_ (fun _ => ?_)
set_option maxHeartbeats 8000000 in
set_option maxRecDepth 100000 in
theorem spec_ParseCells.calls (k : Nat) (A0 : Option Addr) (c0 : Nat) (l0 : List Int) (r : List (S27)) (w : World) (hr0 : Kd.C (Kd.int .u32) w A0 l0.length l0) (hc0 : l0.length ≤ c0) (h : spec_ParseCells.f k l0 = some r) :
  Calls Tryd.prog 28 #[.slice A0 l0.length c0] w fun e w' => ∃ v0_ : Value, e = .returned (v0_) ∧ Kd.R k27 27 w' w.heap.size (fun _ => True) v0_ r ∧ Below w.heap.size w w' := by
 have hu27 := Tryd.underlying27
 have HR0 := Aside0.mk hr0
 have HC0 := Aside0.mk hc0
 clear hr0 hc0
 have HB := Z (Below.refl w.heap.size w)
 have H : ((some (([] : List (S27)) : List (S27))).bind fun y291 => (if (l0.length : Int) > 64 then (some y291) else (spec_ParseCells.l0 k l0 y291 0))) = some r := h
 clear h
 obtain ⟨y291, hy291⟩ : ∃ y_ : List (S27), y_ = (([] : List (S27))) := ⟨_, rfl⟩
 replace H : (if (l0.length : Int) > 64 then (some y291) else (spec_ParseCells.l0 k l0 y291 0)) = some r := by first | (rw [hy291]; with_reducible exact H) | (have H2_ := (Option.bind_some _ _).symm.trans H; rw [hy291]; with_reducible exact H2_) | (have H2_ := (Option.bind_some _ _).symm.trans H; with_reducible exact H2_) | with_reducible exact H | (rw [hy291]; exact H) | exact H
 have Ny291 := Aside0.mk hy291
 clear hy291
 by_cases c2 : (l0.length : Int) > 64
 ·rw [if_pos c2] at H
  have c2b0 : decide (64 < (l0.length : Int)) = true := decide_eq_true c2
  have c2b1 : decide (64 < l0.length) = true := decide_eq_true (by omega)
  clear c2
  obtain rfl := Option.some.inj H
  go_enter Tryd.func28, Tryd.ntmps28
  go_wp2_with (first | ((with_reducible refine gate_dst (N := 7) rfl ?_); (try (refine gate_guard (by rfl) ?_; dsimp only)); refine Kd.R_lit k27 _ 27 (by rfl) (N := 7) (by rfl) (xs := ([] : List (S27))) (inner := []) (ok := fun _ => True) (okp := fun _ => True) Z3 (Reps.none _ _) (fun _ hk => hk) trivial (Below.refl _ _) (Nat.le_refl _) (by simp) ?_; intro v292 w3 ho4 hb hg_ hnew_; clear hg_ hnew_; (first | rw [← Ny291.out] at ho4 | (simp only [Int.reduceToNat] at ho4; rw [← Ny291.out] at ho4)); have HO293 := Z (Kd.R_lower ho4 (below_size Z67)); replace HB := Z (below_step Z67 hb); clear hb ho4))
  go_ret
  exact ⟨_, Z68, (Z6 HO293), Z67⟩
 ·rw [if_neg c2] at H
  have c2b0 : decide (64 < (l0.length : Int)) = false := decide_eq_false c2
  have c2b1 : decide (64 < l0.length) = false := decide_eq_false (by omega)
  clear c2
  have H' := Aside0.mk H
  clear H
  go_enter Tryd.func28, Tryd.ntmps28
  go_wp2_with (first | ((with_reducible refine gate_dst (N := 7) rfl ?_); (try (refine gate_guard (by rfl) ?_; dsimp only)); refine Kd.R_lit k27 _ 27 (by rfl) (N := 7) (by rfl) (xs := ([] : List (S27))) (inner := []) (ok := fun _ => True) (okp := fun _ => True) Z3 (Reps.none _ _) (fun _ hk => hk) trivial (Below.refl _ _) (Nat.le_refl _) (by simp) ?_; intro v292 w5 ho6 hb hg_ hnew_; clear hg_ hnew_; (first | rw [← Ny291.out] at ho6 | (simp only [Int.reduceToNat] at ho6; rw [← Ny291.out] at ho6)); have HO293 := Z (Kd.R_lower ho6 (below_size Z67)); replace HB := Z (below_step Z67 hb); clear hb ho6))
  go_loopg [3, 4] k (fun kq v3 v4 w' => ∃ (x3_1 : List (S27)) (x4_1 : Int), v4 = .int .i64 x4_1 ∧ Aside0 (spec_ParseCells.l0 kq l0 x3_1 x4_1 = some r) ∧ Aside0 (kq ≤ k) ∧ Aside0 (Kd.R k27 27 w' w.heap.size (fun _ => True) v3 x3_1) ∧ Aside0 (Below w.heap.size w w'))
  case atStart => exact ⟨(y291), (0), Z7, H', ⟨Nat.le_refl _⟩, ⟨(Z6 HO293)⟩, ⟨Z67⟩⟩
  case round =>
   clear H'
   try clear c2
   try clear c2b0
   try clear c2b1
   try clear p2
   obtain ⟨x3_1, x4_1, rfl, HA, HK1, HO_3, HB⟩ := hrel
   cases gk with
   | zero => exact absurd HA.out (by simp [spec_ParseCells.l0])
   | succ k1 =>
    have H := HA.out
    clear HA
    simp only [spec_ParseCells.l0] at H
    by_cases c7 : x4_1 < (l0.length : Int)
    ·rw [if_pos c7] at H
     have c7b0 : decide (x4_1 < (l0.length : Int)) = true := decide_eq_true c7
     clear c7
     replace H := Option.bind_eq_some_iff.mp H
     obtain ⟨⟨t294, t295, t296, t297, t298, t299⟩, A80, H⟩ := H
     replace H : (if x3_1.length < 3518437208883 then (spec_ParseCells.l0 k1 l0 (x3_1 ++ [(⟨t294, t295, t296, t297, t298⟩ : S27)]) (wrap64 (x4_1 + t299))) else (none)) = some r := H
     have A8 := Aside0.mk A80
     clear A80
     by_cases c9 : x3_1.length < 3518437208883
     ·rw [if_pos c9] at H
      have LMc9 := Aside0.mk c9
      clear c9
      obtain ⟨y301, hy301⟩ : ∃ y_ : List (S27), y_ = (x3_1 ++ [(⟨t294, t295, t296, t297, t298⟩ : S27)]) := ⟨_, rfl⟩
      replace H : (spec_ParseCells.l0 k1 l0 y301 (wrap64 (x4_1 + t299))) = some r := by first | (rw [hy301]; with_reducible exact H) | (have H2_ := (Option.bind_some _ _).symm.trans H; rw [hy301]; with_reducible exact H2_) | (have H2_ := (Option.bind_some _ _).symm.trans H; with_reducible exact H2_) | with_reducible exact H | (rw [hy301]; exact H) | exact H
      have Ny301 := Aside0.mk hy301
      clear hy301
      have H' := Aside0.mk H
      clear H
      go_wp2_with (first | ((with_reducible refine gate_callee (f := 41) rfl ?_); refine goesL_ (some 19) rfl rfl Tryd.func41 Z0 rfl #[.slice A0 l0.length c0, .int .i64 x4_1] rfl Z9 ?_; (with_reducible refine (spec_l04Item.calls k1 _ _ l0 x4_1 t294 t295 t296 t297 t298 t299 _ ?side1 ?side2 A8.out).mono ?_); (case side1 => exact (Z24 HR0)); (case side2 => exact HC0.out); rintro e w10 ⟨rfl, hb⟩; refine ⟨_, rfl, ?_⟩; replace HO_3 := Z (Kd.R_below (Z6 HO_3) hb); replace HB := Z (below_step Z67 hb); (try clear hb); (try clear hb2); (try clear hk); (try clear hi)) | ((with_reducible refine gate_dst (N := 5) rfl ?_); (try (refine gate_guard (by rfl) ?_; dsimp only)); refine box_event (by rfl) (N := 5) (by rfl) (cs := #[.int .i64 0, .string (⟨#[]⟩ : ByteArray), .int .i32 0, .bool false, .int .u32 0]) (t := 27) Z3 ?_; intro gb300 hg w11 hbox hb; replace HO_3 := Z (Kd.R_below (Kd.R_elderB (Z6 HO_3) gb300 (Nat.le_of_eq hg.symm)) hb); have BK300 := Z (hbox); have GW300 := Z ((Z79 : w.heap.size ≤ gb300)); have GE300 := Z ((Z79 : w.heap.size ≤ gb300)); replace HB := Z (below_step Z67 hb); clear hb hbox hg; have hcz12_0 : w11.cell? ⟨gb300, 0, none⟩ = some (.int .i64 0) := (blk_cell BK300.out 0).trans rfl; have hcz12_1 : w11.cell? ⟨gb300, 1, none⟩ = some (.string (⟨#[]⟩ : ByteArray)) := (blk_cell BK300.out 1).trans rfl; have hcz12_2 : w11.cell? ⟨gb300, 2, none⟩ = some (.int .i32 0) := (blk_cell BK300.out 2).trans rfl; have hcz12_3 : w11.cell? ⟨gb300, 3, none⟩ = some (.bool false) := (blk_cell BK300.out 3).trans rfl; have hcz12_4 : w11.cell? ⟨gb300, 4, none⟩ = some (.int .u32 0) := (blk_cell BK300.out 4).trans rfl; have hfz12_0 := blk_frozen BK300.out 0; have hfz12_1 := blk_frozen BK300.out 1; have hfz12_2 := blk_frozen BK300.out 2; have hfz12_3 := blk_frozen BK300.out 3; have hfz12_4 := blk_frozen BK300.out 4) | ((with_reducible refine gate_builtin (b := .append) (xs := #[.tmp 22, .tmp 24]) rfl ?_); (try (refine gate_guard (by rfl) ?_; dsimp only)); at_builtin; refine Kd.R_append k27 (w0 := w) w.heap.size rfl (.tmp 22) (.tmp 24) 46 27 (.agg #[(.int .i64 0), (.string ⟨#[]⟩), (.int .i32 0), (.bool false), (.int .u32 0)]) 40 rfl Tryd.underlying46 info27 rfl (by decide) (by omega) u3 x3_1 (⟨t294, t295, t296, t297, t298⟩ : S27) [.int .i64 t294, .string t295, .int .i32 t296, .bool t297, .int .u32 t298] (fun k_ => k_ ≠ gb300) (fun _ => False) rfl Z3 ?aP (fun _ hk => hk.elim) ?aF ?aO ?aB ?aS ?aL ?_; (case aP => exact k27_mkM _ _ _ (⟨t294, t295, t296, t297, t298⟩ : S27)); (case aB => exact Z67); (case aF => exact (fun k_ hk => Kd.freshB (g := gb300) (o := .cells #[.int .i64 t294, .string t295, .int .i32 t296, .bool t297, .int .u32 t298] 27 (0, 0)) (Z43 BK300) k_ hk)); (case aO => exact (by (with_reducible repeat (first | apply Kd.R_alloc | apply Kd.R_drewN | apply Kd.R_drew)); exact Kd.R_mono (Kd.R_far (p := ⟨gb300, 4, none⟩) (Kd.R_far (p := ⟨gb300, 3, none⟩) (Kd.R_far (p := ⟨gb300, 2, none⟩) (Kd.R_far (p := ⟨gb300, 1, none⟩) (Kd.R_far (p := ⟨gb300, 0, none⟩) (Kd.R_mono HO_3.out (fun k_ hk => (⟨hk, hk.2⟩ : _ ∧ k_ ≠ gb300))) (fun _ hk => hk.2) (.int .i64 t294)) (fun _ hk => hk.2) (.string t295)) (fun _ hk => hk.2) (.int .i32 t296)) (fun _ hk => hk.2) (.bool t297)) (fun _ hk => hk.2) (.int .u32 t298)) (fun _ hk => hk.1.2))); (case aS => exact (below_size Z67)); (case aL => have := LMc9.out; omega); intro v302 w13 ho hb hg hat; rw [← Ny301.out] at ho; replace BK300 := Z (blk_grown (g := gb300) (o := .cells #[.int .i64 t294, .string t295, .int .i32 t296, .bool t297, .int .u32 t298] 27 (0, 0)) (Z43 BK300) hg (Kd.R_away HO_3.out (fun _ hk => hk.2))); replace HB := Z (hb); have HO303 := Z (ho); clear HO_3; clear ho hb hg hat))
      go_roundg k1
      case measure => have := HK1.out; omega
      case rel => exact ⟨(y301), (wrap64 (x4_1 + t299)), Z7, H', ⟨Z11⟩, ⟨(Z16 HO303)⟩, ⟨Z67⟩⟩
     ·rw [if_neg c9] at H
      exact absurd H (by simp)
    ·rw [if_neg c7] at H
     have c7b0 : decide (x4_1 < (l0.length : Int)) = false := decide_eq_false c7
     clear c7
     have H' := Aside0.mk H
     clear H
     go_wp2
     go_loopg [3] k1 (fun kq v3 w' => ∃ (x3_2 : List (S27)), Aside0 (spec_ParseCells.l1 kq x3_2 = some r) ∧ Aside0 (kq ≤ k1) ∧ Aside0 (Kd.R k27 27 w' w.heap.size (fun _ => True) v3 x3_2) ∧ Aside0 (Below w.heap.size w w'))
     case atStart => exact ⟨(x3_1), H', ⟨Nat.le_refl _⟩, ⟨(Z6 HO_3)⟩, ⟨Z67⟩⟩
     case round =>
      clear H'
      try clear c2
      try clear c2b0
      try clear c2b1
      try clear p2
      try clear c4
      try clear p6
      try clear c7
      try clear c7b0
      try clear c9
      try clear hcz12_0
      try clear hcz12_1
      try clear hcz12_2
      try clear hcz12_3
      try clear hcz12_4
      try clear hfz12_0
      try clear hfz12_1
      try clear hfz12_2
      try clear hfz12_3
      try clear hfz12_4
      try clear p2
      obtain ⟨x3_2, HA, HK2, HO_3, HB⟩ := hrel
      cases gk with
      | zero => exact absurd HA.out (by simp [spec_ParseCells.l1])
      | succ k2 =>
       have H := HA.out
       clear HA
       simp only [spec_ParseCells.l1] at H
       by_cases c14 : (x3_2.length : Int) > 0
       ·rw [if_pos c14] at H
        have c14b0 : decide (0 < (x3_2.length : Int)) = true := decide_eq_true c14
        have c14b1 : decide (0 < x3_2.length) = true := decide_eq_true (by omega)
        clear c14
        obtain ⟨ji15, hji15⟩ : ∃ j_ : Int, (wrap64 ((x3_2.length : Int) - 1)) = j_ := ⟨_, rfl⟩
        replace H : (if 0 ≤ (ji15) then (if (ji15) < (x3_2.length : Int) then (if (((rd_T27 x3_2 (ji15)).f0) == 0 && ((((rd_T27 x3_2 (ji15)).f1).toList) == ([] : List UInt8) && (((rd_T27 x3_2 (ji15)).f2) == 0 && (!((rd_T27 x3_2 (ji15)).f3) && (((rd_T27 x3_2 (ji15)).f4) == 0))))) = true then (if (ji15) ≤ (x3_2.length : Int) then (spec_ParseCells.l1 k2 (x3_2.take ((ji15) : Int).toNat)) else (none)) else (some x3_2)) else (none)) else (none)) = some r := Z44
        have hji15w : (IntKind.i64.wrap ((x3_2.length : Int) - 1)) = ji15 := (i64_w _).trans hji15
        by_cases c16 : 0 ≤ (ji15)
        ·rw [if_pos c16] at H
         have c16b0 : decide (0 ≤ (ji15)) = true := decide_eq_true c16
         clear c16
         by_cases c17 : (ji15) < (x3_2.length : Int)
         ·rw [if_pos c17] at H
          have c17b0 : decide ((ji15) < (x3_2.length : Int)) = true := decide_eq_true c17
          clear c17
          by_cases c18 : (((rd_T27 x3_2 (ji15)).f0) == 0 && ((((rd_T27 x3_2 (ji15)).f1).toList) == ([] : List UInt8) && (((rd_T27 x3_2 (ji15)).f2) == 0 && (!((rd_T27 x3_2 (ji15)).f3) && (((rd_T27 x3_2 (ji15)).f4) == 0))))) = true
          ·rw [if_pos c18] at H
           have c18b0 : (((rd_T27 x3_2 (ji15)).f0) == 0 && ((((rd_T27 x3_2 (ji15)).f1).toList) == ([] : List UInt8) && (((rd_T27 x3_2 (ji15)).f2) == 0 && (!((rd_T27 x3_2 (ji15)).f3) && (((rd_T27 x3_2 (ji15)).f4) == 0))))) = true := c18
           (try (have c18b1 : (((rd_T27 x3_2 (ji15)).f0) == 0 && ((((rd_T27 x3_2 (ji15)).f1).toList).isEmpty && (((rd_T27 x3_2 (ji15)).f2) == 0 && (!((rd_T27 x3_2 (ji15)).f3) && (((rd_T27 x3_2 (ji15)).f4) == 0))))) = true := by have h_ : (((rd_T27 x3_2 (ji15)).f0) == 0 && ((((rd_T27 x3_2 (ji15)).f1).toList) == ([] : List UInt8) && (((rd_T27 x3_2 (ji15)).f2) == 0 && (!((rd_T27 x3_2 (ji15)).f3) && (((rd_T27 x3_2 (ji15)).f4) == 0))))) = true := c18; simpa only [List.beq_nil_eq] using h_))
           (try (have c18b2 : decide (((rd_T27 x3_2 (ji15)).f0) = 0 && ((((rd_T27 x3_2 (ji15)).f1).toList) == ([] : List UInt8) && (((rd_T27 x3_2 (ji15)).f2) == 0 && (!((rd_T27 x3_2 (ji15)).f3) && (((rd_T27 x3_2 (ji15)).f4) == 0))))) = true := Z45))
           (try (have c18b3 : (((rd_T27 x3_2 (ji15)).f0) == 0 && ((((rd_T27 x3_2 (ji15)).f1).toList) == ([] : List UInt8) && (((rd_T27 x3_2 (ji15)).f2) == 0 && (!((rd_T27 x3_2 (ji15)).f3) && (((rd_T27 x3_2 (ji15)).f4) == 0))))) = true := Z45))
           clear c18
           by_cases c19 : (ji15) ≤ (x3_2.length : Int)
           ·rw [if_pos c19] at H
            have c19b0 := eq_true c19
            have c19b1 : decide ((ji15) ≤ (x3_2.length : Int)) = true := decide_eq_true c19
            clear c19
            obtain ⟨y305, hy305⟩ : ∃ y_ : List (S27), y_ = (x3_2.take ((ji15) : Int).toNat) := ⟨_, rfl⟩
            replace H : (spec_ParseCells.l1 k2 y305) = some r := by first | (rw [hy305]; with_reducible exact H) | (have H2_ := (Option.bind_some _ _).symm.trans H; rw [hy305]; with_reducible exact H2_) | (have H2_ := (Option.bind_some _ _).symm.trans H; with_reducible exact H2_) | with_reducible exact H | (rw [hy305]; exact H) | exact H
            have Ny305 := Aside0.mk hy305
            clear hy305
            have H' := Aside0.mk H
            clear H
            obtain ⟨Ao20, co20, eo20⟩ := Kd.R_slice HO_3.out
            subst eo20
            have p304 : 0 ≤ ((ji15) : Int) := of_decide_eq_true Z10
            have q304 : (ji15) < (x3_2.length : Int) := of_decide_eq_true Z10
            obtain ⟨ad304, e304, hx304_0, hx304_1, hx304_2, hx304_3, hx304_4⟩ := at_T27 (Kd.R_reads' HO_3.out).2.2 (ji15) p304 q304
            cases e304
            replace p304 := eq_true p304
            replace q304 := eq_true q304
            (try clear hcut20)
            have q21 : ((ji15) : Int) ≤ ((x3_2.length : Int) : Int) := of_decide_eq_true Z10
            obtain ⟨i021, hi021, _, hsz21, _⟩ := info_parts info27
            have hcut21 := cut_to (P := Tryd.prog) 46 27 .i64 Tryd.underlying46 hi021 (some ad304) x3_2.length co20 (ji15) (of_decide_eq_true Z10) q21 (Kd.R_reads' HO_3.out).2.1
            have hl21 := (Kd.R_reads' HO_3.out).1
            have hr21 := Kd.R_take (m := ((ji15) : Int).toNat) HO_3.out (by omega)
            have hy21 : y305.length = ((ji15) : Int).toNat := (by rw [Ny305.out, List.length_take]; omega)
            rw [← Ny305.out] at hr21
            rw [← hy21] at hr21 hcut21
            clear hl21 hy21 hi021 hsz21 HO_3
            have HO307 := Aside0.mk hr21
            clear hr21
            replace q21 := eq_true q21
            go_wp2
            go_roundg k2
            case measure => have := HK1.out; have := HK2.out; omega
            case rel => exact ⟨(y305), H', ⟨by have := HK1.out; have := HK2.out; omega⟩, ⟨(Z6 HO307)⟩, ⟨Z67⟩⟩
           ·rw [if_neg c19] at H
            exact absurd H (by simp)
          ·rw [if_neg c18] at H
           have c18b0 : (((rd_T27 x3_2 (ji15)).f0) == 0 && ((((rd_T27 x3_2 (ji15)).f1).toList) == ([] : List UInt8) && (((rd_T27 x3_2 (ji15)).f2) == 0 && (!((rd_T27 x3_2 (ji15)).f3) && (((rd_T27 x3_2 (ji15)).f4) == 0))))) = false := Z45
           (try (have c18b1 : (((rd_T27 x3_2 (ji15)).f0) == 0 && ((((rd_T27 x3_2 (ji15)).f1).toList).isEmpty && (((rd_T27 x3_2 (ji15)).f2) == 0 && (!((rd_T27 x3_2 (ji15)).f3) && (((rd_T27 x3_2 (ji15)).f4) == 0))))) = false := by have h_ : (((rd_T27 x3_2 (ji15)).f0) == 0 && ((((rd_T27 x3_2 (ji15)).f1).toList) == ([] : List UInt8) && (((rd_T27 x3_2 (ji15)).f2) == 0 && (!((rd_T27 x3_2 (ji15)).f3) && (((rd_T27 x3_2 (ji15)).f4) == 0))))) = false := Z45; simpa only [List.beq_nil_eq] using h_))
           (try (have c18b2 : decide (((rd_T27 x3_2 (ji15)).f0) = 0 && ((((rd_T27 x3_2 (ji15)).f1).toList) == ([] : List UInt8) && (((rd_T27 x3_2 (ji15)).f2) == 0 && (!((rd_T27 x3_2 (ji15)).f3) && (((rd_T27 x3_2 (ji15)).f4) == 0))))) = false := Z45))
           (try (have c18b3 : (((rd_T27 x3_2 (ji15)).f0) == 0 && ((((rd_T27 x3_2 (ji15)).f1).toList) == ([] : List UInt8) && (((rd_T27 x3_2 (ji15)).f2) == 0 && (!((rd_T27 x3_2 (ji15)).f3) && (((rd_T27 x3_2 (ji15)).f4) == 0))))) = false := Z45))
           (try (have c18b4 : ¬ (((rd_T27 x3_2 (ji15)).f0) = 0 && ((((rd_T27 x3_2 (ji15)).f1).toList) == ([] : List UInt8) && (((rd_T27 x3_2 (ji15)).f2) == 0 && (!((rd_T27 x3_2 (ji15)).f3) && (((rd_T27 x3_2 (ji15)).f4) == 0))))) := Z45))
           clear c18
           obtain rfl := Option.some.inj H
           obtain ⟨Ao22, co22, eo22⟩ := Kd.R_slice HO_3.out
           subst eo22
           have p304 : 0 ≤ ((ji15) : Int) := of_decide_eq_true Z10
           have q304 : (ji15) < (x3_2.length : Int) := of_decide_eq_true Z10
           obtain ⟨ad304, e304, hx304_0, hx304_1, hx304_2, hx304_3, hx304_4⟩ := at_T27 (Kd.R_reads' HO_3.out).2.2 (ji15) p304 q304
           cases e304
           replace p304 := eq_true p304
           replace q304 := eq_true q304
           go_wp2
           go_ret
           exact ⟨_, by first | rfl | (rw [← show ∀ l_ : List UInt8, (!l_.isEmpty) = (l_ != []) from fun l_ => Z5]; rfl) | (simp [errW_none, errW_some] <;> rfl) | (simp only [← hji15]; first | rfl | (simp [errW_none, errW_some] <;> rfl)) | (simp [*, errW_none, errW_some] <;> rfl), (Z6 HO_3), Z67⟩
         ·rw [if_neg c17] at H
          exact absurd H (by simp)
        ·rw [if_neg c16] at H
         exact absurd H (by simp)
       ·rw [if_neg c14] at H
        have c14b0 : decide (0 < (x3_2.length : Int)) = false := decide_eq_false c14
        have c14b1 : decide (0 < x3_2.length) = false := decide_eq_false (by omega)
        clear c14
        obtain rfl := Option.some.inj H
        obtain ⟨Ao23, co23, eo23⟩ := Kd.R_slice HO_3.out
        subst eo23
        go_wp2
        go_ret
        exact ⟨_, Z68, (Z6 HO_3), Z67⟩

/-! ### spec_Export: function 11 -/
def spec_Export.l0 : Nat → List (S27) → ByteArray → Int → Option (ByteArray)
 | 0, _, _, _ => none
 | k + 1, x3, x4, x5 => if x5 < (x3.length : Int) then (if x5 > 0 then (if 0 ≤ x5 then (if ((rd_T27 x3 x5).f0) = 2 then (if x4.size + 1 ≤ 9223372036854775807 then ((spec_ItemText.f k ((rd_T27 x3 x5).f0) ((rd_T27 x3 x5).f1) ((rd_T27 x3 x5).f2) ((rd_T27 x3 x5).f3) ((rd_T27 x3 x5).f4)).bind fun t313 => (if (x4 ++ (⟨#[10]⟩ : ByteArray)).size + t313.size ≤ 9223372036854775807 then (spec_Export.l0 k x3 ((x4 ++ (⟨#[10]⟩ : ByteArray)) ++ t313) (wrap64 (x5 + 1))) else (none))) else (none)) else (if x4.size + 1 ≤ 9223372036854775807 then ((spec_ItemText.f k ((rd_T27 x3 x5).f0) ((rd_T27 x3 x5).f1) ((rd_T27 x3 x5).f2) ((rd_T27 x3 x5).f3) ((rd_T27 x3 x5).f4)).bind fun t315 => (if (x4 ++ (⟨#[32]⟩ : ByteArray)).size + t315.size ≤ 9223372036854775807 then (spec_Export.l0 k x3 ((x4 ++ (⟨#[32]⟩ : ByteArray)) ++ t315) (wrap64 (x5 + 1))) else (none))) else (none))) else (none)) else (if 0 ≤ x5 then ((spec_ItemText.f k ((rd_T27 x3 x5).f0) ((rd_T27 x3 x5).f1) ((rd_T27 x3 x5).f2) ((rd_T27 x3 x5).f3) ((rd_T27 x3 x5).f4)).bind fun t317 => (if x4.size + t317.size ≤ 9223372036854775807 then (spec_Export.l0 k x3 (x4 ++ t317) (wrap64 (x5 + 1))) else (none))) else (none))) else (if (x3.length : Int) > 0 then (if x4.size + 1 ≤ 9223372036854775807 then (some (x4 ++ (⟨#[10]⟩ : ByteArray))) else (none)) else (some x4))
def spec_Export.f (k : Nat) (l0 : List Int) : Option (ByteArray) := (spec_ParseCells.f k l0).bind fun t308 => (spec_Export.l0 k t308 (⟨#[]⟩ : ByteArray) 0)
theorem spec_Export.mono_l : ∀ k, (∀ y0 y1 y2, LeO (spec_Export.l0 k y0 y1 y2) (spec_Export.l0 (k + 1) y0 y1 y2))
 | 0 => fun _ _ _ r h => by simp [spec_Export.l0] at h
 | k + 1 => by
  have ih0 := spec_Export.mono_l k
  ·intro y0 y1 y2
   unfold spec_Export.l0
   repeat' first
   | (with_reducible exact ih0 _ _ _)
   | (with_reducible exact spec_ItemText.mono _ _ _ _ _ _)
   | (with_reducible exact spec_ParseCells.mono _ _)
   | (with_reducible exact LeO.refl _)
   | (with_reducible exact LeO.none _)
   | (with_reducible refine LeO.ite ?_ ?_)
   | (with_reducible refine LeO.bind ?_ (fun _ => ?_))
   | exact ih0 _ _ _
   | exact spec_ItemText.mono _ _ _ _ _ _
   | exact spec_ParseCells.mono _ _
   | exact LeO.none _
   | refine LeO.ite ?_ ?_
   | refine LeO.bind ?_ (fun _ => ?_)
theorem spec_Export.mono : ∀ a0 k, LeO (spec_Export.f k a0) (spec_Export.f (k + 1) a0) := by
 intro a0 k
 have ih0 := spec_Export.mono_l k
 unfold spec_Export.f
 repeat' first
   | (with_reducible exact ih0 _ _ _)
   | (with_reducible exact spec_ItemText.mono _ _ _ _ _ _)
   | (with_reducible exact spec_ParseCells.mono _ _)
   | (with_reducible exact LeO.refl _)
   | (with_reducible exact LeO.none _)
   | (with_reducible refine LeO.ite ?_ ?_)
   | (with_reducible refine LeO.bind ?_ (fun _ => ?_))
   | exact ih0 _ _ _
   | exact spec_ItemText.mono _ _ _ _ _ _
   | exact spec_ParseCells.mono _ _
   | exact LeO.none _
   | refine LeO.ite ?_ ?_
   | refine LeO.bind ?_ (fun _ => ?_)
set_option maxHeartbeats 8000000 in
set_option maxRecDepth 100000 in
theorem spec_Export.calls (k : Nat) (A0 : Option Addr) (c0 : Nat) (l0 : List Int) (r : ByteArray) (w : World) (hr0 : Kd.C (Kd.int .u32) w A0 l0.length l0) (hc0 : l0.length ≤ c0) (h : spec_Export.f k l0 = some r) :
  Calls Tryd.prog 11 #[.slice A0 l0.length c0] w fun e w' => e = .returned (.string r) ∧ Below w.heap.size w w' := by
 have hu27 := Tryd.underlying27
 have HR0 := Aside0.mk hr0
 have HC0 := Aside0.mk hc0
 clear hr0 hc0
 have HB := Z (Below.refl w.heap.size w)
 have H : ((spec_ParseCells.f k l0).bind fun t308 => (spec_Export.l0 k t308 (⟨#[]⟩ : ByteArray) 0)) = some r := h
 clear h
 replace H := Option.bind_eq_some_iff.mp H
 obtain ⟨t308, A20, H⟩ := H
 replace H : (spec_Export.l0 k t308 (⟨#[]⟩ : ByteArray) 0) = some r := H
 have A2 := Aside0.mk A20
 clear A20
 have H' := Aside0.mk H
 clear H
 go_enter Tryd.func11, Tryd.ntmps11
 go_wp2_with (first | ((with_reducible refine gate_callee (f := 28) rfl ?_); refine goesL_ (some 7) rfl rfl Tryd.func28 Z0 rfl #[.slice A0 l0.length c0] rfl Z9 ?_; (with_reducible refine (spec_ParseCells.calls k _ _ l0 t308 _ ?side1 ?side2 A2.out).mono ?_); (case side1 => exact (Z46 HR0)); (case side2 => exact HC0.out); rintro e w3 ⟨v309, rfl, ho0, hb⟩; refine ⟨_, rfl, ?_⟩; have HO310 := Z (Kd.R_lower ho0 (below_size Z67)); replace HB := Z (below_step Z67 hb); (try clear hb); (try clear hb2); (try clear hk); (try clear hi); (try clear ho0)))
 go_loopg [4, 5] k (fun kq v4 v5 w' => ∃ (x4_1 : ByteArray) (x5_1 : Int), v4 = .string x4_1 ∧ v5 = .int .i64 x5_1 ∧ Aside0 (spec_Export.l0 kq t308 x4_1 x5_1 = some r) ∧ Aside0 (kq ≤ k) ∧ Aside0 (Kd.R k27 27 w' w.heap.size (fun _ => True) v309 t308) ∧ Aside0 (Below w.heap.size w w'))
 case atStart => exact ⟨((⟨#[]⟩ : ByteArray)), (0), Z7, Z7, H', ⟨Nat.le_refl _⟩, ⟨(Z6 HO310)⟩, ⟨Z67⟩⟩
 case round =>
  clear H'
  try clear c1
  try clear c2
  try clear p2
  obtain ⟨x4_1, x5_1, rfl, rfl, HA, HK1, HO_3, HB⟩ := hrel
  cases gk with
  | zero => exact absurd HA.out (by simp [spec_Export.l0])
  | succ k1 =>
   have H := HA.out
   clear HA
   simp only [spec_Export.l0] at H
   by_cases c4 : x5_1 < (t308.length : Int)
   ·rw [if_pos c4] at H
    have c4b0 : decide (x5_1 < (t308.length : Int)) = true := decide_eq_true c4
    clear c4
    by_cases c5 : x5_1 > 0
    ·rw [if_pos c5] at H
     have c5b0 : decide (0 < x5_1) = true := decide_eq_true c5
     clear c5
     by_cases c6 : 0 ≤ x5_1
     ·rw [if_pos c6] at H
      have c6b0 : decide (0 ≤ x5_1) = true := decide_eq_true c6
      clear c6
      by_cases c7 : ((rd_T27 t308 x5_1).f0) = 2
      ·rw [if_pos c7] at H
       have c7b0 : (((rd_T27 t308 x5_1).f0) == 2) = true := beq_iff_eq.mpr c7
       have c7b1 : (((rd_T27 t308 x5_1).f0) != 2) = false := bne_eq_false_iff_eq.mpr c7
       clear c7
       by_cases c8 : x4_1.size + 1 ≤ 9223372036854775807
       ·rw [if_pos c8] at H
        have c8b0 := eq_true c8
        have c8b1 : decide (x4_1.size + 1 ≤ 9223372036854775807) = true := decide_eq_true c8
        try have c8b2 : (9223372036854775807 < x4_1.size + 1) = False := eq_false (Nat.not_lt.2 c8)
        replace H := Option.bind_eq_some_iff.mp H
        obtain ⟨t313, A90, H⟩ := H
        replace H : (if (x4_1 ++ (⟨#[10]⟩ : ByteArray)).size + t313.size ≤ 9223372036854775807 then (spec_Export.l0 k1 t308 ((x4_1 ++ (⟨#[10]⟩ : ByteArray)) ++ t313) (wrap64 (x5_1 + 1))) else (none)) = some r := H
        have A9 := Aside0.mk A90
        clear A90
        by_cases c10 : (x4_1 ++ (⟨#[10]⟩ : ByteArray)).size + t313.size ≤ 9223372036854775807
        ·rw [if_pos c10] at H
         have c10b0 := eq_true c10
         have c10b1 : decide ((x4_1 ++ (⟨#[10]⟩ : ByteArray)).size + t313.size ≤ 9223372036854775807) = true := decide_eq_true c10
         try have c10b2 : (9223372036854775807 < (x4_1 ++ (⟨#[10]⟩ : ByteArray)).size + t313.size) = False := eq_false (Nat.not_lt.2 c10)
         try (have c10b3 := c10; simp only [ByteArray.size_append] at c10b3; replace c10b3 := eq_true c10b3)
         try (have c10b4 := c10b2; simp only [ByteArray.size_append] at c10b4; (try rw [show (⟨#[10]⟩ : ByteArray).size = 1 from rfl] at c10b4))
         have H' := Aside0.mk H
         clear H
         obtain ⟨Ao11, co11, eo11⟩ := Kd.R_slice HO_3.out
         subst eo11
         have p311 : 0 ≤ (x5_1 : Int) := of_decide_eq_true Z10
         have q311 : x5_1 < (t308.length : Int) := of_decide_eq_true Z10
         obtain ⟨ad311, e311, hx311_0, hx311_1, hx311_2, hx311_3, hx311_4⟩ := at_T27 (Kd.R_reads' HO_3.out).2.2 x5_1 p311 q311
         cases e311
         replace p311 := eq_true p311
         replace q311 := eq_true q311
         have p312 : 0 ≤ (x5_1 : Int) := of_decide_eq_true Z10
         have q312 : x5_1 < (t308.length : Int) := of_decide_eq_true Z10
         obtain ⟨ad312, e312, hx312_0, hx312_1, hx312_2, hx312_3, hx312_4⟩ := at_T27 (Kd.R_reads' HO_3.out).2.2 x5_1 p312 q312
         obtain rfl : ad311 = ad312 := (by injection e312)
         replace p312 := eq_true p312
         replace q312 := eq_true q312
         go_wp2_with (first | ((with_reducible refine gate_callee (f := 8) rfl ?_); refine goesL_ (some 31) rfl rfl Tryd.func8 Z0 rfl #[.agg #[.int .i64 ((rd_T27 t308 x5_1).f0), .string ((rd_T27 t308 x5_1).f1), .int .i32 ((rd_T27 t308 x5_1).f2), .bool ((rd_T27 t308 x5_1).f3), .int .u32 ((rd_T27 t308 x5_1).f4)]] rfl Z9 ?_; (with_reducible refine (spec_ItemText.calls k1 ((rd_T27 t308 x5_1).f0) ((rd_T27 t308 x5_1).f1) ((rd_T27 t308 x5_1).f2) ((rd_T27 t308 x5_1).f3) ((rd_T27 t308 x5_1).f4) t313 _ A9.out).mono ?_); rintro e w12 ⟨rfl, hb⟩; refine ⟨_, rfl, ?_⟩; replace HO_3 := Z (Kd.R_below (Z6 HO_3) hb); replace HB := Z (below_step Z67 hb); (try clear hb); (try clear hb2); (try clear hk); (try clear hi)))
         go_roundg k1
         case measure => have := HK1.out; omega
         case rel => exact ⟨((x4_1 ++ (⟨#[10]⟩ : ByteArray)) ++ t313), (wrap64 (x5_1 + 1)), Z7, Z7, H', ⟨Z11⟩, ⟨(Z6 HO_3)⟩, ⟨Z67⟩⟩
        ·rw [if_neg c10] at H
         exact absurd H (by simp)
       ·rw [if_neg c8] at H
        exact absurd H (by simp)
      ·rw [if_neg c7] at H
       have c7b0 : (((rd_T27 t308 x5_1).f0) == 2) = false := beq_eq_false_iff_ne.mpr c7
       have c7b1 : (((rd_T27 t308 x5_1).f0) != 2) = true := bne_iff_ne.mpr c7
       by_cases c13 : x4_1.size + 1 ≤ 9223372036854775807
       ·rw [if_pos c13] at H
        have c13b0 := eq_true c13
        have c13b1 : decide (x4_1.size + 1 ≤ 9223372036854775807) = true := decide_eq_true c13
        try have c13b2 : (9223372036854775807 < x4_1.size + 1) = False := eq_false (Nat.not_lt.2 c13)
        replace H := Option.bind_eq_some_iff.mp H
        obtain ⟨t315, A140, H⟩ := H
        replace H : (if (x4_1 ++ (⟨#[32]⟩ : ByteArray)).size + t315.size ≤ 9223372036854775807 then (spec_Export.l0 k1 t308 ((x4_1 ++ (⟨#[32]⟩ : ByteArray)) ++ t315) (wrap64 (x5_1 + 1))) else (none)) = some r := H
        have A14 := Aside0.mk A140
        clear A140
        by_cases c15 : (x4_1 ++ (⟨#[32]⟩ : ByteArray)).size + t315.size ≤ 9223372036854775807
        ·rw [if_pos c15] at H
         have c15b0 := eq_true c15
         have c15b1 : decide ((x4_1 ++ (⟨#[32]⟩ : ByteArray)).size + t315.size ≤ 9223372036854775807) = true := decide_eq_true c15
         try have c15b2 : (9223372036854775807 < (x4_1 ++ (⟨#[32]⟩ : ByteArray)).size + t315.size) = False := eq_false (Nat.not_lt.2 c15)
         try (have c15b3 := c15; simp only [ByteArray.size_append] at c15b3; replace c15b3 := eq_true c15b3)
         try (have c15b4 := c15b2; simp only [ByteArray.size_append] at c15b4; (try rw [show (⟨#[32]⟩ : ByteArray).size = 1 from rfl] at c15b4))
         have H' := Aside0.mk H
         clear H
         obtain ⟨Ao16, co16, eo16⟩ := Kd.R_slice HO_3.out
         subst eo16
         have p311 : 0 ≤ (x5_1 : Int) := of_decide_eq_true Z10
         have q311 : x5_1 < (t308.length : Int) := of_decide_eq_true Z10
         obtain ⟨ad311, e311, hx311_0, hx311_1, hx311_2, hx311_3, hx311_4⟩ := at_T27 (Kd.R_reads' HO_3.out).2.2 x5_1 p311 q311
         cases e311
         replace p311 := eq_true p311
         replace q311 := eq_true q311
         have p314 : 0 ≤ (x5_1 : Int) := of_decide_eq_true Z10
         have q314 : x5_1 < (t308.length : Int) := of_decide_eq_true Z10
         obtain ⟨ad314, e314, hx314_0, hx314_1, hx314_2, hx314_3, hx314_4⟩ := at_T27 (Kd.R_reads' HO_3.out).2.2 x5_1 p314 q314
         obtain rfl : ad311 = ad314 := (by injection e314)
         replace p314 := eq_true p314
         replace q314 := eq_true q314
         go_wp2_with (first | ((with_reducible refine gate_callee (f := 8) rfl ?_); refine goesL_ (some 31) rfl rfl Tryd.func8 Z0 rfl #[.agg #[.int .i64 ((rd_T27 t308 x5_1).f0), .string ((rd_T27 t308 x5_1).f1), .int .i32 ((rd_T27 t308 x5_1).f2), .bool ((rd_T27 t308 x5_1).f3), .int .u32 ((rd_T27 t308 x5_1).f4)]] rfl Z9 ?_; (with_reducible refine (spec_ItemText.calls k1 ((rd_T27 t308 x5_1).f0) ((rd_T27 t308 x5_1).f1) ((rd_T27 t308 x5_1).f2) ((rd_T27 t308 x5_1).f3) ((rd_T27 t308 x5_1).f4) t315 _ A14.out).mono ?_); rintro e w17 ⟨rfl, hb⟩; refine ⟨_, rfl, ?_⟩; replace HO_3 := Z (Kd.R_below (Z6 HO_3) hb); replace HB := Z (below_step Z67 hb); (try clear hb); (try clear hb2); (try clear hk); (try clear hi)))
         go_roundg k1
         case measure => have := HK1.out; omega
         case rel => exact ⟨((x4_1 ++ (⟨#[32]⟩ : ByteArray)) ++ t315), (wrap64 (x5_1 + 1)), Z7, Z7, H', ⟨Z11⟩, ⟨(Z6 HO_3)⟩, ⟨Z67⟩⟩
        ·rw [if_neg c15] at H
         exact absurd H (by simp)
       ·rw [if_neg c13] at H
        exact absurd H (by simp)
     ·rw [if_neg c6] at H
      exact absurd H (by simp)
    ·rw [if_neg c5] at H
     have c5b0 : decide (0 < x5_1) = false := decide_eq_false c5
     clear c5
     by_cases c18 : 0 ≤ x5_1
     ·rw [if_pos c18] at H
      have c18b0 : decide (0 ≤ x5_1) = true := decide_eq_true c18
      clear c18
      replace H := Option.bind_eq_some_iff.mp H
      obtain ⟨t317, A190, H⟩ := H
      replace H : (if x4_1.size + t317.size ≤ 9223372036854775807 then (spec_Export.l0 k1 t308 (x4_1 ++ t317) (wrap64 (x5_1 + 1))) else (none)) = some r := H
      have A19 := Aside0.mk A190
      clear A190
      by_cases c20 : x4_1.size + t317.size ≤ 9223372036854775807
      ·rw [if_pos c20] at H
       have c20b0 := eq_true c20
       have c20b1 : decide (x4_1.size + t317.size ≤ 9223372036854775807) = true := decide_eq_true c20
       try have c20b2 : (9223372036854775807 < x4_1.size + t317.size) = False := eq_false (Nat.not_lt.2 c20)
       have H' := Aside0.mk H
       clear H
       obtain ⟨Ao21, co21, eo21⟩ := Kd.R_slice HO_3.out
       subst eo21
       have p316 : 0 ≤ (x5_1 : Int) := of_decide_eq_true Z10
       have q316 : x5_1 < (t308.length : Int) := of_decide_eq_true Z10
       obtain ⟨ad316, e316, hx316_0, hx316_1, hx316_2, hx316_3, hx316_4⟩ := at_T27 (Kd.R_reads' HO_3.out).2.2 x5_1 p316 q316
       cases e316
       replace p316 := eq_true p316
       replace q316 := eq_true q316
       go_wp2_with (first | ((with_reducible refine gate_callee (f := 8) rfl ?_); refine goesL_ (some 31) rfl rfl Tryd.func8 Z0 rfl #[.agg #[.int .i64 ((rd_T27 t308 x5_1).f0), .string ((rd_T27 t308 x5_1).f1), .int .i32 ((rd_T27 t308 x5_1).f2), .bool ((rd_T27 t308 x5_1).f3), .int .u32 ((rd_T27 t308 x5_1).f4)]] rfl Z9 ?_; (with_reducible refine (spec_ItemText.calls k1 ((rd_T27 t308 x5_1).f0) ((rd_T27 t308 x5_1).f1) ((rd_T27 t308 x5_1).f2) ((rd_T27 t308 x5_1).f3) ((rd_T27 t308 x5_1).f4) t317 _ A19.out).mono ?_); rintro e w22 ⟨rfl, hb⟩; refine ⟨_, rfl, ?_⟩; replace HO_3 := Z (Kd.R_below (Z6 HO_3) hb); replace HB := Z (below_step Z67 hb); (try clear hb); (try clear hb2); (try clear hk); (try clear hi)))
       go_roundg k1
       case measure => have := HK1.out; omega
       case rel => exact ⟨(x4_1 ++ t317), (wrap64 (x5_1 + 1)), Z7, Z7, H', ⟨Z11⟩, ⟨(Z6 HO_3)⟩, ⟨Z67⟩⟩
      ·rw [if_neg c20] at H
       exact absurd H (by simp)
     ·rw [if_neg c18] at H
      exact absurd H (by simp)
   ·rw [if_neg c4] at H
    have c4b0 : decide (x5_1 < (t308.length : Int)) = false := decide_eq_false c4
    clear c4
    by_cases c23 : (t308.length : Int) > 0
    ·rw [if_pos c23] at H
     have c23b0 : decide (0 < (t308.length : Int)) = true := decide_eq_true c23
     have c23b1 : decide (0 < t308.length) = true := decide_eq_true (by omega)
     clear c23
     by_cases c24 : x4_1.size + 1 ≤ 9223372036854775807
     ·rw [if_pos c24] at H
      have c24b0 := eq_true c24
      have c24b1 : decide (x4_1.size + 1 ≤ 9223372036854775807) = true := decide_eq_true c24
      try have c24b2 : (9223372036854775807 < x4_1.size + 1) = False := eq_false (Nat.not_lt.2 c24)
      obtain rfl := Option.some.inj H
      obtain ⟨Ao25, co25, eo25⟩ := Kd.R_slice HO_3.out
      subst eo25
      go_wp2
      go_ret
      exact ⟨Z68, Z67⟩
     ·rw [if_neg c24] at H
      exact absurd H (by simp)
    ·rw [if_neg c23] at H
     have c23b0 : decide (0 < (t308.length : Int)) = false := decide_eq_false c23
     have c23b1 : decide (0 < t308.length) = false := decide_eq_false (by omega)
     clear c23
     obtain rfl := Option.some.inj H
     obtain ⟨Ao26, co26, eo26⟩ := Kd.R_slice HO_3.out
     subst eo26
     go_wp2
     go_ret
     exact ⟨Z68, Z67⟩

/-! ### laws_toUint32S: function 12 -/
def laws_toUint32S.l0 : Nat → List Int → List Int → Int → Option (List Int)
 | 0, _, _, _ => none
 | k + 1, x0, x3, x4 => if x4 < (x0.length : Int) then (if 0 ≤ x4 then (if x4 < (x3.length : Int) then (laws_toUint32S.l0 k x0 (x3.set (x4 : Int).toNat (rd x0 x4)) (wrap64 (x4 + 1))) else (none)) else (none)) else (some x3)
def laws_toUint32S.f (k : Nat) (l0 : List Int) : Option (List Int) := if 0 ≤ (l0.length : Int) then (if ((l0.length : Int) : Int).toNat ≤ 70368744177664 then (laws_toUint32S.l0 k l0 (List.replicate ((l0.length : Int) : Int).toNat 0) 0) else (none)) else (none)
theorem laws_toUint32S.mono_l : ∀ k, (∀ y0 y1 y2, LeO (laws_toUint32S.l0 k y0 y1 y2) (laws_toUint32S.l0 (k + 1) y0 y1 y2))
 | 0 => fun _ _ _ r h => by simp [laws_toUint32S.l0] at h
 | k + 1 => by
  have ih0 := laws_toUint32S.mono_l k
  ·intro y0 y1 y2
   unfold laws_toUint32S.l0
   repeat' first
   | (with_reducible exact ih0 _ _ _)
   | (with_reducible exact LeO.refl _)
   | (with_reducible exact LeO.none _)
   | (with_reducible refine LeO.ite ?_ ?_)
   | (with_reducible refine LeO.bind ?_ (fun _ => ?_))
   | exact ih0 _ _ _
   | exact LeO.none _
   | refine LeO.ite ?_ ?_
   | refine LeO.bind ?_ (fun _ => ?_)
theorem laws_toUint32S.mono : ∀ a0 k, LeO (laws_toUint32S.f k a0) (laws_toUint32S.f (k + 1) a0) := by
 intro a0 k
 have ih0 := laws_toUint32S.mono_l k
 unfold laws_toUint32S.f
 repeat' first
   | (with_reducible exact ih0 _ _ _)
   | (with_reducible exact LeO.refl _)
   | (with_reducible exact LeO.none _)
   | (with_reducible refine LeO.ite ?_ ?_)
   | (with_reducible refine LeO.bind ?_ (fun _ => ?_))
   | exact ih0 _ _ _
   | exact LeO.none _
   | refine LeO.ite ?_ ?_
   | refine LeO.bind ?_ (fun _ => ?_)
set_option maxHeartbeats 8000000 in
set_option maxRecDepth 100000 in
theorem laws_toUint32S.calls (k : Nat) (A0 : Option Addr) (c0 : Nat) (l0 : List Int) (r : List Int) (w : World) (hr0 : Kd.C (Kd.int .u32) w A0 l0.length l0) (hc0 : l0.length ≤ c0) (h : laws_toUint32S.f k l0 = some r) :
  Calls Tryd.prog 12 #[.slice A0 l0.length c0] w fun e w' => ∃ v0_ : Value, e = .returned (v0_) ∧ Kd.R (Kd.int .u32) 22 w' w.heap.size (fun _ => True) v0_ r ∧ Below w.heap.size w w' := by
 have HR0 := Aside0.mk hr0
 have HC0 := Aside0.mk hc0
 clear hr0 hc0
 have HB := Z (Below.refl w.heap.size w)
 have H : (if 0 ≤ (l0.length : Int) then (if ((l0.length : Int) : Int).toNat ≤ 70368744177664 then (laws_toUint32S.l0 k l0 (List.replicate ((l0.length : Int) : Int).toNat 0) 0) else (none)) else (none)) = some r := h
 clear h
 by_cases c2 : 0 ≤ (l0.length : Int)
 ·rw [if_pos c2] at H
  have c2b0 := eq_true c2
  have c2b1 : decide (0 ≤ (l0.length : Int)) = true := decide_eq_true c2
  clear c2
  by_cases c3 : ((l0.length : Int) : Int).toNat ≤ 70368744177664
  ·rw [if_pos c3] at H
   have c3b0 := eq_true c3
   have c3b1 : decide (((l0.length : Int) : Int).toNat ≤ 70368744177664) = true := decide_eq_true c3
   clear c3
   obtain ⟨y318, hy318⟩ : ∃ y_ : List Int, y_ = (List.replicate ((l0.length : Int) : Int).toNat 0) := ⟨_, rfl⟩
   replace H : (laws_toUint32S.l0 k l0 y318 0) = some r := by first | (rw [hy318]; with_reducible exact H) | (have H2_ := (Option.bind_some _ _).symm.trans H; rw [hy318]; with_reducible exact H2_) | (have H2_ := (Option.bind_some _ _).symm.trans H; with_reducible exact H2_) | with_reducible exact H | (rw [hy318]; exact H) | exact H
   have Ny318 := Aside0.mk hy318
   clear hy318
   have H' := Aside0.mk H
   clear H
   go_enter Tryd.func12, Tryd.ntmps12
   go_wp2_with (first | ((with_reducible refine gate_dst (N := 7) rfl ?_); refine Kd.R_make (Kd.int .u32) _ 22 rfl (N := 7) rfl 30 _ _ rfl (l0.length : Int) rfl rfl Tryd.underlying30 (.int .u32 0) 4 info22 rfl (by decide) (by omega) 0 (ok := fun _ => True) (okp := fun _ => True) rfl (fun _ hk => hk) trivial (of_decide_eq_true Z10) (Nat.le_trans (Nat.mul_le_mul_right _ (of_decide_eq_true Z10 : (l0.length : Int).toNat ≤ 70368744177664)) (by omega)) (Below.refl _ _) (Nat.le_refl _) ?_; intro v319 w4 ho5 hb hg_ hnew_; clear hg_ hnew_; (first | rw [← Ny318.out] at ho5 | (simp only [Int.reduceToNat] at ho5; rw [← Ny318.out] at ho5)); have HO320 := Z (Kd.R_lower ho5 (below_size Z67)); replace HB := Z (below_step Z67 hb); clear hb ho5))
   go_loopg [4] k (fun kq v4 w' => ∃ (x3_1 : List Int) (x4_1 : Int), v4 = .int .i64 x4_1 ∧ Aside0 (laws_toUint32S.l0 kq l0 x3_1 x4_1 = some r) ∧ Aside0 (kq ≤ k) ∧ Aside0 (Kd.R (Kd.int .u32) 22 w' w.heap.size (fun _ => True) v319 x3_1) ∧ Aside0 (Below w.heap.size w w'))
   case atStart => exact ⟨(y318), (0), Z7, H', ⟨Nat.le_refl _⟩, ⟨(Z6 HO320)⟩, ⟨Z67⟩⟩
   case round =>
    clear H'
    try clear c1
    try clear c2
    try clear c2b0
    try clear c2b1
    try clear p2
    try clear c3
    try clear c3b0
    try clear c3b1
    obtain ⟨x3_1, x4_1, rfl, HA, HK1, HO_3, HB⟩ := hrel
    cases gk with
    | zero => exact absurd HA.out (by simp [laws_toUint32S.l0])
    | succ k1 =>
     have H := HA.out
     clear HA
     simp only [laws_toUint32S.l0] at H
     by_cases c6 : x4_1 < (l0.length : Int)
     ·rw [if_pos c6] at H
      have c6b0 : decide (x4_1 < (l0.length : Int)) = true := decide_eq_true c6
      clear c6
      by_cases c7 : 0 ≤ x4_1
      ·rw [if_pos c7] at H
       have c7b0 : decide (0 ≤ x4_1) = true := decide_eq_true c7
       clear c7
       by_cases c8 : x4_1 < (x3_1.length : Int)
       ·rw [if_pos c8] at H
        have c8b0 : decide (x4_1 < (x3_1.length : Int)) = true := decide_eq_true c8
        clear c8
        obtain ⟨y322, hy322⟩ : ∃ y_ : List Int, y_ = (x3_1.set (x4_1 : Int).toNat (rd l0 x4_1)) := ⟨_, rfl⟩
        replace H : (laws_toUint32S.l0 k1 l0 y322 (wrap64 (x4_1 + 1))) = some r := by first | (rw [hy322]; with_reducible exact H) | (have H2_ := (Option.bind_some _ _).symm.trans H; rw [hy322]; with_reducible exact H2_) | (have H2_ := (Option.bind_some _ _).symm.trans H; with_reducible exact H2_) | with_reducible exact H | (rw [hy322]; exact H) | exact H
        have Ny322 := Aside0.mk hy322
        clear hy322
        have H' := Aside0.mk H
        clear H
        have p321 : 0 ≤ (x4_1 : Int) := of_decide_eq_true Z10
        have q321 : x4_1 < (l0.length : Int) := of_decide_eq_true Z10
        obtain ⟨ad321, e321, hx321_0⟩ := Kd.at_int HR0.out x4_1 p321 q321
        cases e321
        replace hx321_0 := (HB.out.cell (World.block_lt_of_cell? w _ hx321_0)).trans hx321_0
        replace p321 := eq_true p321
        replace q321 := eq_true q321
        have p9 : 0 ≤ (x4_1 : Int) := of_decide_eq_true Z10
        have q9 : (x4_1 : Int) < ((x3_1.length : Int) : Int) := of_decide_eq_true Z10
        obtain ⟨go9, co9, eo9, gb9, gl9, cl9, HG9⟩ := Kd.R_form HO_3.out (by omega)
        (first | cases eo9 | (injection eo9 with ea_ en_ ec_; (first | subst ea_ | (injection ea_ with ea_; subst ea_)); subst ec_; clear en_))
        have GB9 := Aside0.mk gb9
        have GG9 := Aside0.mk HG9
        clear gb9 gl9 HG9
        obtain ⟨hx9_0, hf9_0⟩ := Kd.R_celln 0 HO_3.out (x4_1 : Int) p9 q9
        replace p9 := eq_true p9
        replace q9 := eq_true q9
        have HP10 := Kd.R_putg HO_3.out (x4_1 : Int) (rd l0 x4_1)
        go_wp2_with (first | ((with_reducible refine gate_store (t := 22) (p := 20) rfl ?_); refine store_event (t := 22) (p := 20) (v := ?vo_w11) (w1 := (wr.setCell ⟨go9, (x4_1 : Int).toNat, none⟩ (.int .u32 (rd l0 x4_1)))) (by rfl) (by rfl) (by rfl) Z3 ?_; intro w11 hw; have hg : wr.grownBy w11 (some go9) := (by rw [hw]; exact HP10.2); have hp_ : Kd.R (Kd.int .u32) 22 w11 w.heap.size (fun _ => True) (.slice (some ⟨go9, 0, none⟩) x3_1.length co9) y322 := (by rw [hw, Ny322.out]; exact HP10.1); clear HP10; replace HO_3 := Z (hp_); replace HB := Z ((by rw [hw]; exact below_set (HB.out) GB9.out : Below w.heap.size w w11)); clear hg hw hp_))
        go_roundg k1
        case measure => have := HK1.out; omega
        case rel => exact ⟨(y322), (wrap64 (x4_1 + 1)), Z7, H', ⟨Z11⟩, ⟨(Z6 HO_3)⟩, ⟨Z67⟩⟩
       ·rw [if_neg c8] at H
        exact absurd H (by simp)
      ·rw [if_neg c7] at H
       exact absurd H (by simp)
     ·rw [if_neg c6] at H
      have c6b0 : decide (x4_1 < (l0.length : Int)) = false := decide_eq_false c6
      clear c6
      obtain rfl := Option.some.inj H
      go_wp2
      go_ret
      exact ⟨_, Z68, (Z6 HO_3), Z67⟩
  ·rw [if_neg c3] at H
   exact absurd H (by simp)
 ·rw [if_neg c2] at H
  exact absurd H (by simp)

/-! ### impl_nameTag: function 57 -/
def impl_nameTag.f (a0 : Int) : Option (Int) := if a0 = 1 then (some 1) else (if a0 = 2 then (some 3) else (if a0 = 3 then (some 4) else (if a0 = 4 then (some 9) else (if a0 = 5 then (some 10) else (if a0 = 6 then (some 11) else (some 0))))))
set_option maxHeartbeats 8000000 in
set_option maxRecDepth 100000 in
theorem impl_nameTag.calls (a0 : Int) (r : Int) (w : World) (h : impl_nameTag.f a0 = some r) :
  Calls Tryd.prog 57 #[.int .i64 a0] w fun e w' => e = .returned (.int .u32 r) ∧ Drawn0 w w' := by
 have H : (if a0 = 1 then (some 1) else (if a0 = 2 then (some 3) else (if a0 = 3 then (some 4) else (if a0 = 4 then (some 9) else (if a0 = 5 then (some 10) else (if a0 = 6 then (some 11) else (some 0))))))) = some r := h
 clear h
 by_cases c2 : a0 = 1
 ·rw [if_pos c2] at H
  have c2b0 : (a0 == 1) = true := beq_iff_eq.mpr c2
  have c2b1 : (a0 != 1) = false := bne_eq_false_iff_eq.mpr c2
  clear c2
  obtain rfl := Option.some.inj H
  go_enter Tryd.func57, Tryd.ntmps57
  go_wp2
  go_ret
  exact ⟨Z7, Z8⟩
 ·rw [if_neg c2] at H
  have c2b0 : (a0 == 1) = false := beq_eq_false_iff_ne.mpr c2
  have c2b1 : (a0 != 1) = true := bne_iff_ne.mpr c2
  by_cases c3 : a0 = 2
  ·rw [if_pos c3] at H
   have c3b0 : (a0 == 2) = true := beq_iff_eq.mpr c3
   have c3b1 : (a0 != 2) = false := bne_eq_false_iff_eq.mpr c3
   clear c3
   obtain rfl := Option.some.inj H
   go_enter Tryd.func57, Tryd.ntmps57
   go_wp2
   go_ret
   exact ⟨Z7, Z8⟩
  ·rw [if_neg c3] at H
   have c3b0 : (a0 == 2) = false := beq_eq_false_iff_ne.mpr c3
   have c3b1 : (a0 != 2) = true := bne_iff_ne.mpr c3
   by_cases c4 : a0 = 3
   ·rw [if_pos c4] at H
    have c4b0 : (a0 == 3) = true := beq_iff_eq.mpr c4
    have c4b1 : (a0 != 3) = false := bne_eq_false_iff_eq.mpr c4
    clear c4
    obtain rfl := Option.some.inj H
    go_enter Tryd.func57, Tryd.ntmps57
    go_wp2
    go_ret
    exact ⟨Z7, Z8⟩
   ·rw [if_neg c4] at H
    have c4b0 : (a0 == 3) = false := beq_eq_false_iff_ne.mpr c4
    have c4b1 : (a0 != 3) = true := bne_iff_ne.mpr c4
    by_cases c5 : a0 = 4
    ·rw [if_pos c5] at H
     have c5b0 : (a0 == 4) = true := beq_iff_eq.mpr c5
     have c5b1 : (a0 != 4) = false := bne_eq_false_iff_eq.mpr c5
     clear c5
     obtain rfl := Option.some.inj H
     go_enter Tryd.func57, Tryd.ntmps57
     go_wp2
     go_ret
     exact ⟨Z7, Z8⟩
    ·rw [if_neg c5] at H
     have c5b0 : (a0 == 4) = false := beq_eq_false_iff_ne.mpr c5
     have c5b1 : (a0 != 4) = true := bne_iff_ne.mpr c5
     by_cases c6 : a0 = 5
     ·rw [if_pos c6] at H
      have c6b0 : (a0 == 5) = true := beq_iff_eq.mpr c6
      have c6b1 : (a0 != 5) = false := bne_eq_false_iff_eq.mpr c6
      clear c6
      obtain rfl := Option.some.inj H
      go_enter Tryd.func57, Tryd.ntmps57
      go_wp2
      go_ret
      exact ⟨Z7, Z8⟩
     ·rw [if_neg c6] at H
      have c6b0 : (a0 == 5) = false := beq_eq_false_iff_ne.mpr c6
      have c6b1 : (a0 != 5) = true := bne_iff_ne.mpr c6
      by_cases c7 : a0 = 6
      ·rw [if_pos c7] at H
       have c7b0 : (a0 == 6) = true := beq_iff_eq.mpr c7
       have c7b1 : (a0 != 6) = false := bne_eq_false_iff_eq.mpr c7
       clear c7
       obtain rfl := Option.some.inj H
       go_enter Tryd.func57, Tryd.ntmps57
       go_wp2
       go_ret
       exact ⟨Z7, Z8⟩
      ·rw [if_neg c7] at H
       have c7b0 : (a0 == 6) = false := beq_eq_false_iff_ne.mpr c7
       have c7b1 : (a0 != 6) = true := bne_iff_ne.mpr c7
       obtain rfl := Option.some.inj H
       go_enter Tryd.func57, Tryd.ntmps57
       go_wp2
       go_ret
       exact ⟨Z7, Z8⟩

/-! ### impl_letters: function 119 -/
def impl_letters.f  : Option (ByteArray) := some (⟨#[32, 114, 116, 111, 101, 97, 110, 105, 115, 109, 99, 121, 108, 103, 102, 119, 100, 118, 112, 98, 104, 120, 117, 113, 48, 49, 50, 51, 52, 53, 54, 55, 56, 57, 106, 45, 107, 46, 122, 47, 59, 39, 33, 43, 64, 42, 44, 63]⟩ : ByteArray)
set_option maxHeartbeats 8000000 in
set_option maxRecDepth 100000 in
theorem impl_letters.calls  (r : ByteArray) (w : World) (h : impl_letters.f  = some r) :
  Calls Tryd.prog 119 #[] w fun e w' => e = .returned (.string r) ∧ Drawn0 w w' := by
 have H : (some (⟨#[32, 114, 116, 111, 101, 97, 110, 105, 115, 109, 99, 121, 108, 103, 102, 119, 100, 118, 112, 98, 104, 120, 117, 113, 48, 49, 50, 51, 52, 53, 54, 55, 56, 57, 106, 45, 107, 46, 122, 47, 59, 39, 33, 43, 64, 42, 44, 63]⟩ : ByteArray)) = some r := h
 clear h
 obtain rfl := Option.some.inj H
 go_enter Tryd.func119, Tryd.ntmps119
 go_wp2
 go_ret
 exact ⟨Z7, Z8⟩

/-! ### stringslite_IndexByte: function 126 (by hand: it calls an entry without a body) -/
def stringslite_IndexByte.f (a0 : ByteArray) (a1 : Int) : Option (Int) := some (Lib.indexByte a0.data.toList a1.toNat.toUInt8)
set_option maxHeartbeats 1000000 in
set_option maxRecDepth 100000 in
theorem stringslite_IndexByte.calls (a0 : ByteArray) (a1 : Int) (r : Int) (w : World) (h : stringslite_IndexByte.f a0 a1 = some r) :
  Calls Tryd.prog 126 #[.string a0, .int .u8 a1] w fun e w' => e = .returned (.int .i64 r) ∧ Drawn0 w w' := by
 obtain rfl := Option.some.inj h
 go_enter Tryd.func126, Tryd.ntmps126
 go_wp2
 rw [run_callFunc_extern Tryd.func137 Z0 Z0 Z0 (e := Extern.BytealgIndexByte.indexByte) Z0, Lib.run_indexByteString]
 simp only [Result.andThen]
 rw [Oper.upon_value]
 go_wp2
 go_ret
 exact ⟨rfl, Drawn0.refl _⟩

/-! ### strings_IndexByte: function 132 -/
def strings_IndexByte.f (a0 : ByteArray) (a1 : Int) : Option (Int) := (stringslite_IndexByte.f a0 a1).bind fun t323 => (some t323)
set_option maxHeartbeats 8000000 in
set_option maxRecDepth 100000 in
theorem strings_IndexByte.calls (a0 : ByteArray) (a1 : Int) (r : Int) (w : World) (h : strings_IndexByte.f a0 a1 = some r) :
  Calls Tryd.prog 132 #[.string a0, .int .u8 a1] w fun e w' => e = .returned (.int .i64 r) ∧ Drawn0 w w' := by
 have H : ((stringslite_IndexByte.f a0 a1).bind fun t323 => (some t323)) = some r := h
 clear h
 replace H := Option.bind_eq_some_iff.mp H
 obtain ⟨t323, A30, H⟩ := H
 replace H : (some t323) = some r := H
 have A3 := Aside0.mk A30
 clear A30
 obtain rfl := Option.some.inj H
 go_enter Tryd.func132, Tryd.ntmps132
 go_wp2_with (first | ((with_reducible refine gate_callee (f := 126) rfl ?_); refine goesL_ (some 7) rfl rfl Tryd.func126 Z0 rfl #[.string a0, .int .u8 a1] rfl Z9 ?_; (with_reducible refine (stringslite_IndexByte.calls a0 a1 t323 _ A3.out).mono ?_); rintro e w' ⟨rfl, ⟨nd, rfl⟩⟩; refine ⟨_, rfl, ?_⟩))
 go_ret
 exact ⟨Z7, Z8⟩

/-! ### impl_LetterOf: function 105 -/
def impl_LetterOf.f (a0 : Int) : Option (Int) := (impl_letters.f).bind fun t324 => ((strings_IndexByte.f t324 a0).bind fun t325 => (some t325))
set_option maxHeartbeats 8000000 in
set_option maxRecDepth 100000 in
theorem impl_LetterOf.calls (a0 : Int) (r : Int) (w : World) (h : impl_LetterOf.f a0 = some r) :
  Calls Tryd.prog 105 #[.int .u8 a0] w fun e w' => e = .returned (.int .i64 r) ∧ Drawn0 w w' := by
 have H : ((impl_letters.f).bind fun t324 => ((strings_IndexByte.f t324 a0).bind fun t325 => (some t325))) = some r := h
 clear h
 replace H := Option.bind_eq_some_iff.mp H
 obtain ⟨t324, A20, H⟩ := H
 replace H : ((strings_IndexByte.f t324 a0).bind fun t325 => (some t325)) = some r := H
 have A2 := Aside0.mk A20
 clear A20
 replace H := Option.bind_eq_some_iff.mp H
 obtain ⟨t325, A30, H⟩ := H
 replace H : (some t325) = some r := H
 have A3 := Aside0.mk A30
 clear A30
 obtain rfl := Option.some.inj H
 go_enter Tryd.func105, Tryd.ntmps105
 go_wp2_with (first | ((with_reducible refine gate_callee (f := 119) rfl ?_); refine goesL_ (some 3) rfl rfl Tryd.func119 Z0 rfl #[] rfl Z9 ?_; (with_reducible refine (impl_letters.calls  t324 _ A2.out).mono ?_); rintro e w' ⟨rfl, ⟨nd, rfl⟩⟩; refine ⟨_, rfl, ?_⟩) | ((with_reducible refine gate_callee (f := 132) rfl ?_); refine goesL_ (some 5) rfl rfl Tryd.func132 Z0 rfl #[.string t324, .int .u8 a0] rfl Z9 ?_; (with_reducible refine (strings_IndexByte.calls t324 a0 t325 _ A3.out).mono ?_); rintro e w' ⟨rfl, ⟨nd, rfl⟩⟩; refine ⟨_, rfl, ?_⟩))
 go_ret
 exact ⟨Z7, Z8⟩

/-! ### impl_within: function 106 -/
def impl_within.f (a0 : Int) (a1 : Int) (a2 : Int) : Option (Bool) := if a1 ≤ a0 then (some (decide (a0 ≤ a2))) else (some false)
set_option maxHeartbeats 8000000 in
set_option maxRecDepth 100000 in
theorem impl_within.calls (a0 : Int) (a1 : Int) (a2 : Int) (r : Bool) (w : World) (h : impl_within.f a0 a1 a2 = some r) :
  Calls Tryd.prog 106 #[.int .i64 a0, .int .i64 a1, .int .i64 a2] w fun e w' => e = .returned (.bool r) ∧ Drawn0 w w' := by
 have H : (if a1 ≤ a0 then (some (decide (a0 ≤ a2))) else (some false)) = some r := h
 clear h
 by_cases c4 : a1 ≤ a0
 ·rw [if_pos c4] at H
  have c4b0 : decide (a1 ≤ a0) = true := decide_eq_true c4
  clear c4
  obtain rfl := Option.some.inj H
  go_enter Tryd.func106, Tryd.ntmps106
  go_wp2
  go_ret
  exact ⟨Z7, Z8⟩
 ·rw [if_neg c4] at H
  have c4b0 : decide (a1 ≤ a0) = false := decide_eq_false c4
  clear c4
  obtain rfl := Option.some.inj H
  go_enter Tryd.func106, Tryd.ntmps106
  go_wp2
  go_ret
  exact ⟨Z7, Z8⟩

/-! ### impl_NameOk: function 86 -/
def impl_NameOk.l0 : Nat → ByteArray → Int → Int → Option (Bool)
 | 0, _, _, _ => none
 | k + 1, x0, x5, x6 => if x6 < x5 then (if 0 ≤ x6 then (if x6 < (x0.size : Int) then ((impl_LetterOf.f (bt x0 x6)).bind fun t326 => (if t326 < 1 then (some false) else (impl_NameOk.l0 k x0 x5 (wrap64 (x6 + 1))))) else (none)) else (none)) else ((impl_within.f (x0.size : Int) 1 24).bind fun t327 => (some t327))
def impl_NameOk.f (k : Nat) (a0 : ByteArray) : Option (Bool) := impl_NameOk.l0 k a0 (a0.size : Int) 0
theorem impl_NameOk.mono_l : ∀ k, (∀ y0 y1 y2, LeO (impl_NameOk.l0 k y0 y1 y2) (impl_NameOk.l0 (k + 1) y0 y1 y2))
 | 0 => fun _ _ _ r h => by simp [impl_NameOk.l0] at h
 | k + 1 => by
  have ih0 := impl_NameOk.mono_l k
  ·intro y0 y1 y2
   unfold impl_NameOk.l0
   repeat' first
   | (with_reducible exact ih0 _ _ _)
   | (with_reducible exact LeO.refl _)
   | (with_reducible exact LeO.none _)
   | (with_reducible refine LeO.ite ?_ ?_)
   | (with_reducible refine LeO.bind ?_ (fun _ => ?_))
   | exact ih0 _ _ _
   | exact LeO.none _
   | refine LeO.ite ?_ ?_
   | refine LeO.bind ?_ (fun _ => ?_)
theorem impl_NameOk.mono : ∀ a0 k, LeO (impl_NameOk.f k a0) (impl_NameOk.f (k + 1) a0) := by
 intro a0 k
 have ih0 := impl_NameOk.mono_l k
 unfold impl_NameOk.f
 repeat' first
   | (with_reducible exact ih0 _ _ _)
   | (with_reducible exact LeO.refl _)
   | (with_reducible exact LeO.none _)
   | (with_reducible refine LeO.ite ?_ ?_)
   | (with_reducible refine LeO.bind ?_ (fun _ => ?_))
   | exact ih0 _ _ _
   | exact LeO.none _
   | refine LeO.ite ?_ ?_
   | refine LeO.bind ?_ (fun _ => ?_)
set_option maxHeartbeats 8000000 in
set_option maxRecDepth 100000 in
theorem impl_NameOk.calls (k : Nat) (a0 : ByteArray) (r : Bool) (w : World) (h : impl_NameOk.f k a0 = some r) :
  Calls Tryd.prog 86 #[.string a0] w fun e w' => e = .returned (.bool r) ∧ Drawn0 w w' := by
 have H : (impl_NameOk.l0 k a0 (a0.size : Int) 0) = some r := h
 clear h
 have H' := Aside0.mk H
 clear H
 go_enter Tryd.func86, Tryd.ntmps86
 go_wp2
 go_loopg [6] k (fun kq v6 w' => ∃ (x6_1 : Int), v6 = .int .i64 x6_1 ∧ Aside0 (impl_NameOk.l0 kq a0 (a0.size : Int) x6_1 = some r) ∧ Aside0 (kq ≤ k) ∧ Drawn0 w w')
 case atStart => exact ⟨(0), Z7, H', ⟨Nat.le_refl _⟩, Z8⟩
 case round =>
  clear H'
  obtain ⟨x6_1, rfl, HA, HK1, ⟨m1, rfl⟩⟩ := hrel
  cases gk with
  | zero => exact absurd HA.out (by simp [impl_NameOk.l0])
  | succ k1 =>
   have H := HA.out
   clear HA
   simp only [impl_NameOk.l0] at H
   by_cases c2 : x6_1 < (a0.size : Int)
   ·rw [if_pos c2] at H
    have c2b0 : decide (x6_1 < (a0.size : Int)) = true := decide_eq_true c2
    clear c2
    by_cases c3 : 0 ≤ x6_1
    ·rw [if_pos c3] at H
     have c3b0 : decide (0 ≤ x6_1) = true := decide_eq_true c3
     clear c3
     by_cases c4 : x6_1 < (a0.size : Int)
     ·rw [if_pos c4] at H
      have c4b0 : decide (x6_1 < (a0.size : Int)) = true := decide_eq_true c4
      clear c4
      replace H := Option.bind_eq_some_iff.mp H
      obtain ⟨t326, A60, H⟩ := H
      replace H : (if t326 < 1 then (some false) else (impl_NameOk.l0 k1 a0 (a0.size : Int) (wrap64 (x6_1 + 1)))) = some r := H
      have A6 := Aside0.mk A60
      clear A60
      by_cases c7 : t326 < 1
      ·rw [if_pos c7] at H
       have c7b0 : decide (t326 < 1) = true := decide_eq_true c7
       clear c7
       obtain rfl := Option.some.inj H
       have p5 : 0 ≤ (x6_1 : Int) := of_decide_eq_true Z10
       have q5 : x6_1 < (a0.size : Int) := of_decide_eq_true Z10
       have hx5 := bt_at a0 x6_1
       replace p5 := eq_true p5
       replace q5 := eq_true q5
       go_wp2_with (first | ((with_reducible refine gate_callee (f := 105) rfl ?_); refine goesL_ (some 12) rfl rfl Tryd.func105 Z0 rfl #[.int .u8 (bt a0 x6_1)] rfl Z9 ?_; (with_reducible refine (impl_LetterOf.calls (bt a0 x6_1) t326 _ A6.out).mono ?_); rintro e w' ⟨rfl, ⟨nd, rfl⟩⟩; refine ⟨_, rfl, ?_⟩))
       go_ret
       exact ⟨Z7, Z8⟩
      ·rw [if_neg c7] at H
       have c7b0 : decide (t326 < 1) = false := decide_eq_false c7
       clear c7
       have H' := Aside0.mk H
       clear H
       have p5 : 0 ≤ (x6_1 : Int) := of_decide_eq_true Z10
       have q5 : x6_1 < (a0.size : Int) := of_decide_eq_true Z10
       have hx5 := bt_at a0 x6_1
       replace p5 := eq_true p5
       replace q5 := eq_true q5
       go_wp2_with (first | ((with_reducible refine gate_callee (f := 105) rfl ?_); refine goesL_ (some 12) rfl rfl Tryd.func105 Z0 rfl #[.int .u8 (bt a0 x6_1)] rfl Z9 ?_; (with_reducible refine (impl_LetterOf.calls (bt a0 x6_1) t326 _ A6.out).mono ?_); rintro e w' ⟨rfl, ⟨nd, rfl⟩⟩; refine ⟨_, rfl, ?_⟩))
       go_roundg k1
       case measure => have := HK1.out; omega
       case rel => exact ⟨(wrap64 (x6_1 + 1)), Z7, H', ⟨Z11⟩, Z8⟩
     ·rw [if_neg c4] at H
      exact absurd H (by simp)
    ·rw [if_neg c3] at H
     exact absurd H (by simp)
   ·rw [if_neg c2] at H
    have c2b0 : decide (x6_1 < (a0.size : Int)) = false := decide_eq_false c2
    clear c2
    replace H := Option.bind_eq_some_iff.mp H
    obtain ⟨t327, A80, H⟩ := H
    replace H : (some t327) = some r := H
    have A8 := Aside0.mk A80
    clear A80
    obtain rfl := Option.some.inj H
    go_wp2_with (first | ((with_reducible refine gate_callee (f := 106) rfl ?_); refine goesL_ (some 17) rfl rfl Tryd.func106 Z0 rfl #[.int .i64 (a0.size : Int), .int .i64 1, .int .i64 24] rfl Z9 ?_; (with_reducible refine (impl_within.calls (a0.size : Int) 1 24 t327 _ A8.out).mono ?_); rintro e w' ⟨rfl, ⟨nd, rfl⟩⟩; refine ⟨_, rfl, ?_⟩))
    go_ret
    exact ⟨Z7, Z8⟩

/-! ### impl_WidthOf: function 107 -/
def impl_WidthOf.f (a0 : Int) : Option (Int) := (impl_within.f a0 0 7).bind fun t328 => (if t328 = true then (some 4) else ((impl_within.f a0 8 15).bind fun t329 => (if t329 = true then (some 5) else ((impl_within.f a0 16 47).bind fun t330 => (if t330 = true then (some 7) else (some 0))))))
set_option maxHeartbeats 8000000 in
set_option maxRecDepth 100000 in
theorem impl_WidthOf.calls (a0 : Int) (r : Int) (w : World) (h : impl_WidthOf.f a0 = some r) :
  Calls Tryd.prog 107 #[.int .i64 a0] w fun e w' => e = .returned (.int .i64 r) ∧ Drawn0 w w' := by
 have H : ((impl_within.f a0 0 7).bind fun t328 => (if t328 = true then (some 4) else ((impl_within.f a0 8 15).bind fun t329 => (if t329 = true then (some 5) else ((impl_within.f a0 16 47).bind fun t330 => (if t330 = true then (some 7) else (some 0))))))) = some r := h
 clear h
 replace H := Option.bind_eq_some_iff.mp H
 obtain ⟨t328, A20, H⟩ := H
 replace H : (if t328 = true then (some 4) else ((impl_within.f a0 8 15).bind fun t329 => (if t329 = true then (some 5) else ((impl_within.f a0 16 47).bind fun t330 => (if t330 = true then (some 7) else (some 0)))))) = some r := H
 have A2 := Aside0.mk A20
 clear A20
 by_cases c3 : t328 = true
 ·subst c3
  have H1 : (some 4) = some r := Z2
  clear H
  have H := H1
  clear H1
  obtain rfl := Option.some.inj H
  go_enter Tryd.func107, Tryd.ntmps107
  go_wp2_with (first | ((with_reducible refine gate_callee (f := 106) rfl ?_); refine goesL_ (some 5) rfl rfl Tryd.func106 Z0 rfl #[.int .i64 a0, .int .i64 0, .int .i64 7] rfl Z9 ?_; (with_reducible refine (impl_within.calls a0 0 7 true _ A2.out).mono ?_); rintro e w' ⟨rfl, ⟨nd, rfl⟩⟩; refine ⟨_, rfl, ?_⟩))
  go_ret
  exact ⟨Z7, Z8⟩
 ·replace c3 := Bool.eq_false_iff.mpr c3
  subst c3
  have H1 : ((impl_within.f a0 8 15).bind fun t329 => (if t329 = true then (some 5) else ((impl_within.f a0 16 47).bind fun t330 => (if t330 = true then (some 7) else (some 0))))) = some r := by rw [if_neg (show ¬ (false = true) by decide)] at H; exact H
  clear H
  have H := H1
  clear H1
  replace H := Option.bind_eq_some_iff.mp H
  obtain ⟨t329, A40, H⟩ := H
  replace H : (if t329 = true then (some 5) else ((impl_within.f a0 16 47).bind fun t330 => (if t330 = true then (some 7) else (some 0)))) = some r := H
  have A4 := Aside0.mk A40
  clear A40
  by_cases c5 : t329 = true
  ·subst c5
   have H1 : (some 5) = some r := Z2
   clear H
   have H := H1
   clear H1
   obtain rfl := Option.some.inj H
   go_enter Tryd.func107, Tryd.ntmps107
   go_wp2_with (first | ((with_reducible refine gate_callee (f := 106) rfl ?_); refine goesL_ (some 5) rfl rfl Tryd.func106 Z0 rfl #[.int .i64 a0, .int .i64 0, .int .i64 7] rfl Z9 ?_; (with_reducible refine (impl_within.calls a0 0 7 false _ A2.out).mono ?_); rintro e w' ⟨rfl, ⟨nd, rfl⟩⟩; refine ⟨_, rfl, ?_⟩) | ((with_reducible refine gate_callee (f := 106) rfl ?_); refine goesL_ (some 8) rfl rfl Tryd.func106 Z0 rfl #[.int .i64 a0, .int .i64 8, .int .i64 15] rfl Z9 ?_; (with_reducible refine (impl_within.calls a0 8 15 true _ A4.out).mono ?_); rintro e w' ⟨rfl, ⟨nd, rfl⟩⟩; refine ⟨_, rfl, ?_⟩))
   go_ret
   exact ⟨Z7, Z8⟩
  ·replace c5 := Bool.eq_false_iff.mpr c5
   subst c5
   have H1 : ((impl_within.f a0 16 47).bind fun t330 => (if t330 = true then (some 7) else (some 0))) = some r := by rw [if_neg (show ¬ (false = true) by decide)] at H; exact H
   clear H
   have H := H1
   clear H1
   replace H := Option.bind_eq_some_iff.mp H
   obtain ⟨t330, A60, H⟩ := H
   replace H : (if t330 = true then (some 7) else (some 0)) = some r := H
   have A6 := Aside0.mk A60
   clear A60
   by_cases c7 : t330 = true
   ·subst c7
    have H1 : (some 7) = some r := Z2
    clear H
    have H := H1
    clear H1
    obtain rfl := Option.some.inj H
    go_enter Tryd.func107, Tryd.ntmps107
    go_wp2_with (first | ((with_reducible refine gate_callee (f := 106) rfl ?_); refine goesL_ (some 5) rfl rfl Tryd.func106 Z0 rfl #[.int .i64 a0, .int .i64 0, .int .i64 7] rfl Z9 ?_; (with_reducible refine (impl_within.calls a0 0 7 false _ A2.out).mono ?_); rintro e w' ⟨rfl, ⟨nd, rfl⟩⟩; refine ⟨_, rfl, ?_⟩) | ((with_reducible refine gate_callee (f := 106) rfl ?_); refine goesL_ (some 8) rfl rfl Tryd.func106 Z0 rfl #[.int .i64 a0, .int .i64 8, .int .i64 15] rfl Z9 ?_; (with_reducible refine (impl_within.calls a0 8 15 false _ A4.out).mono ?_); rintro e w' ⟨rfl, ⟨nd, rfl⟩⟩; refine ⟨_, rfl, ?_⟩) | ((with_reducible refine gate_callee (f := 106) rfl ?_); refine goesL_ (some 11) rfl rfl Tryd.func106 Z0 rfl #[.int .i64 a0, .int .i64 16, .int .i64 47] rfl Z9 ?_; (with_reducible refine (impl_within.calls a0 16 47 true _ A6.out).mono ?_); rintro e w' ⟨rfl, ⟨nd, rfl⟩⟩; refine ⟨_, rfl, ?_⟩))
    go_ret
    exact ⟨Z7, Z8⟩
   ·replace c7 := Bool.eq_false_iff.mpr c7
    subst c7
    have H1 : (some 0) = some r := by rw [if_neg (show ¬ (false = true) by decide)] at H; exact H
    clear H
    have H := H1
    clear H1
    obtain rfl := Option.some.inj H
    go_enter Tryd.func107, Tryd.ntmps107
    go_wp2_with (first | ((with_reducible refine gate_callee (f := 106) rfl ?_); refine goesL_ (some 5) rfl rfl Tryd.func106 Z0 rfl #[.int .i64 a0, .int .i64 0, .int .i64 7] rfl Z9 ?_; (with_reducible refine (impl_within.calls a0 0 7 false _ A2.out).mono ?_); rintro e w' ⟨rfl, ⟨nd, rfl⟩⟩; refine ⟨_, rfl, ?_⟩) | ((with_reducible refine gate_callee (f := 106) rfl ?_); refine goesL_ (some 8) rfl rfl Tryd.func106 Z0 rfl #[.int .i64 a0, .int .i64 8, .int .i64 15] rfl Z9 ?_; (with_reducible refine (impl_within.calls a0 8 15 false _ A4.out).mono ?_); rintro e w' ⟨rfl, ⟨nd, rfl⟩⟩; refine ⟨_, rfl, ?_⟩) | ((with_reducible refine gate_callee (f := 106) rfl ?_); refine goesL_ (some 11) rfl rfl Tryd.func106 Z0 rfl #[.int .i64 a0, .int .i64 16, .int .i64 47] rfl Z9 ?_; (with_reducible refine (impl_within.calls a0 16 47 false _ A6.out).mono ?_); rintro e w' ⟨rfl, ⟨nd, rfl⟩⟩; refine ⟨_, rfl, ?_⟩))
    go_ret
    exact ⟨Z7, Z8⟩

/-! ### impl_BitsOf: function 108 -/
def impl_BitsOf.f (a0 : Int) : Option (Int) := (impl_WidthOf.f a0).bind fun t331 => (if t331 = 4 then (some ((a0) % 4294967296)) else (if t331 = 5 then (some ((((a0) % 4294967296) + 8) % 4294967296)) else (if t331 = 7 then (some ((((a0) % 4294967296) + 80) % 4294967296)) else (some 0))))
set_option maxHeartbeats 8000000 in
set_option maxRecDepth 100000 in
theorem impl_BitsOf.calls (a0 : Int) (r : Int) (w : World) (h : impl_BitsOf.f a0 = some r) :
  Calls Tryd.prog 108 #[.int .i64 a0] w fun e w' => e = .returned (.int .u32 r) ∧ Drawn0 w w' := by
 have H : ((impl_WidthOf.f a0).bind fun t331 => (if t331 = 4 then (some ((a0) % 4294967296)) else (if t331 = 5 then (some ((((a0) % 4294967296) + 8) % 4294967296)) else (if t331 = 7 then (some ((((a0) % 4294967296) + 80) % 4294967296)) else (some 0))))) = some r := h
 clear h
 replace H := Option.bind_eq_some_iff.mp H
 obtain ⟨t331, A20, H⟩ := H
 replace H : (if t331 = 4 then (some ((a0) % 4294967296)) else (if t331 = 5 then (some ((((a0) % 4294967296) + 8) % 4294967296)) else (if t331 = 7 then (some ((((a0) % 4294967296) + 80) % 4294967296)) else (some 0)))) = some r := H
 have A2 := Aside0.mk A20
 clear A20
 by_cases c3 : t331 = 4
 ·rw [if_pos c3] at H
  have c3b0 : (t331 == 4) = true := beq_iff_eq.mpr c3
  have c3b1 : (t331 != 4) = false := bne_eq_false_iff_eq.mpr c3
  clear c3
  obtain rfl := Option.some.inj H
  go_enter Tryd.func108, Tryd.ntmps108
  go_wp2_with (first | ((with_reducible refine gate_callee (f := 107) rfl ?_); refine goesL_ (some 4) rfl rfl Tryd.func107 Z0 rfl #[.int .i64 a0] rfl Z9 ?_; (with_reducible refine (impl_WidthOf.calls a0 t331 _ A2.out).mono ?_); rintro e w' ⟨rfl, ⟨nd, rfl⟩⟩; refine ⟨_, rfl, ?_⟩))
  go_ret
  exact ⟨Z7, Z8⟩
 ·rw [if_neg c3] at H
  have c3b0 : (t331 == 4) = false := beq_eq_false_iff_ne.mpr c3
  have c3b1 : (t331 != 4) = true := bne_iff_ne.mpr c3
  by_cases c4 : t331 = 5
  ·rw [if_pos c4] at H
   have c4b0 : (t331 == 5) = true := beq_iff_eq.mpr c4
   have c4b1 : (t331 != 5) = false := bne_eq_false_iff_eq.mpr c4
   clear c4
   obtain rfl := Option.some.inj H
   go_enter Tryd.func108, Tryd.ntmps108
   go_wp2_with (first | ((with_reducible refine gate_callee (f := 107) rfl ?_); refine goesL_ (some 4) rfl rfl Tryd.func107 Z0 rfl #[.int .i64 a0] rfl Z9 ?_; (with_reducible refine (impl_WidthOf.calls a0 t331 _ A2.out).mono ?_); rintro e w' ⟨rfl, ⟨nd, rfl⟩⟩; refine ⟨_, rfl, ?_⟩))
   go_ret
   exact ⟨Z7, Z8⟩
  ·rw [if_neg c4] at H
   have c4b0 : (t331 == 5) = false := beq_eq_false_iff_ne.mpr c4
   have c4b1 : (t331 != 5) = true := bne_iff_ne.mpr c4
   by_cases c5 : t331 = 7
   ·rw [if_pos c5] at H
    have c5b0 : (t331 == 7) = true := beq_iff_eq.mpr c5
    have c5b1 : (t331 != 7) = false := bne_eq_false_iff_eq.mpr c5
    clear c5
    obtain rfl := Option.some.inj H
    go_enter Tryd.func108, Tryd.ntmps108
    go_wp2_with (first | ((with_reducible refine gate_callee (f := 107) rfl ?_); refine goesL_ (some 4) rfl rfl Tryd.func107 Z0 rfl #[.int .i64 a0] rfl Z9 ?_; (with_reducible refine (impl_WidthOf.calls a0 t331 _ A2.out).mono ?_); rintro e w' ⟨rfl, ⟨nd, rfl⟩⟩; refine ⟨_, rfl, ?_⟩))
    go_ret
    exact ⟨Z7, Z8⟩
   ·rw [if_neg c5] at H
    have c5b0 : (t331 == 7) = false := beq_eq_false_iff_ne.mpr c5
    have c5b1 : (t331 != 7) = true := bne_iff_ne.mpr c5
    obtain rfl := Option.some.inj H
    go_enter Tryd.func108, Tryd.ntmps108
    go_wp2_with (first | ((with_reducible refine gate_callee (f := 107) rfl ?_); refine goesL_ (some 4) rfl rfl Tryd.func107 Z0 rfl #[.int .i64 a0] rfl Z9 ?_; (with_reducible refine (impl_WidthOf.calls a0 t331 _ A2.out).mono ?_); rintro e w' ⟨rfl, ⟨nd, rfl⟩⟩; refine ⟨_, rfl, ?_⟩))
    go_ret
    exact ⟨Z7, Z8⟩

/-! ### impl_PackOne: function 87 -/
def impl_PackOne.l0 : Nat → ByteArray → Int → Int → Int → Int → Int → Option (Int × Int)
 | 0, _, _, _, _, _, _ => none
 | k + 1, x0, x4, x5, x6, x13, x14 => if x14 < x13 then (if 0 ≤ x14 then (if x14 < (x0.size : Int) then ((impl_LetterOf.f (bt x0 x14)).bind fun t333 => ((impl_WidthOf.f t333).bind fun t334 => (if t334 > x5 then (some (x4, x6)) else ((impl_WidthOf.f t333).bind fun t335 => ((impl_BitsOf.f t333).bind fun t336 => (if 0 ≤ (wrap64 (x5 - t335)) then (impl_PackOne.l0 k x0 (Go.bits .or .u32 x4 (shl .u32 t336 (wrap64 (x5 - t335)))) (wrap64 (x5 - t335)) (wrap64 (x6 + 1)) x13 (wrap64 (x14 + 1))) else (none))))))) else (none)) else (none)) else (some (x4, x6))
def impl_PackOne.f (k : Nat) (a0 : ByteArray) : Option (Int × Int) := (impl_NameOk.f k a0).bind fun t332 => (if t332 = true then (impl_PackOne.l0 k a0 0 28 0 (a0.size : Int) 0) else (some (0, 0)))
theorem impl_PackOne.mono_l : ∀ k, (∀ y0 y1 y2 y3 y4 y5, LeO (impl_PackOne.l0 k y0 y1 y2 y3 y4 y5) (impl_PackOne.l0 (k + 1) y0 y1 y2 y3 y4 y5))
 | 0 => fun _ _ _ _ _ _ r h => by simp [impl_PackOne.l0] at h
 | k + 1 => by
  have ih0 := impl_PackOne.mono_l k
  ·intro y0 y1 y2 y3 y4 y5
   unfold impl_PackOne.l0
   repeat' first
   | (with_reducible exact ih0 _ _ _ _ _ _)
   | (with_reducible exact impl_NameOk.mono _ _)
   | (with_reducible exact LeO.refl _)
   | (with_reducible exact LeO.none _)
   | (with_reducible refine LeO.ite ?_ ?_)
   | (with_reducible refine LeO.bind ?_ (fun _ => ?_))
   | exact ih0 _ _ _ _ _ _
   | exact impl_NameOk.mono _ _
   | exact LeO.none _
   | refine LeO.ite ?_ ?_
   | refine LeO.bind ?_ (fun _ => ?_)
theorem impl_PackOne.mono : ∀ a0 k, LeO (impl_PackOne.f k a0) (impl_PackOne.f (k + 1) a0) := by
 intro a0 k
 have ih0 := impl_PackOne.mono_l k
 unfold impl_PackOne.f
 repeat' first
   | (with_reducible exact ih0 _ _ _ _ _ _)
   | (with_reducible exact impl_NameOk.mono _ _)
   | (with_reducible exact LeO.refl _)
   | (with_reducible exact LeO.none _)
   | (with_reducible refine LeO.ite ?_ ?_)
   | (with_reducible refine LeO.bind ?_ (fun _ => ?_))
   | exact ih0 _ _ _ _ _ _
   | exact impl_NameOk.mono _ _
   | exact LeO.none _
   | refine LeO.ite ?_ ?_
   | refine LeO.bind ?_ (fun _ => ?_)
set_option maxHeartbeats 8000000 in
set_option maxRecDepth 100000 in
theorem impl_PackOne.calls (k : Nat) (a0 : ByteArray) (r1 : Int) (r2 : Int) (w : World) (h : impl_PackOne.f k a0 = some (r1, r2)) :
  Calls Tryd.prog 87 #[.string a0] w fun e w' => e = .returned (.tuple #[.int .u32 r1, .int .i64 r2]) ∧ Drawn0 w w' := by
 have H : ((impl_NameOk.f k a0).bind fun t332 => (if t332 = true then (impl_PackOne.l0 k a0 0 28 0 (a0.size : Int) 0) else (some (0, 0)))) = some (r1, r2) := h
 clear h
 replace H := Option.bind_eq_some_iff.mp H
 obtain ⟨t332, A20, H⟩ := H
 replace H : (if t332 = true then (impl_PackOne.l0 k a0 0 28 0 (a0.size : Int) 0) else (some (0, 0))) = some (r1, r2) := H
 have A2 := Aside0.mk A20
 clear A20
 by_cases c3 : t332 = true
 ·subst c3
  have H1 : (impl_PackOne.l0 k a0 0 28 0 (a0.size : Int) 0) = some (r1, r2) := Z2
  clear H
  have H := H1
  clear H1
  have H' := Aside0.mk H
  clear H
  go_enter Tryd.func87, Tryd.ntmps87
  go_wp2_with (first | ((with_reducible refine gate_callee (f := 86) rfl ?_); refine goesL_ (some 10) rfl rfl Tryd.func86 Z0 rfl #[.string a0] rfl Z9 ?_; (with_reducible refine (impl_NameOk.calls k a0 true _ A2.out).mono ?_); rintro e w' ⟨rfl, ⟨nd, rfl⟩⟩; refine ⟨_, rfl, ?_⟩))
  go_loopg [4, 5, 6, 14] k (fun kq v4 v5 v6 v14 w' => ∃ (x4_1 : Int) (x5_1 : Int) (x6_1 : Int) (x14_1 : Int), v4 = .int .u32 x4_1 ∧ v5 = .int .i64 x5_1 ∧ v6 = .int .i64 x6_1 ∧ v14 = .int .i64 x14_1 ∧ Aside0 (impl_PackOne.l0 kq a0 x4_1 x5_1 x6_1 (a0.size : Int) x14_1 = some (r1, r2)) ∧ Aside0 (kq ≤ k) ∧ Drawn0 w w')
  case atStart => exact ⟨(0), (28), (0), (0), Z7, Z7, Z7, Z7, H', ⟨Nat.le_refl _⟩, Z8⟩
  case round =>
   clear H'
   try clear p2
   try clear c3
   obtain ⟨x4_1, x5_1, x6_1, x14_1, rfl, rfl, rfl, rfl, HA, HK1, ⟨m1, rfl⟩⟩ := hrel
   cases gk with
   | zero => exact absurd HA.out (by simp [impl_PackOne.l0])
   | succ k1 =>
    have H := HA.out
    clear HA
    simp only [impl_PackOne.l0] at H
    by_cases c4 : x14_1 < (a0.size : Int)
    ·rw [if_pos c4] at H
     have c4b0 : decide (x14_1 < (a0.size : Int)) = true := decide_eq_true c4
     clear c4
     by_cases c5 : 0 ≤ x14_1
     ·rw [if_pos c5] at H
      have c5b0 : decide (0 ≤ x14_1) = true := decide_eq_true c5
      clear c5
      by_cases c6 : x14_1 < (a0.size : Int)
      ·rw [if_pos c6] at H
       have c6b0 : decide (x14_1 < (a0.size : Int)) = true := decide_eq_true c6
       clear c6
       replace H := Option.bind_eq_some_iff.mp H
       obtain ⟨t333, A80, H⟩ := H
       replace H : ((impl_WidthOf.f t333).bind fun t334 => (if t334 > x5_1 then (some (x4_1, x6_1)) else ((impl_WidthOf.f t333).bind fun t335 => ((impl_BitsOf.f t333).bind fun t336 => (if 0 ≤ (wrap64 (x5_1 - t335)) then (impl_PackOne.l0 k1 a0 (Go.bits .or .u32 x4_1 (shl .u32 t336 (wrap64 (x5_1 - t335)))) (wrap64 (x5_1 - t335)) (wrap64 (x6_1 + 1)) (a0.size : Int) (wrap64 (x14_1 + 1))) else (none)))))) = some (r1, r2) := H
       have A8 := Aside0.mk A80
       clear A80
       replace H := Option.bind_eq_some_iff.mp H
       obtain ⟨t334, A90, H⟩ := H
       replace H : (if t334 > x5_1 then (some (x4_1, x6_1)) else ((impl_WidthOf.f t333).bind fun t335 => ((impl_BitsOf.f t333).bind fun t336 => (if 0 ≤ (wrap64 (x5_1 - t335)) then (impl_PackOne.l0 k1 a0 (Go.bits .or .u32 x4_1 (shl .u32 t336 (wrap64 (x5_1 - t335)))) (wrap64 (x5_1 - t335)) (wrap64 (x6_1 + 1)) (a0.size : Int) (wrap64 (x14_1 + 1))) else (none))))) = some (r1, r2) := H
       have A9 := Aside0.mk A90
       clear A90
       by_cases c10 : t334 > x5_1
       ·rw [if_pos c10] at H
        have c10b0 : decide (x5_1 < t334) = true := decide_eq_true c10
        clear c10
        simp only [Option.some.injEq, Prod.mk.injEq] at H
        obtain ⟨rfl, rfl⟩ := H
        have p7 : 0 ≤ (x14_1 : Int) := of_decide_eq_true Z10
        have q7 : x14_1 < (a0.size : Int) := of_decide_eq_true Z10
        have hx7 := bt_at a0 x14_1
        replace p7 := eq_true p7
        replace q7 := eq_true q7
        go_wp2_with (first | ((with_reducible refine gate_callee (f := 105) rfl ?_); refine goesL_ (some 20) rfl rfl Tryd.func105 Z0 rfl #[.int .u8 (bt a0 x14_1)] rfl Z9 ?_; (with_reducible refine (impl_LetterOf.calls (bt a0 x14_1) t333 _ A8.out).mono ?_); rintro e w' ⟨rfl, ⟨nd, rfl⟩⟩; refine ⟨_, rfl, ?_⟩) | ((with_reducible refine gate_callee (f := 107) rfl ?_); refine goesL_ (some 22) rfl rfl Tryd.func107 Z0 rfl #[.int .i64 t333] rfl Z9 ?_; (with_reducible refine (impl_WidthOf.calls t333 t334 _ A9.out).mono ?_); rintro e w' ⟨rfl, ⟨nd, rfl⟩⟩; refine ⟨_, rfl, ?_⟩))
        go_ret2
        exact ⟨Z7, Z8⟩
       ·rw [if_neg c10] at H
        have c10b0 : decide (x5_1 < t334) = false := decide_eq_false c10
        clear c10
        replace H := Option.bind_eq_some_iff.mp H
        obtain ⟨t335, A110, H⟩ := H
        replace H : ((impl_BitsOf.f t333).bind fun t336 => (if 0 ≤ (wrap64 (x5_1 - t335)) then (impl_PackOne.l0 k1 a0 (Go.bits .or .u32 x4_1 (shl .u32 t336 (wrap64 (x5_1 - t335)))) (wrap64 (x5_1 - t335)) (wrap64 (x6_1 + 1)) (a0.size : Int) (wrap64 (x14_1 + 1))) else (none))) = some (r1, r2) := H
        have A11 := Aside0.mk A110
        clear A110
        replace H := Option.bind_eq_some_iff.mp H
        obtain ⟨t336, A120, H⟩ := H
        replace H : (if 0 ≤ (wrap64 (x5_1 - t335)) then (impl_PackOne.l0 k1 a0 (Go.bits .or .u32 x4_1 (shl .u32 t336 (wrap64 (x5_1 - t335)))) (wrap64 (x5_1 - t335)) (wrap64 (x6_1 + 1)) (a0.size : Int) (wrap64 (x14_1 + 1))) else (none)) = some (r1, r2) := H
        have A12 := Aside0.mk A120
        clear A120
        obtain ⟨ji13, hji13⟩ : ∃ j_ : Int, (wrap64 (x5_1 - t335)) = j_ := ⟨_, rfl⟩
        replace H : (if 0 ≤ (ji13) then (impl_PackOne.l0 k1 a0 (Go.bits .or .u32 x4_1 (shl .u32 t336 (ji13))) ji13 (wrap64 (x6_1 + 1)) (a0.size : Int) (wrap64 (x14_1 + 1))) else (none)) = some (r1, r2) := Z21
        (try rw [hji13] at A8)
        (try rw [hji13] at A9)
        (try rw [hji13] at A11)
        (try rw [hji13] at A12)
        have hji13w : (IntKind.i64.wrap (x5_1 - t335)) = ji13 := (i64_w _).trans hji13
        by_cases c14 : 0 ≤ (ji13)
        ·rw [if_pos c14] at H
         have c14b0 := eq_true c14
         have c14b1 : decide (0 ≤ (ji13)) = true := decide_eq_true c14
         clear c14
         obtain ⟨ji15, hji15⟩ : ∃ j_ : Int, (shl .u32 t336 (ji13)) = j_ := ⟨_, rfl⟩
         replace H : (impl_PackOne.l0 k1 a0 (Go.bits .or .u32 x4_1 (ji15)) ji13 (wrap64 (x6_1 + 1)) (a0.size : Int) (wrap64 (x14_1 + 1))) = some (r1, r2) := Z44
         (try rw [hji15] at A8)
         (try rw [hji15] at A9)
         (try rw [hji15] at A11)
         (try rw [hji15] at A12)
         have hji15_ : (IntKind.u32.wrap (t336 * 2 ^ min (ji13).toNat 32)) = ji15 := hji15
         have hji15z : (ji13) ≤ 32 → (IntKind.u32.wrap (t336 * 2 ^ (ji13).toNat)) = ji15 := shl_small hji15
         have H' := Aside0.mk H
         clear H
         have p7 : 0 ≤ (x14_1 : Int) := of_decide_eq_true Z10
         have q7 : x14_1 < (a0.size : Int) := of_decide_eq_true Z10
         have hx7 := bt_at a0 x14_1
         replace p7 := eq_true p7
         replace q7 := eq_true q7
         go_wp2_with (first | ((with_reducible refine gate_callee (f := 105) rfl ?_); refine goesL_ (some 20) rfl rfl Tryd.func105 Z0 rfl #[.int .u8 (bt a0 x14_1)] rfl Z9 ?_; (with_reducible refine (impl_LetterOf.calls (bt a0 x14_1) t333 _ A8.out).mono ?_); rintro e w' ⟨rfl, ⟨nd, rfl⟩⟩; refine ⟨_, rfl, ?_⟩) | ((with_reducible refine gate_callee (f := 107) rfl ?_); refine goesL_ (some 22) rfl rfl Tryd.func107 Z0 rfl #[.int .i64 t333] rfl Z9 ?_; (with_reducible refine (impl_WidthOf.calls t333 t334 _ A9.out).mono ?_); rintro e w' ⟨rfl, ⟨nd, rfl⟩⟩; refine ⟨_, rfl, ?_⟩) | ((with_reducible refine gate_callee (f := 107) rfl ?_); refine goesL_ (some 27) rfl rfl Tryd.func107 Z0 rfl #[.int .i64 t333] rfl Z9 ?_; (with_reducible refine (impl_WidthOf.calls t333 t335 _ A11.out).mono ?_); rintro e w' ⟨rfl, ⟨nd, rfl⟩⟩; refine ⟨_, rfl, ?_⟩) | ((with_reducible refine gate_callee (f := 108) rfl ?_); refine goesL_ (some 31) rfl rfl Tryd.func108 Z0 rfl #[.int .i64 t333] rfl Z9 ?_; (with_reducible refine (impl_BitsOf.calls t333 t336 _ A12.out).mono ?_); rintro e w' ⟨rfl, ⟨nd, rfl⟩⟩; refine ⟨_, rfl, ?_⟩))
         go_roundg k1
         case measure => have := HK1.out; omega
         case rel => exact ⟨(Go.bits .or .u32 x4_1 (ji15)), (ji13), (wrap64 (x6_1 + 1)), (wrap64 (x14_1 + 1)), (by first | rfl | (simp; done) | (simp only [← hji15] <;> (first | rfl | simp)) | (simp [*]; done)), (by first | rfl | (simp; done) | (simp only [← hji13] <;> (first | rfl | simp)) | (simp [*]; done)), Z7, Z7, H', ⟨Z11⟩, Z8⟩
        ·rw [if_neg c14] at H
         exact absurd H (by simp)
      ·rw [if_neg c6] at H
       exact absurd H (by simp)
     ·rw [if_neg c5] at H
      exact absurd H (by simp)
    ·rw [if_neg c4] at H
     have c4b0 : decide (x14_1 < (a0.size : Int)) = false := decide_eq_false c4
     clear c4
     simp only [Option.some.injEq, Prod.mk.injEq] at H
     obtain ⟨rfl, rfl⟩ := H
     go_wp2
     go_ret2
     exact ⟨Z7, Z8⟩
 ·replace c3 := Bool.eq_false_iff.mpr c3
  subst c3
  have H1 : (some (0, 0)) = some (r1, r2) := by rw [if_neg (show ¬ (false = true) by decide)] at H; exact H
  clear H
  have H := H1
  clear H1
  simp only [Option.some.injEq, Prod.mk.injEq] at H
  obtain ⟨rfl, rfl⟩ := H
  go_enter Tryd.func87, Tryd.ntmps87
  go_wp2_with (first | ((with_reducible refine gate_callee (f := 86) rfl ?_); refine goesL_ (some 10) rfl rfl Tryd.func86 Z0 rfl #[.string a0] rfl Z9 ?_; (with_reducible refine (impl_NameOk.calls k a0 false _ A2.out).mono ?_); rintro e w' ⟨rfl, ⟨nd, rfl⟩⟩; refine ⟨_, rfl, ?_⟩))
  go_ret2
  exact ⟨Z7, Z8⟩

/-! ### impl_Pack: function 58 -/
def impl_Pack.l0 : Nat → ByteArray → List Int → Option (List Int)
 | 0, _, _ => none
 | k + 1, x0, x3 => (impl_NameOk.f k x0).bind fun t340 => (if t340 = true then ((impl_PackOne.f k x0).bind fun bt341 => (if x3.length < 35184372088832 then (if 0 ≤ bt341.2 then (if bt341.2 ≤ (x0.size : Int) then (impl_Pack.l0 k (x0.extract (bt341.2 : Int).toNat x0.size) (x3 ++ [bt341.1])) else (none)) else (none)) else (none))) else (some x3))
def impl_Pack.f (k : Nat) (a0 : ByteArray) : Option (List Int) := impl_Pack.l0 k a0 (([] : List Int))
theorem impl_Pack.mono_l : ∀ k, (∀ y0 y1, LeO (impl_Pack.l0 k y0 y1) (impl_Pack.l0 (k + 1) y0 y1))
 | 0 => fun _ _ r h => by simp [impl_Pack.l0] at h
 | k + 1 => by
  have ih0 := impl_Pack.mono_l k
  ·intro y0 y1
   unfold impl_Pack.l0
   repeat' first
   | (with_reducible exact ih0 _ _)
   | (with_reducible exact impl_NameOk.mono _ _)
   | (with_reducible exact impl_PackOne.mono _ _)
   | (with_reducible exact LeO.refl _)
   | (with_reducible exact LeO.none _)
   | (with_reducible refine LeO.ite ?_ ?_)
   | (with_reducible refine LeO.bind ?_ (fun _ => ?_))
   | exact ih0 _ _
   | exact impl_NameOk.mono _ _
   | exact impl_PackOne.mono _ _
   | exact LeO.none _
   | refine LeO.ite ?_ ?_
   | refine LeO.bind ?_ (fun _ => ?_)
theorem impl_Pack.mono : ∀ a0 k, LeO (impl_Pack.f k a0) (impl_Pack.f (k + 1) a0) := by
 intro a0 k
 have ih0 := impl_Pack.mono_l k
 unfold impl_Pack.f
 repeat' first
   | (with_reducible exact ih0 _ _)
   | (with_reducible exact impl_NameOk.mono _ _)
   | (with_reducible exact impl_PackOne.mono _ _)
   | (with_reducible exact LeO.refl _)
   | (with_reducible exact LeO.none _)
   | (with_reducible refine LeO.ite ?_ ?_)
   | (with_reducible refine LeO.bind ?_ (fun _ => ?_))
   | exact ih0 _ _
   | exact impl_NameOk.mono _ _
   | exact impl_PackOne.mono _ _
   | exact LeO.none _
   | refine LeO.ite ?_ ?_
   | refine LeO.bind ?_ (fun _ => ?_)
set_option maxHeartbeats 8000000 in
set_option maxRecDepth 100000 in
theorem impl_Pack.calls (k : Nat) (a0 : ByteArray) (r : List Int) (w : World) (h : impl_Pack.f k a0 = some r) :
  Calls Tryd.prog 58 #[.string a0] w fun e w' => ∃ v0_ : Value, e = .returned (v0_) ∧ Kd.R (Kd.int .u32) 22 w' w.heap.size (fun _ => True) v0_ r ∧ Below w.heap.size w w' := by
 have HB := Z (Below.refl w.heap.size w)
 have H : (impl_Pack.l0 k a0 (([] : List Int))) = some r := h
 clear h
 obtain ⟨y337, hy337⟩ : ∃ y_ : List Int, y_ = (([] : List Int)) := ⟨_, rfl⟩
 replace H : (impl_Pack.l0 k a0 y337) = some r := by first | (rw [hy337]; with_reducible exact H) | (have H2_ := (Option.bind_some _ _).symm.trans H; rw [hy337]; with_reducible exact H2_) | (have H2_ := (Option.bind_some _ _).symm.trans H; with_reducible exact H2_) | with_reducible exact H | (rw [hy337]; exact H) | exact H
 have Ny337 := Aside0.mk hy337
 clear hy337
 have H' := Aside0.mk H
 clear H
 go_enter Tryd.func58, Tryd.ntmps58
 go_wp2_with (first | ((with_reducible refine gate_dst (N := 6) rfl ?_); refine Kd.R_lit (Kd.int .u32) _ 22 (by rfl) (N := 6) (by rfl) (xs := ([] : List Int)) (inner := []) (ok := fun _ => True) (okp := fun _ => True) Z3 (Reps.none _ _) (fun _ hk => hk) trivial (Below.refl _ _) (Nat.le_refl _) (by simp) ?_; intro v338 w2 ho3 hb hg_ hnew_; clear hg_ hnew_; (first | rw [← Ny337.out] at ho3 | (simp only [Int.reduceToNat] at ho3; rw [← Ny337.out] at ho3)); have HO339 := Z (Kd.R_lower ho3 (below_size Z67)); replace HB := Z (below_step Z67 hb); clear hb ho3))
 go_loopg [0, 3] k (fun kq v0 v3 w' => ∃ (x0_1 : ByteArray) (x3_1 : List Int), v0 = .string x0_1 ∧ Aside0 (impl_Pack.l0 kq x0_1 x3_1 = some r) ∧ Aside0 (kq ≤ k) ∧ Aside0 (Kd.R (Kd.int .u32) 22 w' w.heap.size (fun _ => True) v3 x3_1) ∧ Aside0 (Below w.heap.size w w'))
 case atStart => exact ⟨(a0), (y337), Z7, H', ⟨Nat.le_refl _⟩, ⟨(Z6 HO339)⟩, ⟨Z67⟩⟩
 case round =>
  clear H'
  try clear p2
  obtain ⟨x0_1, x3_1, rfl, HA, HK1, HO_3, HB⟩ := hrel
  cases gk with
  | zero => exact absurd HA.out (by simp [impl_Pack.l0])
  | succ k1 =>
   have H := HA.out
   clear HA
   simp only [impl_Pack.l0] at H
   replace H := Option.bind_eq_some_iff.mp H
   obtain ⟨t340, A40, H⟩ := H
   replace H : (if t340 = true then ((impl_PackOne.f k1 x0_1).bind fun bt341 => (if x3_1.length < 35184372088832 then (if 0 ≤ bt341.2 then (if bt341.2 ≤ (x0_1.size : Int) then (impl_Pack.l0 k1 (x0_1.extract (bt341.2 : Int).toNat x0_1.size) (x3_1 ++ [bt341.1])) else (none)) else (none)) else (none))) else (some x3_1)) = some r := H
   have A4 := Aside0.mk A40
   clear A40
   by_cases c5 : t340 = true
   ·subst c5
    have H1 : ((impl_PackOne.f k1 x0_1).bind fun bt341 => (if x3_1.length < 35184372088832 then (if 0 ≤ bt341.2 then (if bt341.2 ≤ (x0_1.size : Int) then (impl_Pack.l0 k1 (x0_1.extract (bt341.2 : Int).toNat x0_1.size) (x3_1 ++ [bt341.1])) else (none)) else (none)) else (none))) = some r := Z2
    clear H
    have H := H1
    clear H1
    replace H := Option.bind_eq_some_iff.mp H
    obtain ⟨⟨t341, t342⟩, A60, H⟩ := H
    replace H : (if x3_1.length < 35184372088832 then (if 0 ≤ t342 then (if t342 ≤ (x0_1.size : Int) then (impl_Pack.l0 k1 (x0_1.extract (t342 : Int).toNat x0_1.size) (x3_1 ++ [t341])) else (none)) else (none)) else (none)) = some r := H
    have A6 := Aside0.mk A60
    clear A60
    by_cases c7 : x3_1.length < 35184372088832
    ·rw [if_pos c7] at H
     have LMc7 := Aside0.mk c7
     clear c7
     obtain ⟨y343, hy343⟩ : ∃ y_ : List Int, y_ = (x3_1 ++ [t341]) := ⟨_, rfl⟩
     replace H : (if 0 ≤ t342 then (if t342 ≤ (x0_1.size : Int) then (impl_Pack.l0 k1 (x0_1.extract (t342 : Int).toNat x0_1.size) y343) else (none)) else (none)) = some r := by first | (rw [hy343]; with_reducible exact H) | (have H2_ := (Option.bind_some _ _).symm.trans H; rw [hy343]; with_reducible exact H2_) | (have H2_ := (Option.bind_some _ _).symm.trans H; with_reducible exact H2_) | with_reducible exact H | (rw [hy343]; exact H) | exact H
     have Ny343 := Aside0.mk hy343
     clear hy343
     by_cases c8 : 0 ≤ t342
     ·rw [if_pos c8] at H
      have c8b0 := eq_true c8
      have c8b1 : decide (0 ≤ t342) = true := decide_eq_true c8
      clear c8
      by_cases c9 : t342 ≤ (x0_1.size : Int)
      ·rw [if_pos c9] at H
       have c9b0 := eq_true c9
       have c9b1 : decide (t342 ≤ (x0_1.size : Int)) = true := decide_eq_true c9
       clear c9
       have H' := Aside0.mk H
       clear H
       go_wp2_with (first | ((with_reducible refine gate_callee (f := 86) rfl ?_); refine goesL_ (some 8) rfl rfl Tryd.func86 Z0 rfl #[.string x0_1] rfl Z9 ?_; (with_reducible refine (impl_NameOk.calls k1 x0_1 true _ A4.out).mono ?_); rintro e w' ⟨rfl, ⟨nd, rfl⟩⟩; refine ⟨_, rfl, ?_⟩) | ((with_reducible refine gate_callee (f := 87) rfl ?_); refine goesL_ (some 11) rfl rfl Tryd.func87 Z0 rfl #[.string x0_1] rfl Z9 ?_; (with_reducible refine (impl_PackOne.calls k1 x0_1 t341 t342 _ A6.out).mono ?_); rintro e w' ⟨rfl, ⟨nd, rfl⟩⟩; refine ⟨_, rfl, ?_⟩) | ((with_reducible refine gate_builtin (b := .append) (xs := #[.tmp 14, .tmp 16]) rfl ?_); at_builtin; refine Kd.R_append (Kd.int .u32) (w0 := w) w.heap.size rfl (.tmp 14) (.tmp 16) 30 22 (.int .u32 0) 4 rfl Tryd.underlying30 info22 rfl (by decide) (by omega) u3 x3_1 t341 [.int .u32 t341] (fun _ => True) (fun _ => False) rfl rfl ?aP (fun _ hk => hk.elim) ?aF ?aO ?aB ?aS ?aL ?_; (case aP => exact rfl); (case aB => exact Z67); (case aF => exact (fun _ _ => trivial)); (case aO => exact (Z6 HO_3)); (case aS => exact (below_size Z67)); (case aL => have := LMc7.out; omega); intro v344 w10 ho hb hg hat; rw [← Ny343.out] at ho; replace HB := Z (hb); have HO345 := Z (ho); clear HO_3; clear ho hb hg hat))
       go_roundg k1
       case measure => have := HK1.out; omega
       case rel => exact ⟨(x0_1.extract (t342 : Int).toNat x0_1.size), (y343), Z7, H', ⟨Z11⟩, ⟨(Z6 HO345)⟩, ⟨Z67⟩⟩
      ·rw [if_neg c9] at H
       exact absurd H (by simp)
     ·rw [if_neg c8] at H
      exact absurd H (by simp)
    ·rw [if_neg c7] at H
     exact absurd H (by simp)
   ·replace c5 := Bool.eq_false_iff.mpr c5
    subst c5
    have H1 : (some x3_1) = some r := by rw [if_neg (show ¬ (false = true) by decide)] at H; exact H
    clear H
    have H := H1
    clear H1
    obtain rfl := Option.some.inj H
    go_wp2_with (first | ((with_reducible refine gate_callee (f := 86) rfl ?_); refine goesL_ (some 8) rfl rfl Tryd.func86 Z0 rfl #[.string x0_1] rfl Z9 ?_; (with_reducible refine (impl_NameOk.calls k1 x0_1 false _ A4.out).mono ?_); rintro e w' ⟨rfl, ⟨nd, rfl⟩⟩; refine ⟨_, rfl, ?_⟩))
    go_ret
    exact ⟨_, Z68, (Z6 HO_3), Z67⟩

/-! ### impl_numberCells: function 59 -/
def impl_numberCells.f (a0 : Int) (a1 : Bool) (a2 : Int) (a3 : Int) : Option (List Int) := if a1 = true then (if a0 ≥ (-67108864) then (if a0 ≤ 67108863 then (some (([Go.bits .or .u32 (Go.bits .or .u32 ((((a0) % 4294967296) * 32) % 4294967296) 16) a2] : List Int))) else (some (([Go.bits .or .u32 16 a3, (a0) % 4294967296] : List Int)))) else (some (([Go.bits .or .u32 16 a3, (a0) % 4294967296] : List Int)))) else (if a0 ≥ (-67108864) then (if a0 ≤ 67108863 then (some (([Go.bits .or .u32 (Go.bits .or .u32 ((((a0) % 4294967296) * 32) % 4294967296) 0) a2] : List Int))) else (some (([Go.bits .or .u32 0 a3, (a0) % 4294967296] : List Int)))) else (some (([Go.bits .or .u32 0 a3, (a0) % 4294967296] : List Int))))
set_option maxHeartbeats 8000000 in
set_option maxRecDepth 100000 in
theorem impl_numberCells.calls (a0 : Int) (a1 : Bool) (a2 : Int) (a3 : Int) (r : List Int) (w : World) (h : impl_numberCells.f a0 a1 a2 a3 = some r) :
  Calls Tryd.prog 59 #[.int .i32 a0, .bool a1, .int .u32 a2, .int .u32 a3] w fun e w' => ∃ v0_ : Value, e = .returned (v0_) ∧ Kd.R (Kd.int .u32) 22 w' w.heap.size (fun _ => True) v0_ r ∧ Below w.heap.size w w' := by
 have HB := Z (Below.refl w.heap.size w)
 have H : (if a1 = true then (if a0 ≥ (-67108864) then (if a0 ≤ 67108863 then (some (([Go.bits .or .u32 (Go.bits .or .u32 ((((a0) % 4294967296) * 32) % 4294967296) 16) a2] : List Int))) else (some (([Go.bits .or .u32 16 a3, (a0) % 4294967296] : List Int)))) else (some (([Go.bits .or .u32 16 a3, (a0) % 4294967296] : List Int)))) else (if a0 ≥ (-67108864) then (if a0 ≤ 67108863 then (some (([Go.bits .or .u32 (Go.bits .or .u32 ((((a0) % 4294967296) * 32) % 4294967296) 0) a2] : List Int))) else (some (([Go.bits .or .u32 0 a3, (a0) % 4294967296] : List Int)))) else (some (([Go.bits .or .u32 0 a3, (a0) % 4294967296] : List Int))))) = some r := h
 clear h
 by_cases c5 : a1 = true
 ·subst c5
  have H1 : (if a0 ≥ (-67108864) then (if a0 ≤ 67108863 then (some (([Go.bits .or .u32 (Go.bits .or .u32 ((((a0) % 4294967296) * 32) % 4294967296) 16) a2] : List Int))) else (some (([Go.bits .or .u32 16 a3, (a0) % 4294967296] : List Int)))) else (some (([Go.bits .or .u32 16 a3, (a0) % 4294967296] : List Int)))) = some r := Z2
  clear H
  have H := H1
  clear H1
  by_cases c6 : a0 ≥ (-67108864)
  ·rw [if_pos c6] at H
   have c6b0 : decide ((-67108864) ≤ a0) = true := decide_eq_true c6
   clear c6
   by_cases c7 : a0 ≤ 67108863
   ·rw [if_pos c7] at H
    have c7b0 : decide (a0 ≤ 67108863) = true := decide_eq_true c7
    clear c7
    obtain ⟨y346, hy346⟩ : ∃ y_ : List Int, y_ = (([Go.bits .or .u32 (Go.bits .or .u32 ((((a0) % 4294967296) * 32) % 4294967296) 16) a2] : List Int)) := ⟨_, rfl⟩
    replace H : (some y346) = some r := by first | (rw [hy346]; with_reducible exact H) | (have H2_ := (Option.bind_some _ _).symm.trans H; rw [hy346]; with_reducible exact H2_) | (have H2_ := (Option.bind_some _ _).symm.trans H; with_reducible exact H2_) | with_reducible exact H | (rw [hy346]; exact H) | exact H
    have Ny346 := Aside0.mk hy346
    clear hy346
    obtain rfl := Option.some.inj H
    go_enter Tryd.func59, Tryd.ntmps59
    go_wp2_with (first | ((with_reducible refine gate_dst (N := 24) rfl ?_); refine Kd.R_lit (Kd.int .u32) _ 22 (by rfl) (N := 24) (by rfl) (xs := ([Go.bits .or .u32 (Go.bits .or .u32 ((((a0) % 4294967296) * 32) % 4294967296) 16) a2] : List Int)) (inner := [.int .u32 (Go.bits .or .u32 (Go.bits .or .u32 ((((a0) % 4294967296) * 32) % 4294967296) 16) a2)]) (ok := fun _ => True) (okp := fun _ => True) Z3 (Reps.one (show Kd.M (Kd.int .u32) _ _ _ (Go.bits .or .u32 (Go.bits .or .u32 ((((a0) % 4294967296) * 32) % 4294967296) 16) a2) [.int .u32 (Go.bits .or .u32 (Go.bits .or .u32 ((((a0) % 4294967296) * 32) % 4294967296) 16) a2)] from rfl) (Reps.none _ _)) (fun _ hk => hk) trivial (Below.refl _ _) (Nat.le_refl _) (by simp) ?_; intro v347 w8 ho9 hb hg_ hnew_; clear hg_ hnew_; (first | rw [← Ny346.out] at ho9 | (simp only [Int.reduceToNat] at ho9; rw [← Ny346.out] at ho9)); have HO348 := Z (Kd.R_lower ho9 (below_size Z67)); replace HB := Z (below_step Z67 hb); clear hb ho9))
    go_ret
    exact ⟨_, Z68, (Z6 HO348), Z67⟩
   ·rw [if_neg c7] at H
    have c7b0 : decide (a0 ≤ 67108863) = false := decide_eq_false c7
    clear c7
    obtain ⟨y349, hy349⟩ : ∃ y_ : List Int, y_ = (([Go.bits .or .u32 16 a3, (a0) % 4294967296] : List Int)) := ⟨_, rfl⟩
    replace H : (some y349) = some r := by first | (rw [hy349]; with_reducible exact H) | (have H2_ := (Option.bind_some _ _).symm.trans H; rw [hy349]; with_reducible exact H2_) | (have H2_ := (Option.bind_some _ _).symm.trans H; with_reducible exact H2_) | with_reducible exact H | (rw [hy349]; exact H) | exact H
    have Ny349 := Aside0.mk hy349
    clear hy349
    obtain rfl := Option.some.inj H
    go_enter Tryd.func59, Tryd.ntmps59
    go_wp2_with (first | ((with_reducible refine gate_dst (N := 30) rfl ?_); refine Kd.R_lit (Kd.int .u32) _ 22 (by rfl) (N := 30) (by rfl) (xs := ([Go.bits .or .u32 16 a3, (a0) % 4294967296] : List Int)) (inner := [.int .u32 (Go.bits .or .u32 16 a3), .int .u32 ((a0) % 4294967296)]) (ok := fun _ => True) (okp := fun _ => True) Z3 (Reps.one (show Kd.M (Kd.int .u32) _ _ _ (Go.bits .or .u32 16 a3) [.int .u32 (Go.bits .or .u32 16 a3)] from rfl) (Reps.one (show Kd.M (Kd.int .u32) _ _ _ ((a0) % 4294967296) [.int .u32 ((a0) % 4294967296)] from rfl) (Reps.none _ _))) (fun _ hk => hk) trivial (Below.refl _ _) (Nat.le_refl _) (by simp) ?_; intro v350 w10 ho11 hb hg_ hnew_; clear hg_ hnew_; (first | rw [← Ny349.out] at ho11 | (simp only [Int.reduceToNat] at ho11; rw [← Ny349.out] at ho11)); have HO351 := Z (Kd.R_lower ho11 (below_size Z67)); replace HB := Z (below_step Z67 hb); clear hb ho11))
    go_ret
    exact ⟨_, Z68, (Z6 HO351), Z67⟩
  ·rw [if_neg c6] at H
   have c6b0 : decide ((-67108864) ≤ a0) = false := decide_eq_false c6
   clear c6
   obtain ⟨y352, hy352⟩ : ∃ y_ : List Int, y_ = (([Go.bits .or .u32 16 a3, (a0) % 4294967296] : List Int)) := ⟨_, rfl⟩
   replace H : (some y352) = some r := by first | (rw [hy352]; with_reducible exact H) | (have H2_ := (Option.bind_some _ _).symm.trans H; rw [hy352]; with_reducible exact H2_) | (have H2_ := (Option.bind_some _ _).symm.trans H; with_reducible exact H2_) | with_reducible exact H | (rw [hy352]; exact H) | exact H
   have Ny352 := Aside0.mk hy352
   clear hy352
   obtain rfl := Option.some.inj H
   go_enter Tryd.func59, Tryd.ntmps59
   go_wp2_with (first | ((with_reducible refine gate_dst (N := 30) rfl ?_); refine Kd.R_lit (Kd.int .u32) _ 22 (by rfl) (N := 30) (by rfl) (xs := ([Go.bits .or .u32 16 a3, (a0) % 4294967296] : List Int)) (inner := [.int .u32 (Go.bits .or .u32 16 a3), .int .u32 ((a0) % 4294967296)]) (ok := fun _ => True) (okp := fun _ => True) Z3 (Reps.one (show Kd.M (Kd.int .u32) _ _ _ (Go.bits .or .u32 16 a3) [.int .u32 (Go.bits .or .u32 16 a3)] from rfl) (Reps.one (show Kd.M (Kd.int .u32) _ _ _ ((a0) % 4294967296) [.int .u32 ((a0) % 4294967296)] from rfl) (Reps.none _ _))) (fun _ hk => hk) trivial (Below.refl _ _) (Nat.le_refl _) (by simp) ?_; intro v353 w12 ho13 hb hg_ hnew_; clear hg_ hnew_; (first | rw [← Ny352.out] at ho13 | (simp only [Int.reduceToNat] at ho13; rw [← Ny352.out] at ho13)); have HO354 := Z (Kd.R_lower ho13 (below_size Z67)); replace HB := Z (below_step Z67 hb); clear hb ho13))
   go_ret
   exact ⟨_, Z68, (Z6 HO354), Z67⟩
 ·replace c5 := Bool.eq_false_iff.mpr c5
  subst c5
  have H1 : (if a0 ≥ (-67108864) then (if a0 ≤ 67108863 then (some (([Go.bits .or .u32 (Go.bits .or .u32 ((((a0) % 4294967296) * 32) % 4294967296) 0) a2] : List Int))) else (some (([Go.bits .or .u32 0 a3, (a0) % 4294967296] : List Int)))) else (some (([Go.bits .or .u32 0 a3, (a0) % 4294967296] : List Int)))) = some r := by rw [if_neg (show ¬ (false = true) by decide)] at H; exact H
  clear H
  have H := H1
  clear H1
  by_cases c14 : a0 ≥ (-67108864)
  ·rw [if_pos c14] at H
   have c14b0 : decide ((-67108864) ≤ a0) = true := decide_eq_true c14
   clear c14
   by_cases c15 : a0 ≤ 67108863
   ·rw [if_pos c15] at H
    have c15b0 : decide (a0 ≤ 67108863) = true := decide_eq_true c15
    clear c15
    obtain ⟨y355, hy355⟩ : ∃ y_ : List Int, y_ = (([Go.bits .or .u32 (Go.bits .or .u32 ((((a0) % 4294967296) * 32) % 4294967296) 0) a2] : List Int)) := ⟨_, rfl⟩
    replace H : (some y355) = some r := by first | (rw [hy355]; with_reducible exact H) | (have H2_ := (Option.bind_some _ _).symm.trans H; rw [hy355]; with_reducible exact H2_) | (have H2_ := (Option.bind_some _ _).symm.trans H; with_reducible exact H2_) | with_reducible exact H | (rw [hy355]; exact H) | exact H
    have Ny355 := Aside0.mk hy355
    clear hy355
    obtain rfl := Option.some.inj H
    go_enter Tryd.func59, Tryd.ntmps59
    go_wp2_with (first | ((with_reducible refine gate_dst (N := 24) rfl ?_); refine Kd.R_lit (Kd.int .u32) _ 22 (by rfl) (N := 24) (by rfl) (xs := ([Go.bits .or .u32 (Go.bits .or .u32 ((((a0) % 4294967296) * 32) % 4294967296) 0) a2] : List Int)) (inner := [.int .u32 (Go.bits .or .u32 (Go.bits .or .u32 ((((a0) % 4294967296) * 32) % 4294967296) 0) a2)]) (ok := fun _ => True) (okp := fun _ => True) Z3 (Reps.one (show Kd.M (Kd.int .u32) _ _ _ (Go.bits .or .u32 (Go.bits .or .u32 ((((a0) % 4294967296) * 32) % 4294967296) 0) a2) [.int .u32 (Go.bits .or .u32 (Go.bits .or .u32 ((((a0) % 4294967296) * 32) % 4294967296) 0) a2)] from rfl) (Reps.none _ _)) (fun _ hk => hk) trivial (Below.refl _ _) (Nat.le_refl _) (by simp) ?_; intro v356 w16 ho17 hb hg_ hnew_; clear hg_ hnew_; (first | rw [← Ny355.out] at ho17 | (simp only [Int.reduceToNat] at ho17; rw [← Ny355.out] at ho17)); have HO357 := Z (Kd.R_lower ho17 (below_size Z67)); replace HB := Z (below_step Z67 hb); clear hb ho17))
    go_ret
    exact ⟨_, Z68, (Z6 HO357), Z67⟩
   ·rw [if_neg c15] at H
    have c15b0 : decide (a0 ≤ 67108863) = false := decide_eq_false c15
    clear c15
    obtain ⟨y358, hy358⟩ : ∃ y_ : List Int, y_ = (([Go.bits .or .u32 0 a3, (a0) % 4294967296] : List Int)) := ⟨_, rfl⟩
    replace H : (some y358) = some r := by first | (rw [hy358]; with_reducible exact H) | (have H2_ := (Option.bind_some _ _).symm.trans H; rw [hy358]; with_reducible exact H2_) | (have H2_ := (Option.bind_some _ _).symm.trans H; with_reducible exact H2_) | with_reducible exact H | (rw [hy358]; exact H) | exact H
    have Ny358 := Aside0.mk hy358
    clear hy358
    obtain rfl := Option.some.inj H
    go_enter Tryd.func59, Tryd.ntmps59
    go_wp2_with (first | ((with_reducible refine gate_dst (N := 30) rfl ?_); refine Kd.R_lit (Kd.int .u32) _ 22 (by rfl) (N := 30) (by rfl) (xs := ([Go.bits .or .u32 0 a3, (a0) % 4294967296] : List Int)) (inner := [.int .u32 (Go.bits .or .u32 0 a3), .int .u32 ((a0) % 4294967296)]) (ok := fun _ => True) (okp := fun _ => True) Z3 (Reps.one (show Kd.M (Kd.int .u32) _ _ _ (Go.bits .or .u32 0 a3) [.int .u32 (Go.bits .or .u32 0 a3)] from rfl) (Reps.one (show Kd.M (Kd.int .u32) _ _ _ ((a0) % 4294967296) [.int .u32 ((a0) % 4294967296)] from rfl) (Reps.none _ _))) (fun _ hk => hk) trivial (Below.refl _ _) (Nat.le_refl _) (by simp) ?_; intro v359 w18 ho19 hb hg_ hnew_; clear hg_ hnew_; (first | rw [← Ny358.out] at ho19 | (simp only [Int.reduceToNat] at ho19; rw [← Ny358.out] at ho19)); have HO360 := Z (Kd.R_lower ho19 (below_size Z67)); replace HB := Z (below_step Z67 hb); clear hb ho19))
    go_ret
    exact ⟨_, Z68, (Z6 HO360), Z67⟩
  ·rw [if_neg c14] at H
   have c14b0 : decide ((-67108864) ≤ a0) = false := decide_eq_false c14
   clear c14
   obtain ⟨y361, hy361⟩ : ∃ y_ : List Int, y_ = (([Go.bits .or .u32 0 a3, (a0) % 4294967296] : List Int)) := ⟨_, rfl⟩
   replace H : (some y361) = some r := by first | (rw [hy361]; with_reducible exact H) | (have H2_ := (Option.bind_some _ _).symm.trans H; rw [hy361]; with_reducible exact H2_) | (have H2_ := (Option.bind_some _ _).symm.trans H; with_reducible exact H2_) | with_reducible exact H | (rw [hy361]; exact H) | exact H
   have Ny361 := Aside0.mk hy361
   clear hy361
   obtain rfl := Option.some.inj H
   go_enter Tryd.func59, Tryd.ntmps59
   go_wp2_with (first | ((with_reducible refine gate_dst (N := 30) rfl ?_); refine Kd.R_lit (Kd.int .u32) _ 22 (by rfl) (N := 30) (by rfl) (xs := ([Go.bits .or .u32 0 a3, (a0) % 4294967296] : List Int)) (inner := [.int .u32 (Go.bits .or .u32 0 a3), .int .u32 ((a0) % 4294967296)]) (ok := fun _ => True) (okp := fun _ => True) Z3 (Reps.one (show Kd.M (Kd.int .u32) _ _ _ (Go.bits .or .u32 0 a3) [.int .u32 (Go.bits .or .u32 0 a3)] from rfl) (Reps.one (show Kd.M (Kd.int .u32) _ _ _ ((a0) % 4294967296) [.int .u32 ((a0) % 4294967296)] from rfl) (Reps.none _ _))) (fun _ hk => hk) trivial (Below.refl _ _) (Nat.le_refl _) (by simp) ?_; intro v362 w20 ho21 hb hg_ hnew_; clear hg_ hnew_; (first | rw [← Ny361.out] at ho21 | (simp only [Int.reduceToNat] at ho21; rw [← Ny361.out] at ho21)); have HO363 := Z (Kd.R_lower ho21 (below_size Z67)); replace HB := Z (below_step Z67 hb); clear hb ho21))
   go_ret
   exact ⟨_, Z68, (Z6 HO363), Z67⟩

end Go.Proofs.YtfjmpdcflnaogaaDoor.QFnExactExport
