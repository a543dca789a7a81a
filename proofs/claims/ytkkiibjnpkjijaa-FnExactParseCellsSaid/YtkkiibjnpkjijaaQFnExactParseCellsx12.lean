/-
Plain functions for the Go functions that a law reaches, each with a proof that the translation's call comes to just that; no conditions beyond those written in each.
-/
import Derived.Test.YtkkiibjnpkjijaaSFnExactParseCells
import Derived.Test.YtkkiibjnpkjijaaQFnExactParseCellsx1
import Derived.Test.YtkkiibjnpkjijaaQFnExactParseCellsx11
namespace Go.Proofs.Ytkkiibjnpkjijaa.QFnExactParseCells
open Go.RowKit Go.Proofs.YtkkiibjnpkjijaaW.PrintWords Go.Proofs.YtkkiibjnpkjijaaW.PrintLast Go.Proofs.YtkkiibjnpkjijaaW.PrintMore
attribute [local go_sem] max2_int min2_int max_two min_two max_three min_three max_four min_four   -- for this text's walks alone
set_option linter.unusedVariables false
set_option linter.unusedSimpArgs false

attribute [local go_sem high] eqA51
/-! ### spec_ParseCells: function 17 -/
mutual
def spec_ParseCells.l0 : Nat → List Int → List (S51) → Int → Option ((List (S51)))
 | 0, _, _, _ => none
 | k + 1, x0, x3, x4 => if x4 < (x0.length : Int) then ((spec_l04Item.f k x0 x4).bind fun bt436 => (if x3.length < 3518437208883 then (spec_ParseCells.l0 k x0 (x3 ++ [(⟨bt436.1, bt436.2.1, bt436.2.2.1, bt436.2.2.2.1, bt436.2.2.2.2.1⟩ : S51)]) (wrap64 (x4 + bt436.2.2.2.2.2))) else (none))) else (spec_ParseCells.l1 k x3)
def spec_ParseCells.l1 : Nat → List (S51) → Option ((List (S51)))
 | 0, _ => none
 | k + 1, x3 => if (x3.length : Int) > 0 then (if 0 ≤ (wrap64 ((x3.length : Int) - 1)) then (if (wrap64 ((x3.length : Int) - 1)) < (x3.length : Int) then (if (((rd_T51 x3 (wrap64 ((x3.length : Int) - 1))).f0) == 0 && ((((rd_T51 x3 (wrap64 ((x3.length : Int) - 1))).f1).toList) == ([] : List UInt8) && (((rd_T51 x3 (wrap64 ((x3.length : Int) - 1))).f2) == 0 && (!((rd_T51 x3 (wrap64 ((x3.length : Int) - 1))).f3) && (((rd_T51 x3 (wrap64 ((x3.length : Int) - 1))).f4) == 0))))) = true then (if (wrap64 ((x3.length : Int) - 1)) ≤ (x3.length : Int) then (spec_ParseCells.l1 k (x3.take ((wrap64 ((x3.length : Int) - 1)) : Int).toNat)) else (none)) else (some x3)) else (none)) else (none)) else (some x3)
end
def spec_ParseCells.f (k : Nat) (l0 : List Int) : Option ((List (S51))) := (some (([] : List (S51)) : List (S51))).bind fun y433 => (if (l0.length : Int) > 64 then (some y433) else (spec_ParseCells.l0 k l0 y433 0))
theorem spec_ParseCells.mono_l : ∀ k, (∀ y0 y1 y2, LeO (spec_ParseCells.l0 k y0 y1 y2) (spec_ParseCells.l0 (k + 1) y0 y1 y2)) ∧ (∀ y0, LeO (spec_ParseCells.l1 k y0) (spec_ParseCells.l1 (k + 1) y0))
 | 0 => ⟨fun _ _ _ r h => by simp [spec_ParseCells.l0] at h, fun _ r h => by simp [spec_ParseCells.l1] at h⟩
 | k + 1 => by
  obtain ⟨ih0, ih1⟩ := spec_ParseCells.mono_l k
  refine ⟨?_, ?_⟩
  ·intro y0 y1 y2
   unfold spec_ParseCells.l0
   repeat' first
   | (with_reducible exact ih0 _ _ _)
   | (with_reducible exact ih1 _)
   | (with_reducible exact spec_l04Item.mono _ _ _)
   | (with_reducible exact LeO.refl _)
   | (with_reducible exact LeO.none _)
   | (with_reducible refine LeO.ite ?_ ?_)
   | (with_reducible refine LeO.bind ?_ (fun _ => ?_))
   | exact ih0 _ _ _
   | exact ih1 _
   | exact spec_l04Item.mono _ _ _
   | exact LeO.none _
   | refine LeO.ite ?_ ?_
   | refine LeO.bind ?_ (fun _ => ?_)
  ·intro y0
   unfold spec_ParseCells.l1
   repeat' first
   | (with_reducible exact ih0 _ _ _)
   | (with_reducible exact ih1 _)
   | (with_reducible exact spec_l04Item.mono _ _ _)
   | (with_reducible exact LeO.refl _)
   | (with_reducible exact LeO.none _)
   | (with_reducible refine LeO.ite ?_ ?_)
   | (with_reducible refine LeO.bind ?_ (fun _ => ?_))
   | exact ih0 _ _ _
   | exact ih1 _
   | exact spec_l04Item.mono _ _ _
   | exact LeO.none _
   | refine LeO.ite ?_ ?_
   | refine LeO.bind ?_ (fun _ => ?_)
theorem spec_ParseCells.mono : ∀ a0 k, LeO (spec_ParseCells.f k a0) (spec_ParseCells.f (k + 1) a0) := by
 intro a0 k
 obtain ⟨ih0, ih1⟩ := spec_ParseCells.mono_l k
 unfold spec_ParseCells.f
 repeat' first
   | (with_reducible exact ih0 _ _ _)
   | (with_reducible exact ih1 _)
   | (with_reducible exact spec_l04Item.mono _ _ _)
   | (with_reducible exact LeO.refl _)
   | (with_reducible exact LeO.none _)
   | (with_reducible refine LeO.ite ?_ ?_)
   | (with_reducible refine LeO.bind ?_ (fun _ => ?_))
   | exact ih0 _ _ _
   | exact ih1 _
   | exact spec_l04Item.mono _ _ _
   | exact LeO.none _
   | refine LeO.ite ?_ ?_
   | refine LeO.bind ?_ (fun _ => ?_)
set_option maxHeartbeats 8000000 in
set_option maxRecDepth 100000 in
theorem spec_ParseCells.calls (k : Nat) (A0 : Option Addr) (c0 : Nat) (l0 : List Int) (r : List (S51)) (w : World) (hr0 : Kd.C (Kd.int .u32) w A0 l0.length l0) (hc0 : l0.length ≤ c0) (h : spec_ParseCells.f k l0 = some r) :
  Calls Try.prog 17 #[.slice A0 l0.length c0] w fun e w' => ∃ v0_ : Value, e = .returned (v0_) ∧ Kd.R k51 51 w' w.heap.size (fun _ => True) v0_ r ∧ Below w.heap.size w w' := by
 have hu51 := Try.underlying51
 have HR0 := Aside0.mk hr0
 have HC0 := Aside0.mk hc0
 clear hr0 hc0
 have HB := Z (Below.refl w.heap.size w)
 have H : ((some (([] : List (S51)) : List (S51))).bind fun y433 => (if (l0.length : Int) > 64 then (some y433) else (spec_ParseCells.l0 k l0 y433 0))) = some r := h
 clear h
 obtain ⟨y433, hy433⟩ : ∃ y_ : List (S51), y_ = (([] : List (S51))) := ⟨_, rfl⟩
 replace H : (if (l0.length : Int) > 64 then (some y433) else (spec_ParseCells.l0 k l0 y433 0)) = some r := by first | (rw [hy433]; with_reducible exact H) | (have H2_ := (Option.bind_some _ _).symm.trans H; rw [hy433]; with_reducible exact H2_) | (have H2_ := (Option.bind_some _ _).symm.trans H; with_reducible exact H2_) | with_reducible exact H | (rw [hy433]; exact H) | exact H
 have Ny433 := Aside0.mk hy433
 clear hy433
 by_cases c2 : (l0.length : Int) > 64
 ·rw [if_pos c2] at H
  have c2b0 : decide (64 < (l0.length : Int)) = true := decide_eq_true c2
  have c2b1 : decide (64 < l0.length) = true := decide_eq_true (by omega)
  clear c2
  obtain rfl := Option.some.inj H
  go_enter Try.func17, Try.ntmps17
  go_wp2_with (first | ((with_reducible refine gate_dst (N := 7) rfl ?_); (try (refine gate_guard (by rfl) ?_; dsimp only)); refine Kd.R_lit k51 _ 51 (by rfl) (N := 7) (by rfl) (xs := ([] : List (S51))) (inner := []) (ok := fun _ => True) (okp := fun _ => True) Z10 (Reps.none _ _) (fun _ hk => hk) trivial (Below.refl _ _) (Nat.le_refl _) (by simp) ?_; intro v434 w3 ho4 hb hg_ hnew_; clear hg_ hnew_; (first | rw [← Ny433.out] at ho4 | (simp only [Int.reduceToNat] at ho4; rw [← Ny433.out] at ho4)); have HO435 := Z (Kd.R_lower ho4 (below_size Z62)); replace HB := Z (below_step Z62 hb); clear hb ho4))
  go_ret
  exact ⟨_, Z13, (Z12 HO435), Z62⟩
 ·rw [if_neg c2] at H
  have c2b0 : decide (64 < (l0.length : Int)) = false := decide_eq_false c2
  have c2b1 : decide (64 < l0.length) = false := decide_eq_false (by omega)
  clear c2
  have H' := Aside0.mk H
  clear H
  go_enter Try.func17, Try.ntmps17
  go_wp2_with (first | ((with_reducible refine gate_dst (N := 7) rfl ?_); (try (refine gate_guard (by rfl) ?_; dsimp only)); refine Kd.R_lit k51 _ 51 (by rfl) (N := 7) (by rfl) (xs := ([] : List (S51))) (inner := []) (ok := fun _ => True) (okp := fun _ => True) Z10 (Reps.none _ _) (fun _ hk => hk) trivial (Below.refl _ _) (Nat.le_refl _) (by simp) ?_; intro v434 w5 ho6 hb hg_ hnew_; clear hg_ hnew_; (first | rw [← Ny433.out] at ho6 | (simp only [Int.reduceToNat] at ho6; rw [← Ny433.out] at ho6)); have HO435 := Z (Kd.R_lower ho6 (below_size Z62)); replace HB := Z (below_step Z62 hb); clear hb ho6))
  go_loopg [3, 4] k (fun kq v3 v4 w' => ∃ (x3_1 : List (S51)) (x4_1 : Int), v4 = .int .i64 x4_1 ∧ Aside0 (spec_ParseCells.l0 kq l0 x3_1 x4_1 = some r) ∧ Aside0 (kq ≤ k) ∧ Aside0 (Kd.R k51 51 w' w.heap.size (fun _ => True) v3 x3_1) ∧ Aside0 (Below w.heap.size w w'))
  case atStart => exact ⟨(y433), (0), Z2, H', ⟨Nat.le_refl _⟩, ⟨(Z12 HO435)⟩, ⟨Z62⟩⟩
  case round =>
   clear H'
   try clear c1
   try clear c2
   try clear c2b0
   try clear c2b1
   try clear p2
   obtain ⟨x3_1, x4_1, rfl, HA, HK1, HO_3, HB⟩ := hrel
   cases gk with
   | zero => exact absurd HA.out (by simp [spec_ParseCells.l0])
   | succ k1 =>
    have H := HA.out
    clear HA
    simp only [spec_ParseCells.l0] at H
    by_cases c7 : x4_1 < (l0.length : Int)
    ·rw [if_pos c7] at H
     have c7b0 : decide (x4_1 < (l0.length : Int)) = true := decide_eq_true c7
     clear c7
     replace H := Option.bind_eq_some_iff.mp H
     obtain ⟨⟨t436, t437, t438, t439, t440, t441⟩, A80, H⟩ := H
     replace H : (if x3_1.length < 3518437208883 then (spec_ParseCells.l0 k1 l0 (x3_1 ++ [(⟨t436, t437, t438, t439, t440⟩ : S51)]) (wrap64 (x4_1 + t441))) else (none)) = some r := H
     have A8 := Aside0.mk A80
     clear A80
     by_cases c9 : x3_1.length < 3518437208883
     ·rw [if_pos c9] at H
      have LMc9 := Aside0.mk c9
      clear c9
      obtain ⟨y443, hy443⟩ : ∃ y_ : List (S51), y_ = (x3_1 ++ [(⟨t436, t437, t438, t439, t440⟩ : S51)]) := ⟨_, rfl⟩
      replace H : (spec_ParseCells.l0 k1 l0 y443 (wrap64 (x4_1 + t441))) = some r := by first | (rw [hy443]; with_reducible exact H) | (have H2_ := (Option.bind_some _ _).symm.trans H; rw [hy443]; with_reducible exact H2_) | (have H2_ := (Option.bind_some _ _).symm.trans H; with_reducible exact H2_) | with_reducible exact H | (rw [hy443]; exact H) | exact H
      have Ny443 := Aside0.mk hy443
      clear hy443
      have H' := Aside0.mk H
      clear H
      go_wp2_with (first | ((with_reducible refine gate_callee (f := 60) rfl ?_); refine goesL_ (some 19) rfl rfl Try.func60 Z0 rfl #[.slice A0 l0.length c0, .int .i64 x4_1] rfl Z4 ?_; (with_reducible refine (spec_l04Item.calls k1 _ _ l0 x4_1 t436 t437 t438 t439 t440 t441 _ ?side1 ?side2 A8.out).mono ?_); (case side1 => exact (Z27 HR0)); (case side2 => exact HC0.out); rintro e w10 ⟨rfl, hb⟩; refine ⟨_, rfl, ?_⟩; replace HO_3 := Z (Kd.R_below (Z12 HO_3) hb); replace HB := Z (below_step Z62 hb); (try clear hb); (try clear hb2); (try clear hk); (try clear hi)) | ((with_reducible refine gate_dst (N := 5) rfl ?_); (try (refine gate_guard (by rfl) ?_; dsimp only)); refine box_event (by rfl) (N := 5) (by rfl) (cs := #[.int .i64 0, .string (⟨#[]⟩ : ByteArray), .int .i32 0, .bool false, .int .u32 0]) (t := 51) Z10 ?_; intro gb442 hg w11 hbox hb; replace HO_3 := Z (Kd.R_below (Kd.R_elderB (Z12 HO_3) gb442 (Nat.le_of_eq hg.symm)) hb); have BK442 := Z (hbox); have GW442 := Z ((Z74 : w.heap.size ≤ gb442)); have GE442 := Z ((Z74 : w.heap.size ≤ gb442)); replace HB := Z (below_step Z62 hb); clear hb hbox hg; have hcz12_0 : w11.cell? ⟨gb442, 0, none⟩ = some (.int .i64 0) := (blk_cell BK442.out 0).trans rfl; have hcz12_1 : w11.cell? ⟨gb442, 1, none⟩ = some (.string (⟨#[]⟩ : ByteArray)) := (blk_cell BK442.out 1).trans rfl; have hcz12_2 : w11.cell? ⟨gb442, 2, none⟩ = some (.int .i32 0) := (blk_cell BK442.out 2).trans rfl; have hcz12_3 : w11.cell? ⟨gb442, 3, none⟩ = some (.bool false) := (blk_cell BK442.out 3).trans rfl; have hcz12_4 : w11.cell? ⟨gb442, 4, none⟩ = some (.int .u32 0) := (blk_cell BK442.out 4).trans rfl; have hfz12_0 := blk_frozen BK442.out 0; have hfz12_1 := blk_frozen BK442.out 1; have hfz12_2 := blk_frozen BK442.out 2; have hfz12_3 := blk_frozen BK442.out 3; have hfz12_4 := blk_frozen BK442.out 4) | ((with_reducible refine gate_builtin (b := .append) (xs := #[.tmp 22, .tmp 24]) rfl ?_); (try (refine gate_guard (by rfl) ?_; dsimp only)); at_builtin; refine Kd.R_append k51 (w0 := w) w.heap.size rfl (.tmp 22) (.tmp 24) 26 51 (.agg #[(.int .i64 0), (.string ⟨#[]⟩), (.int .i32 0), (.bool false), (.int .u32 0)]) 40 rfl Try.underlying26 info51 rfl (by decide) (by omega) u3 x3_1 (⟨t436, t437, t438, t439, t440⟩ : S51) [.int .i64 t436, .string t437, .int .i32 t438, .bool t439, .int .u32 t440] (fun k_ => k_ ≠ gb442) (fun _ => False) rfl Z10 ?aP (fun _ hk => hk.elim) ?aF ?aO ?aB ?aS ?aL ?_; (case aP => exact k51_mkM _ _ _ (⟨t436, t437, t438, t439, t440⟩ : S51)); (case aB => exact Z62); (case aF => exact (fun k_ hk => Kd.freshB (g := gb442) (o := .cells #[.int .i64 t436, .string t437, .int .i32 t438, .bool t439, .int .u32 t440] 51 (0, 0)) (Z57 BK442) k_ hk)); (case aO => exact (by (with_reducible repeat (first | apply Kd.R_alloc | apply Kd.R_drewN | apply Kd.R_drew)); exact Kd.R_mono (Kd.R_far (p := ⟨gb442, 4, none⟩) (Kd.R_far (p := ⟨gb442, 3, none⟩) (Kd.R_far (p := ⟨gb442, 2, none⟩) (Kd.R_far (p := ⟨gb442, 1, none⟩) (Kd.R_far (p := ⟨gb442, 0, none⟩) (Kd.R_mono HO_3.out (fun k_ hk => (⟨hk, hk.2⟩ : _ ∧ k_ ≠ gb442))) (fun _ hk => hk.2) (.int .i64 t436)) (fun _ hk => hk.2) (.string t437)) (fun _ hk => hk.2) (.int .i32 t438)) (fun _ hk => hk.2) (.bool t439)) (fun _ hk => hk.2) (.int .u32 t440)) (fun _ hk => hk.1.2))); (case aS => exact (below_size Z62)); (case aL => have := LMc9.out; omega); intro v444 w13 ho hb hg hat; rw [← Ny443.out] at ho; replace BK442 := Z (blk_grown (g := gb442) (o := .cells #[.int .i64 t436, .string t437, .int .i32 t438, .bool t439, .int .u32 t440] 51 (0, 0)) (Z57 BK442) hg (Kd.R_away HO_3.out (fun _ hk => hk.2))); replace HB := Z (hb); have HO445 := Z (ho); clear HO_3; clear ho hb hg hat))
      go_roundg k1
      case measure => have := HK1.out; omega
      case rel => exact ⟨(y443), (wrap64 (x4_1 + t441)), Z2, H', ⟨Z6⟩, ⟨(Z17 HO445)⟩, ⟨Z62⟩⟩
     ·rw [if_neg c9] at H
      exact absurd H (by simp)
    ·rw [if_neg c7] at H
     have c7b0 : decide (x4_1 < (l0.length : Int)) = false := decide_eq_false c7
     clear c7
     have H' := Aside0.mk H
     clear H
     go_wp2
     go_loopg [3] k1 (fun kq v3 w' => ∃ (x3_2 : List (S51)), Aside0 (spec_ParseCells.l1 kq x3_2 = some r) ∧ Aside0 (kq ≤ k1) ∧ Aside0 (Kd.R k51 51 w' w.heap.size (fun _ => True) v3 x3_2) ∧ Aside0 (Below w.heap.size w w'))
     case atStart => exact ⟨(x3_1), H', ⟨Nat.le_refl _⟩, ⟨(Z12 HO_3)⟩, ⟨Z62⟩⟩
     case round =>
      clear H'
      try clear c1
      try clear c2
      try clear c2b0
      try clear c2b1
      try clear p2
      try clear c6
      try clear p6
      try clear c7
      try clear c7b0
      try clear c9
      try clear hcz12_0
      try clear hcz12_1
      try clear hcz12_2
      try clear hcz12_3
      try clear hcz12_4
      try clear hfz12_0
      try clear hfz12_1
      try clear hfz12_2
      try clear hfz12_3
      try clear hfz12_4
      try clear p2
      obtain ⟨x3_2, HA, HK2, HO_3, HB⟩ := hrel
      cases gk with
      | zero => exact absurd HA.out (by simp [spec_ParseCells.l1])
      | succ k2 =>
       have H := HA.out
       clear HA
       simp only [spec_ParseCells.l1] at H
       by_cases c14 : (x3_2.length : Int) > 0
       ·rw [if_pos c14] at H
        have c14b0 : decide (0 < (x3_2.length : Int)) = true := decide_eq_true c14
        have c14b1 : decide (0 < x3_2.length) = true := decide_eq_true (by omega)
        clear c14
        obtain ⟨ji15, hji15⟩ : ∃ j_ : Int, (wrap64 ((x3_2.length : Int) - 1)) = j_ := ⟨_, rfl⟩
        replace H : (if 0 ≤ (ji15) then (if (ji15) < (x3_2.length : Int) then (if (((rd_T51 x3_2 (ji15)).f0) == 0 && ((((rd_T51 x3_2 (ji15)).f1).toList) == ([] : List UInt8) && (((rd_T51 x3_2 (ji15)).f2) == 0 && (!((rd_T51 x3_2 (ji15)).f3) && (((rd_T51 x3_2 (ji15)).f4) == 0))))) = true then (if (ji15) ≤ (x3_2.length : Int) then (spec_ParseCells.l1 k2 (x3_2.take ((ji15) : Int).toNat)) else (none)) else (some x3_2)) else (none)) else (none)) = some r := Z9
        have hji15w : (IntKind.i64.wrap ((x3_2.length : Int) - 1)) = ji15 := (i64_w _).trans hji15
        by_cases c16 : 0 ≤ (ji15)
        ·rw [if_pos c16] at H
         have c16b0 : decide (0 ≤ (ji15)) = true := decide_eq_true c16
         clear c16
         by_cases c17 : (ji15) < (x3_2.length : Int)
         ·rw [if_pos c17] at H
          have c17b0 : decide ((ji15) < (x3_2.length : Int)) = true := decide_eq_true c17
          clear c17
          by_cases c18 : (((rd_T51 x3_2 (ji15)).f0) == 0 && ((((rd_T51 x3_2 (ji15)).f1).toList) == ([] : List UInt8) && (((rd_T51 x3_2 (ji15)).f2) == 0 && (!((rd_T51 x3_2 (ji15)).f3) && (((rd_T51 x3_2 (ji15)).f4) == 0))))) = true
          ·rw [if_pos c18] at H
           have c18b0 : (((rd_T51 x3_2 (ji15)).f0) == 0 && ((((rd_T51 x3_2 (ji15)).f1).toList) == ([] : List UInt8) && (((rd_T51 x3_2 (ji15)).f2) == 0 && (!((rd_T51 x3_2 (ji15)).f3) && (((rd_T51 x3_2 (ji15)).f4) == 0))))) = true := c18
           (try (have c18b1 : (((rd_T51 x3_2 (ji15)).f0) == 0 && ((((rd_T51 x3_2 (ji15)).f1).toList).isEmpty && (((rd_T51 x3_2 (ji15)).f2) == 0 && (!((rd_T51 x3_2 (ji15)).f3) && (((rd_T51 x3_2 (ji15)).f4) == 0))))) = true := by have h_ : (((rd_T51 x3_2 (ji15)).f0) == 0 && ((((rd_T51 x3_2 (ji15)).f1).toList) == ([] : List UInt8) && (((rd_T51 x3_2 (ji15)).f2) == 0 && (!((rd_T51 x3_2 (ji15)).f3) && (((rd_T51 x3_2 (ji15)).f4) == 0))))) = true := c18; simpa only [List.beq_nil_eq] using h_))
           (try (have c18b2 : decide (((rd_T51 x3_2 (ji15)).f0) = 0 && ((((rd_T51 x3_2 (ji15)).f1).toList) == ([] : List UInt8) && (((rd_T51 x3_2 (ji15)).f2) == 0 && (!((rd_T51 x3_2 (ji15)).f3) && (((rd_T51 x3_2 (ji15)).f4) == 0))))) = true := Z58))
           (try (have c18b3 : (((rd_T51 x3_2 (ji15)).f0) == 0 && ((((rd_T51 x3_2 (ji15)).f1).toList) == ([] : List UInt8) && (((rd_T51 x3_2 (ji15)).f2) == 0 && (!((rd_T51 x3_2 (ji15)).f3) && (((rd_T51 x3_2 (ji15)).f4) == 0))))) = true := Z58))
           clear c18
           by_cases c19 : (ji15) ≤ (x3_2.length : Int)
           ·rw [if_pos c19] at H
            have c19b0 := eq_true c19
            have c19b1 : decide ((ji15) ≤ (x3_2.length : Int)) = true := decide_eq_true c19
            clear c19
            obtain ⟨y447, hy447⟩ : ∃ y_ : List (S51), y_ = (x3_2.take ((ji15) : Int).toNat) := ⟨_, rfl⟩
            replace H : (spec_ParseCells.l1 k2 y447) = some r := by first | (rw [hy447]; with_reducible exact H) | (have H2_ := (Option.bind_some _ _).symm.trans H; rw [hy447]; with_reducible exact H2_) | (have H2_ := (Option.bind_some _ _).symm.trans H; with_reducible exact H2_) | with_reducible exact H | (rw [hy447]; exact H) | exact H
            have Ny447 := Aside0.mk hy447
            clear hy447
            have H' := Aside0.mk H
            clear H
            obtain ⟨Ao20, co20, eo20⟩ := Kd.R_slice HO_3.out
            subst eo20
            have p446 : 0 ≤ ((ji15) : Int) := of_decide_eq_true Z5
            have q446 : (ji15) < (x3_2.length : Int) := of_decide_eq_true Z5
            obtain ⟨ad446, e446, hx446_0, hx446_1, hx446_2, hx446_3, hx446_4⟩ := at_T51 (Kd.R_reads' HO_3.out).2.2 (ji15) p446 q446
            cases e446
            replace p446 := eq_true p446
            replace q446 := eq_true q446
            (try clear hcut20)
            have q21 : ((ji15) : Int) ≤ ((x3_2.length : Int) : Int) := of_decide_eq_true Z5
            obtain ⟨i021, hi021, _, hsz21, _⟩ := info_parts info51
            have hcut21 := cut_to (P := Try.prog) 26 51 .i64 Try.underlying26 hi021 (some ad446) x3_2.length co20 (ji15) (of_decide_eq_true Z5) q21 (Kd.R_reads' HO_3.out).2.1
            have hr21 := Kd.R_take (m := ((ji15) : Int).toNat) HO_3.out (by omega)
            have hy21 : y447.length = ((ji15) : Int).toNat := (by rw [Ny447.out, List.length_take]; omega)
            rw [← Ny447.out] at hr21
            rw [← hy21] at hr21 hcut21
            clear hy21 hi021 hsz21 HO_3
            have HO449 := Aside0.mk hr21
            clear hr21
            replace q21 := eq_true q21
            go_wp2
            go_roundg k2
            case measure => have := HK1.out; have := HK2.out; omega
            case rel => exact ⟨(y447), H', ⟨by have := HK1.out; have := HK2.out; omega⟩, ⟨(Z12 HO449)⟩, ⟨Z62⟩⟩
           ·rw [if_neg c19] at H
            exact absurd H (by simp)
          ·rw [if_neg c18] at H
           have c18b0 : (((rd_T51 x3_2 (ji15)).f0) == 0 && ((((rd_T51 x3_2 (ji15)).f1).toList) == ([] : List UInt8) && (((rd_T51 x3_2 (ji15)).f2) == 0 && (!((rd_T51 x3_2 (ji15)).f3) && (((rd_T51 x3_2 (ji15)).f4) == 0))))) = false := Z58
           (try (have c18b1 : (((rd_T51 x3_2 (ji15)).f0) == 0 && ((((rd_T51 x3_2 (ji15)).f1).toList).isEmpty && (((rd_T51 x3_2 (ji15)).f2) == 0 && (!((rd_T51 x3_2 (ji15)).f3) && (((rd_T51 x3_2 (ji15)).f4) == 0))))) = false := by have h_ : (((rd_T51 x3_2 (ji15)).f0) == 0 && ((((rd_T51 x3_2 (ji15)).f1).toList) == ([] : List UInt8) && (((rd_T51 x3_2 (ji15)).f2) == 0 && (!((rd_T51 x3_2 (ji15)).f3) && (((rd_T51 x3_2 (ji15)).f4) == 0))))) = false := Z58; simpa only [List.beq_nil_eq] using h_))
           (try (have c18b2 : decide (((rd_T51 x3_2 (ji15)).f0) = 0 && ((((rd_T51 x3_2 (ji15)).f1).toList) == ([] : List UInt8) && (((rd_T51 x3_2 (ji15)).f2) == 0 && (!((rd_T51 x3_2 (ji15)).f3) && (((rd_T51 x3_2 (ji15)).f4) == 0))))) = false := Z58))
           (try (have c18b3 : (((rd_T51 x3_2 (ji15)).f0) == 0 && ((((rd_T51 x3_2 (ji15)).f1).toList) == ([] : List UInt8) && (((rd_T51 x3_2 (ji15)).f2) == 0 && (!((rd_T51 x3_2 (ji15)).f3) && (((rd_T51 x3_2 (ji15)).f4) == 0))))) = false := Z58))
           (try (have c18b4 : ¬ (((rd_T51 x3_2 (ji15)).f0) = 0 && ((((rd_T51 x3_2 (ji15)).f1).toList) == ([] : List UInt8) && (((rd_T51 x3_2 (ji15)).f2) == 0 && (!((rd_T51 x3_2 (ji15)).f3) && (((rd_T51 x3_2 (ji15)).f4) == 0))))) := Z58))
           clear c18
           obtain rfl := Option.some.inj H
           obtain ⟨Ao22, co22, eo22⟩ := Kd.R_slice HO_3.out
           subst eo22
           have p446 : 0 ≤ ((ji15) : Int) := of_decide_eq_true Z5
           have q446 : (ji15) < (x3_2.length : Int) := of_decide_eq_true Z5
           obtain ⟨ad446, e446, hx446_0, hx446_1, hx446_2, hx446_3, hx446_4⟩ := at_T51 (Kd.R_reads' HO_3.out).2.2 (ji15) p446 q446
           cases e446
           replace p446 := eq_true p446
           replace q446 := eq_true q446
           go_wp2
           go_ret
           exact ⟨_, by first | rfl | (simp [errW_none, errW_some] <;> rfl) | (simp only [← hji15]; first | rfl | (simp [errW_none, errW_some] <;> rfl)) | (simp [*, errW_none, errW_some] <;> rfl), (Z12 HO_3), Z62⟩
         ·rw [if_neg c17] at H
          exact absurd H (by simp)
        ·rw [if_neg c16] at H
         exact absurd H (by simp)
       ·rw [if_neg c14] at H
        have c14b0 : decide (0 < (x3_2.length : Int)) = false := decide_eq_false c14
        have c14b1 : decide (0 < x3_2.length) = false := decide_eq_false (by omega)
        clear c14
        obtain rfl := Option.some.inj H
        obtain ⟨Ao23, co23, eo23⟩ := Kd.R_slice HO_3.out
        subst eo23
        go_wp2
        go_ret
        exact ⟨_, Z13, (Z12 HO_3), Z62⟩

/-! ### laws_eqItem: function 37 -/
def laws_eqItem.f (a0_0 : Int) (a0_1 : ByteArray) (a0_2 : Int) (a0_3 : Bool) (a0_4 : Int) (a1_0 : Int) (a1_1 : ByteArray) (a1_2 : Int) (a1_3 : Bool) (a1_4 : Int) : Option (Bool) := if a0_0 = a1_0 then (if a0_1.toList = a1_1.toList then (if a0_2 = a1_2 then (if (a0_3 != a1_3) = true then (some false) else (if a0_4 = a1_4 then (some true) else (some false))) else (some false)) else (some false)) else (some false)
set_option maxHeartbeats 8000000 in
set_option maxRecDepth 100000 in
theorem laws_eqItem.calls (a0_0 : Int) (a0_1 : ByteArray) (a0_2 : Int) (a0_3 : Bool) (a0_4 : Int) (a1_0 : Int) (a1_1 : ByteArray) (a1_2 : Int) (a1_3 : Bool) (a1_4 : Int) (r : Bool) (w : World) (h : laws_eqItem.f a0_0 a0_1 a0_2 a0_3 a0_4 a1_0 a1_1 a1_2 a1_3 a1_4 = some r) :
  Calls Try.prog 37 #[.agg #[.int .i64 a0_0, .string a0_1, .int .i32 a0_2, .bool a0_3, .int .u32 a0_4], .agg #[.int .i64 a1_0, .string a1_1, .int .i32 a1_2, .bool a1_3, .int .u32 a1_4]] w fun e w' => e = .returned (.bool r) ∧ Below w.heap.size w w' := by
 have hu51 := Try.underlying51
 have HB := Z (Below.refl w.heap.size w)
 have H : (if a0_0 = a1_0 then (if a0_1.toList = a1_1.toList then (if a0_2 = a1_2 then (if (a0_3 != a1_3) = true then (some false) else (if a0_4 = a1_4 then (some true) else (some false))) else (some false)) else (some false)) else (some false)) = some r := h
 clear h
 by_cases c3 : a0_0 = a1_0
 ·rw [if_pos c3] at H
  have c3b0 : (a0_0 == a1_0) = true := beq_iff_eq.mpr c3
  have c3b1 : (a0_0 != a1_0) = false := bne_eq_false_iff_eq.mpr c3
  clear c3
  by_cases c4 : a0_1.toList = a1_1.toList
  ·rw [if_pos c4] at H
   have c4b0 : (a0_1.toList == a1_1.toList) = true := beq_iff_eq.mpr c4
   have c4b1 : (a0_1.toList != a1_1.toList) = false := bne_eq_false_iff_eq.mpr c4
   clear c4
   by_cases c5 : a0_2 = a1_2
   ·rw [if_pos c5] at H
    have c5b0 : (a0_2 == a1_2) = true := beq_iff_eq.mpr c5
    have c5b1 : (a0_2 != a1_2) = false := bne_eq_false_iff_eq.mpr c5
    clear c5
    by_cases c6 : (a0_3 != a1_3) = true
    ·rw [if_pos c6] at H
     have c6b0 : (a0_3 != a1_3) = true := c6
     (try (have c6b1 : decide (a0_3 = a1_3) = false := by simpa using c6))
     (try (have c6b2 : (a0_3 == a1_3) = false := by simpa using c6))
     (try (have c6b3 : ¬ (a0_3 = a1_3) := by simpa using c6))
     clear c6
     obtain rfl := Option.some.inj H
     go_enter Try.func37, Try.ntmps37
     go_wp2_with (first | ((with_reducible refine gate_dst (N := 2) rfl ?_); refine box_event (by rfl) (N := 2) (by rfl) (cs := #[.int .i64 a0_0, .string a0_1, .int .i32 a0_2, .bool a0_3, .int .u32 a0_4]) (t := 51) Z10 ?_; intro gb450 hg w7 hbox hb; have BK450 := Z (hbox); have GW450 := Z ((Z74 : w.heap.size ≤ gb450)); have GE450 := Z ((Z74 : w.heap.size ≤ gb450)); replace HB := Z (below_step Z62 hb); clear hb hbox hg) | ((with_reducible refine gate_dst (N := 3) rfl ?_); refine box_event (by rfl) (N := 3) (by rfl) (cs := #[.int .i64 a1_0, .string a1_1, .int .i32 a1_2, .bool a1_3, .int .u32 a1_4]) (t := 51) Z10 ?_; intro gb451 hg w8 hbox hb; have BK451 := Z (hbox); have GW451 := Z ((Z74 : w.heap.size ≤ gb451)); have GE451 := Z ((Z74 : w.heap.size ≤ gb451)); replace HB := Z (below_step Z62 hb); have NB450_451 := Z ((Z71 : gb450 ≠ gb451)); have NB451_450 := Z ((Z72 : gb451 ≠ gb450)); replace BK450 := Z (blk_below (g := gb450) (o := .cells #[.int .i64 a0_0, .string a0_1, .int .i32 a0_2, .bool a0_3, .int .u32 a0_4] 51 (0, 0)) (Z15 BK450) hb); clear hb hbox hg; have hnb9 := NB450_451.out; have hnc9 := NB451_450.out; have hcz10_0 : w8.cell? ⟨gb450, 0, none⟩ = some (.int .i64 a0_0) := (blk_cell BK450.out 0).trans rfl; have hcz10_1 : w8.cell? ⟨gb450, 1, none⟩ = some (.string a0_1) := (blk_cell BK450.out 1).trans rfl; have hcz10_2 : w8.cell? ⟨gb450, 2, none⟩ = some (.int .i32 a0_2) := (blk_cell BK450.out 2).trans rfl; have hcz10_3 : w8.cell? ⟨gb450, 3, none⟩ = some (.bool a0_3) := (blk_cell BK450.out 3).trans rfl; have hcz10_4 : w8.cell? ⟨gb450, 4, none⟩ = some (.int .u32 a0_4) := (blk_cell BK450.out 4).trans rfl; have hfz10_0 := blk_frozen BK450.out 0; have hfz10_1 := blk_frozen BK450.out 1; have hfz10_2 := blk_frozen BK450.out 2; have hfz10_3 := blk_frozen BK450.out 3; have hfz10_4 := blk_frozen BK450.out 4; have hcz11_0 : w8.cell? ⟨gb451, 0, none⟩ = some (.int .i64 a1_0) := (blk_cell BK451.out 0).trans rfl; have hcz11_1 : w8.cell? ⟨gb451, 1, none⟩ = some (.string a1_1) := (blk_cell BK451.out 1).trans rfl; have hcz11_2 : w8.cell? ⟨gb451, 2, none⟩ = some (.int .i32 a1_2) := (blk_cell BK451.out 2).trans rfl; have hcz11_3 : w8.cell? ⟨gb451, 3, none⟩ = some (.bool a1_3) := (blk_cell BK451.out 3).trans rfl; have hcz11_4 : w8.cell? ⟨gb451, 4, none⟩ = some (.int .u32 a1_4) := (blk_cell BK451.out 4).trans rfl; have hfz11_0 := blk_frozen BK451.out 0; have hfz11_1 := blk_frozen BK451.out 1; have hfz11_2 := blk_frozen BK451.out 2; have hfz11_3 := blk_frozen BK451.out 3; have hfz11_4 := blk_frozen BK451.out 4))
     go_ret
     exact ⟨Z13, Z62⟩
    ·rw [if_neg c6] at H
     have c6b0 : (a0_3 != a1_3) = false := by simpa using c6
     (try (have c6b1 : decide (a0_3 = a1_3) = true := by simpa using c6))
     (try (have c6b2 : (a0_3 == a1_3) = true := by simpa using c6))
     clear c6
     by_cases c12 : a0_4 = a1_4
     ·rw [if_pos c12] at H
      have c12b0 : (a0_4 == a1_4) = true := beq_iff_eq.mpr c12
      have c12b1 : (a0_4 != a1_4) = false := bne_eq_false_iff_eq.mpr c12
      clear c12
      obtain rfl := Option.some.inj H
      go_enter Try.func37, Try.ntmps37
      go_wp2_with (first | ((with_reducible refine gate_dst (N := 2) rfl ?_); refine box_event (by rfl) (N := 2) (by rfl) (cs := #[.int .i64 a0_0, .string a0_1, .int .i32 a0_2, .bool a0_3, .int .u32 a0_4]) (t := 51) Z10 ?_; intro gb450 hg w13 hbox hb; have BK450 := Z (hbox); have GW450 := Z ((Z74 : w.heap.size ≤ gb450)); have GE450 := Z ((Z74 : w.heap.size ≤ gb450)); replace HB := Z (below_step Z62 hb); clear hb hbox hg) | ((with_reducible refine gate_dst (N := 3) rfl ?_); refine box_event (by rfl) (N := 3) (by rfl) (cs := #[.int .i64 a1_0, .string a1_1, .int .i32 a1_2, .bool a1_3, .int .u32 a1_4]) (t := 51) Z10 ?_; intro gb451 hg w14 hbox hb; have BK451 := Z (hbox); have GW451 := Z ((Z74 : w.heap.size ≤ gb451)); have GE451 := Z ((Z74 : w.heap.size ≤ gb451)); replace HB := Z (below_step Z62 hb); have NB450_451 := Z ((Z71 : gb450 ≠ gb451)); have NB451_450 := Z ((Z72 : gb451 ≠ gb450)); replace BK450 := Z (blk_below (g := gb450) (o := .cells #[.int .i64 a0_0, .string a0_1, .int .i32 a0_2, .bool a0_3, .int .u32 a0_4] 51 (0, 0)) (Z15 BK450) hb); clear hb hbox hg; have hnb15 := NB450_451.out; have hnc15 := NB451_450.out; have hcz16_0 : w14.cell? ⟨gb450, 0, none⟩ = some (.int .i64 a0_0) := (blk_cell BK450.out 0).trans rfl; have hcz16_1 : w14.cell? ⟨gb450, 1, none⟩ = some (.string a0_1) := (blk_cell BK450.out 1).trans rfl; have hcz16_2 : w14.cell? ⟨gb450, 2, none⟩ = some (.int .i32 a0_2) := (blk_cell BK450.out 2).trans rfl; have hcz16_3 : w14.cell? ⟨gb450, 3, none⟩ = some (.bool a0_3) := (blk_cell BK450.out 3).trans rfl; have hcz16_4 : w14.cell? ⟨gb450, 4, none⟩ = some (.int .u32 a0_4) := (blk_cell BK450.out 4).trans rfl; have hfz16_0 := blk_frozen BK450.out 0; have hfz16_1 := blk_frozen BK450.out 1; have hfz16_2 := blk_frozen BK450.out 2; have hfz16_3 := blk_frozen BK450.out 3; have hfz16_4 := blk_frozen BK450.out 4; have hcz17_0 : w14.cell? ⟨gb451, 0, none⟩ = some (.int .i64 a1_0) := (blk_cell BK451.out 0).trans rfl; have hcz17_1 : w14.cell? ⟨gb451, 1, none⟩ = some (.string a1_1) := (blk_cell BK451.out 1).trans rfl; have hcz17_2 : w14.cell? ⟨gb451, 2, none⟩ = some (.int .i32 a1_2) := (blk_cell BK451.out 2).trans rfl; have hcz17_3 : w14.cell? ⟨gb451, 3, none⟩ = some (.bool a1_3) := (blk_cell BK451.out 3).trans rfl; have hcz17_4 : w14.cell? ⟨gb451, 4, none⟩ = some (.int .u32 a1_4) := (blk_cell BK451.out 4).trans rfl; have hfz17_0 := blk_frozen BK451.out 0; have hfz17_1 := blk_frozen BK451.out 1; have hfz17_2 := blk_frozen BK451.out 2; have hfz17_3 := blk_frozen BK451.out 3; have hfz17_4 := blk_frozen BK451.out 4))
      go_ret
      exact ⟨Z13, Z62⟩
     ·rw [if_neg c12] at H
      have c12b0 : (a0_4 == a1_4) = false := beq_eq_false_iff_ne.mpr c12
      have c12b1 : (a0_4 != a1_4) = true := bne_iff_ne.mpr c12
      obtain rfl := Option.some.inj H
      go_enter Try.func37, Try.ntmps37
      go_wp2_with (first | ((with_reducible refine gate_dst (N := 2) rfl ?_); refine box_event (by rfl) (N := 2) (by rfl) (cs := #[.int .i64 a0_0, .string a0_1, .int .i32 a0_2, .bool a0_3, .int .u32 a0_4]) (t := 51) Z10 ?_; intro gb450 hg w18 hbox hb; have BK450 := Z (hbox); have GW450 := Z ((Z74 : w.heap.size ≤ gb450)); have GE450 := Z ((Z74 : w.heap.size ≤ gb450)); replace HB := Z (below_step Z62 hb); clear hb hbox hg) | ((with_reducible refine gate_dst (N := 3) rfl ?_); refine box_event (by rfl) (N := 3) (by rfl) (cs := #[.int .i64 a1_0, .string a1_1, .int .i32 a1_2, .bool a1_3, .int .u32 a1_4]) (t := 51) Z10 ?_; intro gb451 hg w19 hbox hb; have BK451 := Z (hbox); have GW451 := Z ((Z74 : w.heap.size ≤ gb451)); have GE451 := Z ((Z74 : w.heap.size ≤ gb451)); replace HB := Z (below_step Z62 hb); have NB450_451 := Z ((Z71 : gb450 ≠ gb451)); have NB451_450 := Z ((Z72 : gb451 ≠ gb450)); replace BK450 := Z (blk_below (g := gb450) (o := .cells #[.int .i64 a0_0, .string a0_1, .int .i32 a0_2, .bool a0_3, .int .u32 a0_4] 51 (0, 0)) (Z15 BK450) hb); clear hb hbox hg; have hnb20 := NB450_451.out; have hnc20 := NB451_450.out; have hcz21_0 : w19.cell? ⟨gb450, 0, none⟩ = some (.int .i64 a0_0) := (blk_cell BK450.out 0).trans rfl; have hcz21_1 : w19.cell? ⟨gb450, 1, none⟩ = some (.string a0_1) := (blk_cell BK450.out 1).trans rfl; have hcz21_2 : w19.cell? ⟨gb450, 2, none⟩ = some (.int .i32 a0_2) := (blk_cell BK450.out 2).trans rfl; have hcz21_3 : w19.cell? ⟨gb450, 3, none⟩ = some (.bool a0_3) := (blk_cell BK450.out 3).trans rfl; have hcz21_4 : w19.cell? ⟨gb450, 4, none⟩ = some (.int .u32 a0_4) := (blk_cell BK450.out 4).trans rfl; have hfz21_0 := blk_frozen BK450.out 0; have hfz21_1 := blk_frozen BK450.out 1; have hfz21_2 := blk_frozen BK450.out 2; have hfz21_3 := blk_frozen BK450.out 3; have hfz21_4 := blk_frozen BK450.out 4; have hcz22_0 : w19.cell? ⟨gb451, 0, none⟩ = some (.int .i64 a1_0) := (blk_cell BK451.out 0).trans rfl; have hcz22_1 : w19.cell? ⟨gb451, 1, none⟩ = some (.string a1_1) := (blk_cell BK451.out 1).trans rfl; have hcz22_2 : w19.cell? ⟨gb451, 2, none⟩ = some (.int .i32 a1_2) := (blk_cell BK451.out 2).trans rfl; have hcz22_3 : w19.cell? ⟨gb451, 3, none⟩ = some (.bool a1_3) := (blk_cell BK451.out 3).trans rfl; have hcz22_4 : w19.cell? ⟨gb451, 4, none⟩ = some (.int .u32 a1_4) := (blk_cell BK451.out 4).trans rfl; have hfz22_0 := blk_frozen BK451.out 0; have hfz22_1 := blk_frozen BK451.out 1; have hfz22_2 := blk_frozen BK451.out 2; have hfz22_3 := blk_frozen BK451.out 3; have hfz22_4 := blk_frozen BK451.out 4))
      go_ret
      exact ⟨Z13, Z62⟩
   ·rw [if_neg c5] at H
    have c5b0 : (a0_2 == a1_2) = false := beq_eq_false_iff_ne.mpr c5
    have c5b1 : (a0_2 != a1_2) = true := bne_iff_ne.mpr c5
    obtain rfl := Option.some.inj H
    go_enter Try.func37, Try.ntmps37
    go_wp2_with (first | ((with_reducible refine gate_dst (N := 2) rfl ?_); refine box_event (by rfl) (N := 2) (by rfl) (cs := #[.int .i64 a0_0, .string a0_1, .int .i32 a0_2, .bool a0_3, .int .u32 a0_4]) (t := 51) Z10 ?_; intro gb450 hg w23 hbox hb; have BK450 := Z (hbox); have GW450 := Z ((Z74 : w.heap.size ≤ gb450)); have GE450 := Z ((Z74 : w.heap.size ≤ gb450)); replace HB := Z (below_step Z62 hb); clear hb hbox hg) | ((with_reducible refine gate_dst (N := 3) rfl ?_); refine box_event (by rfl) (N := 3) (by rfl) (cs := #[.int .i64 a1_0, .string a1_1, .int .i32 a1_2, .bool a1_3, .int .u32 a1_4]) (t := 51) Z10 ?_; intro gb451 hg w24 hbox hb; have BK451 := Z (hbox); have GW451 := Z ((Z74 : w.heap.size ≤ gb451)); have GE451 := Z ((Z74 : w.heap.size ≤ gb451)); replace HB := Z (below_step Z62 hb); have NB450_451 := Z ((Z71 : gb450 ≠ gb451)); have NB451_450 := Z ((Z72 : gb451 ≠ gb450)); replace BK450 := Z (blk_below (g := gb450) (o := .cells #[.int .i64 a0_0, .string a0_1, .int .i32 a0_2, .bool a0_3, .int .u32 a0_4] 51 (0, 0)) (Z15 BK450) hb); clear hb hbox hg; have hnb25 := NB450_451.out; have hnc25 := NB451_450.out; have hcz26_0 : w24.cell? ⟨gb450, 0, none⟩ = some (.int .i64 a0_0) := (blk_cell BK450.out 0).trans rfl; have hcz26_1 : w24.cell? ⟨gb450, 1, none⟩ = some (.string a0_1) := (blk_cell BK450.out 1).trans rfl; have hcz26_2 : w24.cell? ⟨gb450, 2, none⟩ = some (.int .i32 a0_2) := (blk_cell BK450.out 2).trans rfl; have hcz26_3 : w24.cell? ⟨gb450, 3, none⟩ = some (.bool a0_3) := (blk_cell BK450.out 3).trans rfl; have hcz26_4 : w24.cell? ⟨gb450, 4, none⟩ = some (.int .u32 a0_4) := (blk_cell BK450.out 4).trans rfl; have hfz26_0 := blk_frozen BK450.out 0; have hfz26_1 := blk_frozen BK450.out 1; have hfz26_2 := blk_frozen BK450.out 2; have hfz26_3 := blk_frozen BK450.out 3; have hfz26_4 := blk_frozen BK450.out 4; have hcz27_0 : w24.cell? ⟨gb451, 0, none⟩ = some (.int .i64 a1_0) := (blk_cell BK451.out 0).trans rfl; have hcz27_1 : w24.cell? ⟨gb451, 1, none⟩ = some (.string a1_1) := (blk_cell BK451.out 1).trans rfl; have hcz27_2 : w24.cell? ⟨gb451, 2, none⟩ = some (.int .i32 a1_2) := (blk_cell BK451.out 2).trans rfl; have hcz27_3 : w24.cell? ⟨gb451, 3, none⟩ = some (.bool a1_3) := (blk_cell BK451.out 3).trans rfl; have hcz27_4 : w24.cell? ⟨gb451, 4, none⟩ = some (.int .u32 a1_4) := (blk_cell BK451.out 4).trans rfl; have hfz27_0 := blk_frozen BK451.out 0; have hfz27_1 := blk_frozen BK451.out 1; have hfz27_2 := blk_frozen BK451.out 2; have hfz27_3 := blk_frozen BK451.out 3; have hfz27_4 := blk_frozen BK451.out 4))
    go_ret
    exact ⟨Z13, Z62⟩
  ·rw [if_neg c4] at H
   have c4b0 : (a0_1.toList == a1_1.toList) = false := beq_eq_false_iff_ne.mpr c4
   have c4b1 : (a0_1.toList != a1_1.toList) = true := bne_iff_ne.mpr c4
   obtain rfl := Option.some.inj H
   go_enter Try.func37, Try.ntmps37
   go_wp2_with (first | ((with_reducible refine gate_dst (N := 2) rfl ?_); refine box_event (by rfl) (N := 2) (by rfl) (cs := #[.int .i64 a0_0, .string a0_1, .int .i32 a0_2, .bool a0_3, .int .u32 a0_4]) (t := 51) Z10 ?_; intro gb450 hg w28 hbox hb; have BK450 := Z (hbox); have GW450 := Z ((Z74 : w.heap.size ≤ gb450)); have GE450 := Z ((Z74 : w.heap.size ≤ gb450)); replace HB := Z (below_step Z62 hb); clear hb hbox hg) | ((with_reducible refine gate_dst (N := 3) rfl ?_); refine box_event (by rfl) (N := 3) (by rfl) (cs := #[.int .i64 a1_0, .string a1_1, .int .i32 a1_2, .bool a1_3, .int .u32 a1_4]) (t := 51) Z10 ?_; intro gb451 hg w29 hbox hb; have BK451 := Z (hbox); have GW451 := Z ((Z74 : w.heap.size ≤ gb451)); have GE451 := Z ((Z74 : w.heap.size ≤ gb451)); replace HB := Z (below_step Z62 hb); have NB450_451 := Z ((Z71 : gb450 ≠ gb451)); have NB451_450 := Z ((Z72 : gb451 ≠ gb450)); replace BK450 := Z (blk_below (g := gb450) (o := .cells #[.int .i64 a0_0, .string a0_1, .int .i32 a0_2, .bool a0_3, .int .u32 a0_4] 51 (0, 0)) (Z15 BK450) hb); clear hb hbox hg; have hnb30 := NB450_451.out; have hnc30 := NB451_450.out; have hcz31_0 : w29.cell? ⟨gb450, 0, none⟩ = some (.int .i64 a0_0) := (blk_cell BK450.out 0).trans rfl; have hcz31_1 : w29.cell? ⟨gb450, 1, none⟩ = some (.string a0_1) := (blk_cell BK450.out 1).trans rfl; have hcz31_2 : w29.cell? ⟨gb450, 2, none⟩ = some (.int .i32 a0_2) := (blk_cell BK450.out 2).trans rfl; have hcz31_3 : w29.cell? ⟨gb450, 3, none⟩ = some (.bool a0_3) := (blk_cell BK450.out 3).trans rfl; have hcz31_4 : w29.cell? ⟨gb450, 4, none⟩ = some (.int .u32 a0_4) := (blk_cell BK450.out 4).trans rfl; have hfz31_0 := blk_frozen BK450.out 0; have hfz31_1 := blk_frozen BK450.out 1; have hfz31_2 := blk_frozen BK450.out 2; have hfz31_3 := blk_frozen BK450.out 3; have hfz31_4 := blk_frozen BK450.out 4; have hcz32_0 : w29.cell? ⟨gb451, 0, none⟩ = some (.int .i64 a1_0) := (blk_cell BK451.out 0).trans rfl; have hcz32_1 : w29.cell? ⟨gb451, 1, none⟩ = some (.string a1_1) := (blk_cell BK451.out 1).trans rfl; have hcz32_2 : w29.cell? ⟨gb451, 2, none⟩ = some (.int .i32 a1_2) := (blk_cell BK451.out 2).trans rfl; have hcz32_3 : w29.cell? ⟨gb451, 3, none⟩ = some (.bool a1_3) := (blk_cell BK451.out 3).trans rfl; have hcz32_4 : w29.cell? ⟨gb451, 4, none⟩ = some (.int .u32 a1_4) := (blk_cell BK451.out 4).trans rfl; have hfz32_0 := blk_frozen BK451.out 0; have hfz32_1 := blk_frozen BK451.out 1; have hfz32_2 := blk_frozen BK451.out 2; have hfz32_3 := blk_frozen BK451.out 3; have hfz32_4 := blk_frozen BK451.out 4))
   go_ret
   exact ⟨Z13, Z62⟩
 ·rw [if_neg c3] at H
  have c3b0 : (a0_0 == a1_0) = false := beq_eq_false_iff_ne.mpr c3
  have c3b1 : (a0_0 != a1_0) = true := bne_iff_ne.mpr c3
  obtain rfl := Option.some.inj H
  go_enter Try.func37, Try.ntmps37
  go_wp2_with (first | ((with_reducible refine gate_dst (N := 2) rfl ?_); refine box_event (by rfl) (N := 2) (by rfl) (cs := #[.int .i64 a0_0, .string a0_1, .int .i32 a0_2, .bool a0_3, .int .u32 a0_4]) (t := 51) Z10 ?_; intro gb450 hg w33 hbox hb; have BK450 := Z (hbox); have GW450 := Z ((Z74 : w.heap.size ≤ gb450)); have GE450 := Z ((Z74 : w.heap.size ≤ gb450)); replace HB := Z (below_step Z62 hb); clear hb hbox hg) | ((with_reducible refine gate_dst (N := 3) rfl ?_); refine box_event (by rfl) (N := 3) (by rfl) (cs := #[.int .i64 a1_0, .string a1_1, .int .i32 a1_2, .bool a1_3, .int .u32 a1_4]) (t := 51) Z10 ?_; intro gb451 hg w34 hbox hb; have BK451 := Z (hbox); have GW451 := Z ((Z74 : w.heap.size ≤ gb451)); have GE451 := Z ((Z74 : w.heap.size ≤ gb451)); replace HB := Z (below_step Z62 hb); have NB450_451 := Z ((Z71 : gb450 ≠ gb451)); have NB451_450 := Z ((Z72 : gb451 ≠ gb450)); replace BK450 := Z (blk_below (g := gb450) (o := .cells #[.int .i64 a0_0, .string a0_1, .int .i32 a0_2, .bool a0_3, .int .u32 a0_4] 51 (0, 0)) (Z15 BK450) hb); clear hb hbox hg; have hnb35 := NB450_451.out; have hnc35 := NB451_450.out; have hcz36_0 : w34.cell? ⟨gb450, 0, none⟩ = some (.int .i64 a0_0) := (blk_cell BK450.out 0).trans rfl; have hcz36_1 : w34.cell? ⟨gb450, 1, none⟩ = some (.string a0_1) := (blk_cell BK450.out 1).trans rfl; have hcz36_2 : w34.cell? ⟨gb450, 2, none⟩ = some (.int .i32 a0_2) := (blk_cell BK450.out 2).trans rfl; have hcz36_3 : w34.cell? ⟨gb450, 3, none⟩ = some (.bool a0_3) := (blk_cell BK450.out 3).trans rfl; have hcz36_4 : w34.cell? ⟨gb450, 4, none⟩ = some (.int .u32 a0_4) := (blk_cell BK450.out 4).trans rfl; have hfz36_0 := blk_frozen BK450.out 0; have hfz36_1 := blk_frozen BK450.out 1; have hfz36_2 := blk_frozen BK450.out 2; have hfz36_3 := blk_frozen BK450.out 3; have hfz36_4 := blk_frozen BK450.out 4; have hcz37_0 : w34.cell? ⟨gb451, 0, none⟩ = some (.int .i64 a1_0) := (blk_cell BK451.out 0).trans rfl; have hcz37_1 : w34.cell? ⟨gb451, 1, none⟩ = some (.string a1_1) := (blk_cell BK451.out 1).trans rfl; have hcz37_2 : w34.cell? ⟨gb451, 2, none⟩ = some (.int .i32 a1_2) := (blk_cell BK451.out 2).trans rfl; have hcz37_3 : w34.cell? ⟨gb451, 3, none⟩ = some (.bool a1_3) := (blk_cell BK451.out 3).trans rfl; have hcz37_4 : w34.cell? ⟨gb451, 4, none⟩ = some (.int .u32 a1_4) := (blk_cell BK451.out 4).trans rfl; have hfz37_0 := blk_frozen BK451.out 0; have hfz37_1 := blk_frozen BK451.out 1; have hfz37_2 := blk_frozen BK451.out 2; have hfz37_3 := blk_frozen BK451.out 3; have hfz37_4 := blk_frozen BK451.out 4))
  go_ret
  exact ⟨Z13, Z62⟩

/-! ### laws_eqItemS: function 48 -/
def laws_eqItemS.l0 : Nat → List (S51) → List (S51) → Int → Option (Bool)
 | 0, _, _, _ => none
 | k + 1, x0, x1, x5 => if x5 < (x0.length : Int) then (if 0 ≤ x5 then (if x5 < (x1.length : Int) then ((laws_eqItem.f ((rd_T51 x0 x5).f0) ((rd_T51 x0 x5).f1) ((rd_T51 x0 x5).f2) ((rd_T51 x0 x5).f3) ((rd_T51 x0 x5).f4) ((rd_T51 x1 x5).f0) ((rd_T51 x1 x5).f1) ((rd_T51 x1 x5).f2) ((rd_T51 x1 x5).f3) ((rd_T51 x1 x5).f4)).bind fun t454 => (if t454 = true then (laws_eqItemS.l0 k x0 x1 (wrap64 (x5 + 1))) else (some false))) else (none)) else (none)) else (some true)
def laws_eqItemS.f (k : Nat) (l0 : List (S51)) (l1 : List (S51)) : Option (Bool) := if (l0.length : Int) = (l1.length : Int) then (laws_eqItemS.l0 k l0 l1 0) else (some false)
theorem laws_eqItemS.mono_l : ∀ k, (∀ y0 y1 y2, LeO (laws_eqItemS.l0 k y0 y1 y2) (laws_eqItemS.l0 (k + 1) y0 y1 y2))
 | 0 => fun _ _ _ r h => by simp [laws_eqItemS.l0] at h
 | k + 1 => by
  have ih0 := laws_eqItemS.mono_l k
  ·intro y0 y1 y2
   unfold laws_eqItemS.l0
   repeat' first
   | (with_reducible exact ih0 _ _ _)
   | (with_reducible exact LeO.refl _)
   | (with_reducible exact LeO.none _)
   | (with_reducible refine LeO.ite ?_ ?_)
   | (with_reducible refine LeO.bind ?_ (fun _ => ?_))
   | exact ih0 _ _ _
   | exact LeO.none _
   | refine LeO.ite ?_ ?_
   | refine LeO.bind ?_ (fun _ => ?_)
theorem laws_eqItemS.mono : ∀ a0 a1 k, LeO (laws_eqItemS.f k a0 a1) (laws_eqItemS.f (k + 1) a0 a1) := by
 intro a0 a1 k
 have ih0 := laws_eqItemS.mono_l k
 unfold laws_eqItemS.f
 repeat' first
   | (with_reducible exact ih0 _ _ _)
   | (with_reducible exact LeO.refl _)
   | (with_reducible exact LeO.none _)
   | (with_reducible refine LeO.ite ?_ ?_)
   | (with_reducible refine LeO.bind ?_ (fun _ => ?_))
   | exact ih0 _ _ _
   | exact LeO.none _
   | refine LeO.ite ?_ ?_
   | refine LeO.bind ?_ (fun _ => ?_)
def laws_eqItemS.T6 : Bool × List (List Nat × List Nat) := (true, [([], []), ([], []), ([0, 1], [0, 1]), ([2], [2]), ([], []), ([], []), ([4, 5], [4, 5]), ([6], [6]), ([3, 7], [3, 7]), ([8], [8])])
def laws_eqItemS.B6 : List Nat := [0, 0, 3, 7, 0, 0, 48, 112, 255, 511]
theorem laws_eqItemS.tab6 : rtab .any (opsOf Try.f48 6) = laws_eqItemS.T6 := Z0
theorem laws_eqItemS.bits6 : waitsOk laws_eqItemS.T6.2 laws_eqItemS.B6 = true := Z0
set_option maxHeartbeats 8000000 in
set_option maxRecDepth 100000 in
theorem laws_eqItemS.calls (k : Nat) (A0 : Option Addr) (c0 : Nat) (l0 : List (S51)) (A1 : Option Addr) (c1 : Nat) (l1 : List (S51)) (r : Bool) (w : World) (hr0 : Kd.C k51 w A0 l0.length l0) (hc0 : l0.length ≤ c0) (hr1 : Kd.C k51 w A1 l1.length l1) (hc1 : l1.length ≤ c1) (h : laws_eqItemS.f k l0 l1 = some r) :
  Calls Try.prog 48 #[.slice A0 l0.length c0, .slice A1 l1.length c1] w fun e w' => e = .returned (.bool r) ∧ Below w.heap.size w w' := by
 have hu51 := Try.underlying51
 have HR0 := Aside0.mk hr0
 have HC0 := Aside0.mk hc0
 clear hr0 hc0
 have HR1 := Aside0.mk hr1
 have HC1 := Aside0.mk hc1
 clear hr1 hc1
 have HB := Z (Below.refl w.heap.size w)
 have H : (if (l0.length : Int) = (l1.length : Int) then (laws_eqItemS.l0 k l0 l1 0) else (some false)) = some r := h
 clear h
 by_cases c3 : (l0.length : Int) = (l1.length : Int)
 ·rw [if_pos c3] at H
  have c3b0 : ((l0.length : Int) == (l1.length : Int)) = true := beq_iff_eq.mpr c3
  have c3b1 : ((l0.length : Int) != (l1.length : Int)) = false := bne_eq_false_iff_eq.mpr c3
  have c3b2 : (l0.length == l1.length) = true := Z22
  clear c3
  have H' := Aside0.mk H
  clear H
  go_enter Try.func48, Try.ntmps48
  go_wp2
  go_loopg [5] k (fun kq v5 w' => ∃ (x5_1 : Int), v5 = .int .i64 x5_1 ∧ Aside0 (laws_eqItemS.l0 kq l0 l1 x5_1 = some r) ∧ Aside0 (kq ≤ k) ∧ Aside0 (Below w.heap.size w w'))
  case atStart => exact ⟨(0), Z2, H', ⟨Nat.le_refl _⟩, ⟨Z62⟩⟩
  case round =>
   clear H'
   try clear c1
   try clear p2
   try clear c3
   try clear c3b0
   try clear c3b1
   try clear c3b2
   obtain ⟨x5_1, rfl, HA, HK1, HB⟩ := hrel
   cases gk with
   | zero => exact absurd HA.out (by simp [laws_eqItemS.l0])
   | succ k1 =>
    have H := HA.out
    clear HA
    simp only [laws_eqItemS.l0] at H
    by_cases c4 : x5_1 < (l0.length : Int)
    ·rw [if_pos c4] at H
     have c4b0 : decide (x5_1 < (l0.length : Int)) = true := decide_eq_true c4
     clear c4
     by_cases c5 : 0 ≤ x5_1
     ·rw [if_pos c5] at H
      have c5b0 : decide (0 ≤ x5_1) = true := decide_eq_true c5
      clear c5
      by_cases c6 : x5_1 < (l1.length : Int)
      ·rw [if_pos c6] at H
       have c6b0 : decide (x5_1 < (l1.length : Int)) = true := decide_eq_true c6
       clear c6
       replace H := Option.bind_eq_some_iff.mp H
       obtain ⟨t454, A70, H⟩ := H
       replace H : (if t454 = true then (laws_eqItemS.l0 k1 l0 l1 (wrap64 (x5_1 + 1))) else (some false)) = some r := H
       have A7 := Aside0.mk A70
       clear A70
       by_cases c8 : t454 = true
       ·subst c8
        have H1 : (laws_eqItemS.l0 k1 l0 l1 (wrap64 (x5_1 + 1))) = some r := Z7
        clear H
        have H := H1
        clear H1
        have H' := Aside0.mk H
        clear H
        try go_wp2
        have n0_ := Z (below_drew1 HB.out)
        clear HB
        have HB := n0_
        clear n0_
        have p452 : 0 ≤ (x5_1 : Int) := of_decide_eq_true Z5
        have q452 : x5_1 < (l0.length : Int) := of_decide_eq_true Z5
        obtain ⟨ad452, e452, hx452_0, hx452_1, hx452_2, hx452_3, hx452_4⟩ := at_T51 HR0.out x5_1 p452 q452
        have hw452_4 := hx452_4
        have hw452_3 := hx452_3
        have hw452_2 := hx452_2
        have hw452_1 := hx452_1
        have hw452_0 := hx452_0
        cases e452
        replace hx452_0 := (HB.out.cell (World.block_lt_of_cell? w _ hx452_0)).trans hx452_0
        replace hx452_1 := (HB.out.cell (World.block_lt_of_cell? w _ hx452_1)).trans hx452_1
        replace hx452_2 := (HB.out.cell (World.block_lt_of_cell? w _ hx452_2)).trans hx452_2
        replace hx452_3 := (HB.out.cell (World.block_lt_of_cell? w _ hx452_3)).trans hx452_3
        replace hx452_4 := (HB.out.cell (World.block_lt_of_cell? w _ hx452_4)).trans hx452_4
        replace p452 := eq_true p452
        replace q452 := eq_true q452
        have p453 : 0 ≤ (x5_1 : Int) := of_decide_eq_true Z5
        have q453 : x5_1 < (l1.length : Int) := of_decide_eq_true Z5
        obtain ⟨ad453, e453, hx453_0, hx453_1, hx453_2, hx453_3, hx453_4⟩ := at_T51 HR1.out x5_1 p453 q453
        have hw453_4 := hx453_4
        have hw453_3 := hx453_3
        have hw453_2 := hx453_2
        have hw453_1 := hx453_1
        have hw453_0 := hx453_0
        cases e453
        replace hx453_0 := (HB.out.cell (World.block_lt_of_cell? w _ hx453_0)).trans hx453_0
        replace hx453_1 := (HB.out.cell (World.block_lt_of_cell? w _ hx453_1)).trans hx453_1
        replace hx453_2 := (HB.out.cell (World.block_lt_of_cell? w _ hx453_2)).trans hx453_2
        replace hx453_3 := (HB.out.cell (World.block_lt_of_cell? w _ hx453_3)).trans hx453_3
        replace hx453_4 := (HB.out.cell (World.block_lt_of_cell? w _ hx453_4)).trans hx453_4
        replace p453 := eq_true p453
        replace q453 := eq_true q453
        refine start_ (n := 10) (S := fun w' => w'.cell? (ad452.add ((x5_1).toNat * 5)) = some (.int .i64 ((rd_T51 l0 x5_1).f0)) ∧ w'.cell? ⟨(ad452.add ((x5_1).toNat * 5)).block, (ad452.add ((x5_1).toNat * 5)).off + 1, none⟩ = some (.string ((rd_T51 l0 x5_1).f1)) ∧ w'.cell? ⟨(ad452.add ((x5_1).toNat * 5)).block, (ad452.add ((x5_1).toNat * 5)).off + 2, none⟩ = some (.int .i32 ((rd_T51 l0 x5_1).f2)) ∧ w'.cell? ⟨(ad452.add ((x5_1).toNat * 5)).block, (ad452.add ((x5_1).toNat * 5)).off + 3, none⟩ = some (.bool ((rd_T51 l0 x5_1).f3)) ∧ w'.cell? ⟨(ad452.add ((x5_1).toNat * 5)).block, (ad452.add ((x5_1).toNat * 5)).off + 4, none⟩ = some (.int .u32 ((rd_T51 l0 x5_1).f4)) ∧ w'.cell? (ad453.add ((x5_1).toNat * 5)) = some (.int .i64 ((rd_T51 l1 x5_1).f0)) ∧ w'.cell? ⟨(ad453.add ((x5_1).toNat * 5)).block, (ad453.add ((x5_1).toNat * 5)).off + 1, none⟩ = some (.string ((rd_T51 l1 x5_1).f1)) ∧ w'.cell? ⟨(ad453.add ((x5_1).toNat * 5)).block, (ad453.add ((x5_1).toNat * 5)).off + 2, none⟩ = some (.int .i32 ((rd_T51 l1 x5_1).f2)) ∧ w'.cell? ⟨(ad453.add ((x5_1).toNat * 5)).block, (ad453.add ((x5_1).toNat * 5)).off + 3, none⟩ = some (.bool ((rd_T51 l1 x5_1).f3)) ∧ w'.cell? ⟨(ad453.add ((x5_1).toNat * 5)).block, (ad453.add ((x5_1).toNat * 5)).off + 4, none⟩ = some (.int .u32 ((rd_T51 l1 x5_1).f4))) (ds := []) #[false, false, false, false, false, false, false, false, false, false] Z0 rfl rfl ⟨((HB.out.cell (World.block_lt_of_cell? w _ hw452_0)).trans hw452_0), ((HB.out.cell (World.block_lt_of_cell? w _ hw452_1)).trans hw452_1), ((HB.out.cell (World.block_lt_of_cell? w _ hw452_2)).trans hw452_2), ((HB.out.cell (World.block_lt_of_cell? w _ hw452_3)).trans hw452_3), ((HB.out.cell (World.block_lt_of_cell? w _ hw452_4)).trans hw452_4), ((HB.out.cell (World.block_lt_of_cell? w _ hw453_0)).trans hw453_0), ((HB.out.cell (World.block_lt_of_cell? w _ hw453_1)).trans hw453_1), ((HB.out.cell (World.block_lt_of_cell? w _ hw453_2)).trans hw453_2), ((HB.out.cell (World.block_lt_of_cell? w _ hw453_3)).trans hw453_3), ((HB.out.cell (World.block_lt_of_cell? w _ hw453_4)).trans hw453_4)⟩ (fun hHeld => ?_); refine with_tabW laws_eqItemS.tab6 laws_eqItemS.bits6 (fun HT_ HW_ => ?_)
        generalize wr.drew = w9 at HB hx452_0 hx452_1 hx452_2 hx452_3 hx452_4 hx453_0 hx453_1 hx453_2 hx453_3 hx453_4 hHeld ⊢
        refine pure_ (i := 0) (N := some 17) (v := ?_) (a' := ?_) #[true, false, false, false, false, false, false, false, false, false] rfl rfl (any_of HT_.out Z0) (fun _ _ _ h => h) (Or.inl ⟨by rfl, ?_⟩) ?_ ?_
        rotate_left
        ·intro w'
         go_simp
         with_reducible rfl
        rotate_left
        ·simp only [Act.put, List.setIfInBounds_toArray, List.set_cons_zero, List.set_cons_succ, i64_w, i32_w]
         rfl
        refine pure_ (i := 1) (N := some 18) (v := ?_) (a' := ?_) #[true, true, false, false, false, false, false, false, false, false] rfl rfl (any_of HT_.out Z0) (fun _ _ _ h => h) (Or.inl ⟨by rfl, ?_⟩) ?_ ?_
        rotate_left
        ·intro w'
         go_simp
         with_reducible rfl
        rotate_left
        ·simp only [Act.put, List.setIfInBounds_toArray, List.set_cons_zero, List.set_cons_succ, i64_w, i32_w]
         rfl
        refine pure_ (i := 2) (N := some 19) (v := ?_) (a' := ?_) #[true, true, true, false, false, false, false, false, false, false] rfl rfl (any_of HT_.out Z0) (fun _ _ _ h => h) (Or.inl ⟨by rfl, ?_⟩) ?_ ?_
        rotate_left
        ·intro w'
         go_simp
         with_reducible rfl
        rotate_left
        ·simp only [Act.put, List.setIfInBounds_toArray, List.set_cons_zero, List.set_cons_succ, i64_w, i32_w]
         rfl
        refine pure_ (i := 4) (N := some 21) (v := ?_) (a' := ?_) #[true, true, true, false, true, false, false, false, false, false] rfl rfl (any_of HT_.out Z0) (fun _ _ _ h => h) (Or.inl ⟨by rfl, ?_⟩) ?_ ?_
        rotate_left
        ·intro w'
         go_simp
         with_reducible rfl
        rotate_left
        ·simp only [Act.put, List.setIfInBounds_toArray, List.set_cons_zero, List.set_cons_succ, i64_w, i32_w]
         rfl
        refine pure_ (i := 5) (N := some 22) (v := ?_) (a' := ?_) #[true, true, true, false, true, true, false, false, false, false] rfl rfl (any_of HT_.out Z0) (fun _ _ _ h => h) (Or.inl ⟨by rfl, ?_⟩) ?_ ?_
        rotate_left
        ·intro w'
         go_simp
         with_reducible rfl
        rotate_left
        ·simp only [Act.put, List.setIfInBounds_toArray, List.set_cons_zero, List.set_cons_succ, i64_w, i32_w]
         rfl
        refine pure_ (i := 6) (N := some 23) (v := ?_) (a' := ?_) #[true, true, true, false, true, true, true, false, false, false] rfl rfl (any_of HT_.out Z0) (fun _ _ _ h => h) (Or.inl ⟨by rfl, ?_⟩) ?_ ?_
        rotate_left
        ·intro w'
         go_simp
         with_reducible rfl
        rotate_left
        ·simp only [Act.put, List.setIfInBounds_toArray, List.set_cons_zero, List.set_cons_succ, i64_w, i32_w]
         rfl
        refine take_ (i := 3) (N := some 20) (v := ?_) (a' := ?_) #[true, true, true, true, true, true, true, false, false, false] rfl rfl (take_ofW HT_.out HW_.out Z0) (fun _ _ _ h => h) (Or.inl ⟨by rfl, ?_⟩) hHeld ?_ ?_
        rotate_left
        ·rintro w' ⟨s0, s1, s2, s3, s4, s5, s6, s7, s8, s9⟩
         go_simp
         with_reducible rfl
        rotate_left
        ·simp only [Act.put, List.setIfInBounds_toArray, List.set_cons_zero, List.set_cons_succ, i64_w, i32_w]
         rfl
        refine take_ (i := 7) (N := some 24) (v := ?_) (a' := ?_) #[true, true, true, true, true, true, true, true, false, false] rfl rfl (take_ofW HT_.out HW_.out Z0) (fun _ _ _ h => h) (Or.inl ⟨by rfl, ?_⟩) hHeld ?_ ?_
        rotate_left
        ·rintro w' ⟨s0, s1, s2, s3, s4, s5, s6, s7, s8, s9⟩
         go_simp
         with_reducible rfl
        rotate_left
        ·simp only [Act.put, List.setIfInBounds_toArray, List.set_cons_zero, List.set_cons_succ, i64_w, i32_w]
         rfl
        refine one_ (i := 8) (N := some 25) #[true, true, true, true, true, true, true, true, true, false] rfl rfl (one_of HT_.out Z0) (by decide) (fun K hK => ?_)
        refine goes_ Try.func37 Z0 rfl #[.agg #[.int .i64 ((rd_T51 l0 x5_1).f0), .string ((rd_T51 l0 x5_1).f1), .int .i32 ((rd_T51 l0 x5_1).f2), .bool ((rd_T51 l0 x5_1).f3), .int .u32 ((rd_T51 l0 x5_1).f4)], .agg #[.int .i64 ((rd_T51 l1 x5_1).f0), .string ((rd_T51 l1 x5_1).f1), .int .i32 ((rd_T51 l1 x5_1).f2), .bool ((rd_T51 l1 x5_1).f3), .int .u32 ((rd_T51 l1 x5_1).f4)]] (by rfl) rfl rfl Z4 ?_
        with_reducible refine (laws_eqItem.calls ((rd_T51 l0 x5_1).f0) ((rd_T51 l0 x5_1).f1) ((rd_T51 l0 x5_1).f2) ((rd_T51 l0 x5_1).f3) ((rd_T51 l0 x5_1).f4) ((rd_T51 l1 x5_1).f0) ((rd_T51 l1 x5_1).f1) ((rd_T51 l1 x5_1).f2) ((rd_T51 l1 x5_1).f3) ((rd_T51 l1 x5_1).f4) true _ A7.out).mono ?_
        rintro e w10 ⟨rfl, hb⟩
        refine ⟨_, rfl, ?_⟩
        have n0_ := Z (below_step Z62 hb)
        clear HB
        have HB := n0_
        clear n0_
        (try clear hb)
        (try clear hb2)
        (try clear hk)
        (try clear hi)
        refine hK.out _ _ ⟨((HB.out.cell (World.block_lt_of_cell? w _ hw452_0)).trans hw452_0), ((HB.out.cell (World.block_lt_of_cell? w _ hw452_1)).trans hw452_1), ((HB.out.cell (World.block_lt_of_cell? w _ hw452_2)).trans hw452_2), ((HB.out.cell (World.block_lt_of_cell? w _ hw452_3)).trans hw452_3), ((HB.out.cell (World.block_lt_of_cell? w _ hw452_4)).trans hw452_4), ((HB.out.cell (World.block_lt_of_cell? w _ hw453_0)).trans hw453_0), ((HB.out.cell (World.block_lt_of_cell? w _ hw453_1)).trans hw453_1), ((HB.out.cell (World.block_lt_of_cell? w _ hw453_2)).trans hw453_2), ((HB.out.cell (World.block_lt_of_cell? w _ hw453_3)).trans hw453_3), ((HB.out.cell (World.block_lt_of_cell? w _ hw453_4)).trans hw453_4)⟩ (fun hHeld => ?_)
        clear hK K
        refine norm_ (a' := ?_) ?_ ?_
        rotate_left
        ·show Act.put _ (some 25) _ = _
         simp only [Act.put, List.setIfInBounds_toArray, List.set_cons_zero, List.set_cons_succ, i64_w, i32_w]
         rfl
        refine pure_ (i := 9) (N := some 26) (v := ?_) (a' := ?_) #[true, true, true, true, true, true, true, true, true, true] rfl rfl (any_of HT_.out Z0) (fun _ _ _ h => h) (Or.inl ⟨by rfl, ?_⟩) ?_ ?_
        rotate_left
        ·intro w'
         go_simp
         with_reducible rfl
        rotate_left
        ·simp only [Act.put, List.setIfInBounds_toArray, List.set_cons_zero, List.set_cons_succ, i64_w, i32_w]
         rfl
        refine done_ (done_of HT_.out Z0) ?_
        try go_wp2
        go_roundg k1
        case measure => have := HK1.out; omega
        case rel => exact ⟨(wrap64 (x5_1 + 1)), Z2, H', ⟨Z6⟩, ⟨Z62⟩⟩
       ·replace c8 := Bool.eq_false_iff.mpr c8
        subst c8
        have H1 : (some false) = some r := by rw [if_neg (show ¬ (false = true) by decide)] at H; exact H
        clear H
        have H := H1
        clear H1
        obtain rfl := Option.some.inj H
        try go_wp2
        have n0_ := Z (below_drew1 HB.out)
        clear HB
        have HB := n0_
        clear n0_
        have p452 : 0 ≤ (x5_1 : Int) := of_decide_eq_true Z5
        have q452 : x5_1 < (l0.length : Int) := of_decide_eq_true Z5
        obtain ⟨ad452, e452, hx452_0, hx452_1, hx452_2, hx452_3, hx452_4⟩ := at_T51 HR0.out x5_1 p452 q452
        have hw452_4 := hx452_4
        have hw452_3 := hx452_3
        have hw452_2 := hx452_2
        have hw452_1 := hx452_1
        have hw452_0 := hx452_0
        cases e452
        replace hx452_0 := (HB.out.cell (World.block_lt_of_cell? w _ hx452_0)).trans hx452_0
        replace hx452_1 := (HB.out.cell (World.block_lt_of_cell? w _ hx452_1)).trans hx452_1
        replace hx452_2 := (HB.out.cell (World.block_lt_of_cell? w _ hx452_2)).trans hx452_2
        replace hx452_3 := (HB.out.cell (World.block_lt_of_cell? w _ hx452_3)).trans hx452_3
        replace hx452_4 := (HB.out.cell (World.block_lt_of_cell? w _ hx452_4)).trans hx452_4
        replace p452 := eq_true p452
        replace q452 := eq_true q452
        have p453 : 0 ≤ (x5_1 : Int) := of_decide_eq_true Z5
        have q453 : x5_1 < (l1.length : Int) := of_decide_eq_true Z5
        obtain ⟨ad453, e453, hx453_0, hx453_1, hx453_2, hx453_3, hx453_4⟩ := at_T51 HR1.out x5_1 p453 q453
        have hw453_4 := hx453_4
        have hw453_3 := hx453_3
        have hw453_2 := hx453_2
        have hw453_1 := hx453_1
        have hw453_0 := hx453_0
        cases e453
        replace hx453_0 := (HB.out.cell (World.block_lt_of_cell? w _ hx453_0)).trans hx453_0
        replace hx453_1 := (HB.out.cell (World.block_lt_of_cell? w _ hx453_1)).trans hx453_1
        replace hx453_2 := (HB.out.cell (World.block_lt_of_cell? w _ hx453_2)).trans hx453_2
        replace hx453_3 := (HB.out.cell (World.block_lt_of_cell? w _ hx453_3)).trans hx453_3
        replace hx453_4 := (HB.out.cell (World.block_lt_of_cell? w _ hx453_4)).trans hx453_4
        replace p453 := eq_true p453
        replace q453 := eq_true q453
        refine start_ (n := 10) (S := fun w' => w'.cell? (ad452.add ((x5_1).toNat * 5)) = some (.int .i64 ((rd_T51 l0 x5_1).f0)) ∧ w'.cell? ⟨(ad452.add ((x5_1).toNat * 5)).block, (ad452.add ((x5_1).toNat * 5)).off + 1, none⟩ = some (.string ((rd_T51 l0 x5_1).f1)) ∧ w'.cell? ⟨(ad452.add ((x5_1).toNat * 5)).block, (ad452.add ((x5_1).toNat * 5)).off + 2, none⟩ = some (.int .i32 ((rd_T51 l0 x5_1).f2)) ∧ w'.cell? ⟨(ad452.add ((x5_1).toNat * 5)).block, (ad452.add ((x5_1).toNat * 5)).off + 3, none⟩ = some (.bool ((rd_T51 l0 x5_1).f3)) ∧ w'.cell? ⟨(ad452.add ((x5_1).toNat * 5)).block, (ad452.add ((x5_1).toNat * 5)).off + 4, none⟩ = some (.int .u32 ((rd_T51 l0 x5_1).f4)) ∧ w'.cell? (ad453.add ((x5_1).toNat * 5)) = some (.int .i64 ((rd_T51 l1 x5_1).f0)) ∧ w'.cell? ⟨(ad453.add ((x5_1).toNat * 5)).block, (ad453.add ((x5_1).toNat * 5)).off + 1, none⟩ = some (.string ((rd_T51 l1 x5_1).f1)) ∧ w'.cell? ⟨(ad453.add ((x5_1).toNat * 5)).block, (ad453.add ((x5_1).toNat * 5)).off + 2, none⟩ = some (.int .i32 ((rd_T51 l1 x5_1).f2)) ∧ w'.cell? ⟨(ad453.add ((x5_1).toNat * 5)).block, (ad453.add ((x5_1).toNat * 5)).off + 3, none⟩ = some (.bool ((rd_T51 l1 x5_1).f3)) ∧ w'.cell? ⟨(ad453.add ((x5_1).toNat * 5)).block, (ad453.add ((x5_1).toNat * 5)).off + 4, none⟩ = some (.int .u32 ((rd_T51 l1 x5_1).f4))) (ds := []) #[false, false, false, false, false, false, false, false, false, false] Z0 rfl rfl ⟨((HB.out.cell (World.block_lt_of_cell? w _ hw452_0)).trans hw452_0), ((HB.out.cell (World.block_lt_of_cell? w _ hw452_1)).trans hw452_1), ((HB.out.cell (World.block_lt_of_cell? w _ hw452_2)).trans hw452_2), ((HB.out.cell (World.block_lt_of_cell? w _ hw452_3)).trans hw452_3), ((HB.out.cell (World.block_lt_of_cell? w _ hw452_4)).trans hw452_4), ((HB.out.cell (World.block_lt_of_cell? w _ hw453_0)).trans hw453_0), ((HB.out.cell (World.block_lt_of_cell? w _ hw453_1)).trans hw453_1), ((HB.out.cell (World.block_lt_of_cell? w _ hw453_2)).trans hw453_2), ((HB.out.cell (World.block_lt_of_cell? w _ hw453_3)).trans hw453_3), ((HB.out.cell (World.block_lt_of_cell? w _ hw453_4)).trans hw453_4)⟩ (fun hHeld => ?_); refine with_tabW laws_eqItemS.tab6 laws_eqItemS.bits6 (fun HT_ HW_ => ?_)
        generalize wr.drew = w11 at HB hx452_0 hx452_1 hx452_2 hx452_3 hx452_4 hx453_0 hx453_1 hx453_2 hx453_3 hx453_4 hHeld ⊢
        refine pure_ (i := 0) (N := some 17) (v := ?_) (a' := ?_) #[true, false, false, false, false, false, false, false, false, false] rfl rfl (any_of HT_.out Z0) (fun _ _ _ h => h) (Or.inl ⟨by rfl, ?_⟩) ?_ ?_
        rotate_left
        ·intro w'
         go_simp
         with_reducible rfl
        rotate_left
        ·simp only [Act.put, List.setIfInBounds_toArray, List.set_cons_zero, List.set_cons_succ, i64_w, i32_w]
         rfl
        refine pure_ (i := 1) (N := some 18) (v := ?_) (a' := ?_) #[true, true, false, false, false, false, false, false, false, false] rfl rfl (any_of HT_.out Z0) (fun _ _ _ h => h) (Or.inl ⟨by rfl, ?_⟩) ?_ ?_
        rotate_left
        ·intro w'
         go_simp
         with_reducible rfl
        rotate_left
        ·simp only [Act.put, List.setIfInBounds_toArray, List.set_cons_zero, List.set_cons_succ, i64_w, i32_w]
         rfl
        refine pure_ (i := 2) (N := some 19) (v := ?_) (a' := ?_) #[true, true, true, false, false, false, false, false, false, false] rfl rfl (any_of HT_.out Z0) (fun _ _ _ h => h) (Or.inl ⟨by rfl, ?_⟩) ?_ ?_
        rotate_left
        ·intro w'
         go_simp
         with_reducible rfl
        rotate_left
        ·simp only [Act.put, List.setIfInBounds_toArray, List.set_cons_zero, List.set_cons_succ, i64_w, i32_w]
         rfl
        refine pure_ (i := 4) (N := some 21) (v := ?_) (a' := ?_) #[true, true, true, false, true, false, false, false, false, false] rfl rfl (any_of HT_.out Z0) (fun _ _ _ h => h) (Or.inl ⟨by rfl, ?_⟩) ?_ ?_
        rotate_left
        ·intro w'
         go_simp
         with_reducible rfl
        rotate_left
        ·simp only [Act.put, List.setIfInBounds_toArray, List.set_cons_zero, List.set_cons_succ, i64_w, i32_w]
         rfl
        refine pure_ (i := 5) (N := some 22) (v := ?_) (a' := ?_) #[true, true, true, false, true, true, false, false, false, false] rfl rfl (any_of HT_.out Z0) (fun _ _ _ h => h) (Or.inl ⟨by rfl, ?_⟩) ?_ ?_
        rotate_left
        ·intro w'
         go_simp
         with_reducible rfl
        rotate_left
        ·simp only [Act.put, List.setIfInBounds_toArray, List.set_cons_zero, List.set_cons_succ, i64_w, i32_w]
         rfl
        refine pure_ (i := 6) (N := some 23) (v := ?_) (a' := ?_) #[true, true, true, false, true, true, true, false, false, false] rfl rfl (any_of HT_.out Z0) (fun _ _ _ h => h) (Or.inl ⟨by rfl, ?_⟩) ?_ ?_
        rotate_left
        ·intro w'
         go_simp
         with_reducible rfl
        rotate_left
        ·simp only [Act.put, List.setIfInBounds_toArray, List.set_cons_zero, List.set_cons_succ, i64_w, i32_w]
         rfl
        refine take_ (i := 3) (N := some 20) (v := ?_) (a' := ?_) #[true, true, true, true, true, true, true, false, false, false] rfl rfl (take_ofW HT_.out HW_.out Z0) (fun _ _ _ h => h) (Or.inl ⟨by rfl, ?_⟩) hHeld ?_ ?_
        rotate_left
        ·rintro w' ⟨s0, s1, s2, s3, s4, s5, s6, s7, s8, s9⟩
         go_simp
         with_reducible rfl
        rotate_left
        ·simp only [Act.put, List.setIfInBounds_toArray, List.set_cons_zero, List.set_cons_succ, i64_w, i32_w]
         rfl
        refine take_ (i := 7) (N := some 24) (v := ?_) (a' := ?_) #[true, true, true, true, true, true, true, true, false, false] rfl rfl (take_ofW HT_.out HW_.out Z0) (fun _ _ _ h => h) (Or.inl ⟨by rfl, ?_⟩) hHeld ?_ ?_
        rotate_left
        ·rintro w' ⟨s0, s1, s2, s3, s4, s5, s6, s7, s8, s9⟩
         go_simp
         with_reducible rfl
        rotate_left
        ·simp only [Act.put, List.setIfInBounds_toArray, List.set_cons_zero, List.set_cons_succ, i64_w, i32_w]
         rfl
        refine one_ (i := 8) (N := some 25) #[true, true, true, true, true, true, true, true, true, false] rfl rfl (one_of HT_.out Z0) (by decide) (fun K hK => ?_)
        refine goes_ Try.func37 Z0 rfl #[.agg #[.int .i64 ((rd_T51 l0 x5_1).f0), .string ((rd_T51 l0 x5_1).f1), .int .i32 ((rd_T51 l0 x5_1).f2), .bool ((rd_T51 l0 x5_1).f3), .int .u32 ((rd_T51 l0 x5_1).f4)], .agg #[.int .i64 ((rd_T51 l1 x5_1).f0), .string ((rd_T51 l1 x5_1).f1), .int .i32 ((rd_T51 l1 x5_1).f2), .bool ((rd_T51 l1 x5_1).f3), .int .u32 ((rd_T51 l1 x5_1).f4)]] (by rfl) rfl rfl Z4 ?_
        with_reducible refine (laws_eqItem.calls ((rd_T51 l0 x5_1).f0) ((rd_T51 l0 x5_1).f1) ((rd_T51 l0 x5_1).f2) ((rd_T51 l0 x5_1).f3) ((rd_T51 l0 x5_1).f4) ((rd_T51 l1 x5_1).f0) ((rd_T51 l1 x5_1).f1) ((rd_T51 l1 x5_1).f2) ((rd_T51 l1 x5_1).f3) ((rd_T51 l1 x5_1).f4) false _ A7.out).mono ?_
        rintro e w12 ⟨rfl, hb⟩
        refine ⟨_, rfl, ?_⟩
        have n0_ := Z (below_step Z62 hb)
        clear HB
        have HB := n0_
        clear n0_
        (try clear hb)
        (try clear hb2)
        (try clear hk)
        (try clear hi)
        refine hK.out _ _ ⟨((HB.out.cell (World.block_lt_of_cell? w _ hw452_0)).trans hw452_0), ((HB.out.cell (World.block_lt_of_cell? w _ hw452_1)).trans hw452_1), ((HB.out.cell (World.block_lt_of_cell? w _ hw452_2)).trans hw452_2), ((HB.out.cell (World.block_lt_of_cell? w _ hw452_3)).trans hw452_3), ((HB.out.cell (World.block_lt_of_cell? w _ hw452_4)).trans hw452_4), ((HB.out.cell (World.block_lt_of_cell? w _ hw453_0)).trans hw453_0), ((HB.out.cell (World.block_lt_of_cell? w _ hw453_1)).trans hw453_1), ((HB.out.cell (World.block_lt_of_cell? w _ hw453_2)).trans hw453_2), ((HB.out.cell (World.block_lt_of_cell? w _ hw453_3)).trans hw453_3), ((HB.out.cell (World.block_lt_of_cell? w _ hw453_4)).trans hw453_4)⟩ (fun hHeld => ?_)
        clear hK K
        refine norm_ (a' := ?_) ?_ ?_
        rotate_left
        ·show Act.put _ (some 25) _ = _
         simp only [Act.put, List.setIfInBounds_toArray, List.set_cons_zero, List.set_cons_succ, i64_w, i32_w]
         rfl
        refine pure_ (i := 9) (N := some 26) (v := ?_) (a' := ?_) #[true, true, true, true, true, true, true, true, true, true] rfl rfl (any_of HT_.out Z0) (fun _ _ _ h => h) (Or.inl ⟨by rfl, ?_⟩) ?_ ?_
        rotate_left
        ·intro w'
         go_simp
         with_reducible rfl
        rotate_left
        ·simp only [Act.put, List.setIfInBounds_toArray, List.set_cons_zero, List.set_cons_succ, i64_w, i32_w]
         rfl
        refine done_ (done_of HT_.out Z0) ?_
        try go_wp2
        go_ret
        exact ⟨Z13, Z62⟩
      ·rw [if_neg c6] at H
       exact absurd H (by simp)
     ·rw [if_neg c5] at H
      exact absurd H (by simp)
    ·rw [if_neg c4] at H
     have c4b0 : decide (x5_1 < (l0.length : Int)) = false := decide_eq_false c4
     clear c4
     obtain rfl := Option.some.inj H
     go_wp2
     go_ret
     exact ⟨Z13, Z62⟩
 ·rw [if_neg c3] at H
  have c3b0 : ((l0.length : Int) == (l1.length : Int)) = false := beq_eq_false_iff_ne.mpr c3
  have c3b1 : ((l0.length : Int) != (l1.length : Int)) = true := bne_iff_ne.mpr c3
  have c3b2 : (l0.length == l1.length) = false := Z22
  obtain rfl := Option.some.inj H
  go_enter Try.func48, Try.ntmps48
  go_wp2
  go_ret
  exact ⟨Z13, Z62⟩

/-! ### laws_markText: function 81 -/
def laws_markText.l0 : Nat → Int → ByteArray → Option (ByteArray)
 | 0, _, _ => none
 | k + 1, x0, x3 => if x0 > 0 then ((some (([(wrap64 (48 + (Int.tmod x0 10))) % 256] : List Int) : List Int)).bind fun y455 => (if (strOfNums y455).size + x3.size ≤ 9223372036854775807 then (laws_markText.l0 k (wrap64 (Int.tdiv x0 10)) ((strOfNums y455) ++ x3)) else (none))) else (if 1 + x3.size ≤ 9223372036854775807 then (some ((⟨#[109]⟩ : ByteArray) ++ x3)) else (none))
def laws_markText.f (k : Nat) (a0 : Int) : Option (ByteArray) := if a0 ≤ 0 then (some (⟨#[109, 48]⟩ : ByteArray)) else (laws_markText.l0 k a0 (⟨#[]⟩ : ByteArray))
theorem laws_markText.mono_l : ∀ k, (∀ y0 y1, LeO (laws_markText.l0 k y0 y1) (laws_markText.l0 (k + 1) y0 y1))
 | 0 => fun _ _ r h => by simp [laws_markText.l0] at h
 | k + 1 => by
  have ih0 := laws_markText.mono_l k
  ·intro y0 y1
   unfold laws_markText.l0
   repeat' first
   | (with_reducible exact ih0 _ _)
   | (with_reducible exact LeO.refl _)
   | (with_reducible exact LeO.none _)
   | (with_reducible refine LeO.ite ?_ ?_)
   | (with_reducible refine LeO.bind ?_ (fun _ => ?_))
   | exact ih0 _ _
   | exact LeO.none _
   | refine LeO.ite ?_ ?_
   | refine LeO.bind ?_ (fun _ => ?_)
theorem laws_markText.mono : ∀ a0 k, LeO (laws_markText.f k a0) (laws_markText.f (k + 1) a0) := by
 intro a0 k
 have ih0 := laws_markText.mono_l k
 unfold laws_markText.f
 repeat' first
   | (with_reducible exact ih0 _ _)
   | (with_reducible exact LeO.refl _)
   | (with_reducible exact LeO.none _)
   | (with_reducible refine LeO.ite ?_ ?_)
   | (with_reducible refine LeO.bind ?_ (fun _ => ?_))
   | exact ih0 _ _
   | exact LeO.none _
   | refine LeO.ite ?_ ?_
   | refine LeO.bind ?_ (fun _ => ?_)
set_option maxHeartbeats 8000000 in
set_option maxRecDepth 100000 in
theorem laws_markText.calls (k : Nat) (a0 : Int) (r : ByteArray) (w : World) (h : laws_markText.f k a0 = some r) :
  Calls Try.prog 81 #[.int .i64 a0] w fun e w' => e = .returned (.string r) ∧ Below w.heap.size w w' := by
 have HB := Z (Below.refl w.heap.size w)
 have H : (if a0 ≤ 0 then (some (⟨#[109, 48]⟩ : ByteArray)) else (laws_markText.l0 k a0 (⟨#[]⟩ : ByteArray))) = some r := h
 clear h
 by_cases c2 : a0 ≤ 0
 ·rw [if_pos c2] at H
  have c2b0 : decide (a0 ≤ 0) = true := decide_eq_true c2
  clear c2
  obtain rfl := Option.some.inj H
  go_enter Try.func81, Try.ntmps81
  go_wp2
  go_ret
  exact ⟨Z13, Z62⟩
 ·rw [if_neg c2] at H
  have c2b0 : decide (a0 ≤ 0) = false := decide_eq_false c2
  clear c2
  have H' := Aside0.mk H
  clear H
  go_enter Try.func81, Try.ntmps81
  go_wp2
  go_loopg [0, 3] k (fun kq v0 v3 w' => ∃ (x0_1 : Int) (x3_1 : ByteArray), v0 = .int .i64 x0_1 ∧ v3 = .string x3_1 ∧ Aside0 (laws_markText.l0 kq x0_1 x3_1 = some r) ∧ Aside0 (kq ≤ k) ∧ Aside0 (Below w.heap.size w w'))
  case atStart => exact ⟨(a0), ((⟨#[]⟩ : ByteArray)), Z2, Z2, H', ⟨Nat.le_refl _⟩, ⟨Z62⟩⟩
  case round =>
   clear H'
   try clear c2
   try clear c2b0
   try clear p2
   obtain ⟨x0_1, x3_1, rfl, rfl, HA, HK1, HB⟩ := hrel
   cases gk with
   | zero => exact absurd HA.out (by simp [laws_markText.l0])
   | succ k1 =>
    have H := HA.out
    clear HA
    simp only [laws_markText.l0] at H
    by_cases c3 : x0_1 > 0
    ·rw [if_pos c3] at H
     have c3b0 : decide (0 < x0_1) = true := decide_eq_true c3
     clear c3
     obtain ⟨y455, hy455⟩ : ∃ y_ : List Int, y_ = (([(wrap64 (48 + (Int.tmod x0_1 10))) % 256] : List Int)) := ⟨_, rfl⟩
     replace H : (if (strOfNums y455).size + x3_1.size ≤ 9223372036854775807 then (laws_markText.l0 k1 (wrap64 (Int.tdiv x0_1 10)) ((strOfNums y455) ++ x3_1)) else (none)) = some r := by first | (rw [hy455]; with_reducible exact H) | (have H2_ := (Option.bind_some _ _).symm.trans H; rw [hy455]; with_reducible exact H2_) | (have H2_ := (Option.bind_some _ _).symm.trans H; with_reducible exact H2_) | with_reducible exact H | (rw [hy455]; exact H) | exact H
     have Ny455 := Aside0.mk hy455
     clear hy455
     by_cases c4 : (strOfNums y455).size + x3_1.size ≤ 9223372036854775807
     ·rw [if_pos c4] at H
      have c4b0 := eq_true c4
      have c4b1 : decide ((strOfNums y455).size + x3_1.size ≤ 9223372036854775807) = true := decide_eq_true c4
      try have c4b2 : (9223372036854775807 < (strOfNums y455).size + x3_1.size) = False := eq_false (Nat.not_lt.2 c4)
      have H' := Aside0.mk H
      clear H
      go_wp2_with (first | ((with_reducible refine gate_dst (N := 12) rfl ?_); refine Kd.R_lit (Kd.int .u8) _ 5 (by rfl) (N := 12) (by rfl) (xs := ([(wrap64 (48 + (Int.tmod x0_1 10))) % 256] : List Int)) (inner := [.int .u8 ((wrap64 (48 + (Int.tmod x0_1 10))) % 256)]) (ok := fun _ => True) (okp := fun _ => True) Z10 (Reps.one (show Kd.M (Kd.int .u8) _ _ _ ((wrap64 (48 + (Int.tmod x0_1 10))) % 256) [.int .u8 ((wrap64 (48 + (Int.tmod x0_1 10))) % 256)] from rfl) (Reps.none _ _)) (fun _ hk => hk) trivial (Below.refl _ _) (Nat.le_refl _) (by simp) ?_; intro v456 w5 ho6 hb hg_ hnew_; clear hg_ hnew_; (first | rw [← Ny455.out] at ho6 | (simp only [Int.reduceToNat] at ho6; rw [← Ny455.out] at ho6)); have HO457 := Z (Kd.R_lower ho6 (below_size Z62)); replace HB := Z (below_step Z62 hb); clear hb ho6; have hcv7 := own_string (P := Try.prog) Try.underlying22 Try.underlying5 Try.underlying9 (Kd.own_of_R HO457.out); have hcw7 := fun nq_ : Nat => own_string (P := Try.prog) Try.underlying22 Try.underlying5 Try.underlying9 (Kd.own_of_R (Kd.R_drewN HO457.out nq_))))
      go_roundg k1
      case measure => have := HK1.out; omega
      case rel => exact ⟨(wrap64 (Int.tdiv x0_1 10)), ((strOfNums y455) ++ x3_1), Z2, Z2, H', ⟨Z6⟩, ⟨Z62⟩⟩
     ·rw [if_neg c4] at H
      exact absurd H (by simp)
    ·rw [if_neg c3] at H
     have c3b0 : decide (0 < x0_1) = false := decide_eq_false c3
     clear c3
     by_cases c8 : 1 + x3_1.size ≤ 9223372036854775807
     ·rw [if_pos c8] at H
      have c8b0 := eq_true c8
      have c8b1 : decide (1 + x3_1.size ≤ 9223372036854775807) = true := decide_eq_true c8
      try have c8b2 : (9223372036854775807 < 1 + x3_1.size) = False := eq_false (Nat.not_lt.2 c8)
      obtain rfl := Option.some.inj H
      go_wp2
      go_ret
      exact ⟨Z13, Z62⟩
     ·rw [if_neg c8] at H
      exact absurd H (by simp)

end Go.Proofs.Ytkkiibjnpkjijaa.QFnExactParseCells
