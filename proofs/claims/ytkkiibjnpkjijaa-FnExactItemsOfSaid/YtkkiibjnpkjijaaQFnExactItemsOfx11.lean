/-
Plain functions for the Go functions that a law reaches, each with a proof that the translation's call comes to just that; no conditions beyond those written in each.
-/
import Derived.Test.YtkkiibjnpkjijaaSFnExactItemsOf
import Derived.Test.YtkkiibjnpkjijaaQFnExactItemsOfx1
import Derived.Test.YtkkiibjnpkjijaaQFnExactItemsOfx10
namespace Go.Proofs.Ytkkiibjnpkjijaa.QFnExactItemsOf
open Go.RowKit Go.Proofs.YtkkiibjnpkjijaaW.PrintWords Go.Proofs.YtkkiibjnpkjijaaW.PrintLast Go.Proofs.YtkkiibjnpkjijaaW.PrintMore
attribute [local go_sem] max2_int min2_int max_two min_two max_three min_three max_four min_four   -- for this text's walks alone
set_option linter.unusedVariables false
set_option linter.unusedSimpArgs false

attribute [local go_sem high] eqA51
/-! ### spec_ParseCells: function 17 -/
mutual
def spec_ParseCells.l0 : Nat → List Int → List (S51) → Int → Option ((List (S51)))
 | 0, _, _, _ => none
 | k + 1, x0, x3, x4 => if x4 < (x0.length : Int) then ((spec_l04Item.f k x0 x4).bind fun bt325 => (if x3.length < 3518437208883 then (spec_ParseCells.l0 k x0 (x3 ++ [(⟨bt325.1, bt325.2.1, bt325.2.2.1, bt325.2.2.2.1, bt325.2.2.2.2.1⟩ : S51)]) (wrap64 (x4 + bt325.2.2.2.2.2))) else (none))) else (spec_ParseCells.l1 k x3)
def spec_ParseCells.l1 : Nat → List (S51) → Option ((List (S51)))
 | 0, _ => none
 | k + 1, x3 => if (x3.length : Int) > 0 then (if 0 ≤ (wrap64 ((x3.length : Int) - 1)) then (if (wrap64 ((x3.length : Int) - 1)) < (x3.length : Int) then (if (((rd_T51 x3 (wrap64 ((x3.length : Int) - 1))).f0) == 0 && ((((rd_T51 x3 (wrap64 ((x3.length : Int) - 1))).f1).toList) == ([] : List UInt8) && (((rd_T51 x3 (wrap64 ((x3.length : Int) - 1))).f2) == 0 && (!((rd_T51 x3 (wrap64 ((x3.length : Int) - 1))).f3) && (((rd_T51 x3 (wrap64 ((x3.length : Int) - 1))).f4) == 0))))) = true then (if (wrap64 ((x3.length : Int) - 1)) ≤ (x3.length : Int) then (spec_ParseCells.l1 k (x3.take ((wrap64 ((x3.length : Int) - 1)) : Int).toNat)) else (none)) else (some x3)) else (none)) else (none)) else (some x3)
end
def spec_ParseCells.f (k : Nat) (l0 : List Int) : Option ((List (S51))) := (some (([] : List (S51)) : List (S51))).bind fun y322 => (if (l0.length : Int) > 64 then (some y322) else (spec_ParseCells.l0 k l0 y322 0))
theorem spec_ParseCells.mono_l : ∀ k, (∀ y0 y1 y2, LeO (spec_ParseCells.l0 k y0 y1 y2) (spec_ParseCells.l0 (k + 1) y0 y1 y2)) ∧ (∀ y0, LeO (spec_ParseCells.l1 k y0) (spec_ParseCells.l1 (k + 1) y0))
 | 0 => ⟨fun _ _ _ r h => by simp [spec_ParseCells.l0] at h, fun _ r h => by simp [spec_ParseCells.l1] at h⟩
 | k + 1 => by
  obtain ⟨ih0, ih1⟩ := spec_ParseCells.mono_l k
  refine ⟨?_, ?_⟩
  ·intro y0 y1 y2
   unfold spec_ParseCells.l0
   repeat' first
   | (with_reducible exact ih0 _ _ _)
   | (with_reducible exact ih1 _)
   | (with_reducible exact spec_l04Item.mono _ _ _)
   | (with_reducible exact LeO.refl _)
   | (with_reducible exact LeO.none _)
   | (with_reducible refine LeO.ite ?_ ?_)
   | (with_reducible refine LeO.bind ?_ (fun _ => ?_))
   | exact ih0 _ _ _
   | exact ih1 _
   | exact spec_l04Item.mono _ _ _
   | exact LeO.none _
   | refine LeO.ite ?_ ?_
   | refine LeO.bind ?_ (fun _ => ?_)
  ·intro y0
   unfold spec_ParseCells.l1
   repeat' first
   | (with_reducible exact ih0 _ _ _)
   | (with_reducible exact ih1 _)
   | (with_reducible exact spec_l04Item.mono _ _ _)
   | (with_reducible exact LeO.refl _)
   | (with_reducible exact LeO.none _)
   | (with_reducible refine LeO.ite ?_ ?_)
   | (with_reducible refine LeO.bind ?_ (fun _ => ?_))
   | exact ih0 _ _ _
   | exact ih1 _
   | exact spec_l04Item.mono _ _ _
   | exact LeO.none _
   | refine LeO.ite ?_ ?_
   | refine LeO.bind ?_ (fun _ => ?_)
theorem spec_ParseCells.mono : ∀ a0 k, LeO (spec_ParseCells.f k a0) (spec_ParseCells.f (k + 1) a0) := by
 intro a0 k
 obtain ⟨ih0, ih1⟩ := spec_ParseCells.mono_l k
 unfold spec_ParseCells.f
 repeat' first
   | (with_reducible exact ih0 _ _ _)
   | (with_reducible exact ih1 _)
   | (with_reducible exact spec_l04Item.mono _ _ _)
   | (with_reducible exact LeO.refl _)
   | (with_reducible exact LeO.none _)
   | (with_reducible refine LeO.ite ?_ ?_)
   | (with_reducible refine LeO.bind ?_ (fun _ => ?_))
   | exact ih0 _ _ _
   | exact ih1 _
   | exact spec_l04Item.mono _ _ _
   | exact LeO.none _
   | refine LeO.ite ?_ ?_
   | refine LeO.bind ?_ (fun _ => ?_)
set_option maxHeartbeats 8000000 in
set_option maxRecDepth 100000 in
theorem spec_ParseCells.calls (k : Nat) (A0 : Option Addr) (c0 : Nat) (l0 : List Int) (r : List (S51)) (w : World) (hr0 : Kd.C (Kd.int .u32) w A0 l0.length l0) (hc0 : l0.length ≤ c0) (h : spec_ParseCells.f k l0 = some r) :
  Calls Try.prog 17 #[.slice A0 l0.length c0] w fun e w' => ∃ v0_ : Value, e = .returned (v0_) ∧ Kd.R k51 51 w' w.heap.size (fun _ => True) v0_ r ∧ Below w.heap.size w w' := by
 have hu51 := Try.underlying51
 have HR0 := Aside0.mk hr0
 have HC0 := Aside0.mk hc0
 clear hr0 hc0
 have HB := Z (Below.refl w.heap.size w)
 have H : ((some (([] : List (S51)) : List (S51))).bind fun y322 => (if (l0.length : Int) > 64 then (some y322) else (spec_ParseCells.l0 k l0 y322 0))) = some r := h
 clear h
 obtain ⟨y322, hy322⟩ : ∃ y_ : List (S51), y_ = (([] : List (S51))) := ⟨_, rfl⟩
 replace H : (if (l0.length : Int) > 64 then (some y322) else (spec_ParseCells.l0 k l0 y322 0)) = some r := by first | (rw [hy322]; with_reducible exact H) | (have H2_ := (Option.bind_some _ _).symm.trans H; rw [hy322]; with_reducible exact H2_) | (have H2_ := (Option.bind_some _ _).symm.trans H; with_reducible exact H2_) | with_reducible exact H | (rw [hy322]; exact H) | exact H
 have Ny322 := Aside0.mk hy322
 clear hy322
 by_cases c2 : (l0.length : Int) > 64
 ·rw [if_pos c2] at H
  have c2b0 : decide (64 < (l0.length : Int)) = true := decide_eq_true c2
  have c2b1 : decide (64 < l0.length) = true := decide_eq_true (by omega)
  clear c2
  obtain rfl := Option.some.inj H
  go_enter Try.func17, Try.ntmps17
  go_wp2_with (first | ((with_reducible refine gate_dst (N := 7) rfl ?_); (try (refine gate_guard (by rfl) ?_; dsimp only)); refine Kd.R_lit k51 _ 51 (by rfl) (N := 7) (by rfl) (xs := ([] : List (S51))) (inner := []) (ok := fun _ => True) (okp := fun _ => True) Z8 (Reps.none _ _) (fun _ hk => hk) trivial (Below.refl _ _) (Nat.le_refl _) (by simp) ?_; intro v323 w3 ho4 hb hg_ hnew_; clear hg_ hnew_; (first | rw [← Ny322.out] at ho4 | (simp only [Int.reduceToNat] at ho4; rw [← Ny322.out] at ho4)); have HO324 := Z (Kd.R_lower ho4 (below_size Z68)); replace HB := Z (below_step Z68 hb); clear hb ho4))
  go_ret
  exact ⟨_, Z13, (Z14 HO324), Z68⟩
 ·rw [if_neg c2] at H
  have c2b0 : decide (64 < (l0.length : Int)) = false := decide_eq_false c2
  have c2b1 : decide (64 < l0.length) = false := decide_eq_false (by omega)
  clear c2
  have H' := Aside0.mk H
  clear H
  go_enter Try.func17, Try.ntmps17
  go_wp2_with (first | ((with_reducible refine gate_dst (N := 7) rfl ?_); (try (refine gate_guard (by rfl) ?_; dsimp only)); refine Kd.R_lit k51 _ 51 (by rfl) (N := 7) (by rfl) (xs := ([] : List (S51))) (inner := []) (ok := fun _ => True) (okp := fun _ => True) Z8 (Reps.none _ _) (fun _ hk => hk) trivial (Below.refl _ _) (Nat.le_refl _) (by simp) ?_; intro v323 w5 ho6 hb hg_ hnew_; clear hg_ hnew_; (first | rw [← Ny322.out] at ho6 | (simp only [Int.reduceToNat] at ho6; rw [← Ny322.out] at ho6)); have HO324 := Z (Kd.R_lower ho6 (below_size Z68)); replace HB := Z (below_step Z68 hb); clear hb ho6))
  go_loopg [3, 4] k (fun kq v3 v4 w' => ∃ (x3_1 : List (S51)) (x4_1 : Int), v4 = .int .i64 x4_1 ∧ Aside0 (spec_ParseCells.l0 kq l0 x3_1 x4_1 = some r) ∧ Aside0 (kq ≤ k) ∧ Aside0 (Kd.R k51 51 w' w.heap.size (fun _ => True) v3 x3_1) ∧ Aside0 (Below w.heap.size w w'))
  case atStart => exact ⟨(y322), (0), Z3, H', ⟨Nat.le_refl _⟩, ⟨(Z14 HO324)⟩, ⟨Z68⟩⟩
  case round =>
   clear H'
   try clear c1
   try clear c2
   try clear c2b0
   try clear c2b1
   try clear p2
   obtain ⟨x3_1, x4_1, rfl, HA, HK1, HO_3, HB⟩ := hrel
   cases gk with
   | zero => exact absurd HA.out (by simp [spec_ParseCells.l0])
   | succ k1 =>
    have H := HA.out
    clear HA
    simp only [spec_ParseCells.l0] at H
    by_cases c7 : x4_1 < (l0.length : Int)
    ·rw [if_pos c7] at H
     have c7b0 : decide (x4_1 < (l0.length : Int)) = true := decide_eq_true c7
     clear c7
     replace H := Option.bind_eq_some_iff.mp H
     obtain ⟨⟨t325, t326, t327, t328, t329, t330⟩, A80, H⟩ := H
     replace H : (if x3_1.length < 3518437208883 then (spec_ParseCells.l0 k1 l0 (x3_1 ++ [(⟨t325, t326, t327, t328, t329⟩ : S51)]) (wrap64 (x4_1 + t330))) else (none)) = some r := H
     have A8 := Aside0.mk A80
     clear A80
     by_cases c9 : x3_1.length < 3518437208883
     ·rw [if_pos c9] at H
      have LMc9 := Aside0.mk c9
      clear c9
      obtain ⟨y332, hy332⟩ : ∃ y_ : List (S51), y_ = (x3_1 ++ [(⟨t325, t326, t327, t328, t329⟩ : S51)]) := ⟨_, rfl⟩
      replace H : (spec_ParseCells.l0 k1 l0 y332 (wrap64 (x4_1 + t330))) = some r := by first | (rw [hy332]; with_reducible exact H) | (have H2_ := (Option.bind_some _ _).symm.trans H; rw [hy332]; with_reducible exact H2_) | (have H2_ := (Option.bind_some _ _).symm.trans H; with_reducible exact H2_) | with_reducible exact H | (rw [hy332]; exact H) | exact H
      have Ny332 := Aside0.mk hy332
      clear hy332
      have H' := Aside0.mk H
      clear H
      go_wp2_with (first | ((with_reducible refine gate_callee (f := 60) rfl ?_); refine goesL_ (some 19) rfl rfl Try.func60 Z0 rfl #[.slice A0 l0.length c0, .int .i64 x4_1] rfl Z11 ?_; (with_reducible refine (spec_l04Item.calls k1 _ _ l0 x4_1 t325 t326 t327 t328 t329 t330 _ ?side1 ?side2 A8.out).mono ?_); (case side1 => exact (Z12 HR0)); (case side2 => exact HC0.out); rintro e w10 ⟨rfl, hb⟩; refine ⟨_, rfl, ?_⟩; replace HO_3 := Z (Kd.R_below (Z14 HO_3) hb); replace HB := Z (below_step Z68 hb); (try clear hb); (try clear hb2); (try clear hk); (try clear hi)) | ((with_reducible refine gate_dst (N := 5) rfl ?_); (try (refine gate_guard (by rfl) ?_; dsimp only)); refine box_event (by rfl) (N := 5) (by rfl) (cs := #[.int .i64 0, .string (⟨#[]⟩ : ByteArray), .int .i32 0, .bool false, .int .u32 0]) (t := 51) Z8 ?_; intro gb331 hg w11 hbox hb; replace HO_3 := Z (Kd.R_below (Kd.R_elderB (Z14 HO_3) gb331 (Nat.le_of_eq hg.symm)) hb); have BK331 := Z (hbox); have GW331 := Z ((Z85 : w.heap.size ≤ gb331)); have GE331 := Z ((Z85 : w.heap.size ≤ gb331)); replace HB := Z (below_step Z68 hb); clear hb hbox hg; have hcz12_0 : w11.cell? ⟨gb331, 0, none⟩ = some (.int .i64 0) := (blk_cell BK331.out 0).trans rfl; have hcz12_1 : w11.cell? ⟨gb331, 1, none⟩ = some (.string (⟨#[]⟩ : ByteArray)) := (blk_cell BK331.out 1).trans rfl; have hcz12_2 : w11.cell? ⟨gb331, 2, none⟩ = some (.int .i32 0) := (blk_cell BK331.out 2).trans rfl; have hcz12_3 : w11.cell? ⟨gb331, 3, none⟩ = some (.bool false) := (blk_cell BK331.out 3).trans rfl; have hcz12_4 : w11.cell? ⟨gb331, 4, none⟩ = some (.int .u32 0) := (blk_cell BK331.out 4).trans rfl; have hfz12_0 := blk_frozen BK331.out 0; have hfz12_1 := blk_frozen BK331.out 1; have hfz12_2 := blk_frozen BK331.out 2; have hfz12_3 := blk_frozen BK331.out 3; have hfz12_4 := blk_frozen BK331.out 4) | ((with_reducible refine gate_builtin (b := .append) (xs := #[.tmp 22, .tmp 24]) rfl ?_); (try (refine gate_guard (by rfl) ?_; dsimp only)); at_builtin; refine Kd.R_append k51 (w0 := w) w.heap.size rfl (.tmp 22) (.tmp 24) 26 51 (.agg #[(.int .i64 0), (.string ⟨#[]⟩), (.int .i32 0), (.bool false), (.int .u32 0)]) 40 rfl Try.underlying26 info51 rfl (by decide) (by omega) u3 x3_1 (⟨t325, t326, t327, t328, t329⟩ : S51) [.int .i64 t325, .string t326, .int .i32 t327, .bool t328, .int .u32 t329] (fun k_ => k_ ≠ gb331) (fun _ => False) rfl Z8 ?aP (fun _ hk => hk.elim) ?aF ?aO ?aB ?aS ?aL ?_; (case aP => exact k51_mkM _ _ _ (⟨t325, t326, t327, t328, t329⟩ : S51)); (case aB => exact Z68); (case aF => exact (fun k_ hk => Kd.freshB (g := gb331) (o := .cells #[.int .i64 t325, .string t326, .int .i32 t327, .bool t328, .int .u32 t329] 51 (0, 0)) (Z43 BK331) k_ hk)); (case aO => exact (by (with_reducible repeat (first | apply Kd.R_alloc | apply Kd.R_drewN | apply Kd.R_drew)); exact Kd.R_mono (Kd.R_far (p := ⟨gb331, 4, none⟩) (Kd.R_far (p := ⟨gb331, 3, none⟩) (Kd.R_far (p := ⟨gb331, 2, none⟩) (Kd.R_far (p := ⟨gb331, 1, none⟩) (Kd.R_far (p := ⟨gb331, 0, none⟩) (Kd.R_mono HO_3.out (fun k_ hk => (⟨hk, hk.2⟩ : _ ∧ k_ ≠ gb331))) (fun _ hk => hk.2) (.int .i64 t325)) (fun _ hk => hk.2) (.string t326)) (fun _ hk => hk.2) (.int .i32 t327)) (fun _ hk => hk.2) (.bool t328)) (fun _ hk => hk.2) (.int .u32 t329)) (fun _ hk => hk.1.2))); (case aS => exact (below_size Z68)); (case aL => have := LMc9.out; omega); intro v333 w13 ho hb hg hat; rw [← Ny332.out] at ho; replace BK331 := Z (blk_grown (g := gb331) (o := .cells #[.int .i64 t325, .string t326, .int .i32 t327, .bool t328, .int .u32 t329] 51 (0, 0)) (Z43 BK331) hg (Kd.R_away HO_3.out (fun _ hk => hk.2))); replace HB := Z (hb); have HO334 := Z (ho); clear HO_3; clear ho hb hg hat))
      go_roundg k1
      case measure => have := HK1.out; omega
      case rel => exact ⟨(y332), (wrap64 (x4_1 + t330)), Z3, H', ⟨Z6⟩, ⟨(Z25 HO334)⟩, ⟨Z68⟩⟩
     ·rw [if_neg c9] at H
      exact absurd H (by simp)
    ·rw [if_neg c7] at H
     have c7b0 : decide (x4_1 < (l0.length : Int)) = false := decide_eq_false c7
     clear c7
     have H' := Aside0.mk H
     clear H
     go_wp2
     go_loopg [3] k1 (fun kq v3 w' => ∃ (x3_2 : List (S51)), Aside0 (spec_ParseCells.l1 kq x3_2 = some r) ∧ Aside0 (kq ≤ k1) ∧ Aside0 (Kd.R k51 51 w' w.heap.size (fun _ => True) v3 x3_2) ∧ Aside0 (Below w.heap.size w w'))
     case atStart => exact ⟨(x3_1), H', ⟨Nat.le_refl _⟩, ⟨(Z14 HO_3)⟩, ⟨Z68⟩⟩
     case round =>
      clear H'
      try clear c1
      try clear c2
      try clear c2b0
      try clear c2b1
      try clear p2
      try clear c6
      try clear p6
      try clear c7
      try clear c7b0
      try clear c9
      try clear hcz12_0
      try clear hcz12_1
      try clear hcz12_2
      try clear hcz12_3
      try clear hcz12_4
      try clear hfz12_0
      try clear hfz12_1
      try clear hfz12_2
      try clear hfz12_3
      try clear hfz12_4
      try clear p2
      obtain ⟨x3_2, HA, HK2, HO_3, HB⟩ := hrel
      cases gk with
      | zero => exact absurd HA.out (by simp [spec_ParseCells.l1])
      | succ k2 =>
       have H := HA.out
       clear HA
       simp only [spec_ParseCells.l1] at H
       by_cases c14 : (x3_2.length : Int) > 0
       ·rw [if_pos c14] at H
        have c14b0 : decide (0 < (x3_2.length : Int)) = true := decide_eq_true c14
        have c14b1 : decide (0 < x3_2.length) = true := decide_eq_true (by omega)
        clear c14
        obtain ⟨ji15, hji15⟩ : ∃ j_ : Int, (wrap64 ((x3_2.length : Int) - 1)) = j_ := ⟨_, rfl⟩
        replace H : (if 0 ≤ (ji15) then (if (ji15) < (x3_2.length : Int) then (if (((rd_T51 x3_2 (ji15)).f0) == 0 && ((((rd_T51 x3_2 (ji15)).f1).toList) == ([] : List UInt8) && (((rd_T51 x3_2 (ji15)).f2) == 0 && (!((rd_T51 x3_2 (ji15)).f3) && (((rd_T51 x3_2 (ji15)).f4) == 0))))) = true then (if (ji15) ≤ (x3_2.length : Int) then (spec_ParseCells.l1 k2 (x3_2.take ((ji15) : Int).toNat)) else (none)) else (some x3_2)) else (none)) else (none)) = some r := Z44
        have hji15w : (IntKind.i64.wrap ((x3_2.length : Int) - 1)) = ji15 := (i64_w _).trans hji15
        by_cases c16 : 0 ≤ (ji15)
        ·rw [if_pos c16] at H
         have c16b0 : decide (0 ≤ (ji15)) = true := decide_eq_true c16
         clear c16
         by_cases c17 : (ji15) < (x3_2.length : Int)
         ·rw [if_pos c17] at H
          have c17b0 : decide ((ji15) < (x3_2.length : Int)) = true := decide_eq_true c17
          clear c17
          by_cases c18 : (((rd_T51 x3_2 (ji15)).f0) == 0 && ((((rd_T51 x3_2 (ji15)).f1).toList) == ([] : List UInt8) && (((rd_T51 x3_2 (ji15)).f2) == 0 && (!((rd_T51 x3_2 (ji15)).f3) && (((rd_T51 x3_2 (ji15)).f4) == 0))))) = true
          ·rw [if_pos c18] at H
           have c18b0 : (((rd_T51 x3_2 (ji15)).f0) == 0 && ((((rd_T51 x3_2 (ji15)).f1).toList) == ([] : List UInt8) && (((rd_T51 x3_2 (ji15)).f2) == 0 && (!((rd_T51 x3_2 (ji15)).f3) && (((rd_T51 x3_2 (ji15)).f4) == 0))))) = true := c18
           (try (have c18b1 : (((rd_T51 x3_2 (ji15)).f0) == 0 && ((((rd_T51 x3_2 (ji15)).f1).toList).isEmpty && (((rd_T51 x3_2 (ji15)).f2) == 0 && (!((rd_T51 x3_2 (ji15)).f3) && (((rd_T51 x3_2 (ji15)).f4) == 0))))) = true := by have h_ : (((rd_T51 x3_2 (ji15)).f0) == 0 && ((((rd_T51 x3_2 (ji15)).f1).toList) == ([] : List UInt8) && (((rd_T51 x3_2 (ji15)).f2) == 0 && (!((rd_T51 x3_2 (ji15)).f3) && (((rd_T51 x3_2 (ji15)).f4) == 0))))) = true := c18; simpa only [List.beq_nil_eq] using h_))
           (try (have c18b2 : decide (((rd_T51 x3_2 (ji15)).f0) = 0 && ((((rd_T51 x3_2 (ji15)).f1).toList) == ([] : List UInt8) && (((rd_T51 x3_2 (ji15)).f2) == 0 && (!((rd_T51 x3_2 (ji15)).f3) && (((rd_T51 x3_2 (ji15)).f4) == 0))))) = true := Z45))
           (try (have c18b3 : (((rd_T51 x3_2 (ji15)).f0) == 0 && ((((rd_T51 x3_2 (ji15)).f1).toList) == ([] : List UInt8) && (((rd_T51 x3_2 (ji15)).f2) == 0 && (!((rd_T51 x3_2 (ji15)).f3) && (((rd_T51 x3_2 (ji15)).f4) == 0))))) = true := Z45))
           clear c18
           by_cases c19 : (ji15) ≤ (x3_2.length : Int)
           ·rw [if_pos c19] at H
            have c19b0 := eq_true c19
            have c19b1 : decide ((ji15) ≤ (x3_2.length : Int)) = true := decide_eq_true c19
            clear c19
            obtain ⟨y336, hy336⟩ : ∃ y_ : List (S51), y_ = (x3_2.take ((ji15) : Int).toNat) := ⟨_, rfl⟩
            replace H : (spec_ParseCells.l1 k2 y336) = some r := by first | (rw [hy336]; with_reducible exact H) | (have H2_ := (Option.bind_some _ _).symm.trans H; rw [hy336]; with_reducible exact H2_) | (have H2_ := (Option.bind_some _ _).symm.trans H; with_reducible exact H2_) | with_reducible exact H | (rw [hy336]; exact H) | exact H
            have Ny336 := Aside0.mk hy336
            clear hy336
            have H' := Aside0.mk H
            clear H
            obtain ⟨Ao20, co20, eo20⟩ := Kd.R_slice HO_3.out
            subst eo20
            have p335 : 0 ≤ ((ji15) : Int) := of_decide_eq_true Z5
            have q335 : (ji15) < (x3_2.length : Int) := of_decide_eq_true Z5
            obtain ⟨ad335, e335, hx335_0, hx335_1, hx335_2, hx335_3, hx335_4⟩ := at_T51 (Kd.R_reads' HO_3.out).2.2 (ji15) p335 q335
            cases e335
            replace p335 := eq_true p335
            replace q335 := eq_true q335
            (try clear hcut20)
            have q21 : ((ji15) : Int) ≤ ((x3_2.length : Int) : Int) := of_decide_eq_true Z5
            obtain ⟨i021, hi021, _, hsz21, _⟩ := info_parts info51
            have hcut21 := cut_to (P := Try.prog) 26 51 .i64 Try.underlying26 hi021 (some ad335) x3_2.length co20 (ji15) (of_decide_eq_true Z5) q21 (Kd.R_reads' HO_3.out).2.1
            have hr21 := Kd.R_take (m := ((ji15) : Int).toNat) HO_3.out (by omega)
            have hy21 : y336.length = ((ji15) : Int).toNat := (by rw [Ny336.out, List.length_take]; omega)
            rw [← Ny336.out] at hr21
            rw [← hy21] at hr21 hcut21
            clear hy21 hi021 hsz21 HO_3
            have HO338 := Aside0.mk hr21
            clear hr21
            replace q21 := eq_true q21
            go_wp2
            go_roundg k2
            case measure => have := HK1.out; have := HK2.out; omega
            case rel => exact ⟨(y336), H', ⟨by have := HK1.out; have := HK2.out; omega⟩, ⟨(Z14 HO338)⟩, ⟨Z68⟩⟩
           ·rw [if_neg c19] at H
            exact absurd H (by simp)
          ·rw [if_neg c18] at H
           have c18b0 : (((rd_T51 x3_2 (ji15)).f0) == 0 && ((((rd_T51 x3_2 (ji15)).f1).toList) == ([] : List UInt8) && (((rd_T51 x3_2 (ji15)).f2) == 0 && (!((rd_T51 x3_2 (ji15)).f3) && (((rd_T51 x3_2 (ji15)).f4) == 0))))) = false := Z45
           (try (have c18b1 : (((rd_T51 x3_2 (ji15)).f0) == 0 && ((((rd_T51 x3_2 (ji15)).f1).toList).isEmpty && (((rd_T51 x3_2 (ji15)).f2) == 0 && (!((rd_T51 x3_2 (ji15)).f3) && (((rd_T51 x3_2 (ji15)).f4) == 0))))) = false := by have h_ : (((rd_T51 x3_2 (ji15)).f0) == 0 && ((((rd_T51 x3_2 (ji15)).f1).toList) == ([] : List UInt8) && (((rd_T51 x3_2 (ji15)).f2) == 0 && (!((rd_T51 x3_2 (ji15)).f3) && (((rd_T51 x3_2 (ji15)).f4) == 0))))) = false := Z45; simpa only [List.beq_nil_eq] using h_))
           (try (have c18b2 : decide (((rd_T51 x3_2 (ji15)).f0) = 0 && ((((rd_T51 x3_2 (ji15)).f1).toList) == ([] : List UInt8) && (((rd_T51 x3_2 (ji15)).f2) == 0 && (!((rd_T51 x3_2 (ji15)).f3) && (((rd_T51 x3_2 (ji15)).f4) == 0))))) = false := Z45))
           (try (have c18b3 : (((rd_T51 x3_2 (ji15)).f0) == 0 && ((((rd_T51 x3_2 (ji15)).f1).toList) == ([] : List UInt8) && (((rd_T51 x3_2 (ji15)).f2) == 0 && (!((rd_T51 x3_2 (ji15)).f3) && (((rd_T51 x3_2 (ji15)).f4) == 0))))) = false := Z45))
           (try (have c18b4 : ¬ (((rd_T51 x3_2 (ji15)).f0) = 0 && ((((rd_T51 x3_2 (ji15)).f1).toList) == ([] : List UInt8) && (((rd_T51 x3_2 (ji15)).f2) == 0 && (!((rd_T51 x3_2 (ji15)).f3) && (((rd_T51 x3_2 (ji15)).f4) == 0))))) := Z45))
           clear c18
           obtain rfl := Option.some.inj H
           obtain ⟨Ao22, co22, eo22⟩ := Kd.R_slice HO_3.out
           subst eo22
           have p335 : 0 ≤ ((ji15) : Int) := of_decide_eq_true Z5
           have q335 : (ji15) < (x3_2.length : Int) := of_decide_eq_true Z5
           obtain ⟨ad335, e335, hx335_0, hx335_1, hx335_2, hx335_3, hx335_4⟩ := at_T51 (Kd.R_reads' HO_3.out).2.2 (ji15) p335 q335
           cases e335
           replace p335 := eq_true p335
           replace q335 := eq_true q335
           go_wp2
           go_ret
           exact ⟨_, by first | rfl | (simp [errW_none, errW_some] <;> rfl) | (simp only [← hji15]; first | rfl | (simp [errW_none, errW_some] <;> rfl)) | (simp [*, errW_none, errW_some] <;> rfl), (Z14 HO_3), Z68⟩
         ·rw [if_neg c17] at H
          exact absurd H (by simp)
        ·rw [if_neg c16] at H
         exact absurd H (by simp)
       ·rw [if_neg c14] at H
        have c14b0 : decide (0 < (x3_2.length : Int)) = false := decide_eq_false c14
        have c14b1 : decide (0 < x3_2.length) = false := decide_eq_false (by omega)
        clear c14
        obtain rfl := Option.some.inj H
        obtain ⟨Ao23, co23, eo23⟩ := Kd.R_slice HO_3.out
        subst eo23
        go_wp2
        go_ret
        exact ⟨_, Z13, (Z14 HO_3), Z68⟩

/-! ### spec_StoreOk: function 104 -/
def spec_StoreOk.f (l0_0 : List Int) : Option (Bool) := if ((l0_0.length : Int) % 64) = 0 then (some (decide ((l0_0.length : Int) ≤ 768))) else (some false)
set_option maxHeartbeats 8000000 in
set_option maxRecDepth 100000 in
theorem spec_StoreOk.calls (A0_0 : Option Addr) (c0_0 : Nat) (l0_0 : List Int) (r : Bool) (w : World) (hr0_0 : Kd.C (Kd.int .u32) w A0_0 l0_0.length l0_0) (hc0_0 : l0_0.length ≤ c0_0) (h : spec_StoreOk.f l0_0 = some r) :
  Calls Try.prog 104 #[.agg #[.slice A0_0 l0_0.length c0_0]] w fun e w' => e = .returned (.bool r) ∧ Below w.heap.size w w' := by
 have hu34 := Try.underlying34
 have HR0_0 := Aside0.mk hr0_0
 have HC0_0 := Aside0.mk hc0_0
 clear hr0_0 hc0_0
 have HB := Z (Below.refl w.heap.size w)
 have H : (if ((l0_0.length : Int) % 64) = 0 then (some (decide ((l0_0.length : Int) ≤ 768))) else (some false)) = some r := h
 clear h
 by_cases c2 : ((l0_0.length : Int) % 64) = 0
 ·rw [if_pos c2] at H
  have c2b0 : (((l0_0.length : Int) % 64) == 0) = true := beq_iff_eq.mpr c2
  have c2b1 : (((l0_0.length : Int) % 64) != 0) = false := bne_eq_false_iff_eq.mpr c2
  clear c2
  obtain rfl := Option.some.inj H
  go_enter Try.func104, Try.ntmps104
  go_wp2_with (first | ((with_reducible refine gate_dst (N := 1) rfl ?_); (try (refine gate_guard (by rfl) ?_; dsimp only)); refine box_event (by rfl) (N := 1) (by rfl) (cs := #[.slice A0_0 l0_0.length c0_0]) (t := 34) Z8 ?_; intro gb339 hg w3 hbox hb; have BK339 := Z (hbox); have GW339 := Z ((Z85 : w.heap.size ≤ gb339)); have GE339 := Z ((Z85 : w.heap.size ≤ gb339)); replace HB := Z (below_step Z68 hb); clear hb hbox hg; have hcz4_0 : w3.cell? ⟨gb339, 0, none⟩ = some (.slice A0_0 l0_0.length c0_0) := (blk_cell BK339.out 0).trans rfl; have hfz4_0 := blk_frozen BK339.out 0))
  go_ret
  exact ⟨Z13, Z68⟩
 ·rw [if_neg c2] at H
  have c2b0 : (((l0_0.length : Int) % 64) == 0) = false := beq_eq_false_iff_ne.mpr c2
  have c2b1 : (((l0_0.length : Int) % 64) != 0) = true := bne_iff_ne.mpr c2
  obtain rfl := Option.some.inj H
  go_enter Try.func104, Try.ntmps104
  go_wp2_with (first | ((with_reducible refine gate_dst (N := 1) rfl ?_); (try (refine gate_guard (by rfl) ?_; dsimp only)); refine box_event (by rfl) (N := 1) (by rfl) (cs := #[.slice A0_0 l0_0.length c0_0]) (t := 34) Z8 ?_; intro gb339 hg w5 hbox hb; have BK339 := Z (hbox); have GW339 := Z ((Z85 : w.heap.size ≤ gb339)); have GE339 := Z ((Z85 : w.heap.size ≤ gb339)); replace HB := Z (below_step Z68 hb); clear hb hbox hg; have hcz6_0 : w5.cell? ⟨gb339, 0, none⟩ = some (.slice A0_0 l0_0.length c0_0) := (blk_cell BK339.out 0).trans rfl; have hfz6_0 := blk_frozen BK339.out 0))
  go_ret
  exact ⟨Z13, Z68⟩

/-! ### spec_l05Has: function 76 -/
def spec_l05Has.f (l0_0 : List Int) (a1 : Int) : Option (Bool) := (spec_StoreOk.f l0_0).bind fun t341 => (if t341 = true then (if a1 ≥ 0 then (some (decide (a1 < (wrap64 ((l0_0.length : Int) / 64))))) else (some false)) else (some false))
set_option maxHeartbeats 8000000 in
set_option maxRecDepth 100000 in
theorem spec_l05Has.calls (A0_0 : Option Addr) (c0_0 : Nat) (l0_0 : List Int) (a1 : Int) (r : Bool) (w : World) (hr0_0 : Kd.C (Kd.int .u32) w A0_0 l0_0.length l0_0) (hc0_0 : l0_0.length ≤ c0_0) (h : spec_l05Has.f l0_0 a1 = some r) :
  Calls Try.prog 76 #[.agg #[.slice A0_0 l0_0.length c0_0], .int .i64 a1] w fun e w' => e = .returned (.bool r) ∧ Below w.heap.size w w' := by
 have hu34 := Try.underlying34
 have HR0_0 := Aside0.mk hr0_0
 have HC0_0 := Aside0.mk hc0_0
 clear hr0_0 hc0_0
 have HB := Z (Below.refl w.heap.size w)
 have H : ((spec_StoreOk.f l0_0).bind fun t341 => (if t341 = true then (if a1 ≥ 0 then (some (decide (a1 < (wrap64 ((l0_0.length : Int) / 64))))) else (some false)) else (some false))) = some r := h
 clear h
 replace H := Option.bind_eq_some_iff.mp H
 obtain ⟨t341, A30, H⟩ := H
 replace H : (if t341 = true then (if a1 ≥ 0 then (some (decide (a1 < (wrap64 ((l0_0.length : Int) / 64))))) else (some false)) else (some false)) = some r := H
 have A3 := Aside0.mk A30
 clear A30
 by_cases c4 : t341 = true
 ·subst c4
  have H1 : (if a1 ≥ 0 then (some (decide (a1 < (wrap64 ((l0_0.length : Int) / 64))))) else (some false)) = some r := Z7
  clear H
  have H := H1
  clear H1
  by_cases c5 : a1 ≥ 0
  ·rw [if_pos c5] at H
   have c5b0 : decide (0 ≤ a1) = true := decide_eq_true c5
   clear c5
   obtain rfl := Option.some.inj H
   go_enter Try.func76, Try.ntmps76
   go_wp2_with (first | ((with_reducible refine gate_dst (N := 2) rfl ?_); (try (refine gate_guard (by rfl) ?_; dsimp only)); refine box_event (by rfl) (N := 2) (by rfl) (cs := #[.slice A0_0 l0_0.length c0_0]) (t := 34) Z8 ?_; intro gb340 hg w6 hbox hb; have BK340 := Z (hbox); have GW340 := Z ((Z85 : w.heap.size ≤ gb340)); have GE340 := Z ((Z85 : w.heap.size ≤ gb340)); replace HB := Z (below_step Z68 hb); clear hb hbox hg; have hcz7_0 : w6.cell? ⟨gb340, 0, none⟩ = some (.slice A0_0 l0_0.length c0_0) := (blk_cell BK340.out 0).trans rfl; have hfz7_0 := blk_frozen BK340.out 0) | ((with_reducible refine gate_callee (f := 104) rfl ?_); refine goesL_ (some 6) rfl rfl Try.func104 Z0 rfl #[.agg #[.slice A0_0 l0_0.length c0_0]] rfl Z11 ?_; (with_reducible refine (spec_StoreOk.calls _ _ l0_0 true _ ?side1 ?side2 A3.out).mono ?_); (case side1 => exact (Z12 HR0_0)); (case side2 => exact HC0_0.out); rintro e w8 ⟨rfl, hb⟩; refine ⟨_, rfl, ?_⟩; replace BK340 := Z (blk_below (g := gb340) (o := .cells #[.slice A0_0 l0_0.length c0_0] 34 (0, 0)) (Z10 BK340) hb); replace HB := Z (below_step Z68 hb); (try clear hb); (try clear hb2); (try clear hk); (try clear hi); have hcz9_0 : w8.cell? ⟨gb340, 0, none⟩ = some (.slice A0_0 l0_0.length c0_0) := (blk_cell BK340.out 0).trans rfl; have hfz9_0 := blk_frozen BK340.out 0))
   go_ret
   exact ⟨Z13, Z68⟩
  ·rw [if_neg c5] at H
   have c5b0 : decide (0 ≤ a1) = false := decide_eq_false c5
   clear c5
   obtain rfl := Option.some.inj H
   go_enter Try.func76, Try.ntmps76
   go_wp2_with (first | ((with_reducible refine gate_dst (N := 2) rfl ?_); (try (refine gate_guard (by rfl) ?_; dsimp only)); refine box_event (by rfl) (N := 2) (by rfl) (cs := #[.slice A0_0 l0_0.length c0_0]) (t := 34) Z8 ?_; intro gb340 hg w10 hbox hb; have BK340 := Z (hbox); have GW340 := Z ((Z85 : w.heap.size ≤ gb340)); have GE340 := Z ((Z85 : w.heap.size ≤ gb340)); replace HB := Z (below_step Z68 hb); clear hb hbox hg; have hcz11_0 : w10.cell? ⟨gb340, 0, none⟩ = some (.slice A0_0 l0_0.length c0_0) := (blk_cell BK340.out 0).trans rfl; have hfz11_0 := blk_frozen BK340.out 0) | ((with_reducible refine gate_callee (f := 104) rfl ?_); refine goesL_ (some 6) rfl rfl Try.func104 Z0 rfl #[.agg #[.slice A0_0 l0_0.length c0_0]] rfl Z11 ?_; (with_reducible refine (spec_StoreOk.calls _ _ l0_0 true _ ?side1 ?side2 A3.out).mono ?_); (case side1 => exact (Z12 HR0_0)); (case side2 => exact HC0_0.out); rintro e w12 ⟨rfl, hb⟩; refine ⟨_, rfl, ?_⟩; replace BK340 := Z (blk_below (g := gb340) (o := .cells #[.slice A0_0 l0_0.length c0_0] 34 (0, 0)) (Z10 BK340) hb); replace HB := Z (below_step Z68 hb); (try clear hb); (try clear hb2); (try clear hk); (try clear hi)))
   go_ret
   exact ⟨Z13, Z68⟩
 ·replace c4 := Bool.eq_false_iff.mpr c4
  subst c4
  have H1 : (some false) = some r := by rw [if_neg (show ¬ (false = true) by decide)] at H; exact H
  clear H
  have H := H1
  clear H1
  obtain rfl := Option.some.inj H
  go_enter Try.func76, Try.ntmps76
  go_wp2_with (first | ((with_reducible refine gate_dst (N := 2) rfl ?_); (try (refine gate_guard (by rfl) ?_; dsimp only)); refine box_event (by rfl) (N := 2) (by rfl) (cs := #[.slice A0_0 l0_0.length c0_0]) (t := 34) Z8 ?_; intro gb340 hg w13 hbox hb; have BK340 := Z (hbox); have GW340 := Z ((Z85 : w.heap.size ≤ gb340)); have GE340 := Z ((Z85 : w.heap.size ≤ gb340)); replace HB := Z (below_step Z68 hb); clear hb hbox hg; have hcz14_0 : w13.cell? ⟨gb340, 0, none⟩ = some (.slice A0_0 l0_0.length c0_0) := (blk_cell BK340.out 0).trans rfl; have hfz14_0 := blk_frozen BK340.out 0) | ((with_reducible refine gate_callee (f := 104) rfl ?_); refine goesL_ (some 6) rfl rfl Try.func104 Z0 rfl #[.agg #[.slice A0_0 l0_0.length c0_0]] rfl Z11 ?_; (with_reducible refine (spec_StoreOk.calls _ _ l0_0 false _ ?side1 ?side2 A3.out).mono ?_); (case side1 => exact (Z12 HR0_0)); (case side2 => exact HC0_0.out); rintro e w15 ⟨rfl, hb⟩; refine ⟨_, rfl, ?_⟩; replace BK340 := Z (blk_below (g := gb340) (o := .cells #[.slice A0_0 l0_0.length c0_0] 34 (0, 0)) (Z10 BK340) hb); replace HB := Z (below_step Z68 hb); (try clear hb); (try clear hb2); (try clear hk); (try clear hi)))
  go_ret
  exact ⟨Z13, Z68⟩

/-! ### spec_BlockOf: function 67 -/
def spec_BlockOf.f (l0_0 : List Int) (a1 : Int) : Option (List Int × Bool) := (spec_l05Has.f l0_0 a1).bind fun t343 => (if t343 = true then ((some (([] : List Int) : List Int)).bind fun y344 => (if 0 ≤ (wrap64 (a1 * 64)) then (if (wrap64 (a1 * 64)) ≤ (wrap64 ((wrap64 (a1 + 1)) * 64)) then (if (wrap64 ((wrap64 (a1 + 1)) * 64)) ≤ (l0_0.length : Int) then (if y344.length + ((l0_0.take ((wrap64 ((wrap64 (a1 + 1)) * 64)) : Int).toNat).drop ((wrap64 (a1 * 64)) : Int).toNat).length < 35184372088832 then (some ((y344 ++ ((l0_0.take ((wrap64 ((wrap64 (a1 + 1)) * 64)) : Int).toNat).drop ((wrap64 (a1 * 64)) : Int).toNat)), true)) else (none)) else (none)) else (none)) else (none))) else (some ((([] : List Int)), false)))
set_option maxHeartbeats 8000000 in
set_option maxRecDepth 100000 in
theorem spec_BlockOf.calls (A0_0 : Option Addr) (c0_0 : Nat) (l0_0 : List Int) (a1 : Int) (r1 : List Int) (r2 : Bool) (w : World) (hr0_0 : Kd.C (Kd.int .u32) w A0_0 l0_0.length l0_0) (hc0_0 : l0_0.length ≤ c0_0) (h : spec_BlockOf.f l0_0 a1 = some (r1, r2)) :
  Calls Try.prog 67 #[.agg #[.slice A0_0 l0_0.length c0_0], .int .i64 a1] w fun e w' => ∃ v0_ : Value, e = .returned (.tuple #[v0_, .bool r2]) ∧ Kd.R (Kd.int .u32) 47 w' w.heap.size (fun _ => True) v0_ r1 ∧ Below w.heap.size w w' := by
 have hu34 := Try.underlying34
 have HR0_0 := Aside0.mk hr0_0
 have HC0_0 := Aside0.mk hc0_0
 clear hr0_0 hc0_0
 have HB := Z (Below.refl w.heap.size w)
 have H : ((spec_l05Has.f l0_0 a1).bind fun t343 => (if t343 = true then ((some (([] : List Int) : List Int)).bind fun y344 => (if 0 ≤ (wrap64 (a1 * 64)) then (if (wrap64 (a1 * 64)) ≤ (wrap64 ((wrap64 (a1 + 1)) * 64)) then (if (wrap64 ((wrap64 (a1 + 1)) * 64)) ≤ (l0_0.length : Int) then (if y344.length + ((l0_0.take ((wrap64 ((wrap64 (a1 + 1)) * 64)) : Int).toNat).drop ((wrap64 (a1 * 64)) : Int).toNat).length < 35184372088832 then (some ((y344 ++ ((l0_0.take ((wrap64 ((wrap64 (a1 + 1)) * 64)) : Int).toNat).drop ((wrap64 (a1 * 64)) : Int).toNat)), true)) else (none)) else (none)) else (none)) else (none))) else (some ((([] : List Int)), false)))) = some (r1, r2) := h
 clear h
 replace H := Option.bind_eq_some_iff.mp H
 obtain ⟨t343, A30, H⟩ := H
 replace H : (if t343 = true then ((some (([] : List Int) : List Int)).bind fun y344 => (if 0 ≤ (wrap64 (a1 * 64)) then (if (wrap64 (a1 * 64)) ≤ (wrap64 ((wrap64 (a1 + 1)) * 64)) then (if (wrap64 ((wrap64 (a1 + 1)) * 64)) ≤ (l0_0.length : Int) then (if y344.length + ((l0_0.take ((wrap64 ((wrap64 (a1 + 1)) * 64)) : Int).toNat).drop ((wrap64 (a1 * 64)) : Int).toNat).length < 35184372088832 then (some ((y344 ++ ((l0_0.take ((wrap64 ((wrap64 (a1 + 1)) * 64)) : Int).toNat).drop ((wrap64 (a1 * 64)) : Int).toNat)), true)) else (none)) else (none)) else (none)) else (none))) else (some ((([] : List Int)), false))) = some (r1, r2) := H
 have A3 := Aside0.mk A30
 clear A30
 by_cases c4 : t343 = true
 ·subst c4
  have H1 : ((some (([] : List Int) : List Int)).bind fun y344 => (if 0 ≤ (wrap64 (a1 * 64)) then (if (wrap64 (a1 * 64)) ≤ (wrap64 ((wrap64 (a1 + 1)) * 64)) then (if (wrap64 ((wrap64 (a1 + 1)) * 64)) ≤ (l0_0.length : Int) then (if y344.length + ((l0_0.take ((wrap64 ((wrap64 (a1 + 1)) * 64)) : Int).toNat).drop ((wrap64 (a1 * 64)) : Int).toNat).length < 35184372088832 then (some ((y344 ++ ((l0_0.take ((wrap64 ((wrap64 (a1 + 1)) * 64)) : Int).toNat).drop ((wrap64 (a1 * 64)) : Int).toNat)), true)) else (none)) else (none)) else (none)) else (none))) = some (r1, r2) := Z7
  clear H
  have H := H1
  clear H1
  obtain ⟨y344, hy344⟩ : ∃ y_ : List Int, y_ = (([] : List Int)) := ⟨_, rfl⟩
  replace H : (if 0 ≤ (wrap64 (a1 * 64)) then (if (wrap64 (a1 * 64)) ≤ (wrap64 ((wrap64 (a1 + 1)) * 64)) then (if (wrap64 ((wrap64 (a1 + 1)) * 64)) ≤ (l0_0.length : Int) then (if y344.length + ((l0_0.take ((wrap64 ((wrap64 (a1 + 1)) * 64)) : Int).toNat).drop ((wrap64 (a1 * 64)) : Int).toNat).length < 35184372088832 then (some ((y344 ++ ((l0_0.take ((wrap64 ((wrap64 (a1 + 1)) * 64)) : Int).toNat).drop ((wrap64 (a1 * 64)) : Int).toNat)), true)) else (none)) else (none)) else (none)) else (none)) = some (r1, r2) := by first | (rw [hy344]; with_reducible exact H) | (have H2_ := (Option.bind_some _ _).symm.trans H; rw [hy344]; with_reducible exact H2_) | (have H2_ := (Option.bind_some _ _).symm.trans H; with_reducible exact H2_) | with_reducible exact H | (rw [hy344]; exact H) | exact H
  have Ny344 := Aside0.mk hy344
  clear hy344
  obtain ⟨ji5, hji5⟩ : ∃ j_ : Int, (wrap64 (a1 * 64)) = j_ := ⟨_, rfl⟩
  replace H : (if 0 ≤ (ji5) then (if (ji5) ≤ (wrap64 ((wrap64 (a1 + 1)) * 64)) then (if (wrap64 ((wrap64 (a1 + 1)) * 64)) ≤ (l0_0.length : Int) then (if y344.length + ((l0_0.take ((wrap64 ((wrap64 (a1 + 1)) * 64)) : Int).toNat).drop ((ji5) : Int).toNat).length < 35184372088832 then (some ((y344 ++ ((l0_0.take ((wrap64 ((wrap64 (a1 + 1)) * 64)) : Int).toNat).drop ((ji5) : Int).toNat)), true)) else (none)) else (none)) else (none)) else (none)) = some (r1, r2) := Z46
  (try rw [hji5] at A3)
  have hji5w : (IntKind.i64.wrap (a1 * 64)) = ji5 := (i64_w _).trans hji5
  by_cases c6 : 0 ≤ (ji5)
  ·rw [if_pos c6] at H
   have c6b0 := eq_true c6
   have c6b1 : decide (0 ≤ (ji5)) = true := decide_eq_true c6
   clear c6
   by_cases c7 : (ji5) ≤ (wrap64 ((wrap64 (a1 + 1)) * 64))
   ·rw [if_pos c7] at H
    have c7b0 := eq_true c7
    have c7b1 : decide ((ji5) ≤ (wrap64 ((wrap64 (a1 + 1)) * 64))) = true := decide_eq_true c7
    by_cases c8 : (wrap64 ((wrap64 (a1 + 1)) * 64)) ≤ (l0_0.length : Int)
    ·rw [if_pos c8] at H
     have c8b0 := eq_true c8
     have c8b1 : decide ((wrap64 ((wrap64 (a1 + 1)) * 64)) ≤ (l0_0.length : Int)) = true := decide_eq_true c8
     by_cases c9 : y344.length + ((l0_0.take ((wrap64 ((wrap64 (a1 + 1)) * 64)) : Int).toNat).drop ((ji5) : Int).toNat).length < 35184372088832
     ·rw [if_pos c9] at H
      have LMc9 := Aside0.mk c9
      clear c9
      obtain ⟨y348, hy348⟩ : ∃ y_ : List Int, y_ = (y344 ++ ((l0_0.take ((wrap64 ((wrap64 (a1 + 1)) * 64)) : Int).toNat).drop ((ji5) : Int).toNat)) := ⟨_, rfl⟩
      replace H : (some (y348, true)) = some (r1, r2) := by first | (rw [hy348]; with_reducible exact H) | (have H2_ := (Option.bind_some _ _).symm.trans H; rw [hy348]; with_reducible exact H2_) | (have H2_ := (Option.bind_some _ _).symm.trans H; with_reducible exact H2_) | with_reducible exact H | (rw [hy348]; exact H) | exact H
      have Ny348 := Aside0.mk hy348
      clear hy348
      simp only [Option.some.injEq, Prod.mk.injEq] at H
      obtain ⟨rfl, rfl⟩ := H
      go_enter Try.func67, Try.ntmps67
      go_wp2_with (first | ((with_reducible refine gate_dst (N := 2) rfl ?_); refine box_event (by rfl) (N := 2) (by rfl) (cs := #[.slice A0_0 l0_0.length c0_0]) (t := 34) Z8 ?_; intro gb342 hg w10 hbox hb; have BK342 := Z (hbox); have GW342 := Z ((Z85 : w.heap.size ≤ gb342)); have GE342 := Z ((Z85 : w.heap.size ≤ gb342)); replace HB := Z (below_step Z68 hb); clear hb hbox hg; have hcz11_0 : w10.cell? ⟨gb342, 0, none⟩ = some (.slice A0_0 l0_0.length c0_0) := (blk_cell BK342.out 0).trans rfl; have hfz11_0 := blk_frozen BK342.out 0) | ((with_reducible refine gate_callee (f := 76) rfl ?_); refine goesL_ (some 8) rfl rfl Try.func76 Z0 rfl #[.agg #[.slice A0_0 l0_0.length c0_0], .int .i64 a1] rfl Z11 ?_; (with_reducible refine (spec_l05Has.calls _ _ l0_0 a1 true _ ?side1 ?side2 A3.out).mono ?_); (case side1 => exact (Z12 HR0_0)); (case side2 => exact HC0_0.out); rintro e w12 ⟨rfl, hb⟩; refine ⟨_, rfl, ?_⟩; replace BK342 := Z (blk_below (g := gb342) (o := .cells #[.slice A0_0 l0_0.length c0_0] 34 (0, 0)) (Z10 BK342) hb); replace HB := Z (below_step Z68 hb); (try clear hb); (try clear hb2); (try clear hk); (try clear hi)) | ((with_reducible refine gate_dst (N := 11) rfl ?_); refine Kd.R_lit (Kd.int .u32) _ 47 (by rfl) (N := 11) (by rfl) (xs := ([] : List Int)) (inner := []) (ok := fun _ => True) (okp := fun _ => True) Z8 (Reps.none _ _) (fun _ hk => hk) trivial (Below.refl _ _) (Nat.le_refl _) (by simp) ?_; intro v345 w13 ho14 hb hg_ hnew_; clear hg_ hnew_; (first | rw [← Ny344.out] at ho14 | (simp only [Int.reduceToNat] at ho14; rw [← Ny344.out] at ho14)); have HO346 := Z (Kd.R_lower ho14 (below_size Z68)); replace BK342 := Z (blk_below (g := gb342) (o := .cells #[.slice A0_0 l0_0.length c0_0] 34 (0, 0)) (Z10 BK342) hb); replace HB := Z (below_step Z68 hb); clear hb ho14; have hcz15_0 : w13.cell? ⟨gb342, 0, none⟩ = some (.slice A0_0 l0_0.length c0_0) := (blk_cell BK342.out 0).trans rfl; have hfz15_0 := blk_frozen BK342.out 0; obtain ⟨i016, hi016, _, hsz16, _⟩ := info_parts info47; obtain ⟨A16, hcut16, hA16, hC16⟩ := print_mid_of (P := Try.prog) (Value.int .u32) 0 24 47 .i64 .i64 Try.underlying24 hi016 hsz16 A0_0 c0_0 l0_0 (ji5) (wrap64 ((wrap64 (a1 + 1)) * 64)) (of_decide_eq_true Z5) (by first | omega | exact of_decide_eq_true Z5) (of_decide_eq_true Z5) HC0_0.out; have HR347 := Z (Kd.C_of_reads (h1 := fun _ => rfl) (hA16 _ (Kd.reads_of_C HR0_0.out))); have HC347 := Aside0.mk hC16; clear hA16 hC16 hi016 hsz16) | ((with_reducible refine gate_builtin (b := .append) (xs := #[.tmp 11, .tmp 19]) rfl ?_); at_builtin; refine Kd.R_append_rows (Kd.int .u32) (w0 := w) w.heap.size rfl (.tmp 11) (.tmp 19) 24 47 (.int .u32 0) 4 rfl Try.underlying24 info47 rfl (by decide) (by omega) v345 y344 ((l0_0.take ((wrap64 ((wrap64 (a1 + 1)) * 64)) : Int).toNat).drop ((ji5) : Int).toNat) _ _ _ (fun _ => True) (fun _ => False) rfl rfl ?aO ?aR (fun _ _ h => h) (fun _ h => h.elim) ?aF ?aB ?aS ?aL ?_; (case aR => exact (by first | (rw [← show ((l0_0.take ((wrap64 ((wrap64 (a1 + 1)) * 64)) : Int).toNat).drop ((ji5) : Int).toNat).length = ((wrap64 ((wrap64 (a1 + 1)) * 64)).toNat - (ji5).toNat) from Z80]; repeat (first | exact (Kd.C_below HR347.out HB.out) | (with_reducible refine Kd.C_alloc ?_ _) | (with_reducible refine Kd.C_drewN ?_ _) | (with_reducible refine Kd.C_drew ?_))) | (repeat (first | exact (Kd.C_below HR347.out HB.out) | (with_reducible refine Kd.C_alloc ?_ _) | (with_reducible refine Kd.C_drewN ?_ _) | (with_reducible refine Kd.C_drew ?_))))); (case aB => exact Z68); (case aF => exact (fun _ _ => trivial)); (case aO => exact (Z14 HO346)); (case aS => exact (below_size Z68)); (case aL => have := LMc9.out; have hlx_ := (show ((l0_0.take ((wrap64 ((wrap64 (a1 + 1)) * 64)) : Int).toNat).drop ((ji5) : Int).toNat).length = ((wrap64 ((wrap64 (a1 + 1)) * 64)).toNat - (ji5).toNat) from Z80); omega); intro v349 w17 ho hb hg hat; rw [← Ny348.out] at ho; replace BK342 := Z (blk_grown (g := gb342) (o := .cells #[.slice A0_0 l0_0.length c0_0] 34 (0, 0)) (Z10 BK342) hg (Kd.R_ne HO346.out BK342.out (by decide))); replace HB := Z (hb); have HO350 := Z (ho); clear HO346; clear ho hb hg hat))
      go_ret2
      exact ⟨_, Z47, (Z14 HO350), Z68⟩
     ·rw [if_neg c9] at H
      exact absurd H (by simp)
    ·rw [if_neg c8] at H
     exact absurd H (by simp)
   ·rw [if_neg c7] at H
    exact absurd H (by simp)
  ·rw [if_neg c6] at H
   exact absurd H (by simp)
 ·replace c4 := Bool.eq_false_iff.mpr c4
  subst c4
  have H1 : (some ((([] : List Int)), false)) = some (r1, r2) := by rw [if_neg (show ¬ (false = true) by decide)] at H; exact H
  clear H
  have H := H1
  clear H1
  obtain ⟨y351, hy351⟩ : ∃ y_ : List Int, y_ = (([] : List Int)) := ⟨_, rfl⟩
  replace H : (some (y351, false)) = some (r1, r2) := by first | (rw [hy351]; with_reducible exact H) | (have H2_ := (Option.bind_some _ _).symm.trans H; rw [hy351]; with_reducible exact H2_) | (have H2_ := (Option.bind_some _ _).symm.trans H; with_reducible exact H2_) | with_reducible exact H | (rw [hy351]; exact H) | exact H
  have Ny351 := Aside0.mk hy351
  clear hy351
  simp only [Option.some.injEq, Prod.mk.injEq] at H
  obtain ⟨rfl, rfl⟩ := H
  go_enter Try.func67, Try.ntmps67
  go_wp2_with (first | ((with_reducible refine gate_dst (N := 2) rfl ?_); refine box_event (by rfl) (N := 2) (by rfl) (cs := #[.slice A0_0 l0_0.length c0_0]) (t := 34) Z8 ?_; intro gb342 hg w18 hbox hb; have BK342 := Z (hbox); have GW342 := Z ((Z85 : w.heap.size ≤ gb342)); have GE342 := Z ((Z85 : w.heap.size ≤ gb342)); replace HB := Z (below_step Z68 hb); clear hb hbox hg; have hcz19_0 : w18.cell? ⟨gb342, 0, none⟩ = some (.slice A0_0 l0_0.length c0_0) := (blk_cell BK342.out 0).trans rfl; have hfz19_0 := blk_frozen BK342.out 0) | ((with_reducible refine gate_callee (f := 76) rfl ?_); refine goesL_ (some 8) rfl rfl Try.func76 Z0 rfl #[.agg #[.slice A0_0 l0_0.length c0_0], .int .i64 a1] rfl Z11 ?_; (with_reducible refine (spec_l05Has.calls _ _ l0_0 a1 false _ ?side1 ?side2 A3.out).mono ?_); (case side1 => exact (Z12 HR0_0)); (case side2 => exact HC0_0.out); rintro e w20 ⟨rfl, hb⟩; refine ⟨_, rfl, ?_⟩; replace BK342 := Z (blk_below (g := gb342) (o := .cells #[.slice A0_0 l0_0.length c0_0] 34 (0, 0)) (Z10 BK342) hb); replace HB := Z (below_step Z68 hb); (try clear hb); (try clear hb2); (try clear hk); (try clear hi)) | ((with_reducible refine gate_dst (N := 10) rfl ?_); refine Kd.R_lit (Kd.int .u32) _ 47 (by rfl) (N := 10) (by rfl) (xs := ([] : List Int)) (inner := []) (ok := fun _ => True) (okp := fun _ => True) Z8 (Reps.none _ _) (fun _ hk => hk) trivial (Below.refl _ _) (Nat.le_refl _) (by simp) ?_; intro v352 w21 ho22 hb hg_ hnew_; clear hg_ hnew_; (first | rw [← Ny351.out] at ho22 | (simp only [Int.reduceToNat] at ho22; rw [← Ny351.out] at ho22)); have HO353 := Z (Kd.R_lower ho22 (below_size Z68)); replace BK342 := Z (blk_below (g := gb342) (o := .cells #[.slice A0_0 l0_0.length c0_0] 34 (0, 0)) (Z10 BK342) hb); replace HB := Z (below_step Z68 hb); clear hb ho22))
  go_ret2
  exact ⟨_, Z13, (Z14 HO353), Z68⟩

/-! ### spec_ItemsOf: function 55 -/
def spec_ItemsOf.f (k : Nat) (l0_0 : List Int) (a1 : Int) : Option ((List (S51)) × Bool) := (spec_BlockOf.f l0_0 a1).bind fun bt355 => (if bt355.2 = true then ((spec_ParseCells.f k bt355.1).bind fun t359 => (some (t359, true))) else (some ((([] : List (S51))), false)))
theorem spec_ItemsOf.mono : ∀ a0 a1 k, LeO (spec_ItemsOf.f k a0 a1) (spec_ItemsOf.f (k + 1) a0 a1) := by
 intro a0 a1 k
 unfold spec_ItemsOf.f
 repeat' first
   | (with_reducible exact spec_ParseCells.mono _ _)
   | (with_reducible exact LeO.refl _)
   | (with_reducible exact LeO.none _)
   | (with_reducible refine LeO.ite ?_ ?_)
   | (with_reducible refine LeO.bind ?_ (fun _ => ?_))
   | exact spec_ParseCells.mono _ _
   | exact LeO.none _
   | refine LeO.ite ?_ ?_
   | refine LeO.bind ?_ (fun _ => ?_)
set_option maxHeartbeats 8000000 in
set_option maxRecDepth 100000 in
theorem spec_ItemsOf.calls (k : Nat) (A0_0 : Option Addr) (c0_0 : Nat) (l0_0 : List Int) (a1 : Int) (r1 : List (S51)) (r2 : Bool) (w : World) (hr0_0 : Kd.C (Kd.int .u32) w A0_0 l0_0.length l0_0) (hc0_0 : l0_0.length ≤ c0_0) (h : spec_ItemsOf.f k l0_0 a1 = some (r1, r2)) :
  Calls Try.prog 55 #[.agg #[.slice A0_0 l0_0.length c0_0], .int .i64 a1] w fun e w' => ∃ v0_ : Value, e = .returned (.tuple #[v0_, .bool r2]) ∧ Kd.R k51 51 w' w.heap.size (fun _ => True) v0_ r1 ∧ Below w.heap.size w w' := by
 have hu34 := Try.underlying34
 have HR0_0 := Aside0.mk hr0_0
 have HC0_0 := Aside0.mk hc0_0
 clear hr0_0 hc0_0
 have HB := Z (Below.refl w.heap.size w)
 have H : ((spec_BlockOf.f l0_0 a1).bind fun bt355 => (if bt355.2 = true then ((spec_ParseCells.f k bt355.1).bind fun t359 => (some (t359, true))) else (some ((([] : List (S51))), false)))) = some (r1, r2) := h
 clear h
 replace H := Option.bind_eq_some_iff.mp H
 obtain ⟨⟨t355, t358⟩, A30, H⟩ := H
 replace H : (if t358 = true then ((spec_ParseCells.f k t355).bind fun t359 => (some (t359, true))) else (some ((([] : List (S51))), false))) = some (r1, r2) := H
 have A3 := Aside0.mk A30
 clear A30
 by_cases c4 : t358 = true
 ·subst c4
  have H1 : ((spec_ParseCells.f k t355).bind fun t359 => (some (t359, true))) = some (r1, r2) := Z7
  clear H
  have H := H1
  clear H1
  replace H := Option.bind_eq_some_iff.mp H
  obtain ⟨t359, A50, H⟩ := H
  replace H : (some (t359, true)) = some (r1, r2) := H
  have A5 := Aside0.mk A50
  clear A50
  simp only [Option.some.injEq, Prod.mk.injEq] at H
  obtain ⟨rfl, rfl⟩ := H
  go_enter Try.func55, Try.ntmps55
  go_wp2_with (first | ((with_reducible refine gate_dst (N := 2) rfl ?_); refine box_event (by rfl) (N := 2) (by rfl) (cs := #[.slice A0_0 l0_0.length c0_0]) (t := 34) Z8 ?_; intro gb354 hg w6 hbox hb; have BK354 := Z (hbox); have GW354 := Z ((Z85 : w.heap.size ≤ gb354)); have GE354 := Z ((Z85 : w.heap.size ≤ gb354)); replace HB := Z (below_step Z68 hb); clear hb hbox hg; have hcz7_0 : w6.cell? ⟨gb354, 0, none⟩ = some (.slice A0_0 l0_0.length c0_0) := (blk_cell BK354.out 0).trans rfl; have hfz7_0 := blk_frozen BK354.out 0) | ((with_reducible refine gate_callee (f := 67) rfl ?_); refine goesL_ (some 11) rfl rfl Try.func67 Z0 rfl #[.agg #[.slice A0_0 l0_0.length c0_0], .int .i64 a1] rfl Z11 ?_; (with_reducible refine (spec_BlockOf.calls _ _ l0_0 a1 t355 true _ ?side1 ?side2 A3.out).mono ?_); (case side1 => exact (Z12 HR0_0)); (case side2 => exact HC0_0.out); rintro e w8 ⟨v356, rfl, ho0, hb⟩; refine ⟨_, rfl, ?_⟩; have HO357 := Z (Kd.R_lower ho0 (below_size Z68)); replace BK354 := Z (blk_below (g := gb354) (o := .cells #[.slice A0_0 l0_0.length c0_0] 34 (0, 0)) (Z10 BK354) hb); replace HB := Z (below_step Z68 hb); (try clear hb); (try clear hb2); (try clear hk); (try clear hi); (try clear ho0); obtain ⟨Ao9, co9, eo9⟩ := Kd.R_slice HO357.out; subst eo9) | ((with_reducible refine gate_callee (f := 17) rfl ?_); refine goesL_ (some 18) rfl rfl Try.func17 Z0 rfl #[.slice Ao9 t355.length co9] rfl Z11 ?_; (with_reducible refine (spec_ParseCells.calls k _ _ t355 t359 _ ?side1 ?side2 A5.out).mono ?_); (case side1 => exact (Z22 HO357)); (case side2 => exact (Kd.R_reads' HO357.out).2.1); rintro e w10 ⟨v360, rfl, ho0, hb⟩; refine ⟨_, rfl, ?_⟩; replace HO357 := Z (Kd.R_below (Z14 HO357) hb); have HO361 := Z (Kd.R_lower ho0 (below_size Z68)); replace BK354 := Z (blk_below (g := gb354) (o := .cells #[.slice A0_0 l0_0.length c0_0] 34 (0, 0)) (Z10 BK354) hb); replace HB := Z (below_step Z68 hb); (try clear hb); (try clear hb2); (try clear hk); (try clear hi); (try clear ho0)))
  go_ret2
  exact ⟨_, Z13, (Z14 HO361), Z68⟩
 ·replace c4 := Bool.eq_false_iff.mpr c4
  subst c4
  have H1 : (some ((([] : List (S51))), false)) = some (r1, r2) := by rw [if_neg (show ¬ (false = true) by decide)] at H; exact H
  clear H
  have H := H1
  clear H1
  obtain ⟨y362, hy362⟩ : ∃ y_ : List (S51), y_ = (([] : List (S51))) := ⟨_, rfl⟩
  replace H : (some (y362, false)) = some (r1, r2) := by first | (rw [hy362]; with_reducible exact H) | (have H2_ := (Option.bind_some _ _).symm.trans H; rw [hy362]; with_reducible exact H2_) | (have H2_ := (Option.bind_some _ _).symm.trans H; with_reducible exact H2_) | with_reducible exact H | (rw [hy362]; exact H) | exact H
  have Ny362 := Aside0.mk hy362
  clear hy362
  simp only [Option.some.injEq, Prod.mk.injEq] at H
  obtain ⟨rfl, rfl⟩ := H
  go_enter Try.func55, Try.ntmps55
  go_wp2_with (first | ((with_reducible refine gate_dst (N := 2) rfl ?_); refine box_event (by rfl) (N := 2) (by rfl) (cs := #[.slice A0_0 l0_0.length c0_0]) (t := 34) Z8 ?_; intro gb354 hg w11 hbox hb; have BK354 := Z (hbox); have GW354 := Z ((Z85 : w.heap.size ≤ gb354)); have GE354 := Z ((Z85 : w.heap.size ≤ gb354)); replace HB := Z (below_step Z68 hb); clear hb hbox hg; have hcz12_0 : w11.cell? ⟨gb354, 0, none⟩ = some (.slice A0_0 l0_0.length c0_0) := (blk_cell BK354.out 0).trans rfl; have hfz12_0 := blk_frozen BK354.out 0) | ((with_reducible refine gate_callee (f := 67) rfl ?_); refine goesL_ (some 11) rfl rfl Try.func67 Z0 rfl #[.agg #[.slice A0_0 l0_0.length c0_0], .int .i64 a1] rfl Z11 ?_; (with_reducible refine (spec_BlockOf.calls _ _ l0_0 a1 t355 false _ ?side1 ?side2 A3.out).mono ?_); (case side1 => exact (Z12 HR0_0)); (case side2 => exact HC0_0.out); rintro e w13 ⟨v356, rfl, ho0, hb⟩; refine ⟨_, rfl, ?_⟩; have HO357 := Z (Kd.R_lower ho0 (below_size Z68)); replace BK354 := Z (blk_below (g := gb354) (o := .cells #[.slice A0_0 l0_0.length c0_0] 34 (0, 0)) (Z10 BK354) hb); replace HB := Z (below_step Z68 hb); (try clear hb); (try clear hb2); (try clear hk); (try clear hi); (try clear ho0)) | ((with_reducible refine gate_dst (N := 16) rfl ?_); refine Kd.R_lit k51 _ 51 (by rfl) (N := 16) (by rfl) (xs := ([] : List (S51))) (inner := []) (ok := fun _ => True) (okp := fun _ => True) Z8 (Reps.none _ _) (fun _ hk => hk) trivial (Below.refl _ _) (Nat.le_refl _) (by simp) ?_; intro v363 w14 ho15 hb hg_ hnew_; clear hg_ hnew_; (first | rw [← Ny362.out] at ho15 | (simp only [Int.reduceToNat] at ho15; rw [← Ny362.out] at ho15)); replace HO357 := Z (Kd.R_below (Z14 HO357) hb); have HO364 := Z (Kd.R_lower ho15 (below_size Z68)); replace BK354 := Z (blk_below (g := gb354) (o := .cells #[.slice A0_0 l0_0.length c0_0] 34 (0, 0)) (Z10 BK354) hb); replace HB := Z (below_step Z68 hb); clear hb ho15))
  go_ret2
  exact ⟨_, Z13, (Z14 HO364), Z68⟩

/-! ### impl_nameTag: function 70 -/
def impl_nameTag.f (a0 : Int) : Option (Int) := if a0 = 1 then (some 1) else (if a0 = 2 then (some 3) else (if a0 = 3 then (some 4) else (if a0 = 4 then (some 9) else (if a0 = 5 then (some 10) else (if a0 = 6 then (some 11) else (some 0))))))
set_option maxHeartbeats 8000000 in
set_option maxRecDepth 100000 in
theorem impl_nameTag.calls (a0 : Int) (r : Int) (w : World) (h : impl_nameTag.f a0 = some r) :
  Calls Try.prog 70 #[.int .i64 a0] w fun e w' => e = .returned (.int .u32 r) ∧ Drawn0 w w' := by
 have H : (if a0 = 1 then (some 1) else (if a0 = 2 then (some 3) else (if a0 = 3 then (some 4) else (if a0 = 4 then (some 9) else (if a0 = 5 then (some 10) else (if a0 = 6 then (some 11) else (some 0))))))) = some r := h
 clear h
 by_cases c2 : a0 = 1
 ·rw [if_pos c2] at H
  have c2b0 : (a0 == 1) = true := beq_iff_eq.mpr c2
  have c2b1 : (a0 != 1) = false := bne_eq_false_iff_eq.mpr c2
  clear c2
  obtain rfl := Option.some.inj H
  go_enter Try.func70, Try.ntmps70
  go_wp2
  go_ret
  exact ⟨Z3, Z4⟩
 ·rw [if_neg c2] at H
  have c2b0 : (a0 == 1) = false := beq_eq_false_iff_ne.mpr c2
  have c2b1 : (a0 != 1) = true := bne_iff_ne.mpr c2
  by_cases c3 : a0 = 2
  ·rw [if_pos c3] at H
   have c3b0 : (a0 == 2) = true := beq_iff_eq.mpr c3
   have c3b1 : (a0 != 2) = false := bne_eq_false_iff_eq.mpr c3
   clear c3
   obtain rfl := Option.some.inj H
   go_enter Try.func70, Try.ntmps70
   go_wp2
   go_ret
   exact ⟨Z3, Z4⟩
  ·rw [if_neg c3] at H
   have c3b0 : (a0 == 2) = false := beq_eq_false_iff_ne.mpr c3
   have c3b1 : (a0 != 2) = true := bne_iff_ne.mpr c3
   by_cases c4 : a0 = 3
   ·rw [if_pos c4] at H
    have c4b0 : (a0 == 3) = true := beq_iff_eq.mpr c4
    have c4b1 : (a0 != 3) = false := bne_eq_false_iff_eq.mpr c4
    clear c4
    obtain rfl := Option.some.inj H
    go_enter Try.func70, Try.ntmps70
    go_wp2
    go_ret
    exact ⟨Z3, Z4⟩
   ·rw [if_neg c4] at H
    have c4b0 : (a0 == 3) = false := beq_eq_false_iff_ne.mpr c4
    have c4b1 : (a0 != 3) = true := bne_iff_ne.mpr c4
    by_cases c5 : a0 = 4
    ·rw [if_pos c5] at H
     have c5b0 : (a0 == 4) = true := beq_iff_eq.mpr c5
     have c5b1 : (a0 != 4) = false := bne_eq_false_iff_eq.mpr c5
     clear c5
     obtain rfl := Option.some.inj H
     go_enter Try.func70, Try.ntmps70
     go_wp2
     go_ret
     exact ⟨Z3, Z4⟩
    ·rw [if_neg c5] at H
     have c5b0 : (a0 == 4) = false := beq_eq_false_iff_ne.mpr c5
     have c5b1 : (a0 != 4) = true := bne_iff_ne.mpr c5
     by_cases c6 : a0 = 5
     ·rw [if_pos c6] at H
      have c6b0 : (a0 == 5) = true := beq_iff_eq.mpr c6
      have c6b1 : (a0 != 5) = false := bne_eq_false_iff_eq.mpr c6
      clear c6
      obtain rfl := Option.some.inj H
      go_enter Try.func70, Try.ntmps70
      go_wp2
      go_ret
      exact ⟨Z3, Z4⟩
     ·rw [if_neg c6] at H
      have c6b0 : (a0 == 5) = false := beq_eq_false_iff_ne.mpr c6
      have c6b1 : (a0 != 5) = true := bne_iff_ne.mpr c6
      by_cases c7 : a0 = 6
      ·rw [if_pos c7] at H
       have c7b0 : (a0 == 6) = true := beq_iff_eq.mpr c7
       have c7b1 : (a0 != 6) = false := bne_eq_false_iff_eq.mpr c7
       clear c7
       obtain rfl := Option.some.inj H
       go_enter Try.func70, Try.ntmps70
       go_wp2
       go_ret
       exact ⟨Z3, Z4⟩
      ·rw [if_neg c7] at H
       have c7b0 : (a0 == 6) = false := beq_eq_false_iff_ne.mpr c7
       have c7b1 : (a0 != 6) = true := bne_iff_ne.mpr c7
       obtain rfl := Option.some.inj H
       go_enter Try.func70, Try.ntmps70
       go_wp2
       go_ret
       exact ⟨Z3, Z4⟩

/-! ### impl_within: function 103 -/
def impl_within.f (a0 : Int) (a1 : Int) (a2 : Int) : Option (Bool) := if a1 ≤ a0 then (some (decide (a0 ≤ a2))) else (some false)
set_option maxHeartbeats 8000000 in
set_option maxRecDepth 100000 in
theorem impl_within.calls (a0 : Int) (a1 : Int) (a2 : Int) (r : Bool) (w : World) (h : impl_within.f a0 a1 a2 = some r) :
  Calls Try.prog 103 #[.int .i64 a0, .int .i64 a1, .int .i64 a2] w fun e w' => e = .returned (.bool r) ∧ Drawn0 w w' := by
 have H : (if a1 ≤ a0 then (some (decide (a0 ≤ a2))) else (some false)) = some r := h
 clear h
 by_cases c4 : a1 ≤ a0
 ·rw [if_pos c4] at H
  have c4b0 : decide (a1 ≤ a0) = true := decide_eq_true c4
  clear c4
  obtain rfl := Option.some.inj H
  go_enter Try.func103, Try.ntmps103
  go_wp2
  go_ret
  exact ⟨Z3, Z4⟩
 ·rw [if_neg c4] at H
  have c4b0 : decide (a1 ≤ a0) = false := decide_eq_false c4
  clear c4
  obtain rfl := Option.some.inj H
  go_enter Try.func103, Try.ntmps103
  go_wp2
  go_ret
  exact ⟨Z3, Z4⟩

/-! ### impl_letters: function 124 -/
def impl_letters.f  : Option (ByteArray) := some (⟨#[32, 114, 116, 111, 101, 97, 110, 105, 115, 109, 99, 121, 108, 103, 102, 119, 100, 118, 112, 98, 104, 120, 117, 113, 48, 49, 50, 51, 52, 53, 54, 55, 56, 57, 106, 45, 107, 46, 122, 47, 59, 39, 33, 43, 64, 42, 44, 63]⟩ : ByteArray)
set_option maxHeartbeats 8000000 in
set_option maxRecDepth 100000 in
theorem impl_letters.calls  (r : ByteArray) (w : World) (h : impl_letters.f  = some r) :
  Calls Try.prog 124 #[] w fun e w' => e = .returned (.string r) ∧ Drawn0 w w' := by
 have H : (some (⟨#[32, 114, 116, 111, 101, 97, 110, 105, 115, 109, 99, 121, 108, 103, 102, 119, 100, 118, 112, 98, 104, 120, 117, 113, 48, 49, 50, 51, 52, 53, 54, 55, 56, 57, 106, 45, 107, 46, 122, 47, 59, 39, 33, 43, 64, 42, 44, 63]⟩ : ByteArray)) = some r := h
 clear h
 obtain rfl := Option.some.inj H
 go_enter Try.func124, Try.ntmps124
 go_wp2
 go_ret
 exact ⟨Z3, Z4⟩

-- NOT PRINTED: function 134 (bytealg_IndexByteString)

/-! ### stringslite_IndexByte: function 133 (by hand: it calls an entry without a body) -/
def stringslite_IndexByte.f (a0 : ByteArray) (a1 : Int) : Option (Int) := some (Lib.indexByte a0.data.toList a1.toNat.toUInt8)
set_option maxHeartbeats 1000000 in
set_option maxRecDepth 100000 in
theorem stringslite_IndexByte.calls (a0 : ByteArray) (a1 : Int) (r : Int) (w : World) (h : stringslite_IndexByte.f a0 a1 = some r) :
  Calls Try.prog 133 #[.string a0, .int .u8 a1] w fun e w' => e = .returned (.int .i64 r) ∧ Drawn0 w w' := by
 obtain rfl := Option.some.inj h
 go_enter Try.func133, Try.ntmps133
 go_wp2
 rw [run_callFunc_extern Try.func134 Z0 Z0 Z0 (e := Extern.BytealgIndexByte.indexByte) Z0, Lib.run_indexByteString]
 simp only [Result.andThen]
 rw [Oper.upon_value]
 go_wp2
 go_ret
 exact ⟨rfl, Drawn0.refl _⟩

/-! ### strings_IndexByte: function 131 -/
def strings_IndexByte.f (a0 : ByteArray) (a1 : Int) : Option (Int) := (stringslite_IndexByte.f a0 a1).bind fun t365 => (some t365)
set_option maxHeartbeats 8000000 in
set_option maxRecDepth 100000 in
theorem strings_IndexByte.calls (a0 : ByteArray) (a1 : Int) (r : Int) (w : World) (h : strings_IndexByte.f a0 a1 = some r) :
  Calls Try.prog 131 #[.string a0, .int .u8 a1] w fun e w' => e = .returned (.int .i64 r) ∧ Drawn0 w w' := by
 have H : ((stringslite_IndexByte.f a0 a1).bind fun t365 => (some t365)) = some r := h
 clear h
 replace H := Option.bind_eq_some_iff.mp H
 obtain ⟨t365, A30, H⟩ := H
 replace H : (some t365) = some r := H
 have A3 := Aside0.mk A30
 clear A30
 obtain rfl := Option.some.inj H
 go_enter Try.func131, Try.ntmps131
 go_wp2_with (first | ((with_reducible refine gate_callee (f := 133) rfl ?_); refine goesL_ (some 7) rfl rfl Try.func133 Z0 rfl #[.string a0, .int .u8 a1] rfl Z11 ?_; (with_reducible refine (stringslite_IndexByte.calls a0 a1 t365 _ A3.out).mono ?_); rintro e w' ⟨rfl, ⟨nd, rfl⟩⟩; refine ⟨_, rfl, ?_⟩))
 go_ret
 exact ⟨Z3, Z4⟩

/-! ### impl_LetterOf: function 121 -/
def impl_LetterOf.f (a0 : Int) : Option (Int) := (impl_letters.f).bind fun t366 => ((strings_IndexByte.f t366 a0).bind fun t367 => (some t367))
set_option maxHeartbeats 8000000 in
set_option maxRecDepth 100000 in
theorem impl_LetterOf.calls (a0 : Int) (r : Int) (w : World) (h : impl_LetterOf.f a0 = some r) :
  Calls Try.prog 121 #[.int .u8 a0] w fun e w' => e = .returned (.int .i64 r) ∧ Drawn0 w w' := by
 have H : ((impl_letters.f).bind fun t366 => ((strings_IndexByte.f t366 a0).bind fun t367 => (some t367))) = some r := h
 clear h
 replace H := Option.bind_eq_some_iff.mp H
 obtain ⟨t366, A20, H⟩ := H
 replace H : ((strings_IndexByte.f t366 a0).bind fun t367 => (some t367)) = some r := H
 have A2 := Aside0.mk A20
 clear A20
 replace H := Option.bind_eq_some_iff.mp H
 obtain ⟨t367, A30, H⟩ := H
 replace H : (some t367) = some r := H
 have A3 := Aside0.mk A30
 clear A30
 obtain rfl := Option.some.inj H
 go_enter Try.func121, Try.ntmps121
 go_wp2_with (first | ((with_reducible refine gate_callee (f := 124) rfl ?_); refine goesL_ (some 3) rfl rfl Try.func124 Z0 rfl #[] rfl Z11 ?_; (with_reducible refine (impl_letters.calls  t366 _ A2.out).mono ?_); rintro e w' ⟨rfl, ⟨nd, rfl⟩⟩; refine ⟨_, rfl, ?_⟩) | ((with_reducible refine gate_callee (f := 131) rfl ?_); refine goesL_ (some 5) rfl rfl Try.func131 Z0 rfl #[.string t366, .int .u8 a0] rfl Z11 ?_; (with_reducible refine (strings_IndexByte.calls t366 a0 t367 _ A3.out).mono ?_); rintro e w' ⟨rfl, ⟨nd, rfl⟩⟩; refine ⟨_, rfl, ?_⟩))
 go_ret
 exact ⟨Z3, Z4⟩

/-! ### impl_NameOk: function 106 -/
def impl_NameOk.l0 : Nat → ByteArray → Int → Int → Option (Bool)
 | 0, _, _, _ => none
 | k + 1, x0, x5, x6 => if x6 < x5 then (if 0 ≤ x6 then (if x6 < (x0.size : Int) then ((impl_LetterOf.f (bt x0 x6)).bind fun t368 => (if t368 < 1 then (some false) else (impl_NameOk.l0 k x0 x5 (wrap64 (x6 + 1))))) else (none)) else (none)) else ((impl_within.f (x0.size : Int) 1 24).bind fun t369 => (some t369))
def impl_NameOk.f (k : Nat) (a0 : ByteArray) : Option (Bool) := impl_NameOk.l0 k a0 (a0.size : Int) 0
theorem impl_NameOk.mono_l : ∀ k, (∀ y0 y1 y2, LeO (impl_NameOk.l0 k y0 y1 y2) (impl_NameOk.l0 (k + 1) y0 y1 y2))
 | 0 => fun _ _ _ r h => by simp [impl_NameOk.l0] at h
 | k + 1 => by
  have ih0 := impl_NameOk.mono_l k
  ·intro y0 y1 y2
   unfold impl_NameOk.l0
   repeat' first
   | (with_reducible exact ih0 _ _ _)
   | (with_reducible exact LeO.refl _)
   | (with_reducible exact LeO.none _)
   | (with_reducible refine LeO.ite ?_ ?_)
   | (with_reducible refine LeO.bind ?_ (fun _ => ?_))
   | exact ih0 _ _ _
   | exact LeO.none _
   | refine LeO.ite ?_ ?_
   | refine LeO.bind ?_ (fun _ => ?_)
theorem impl_NameOk.mono : ∀ a0 k, LeO (impl_NameOk.f k a0) (impl_NameOk.f (k + 1) a0) := by
 intro a0 k
 have ih0 := impl_NameOk.mono_l k
 unfold impl_NameOk.f
 repeat' first
   | (with_reducible exact ih0 _ _ _)
   | (with_reducible exact LeO.refl _)
   | (with_reducible exact LeO.none _)
   | (with_reducible refine LeO.ite ?_ ?_)
   | (with_reducible refine LeO.bind ?_ (fun _ => ?_))
   | exact ih0 _ _ _
   | exact LeO.none _
   | refine LeO.ite ?_ ?_
   | refine LeO.bind ?_ (fun _ => ?_)
set_option maxHeartbeats 8000000 in
set_option maxRecDepth 100000 in
theorem impl_NameOk.calls (k : Nat) (a0 : ByteArray) (r : Bool) (w : World) (h : impl_NameOk.f k a0 = some r) :
  Calls Try.prog 106 #[.string a0] w fun e w' => e = .returned (.bool r) ∧ Drawn0 w w' := by
 have H : (impl_NameOk.l0 k a0 (a0.size : Int) 0) = some r := h
 clear h
 have H' := Aside0.mk H
 clear H
 go_enter Try.func106, Try.ntmps106
 go_wp2
 go_loopg [6] k (fun kq v6 w' => ∃ (x6_1 : Int), v6 = .int .i64 x6_1 ∧ Aside0 (impl_NameOk.l0 kq a0 (a0.size : Int) x6_1 = some r) ∧ Aside0 (kq ≤ k) ∧ Drawn0 w w')
 case atStart => exact ⟨(0), Z3, H', ⟨Nat.le_refl _⟩, Z4⟩
 case round =>
  clear H'
  try clear c1
  obtain ⟨x6_1, rfl, HA, HK1, ⟨m1, rfl⟩⟩ := hrel
  cases gk with
  | zero => exact absurd HA.out (by simp [impl_NameOk.l0])
  | succ k1 =>
   have H := HA.out
   clear HA
   simp only [impl_NameOk.l0] at H
   by_cases c2 : x6_1 < (a0.size : Int)
   ·rw [if_pos c2] at H
    have c2b0 : decide (x6_1 < (a0.size : Int)) = true := decide_eq_true c2
    clear c2
    by_cases c3 : 0 ≤ x6_1
    ·rw [if_pos c3] at H
     have c3b0 : decide (0 ≤ x6_1) = true := decide_eq_true c3
     clear c3
     by_cases c4 : x6_1 < (a0.size : Int)
     ·rw [if_pos c4] at H
      have c4b0 : decide (x6_1 < (a0.size : Int)) = true := decide_eq_true c4
      clear c4
      replace H := Option.bind_eq_some_iff.mp H
      obtain ⟨t368, A60, H⟩ := H
      replace H : (if t368 < 1 then (some false) else (impl_NameOk.l0 k1 a0 (a0.size : Int) (wrap64 (x6_1 + 1)))) = some r := H
      have A6 := Aside0.mk A60
      clear A60
      by_cases c7 : t368 < 1
      ·rw [if_pos c7] at H
       have c7b0 : decide (t368 < 1) = true := decide_eq_true c7
       clear c7
       obtain rfl := Option.some.inj H
       have p5 : 0 ≤ (x6_1 : Int) := of_decide_eq_true Z5
       have q5 : x6_1 < (a0.size : Int) := of_decide_eq_true Z5
       have hx5 := bt_at a0 x6_1
       replace p5 := eq_true p5
       replace q5 := eq_true q5
       go_wp2_with (first | ((with_reducible refine gate_callee (f := 121) rfl ?_); refine goesL_ (some 12) rfl rfl Try.func121 Z0 rfl #[.int .u8 (bt a0 x6_1)] rfl Z11 ?_; (with_reducible refine (impl_LetterOf.calls (bt a0 x6_1) t368 _ A6.out).mono ?_); rintro e w' ⟨rfl, ⟨nd, rfl⟩⟩; refine ⟨_, rfl, ?_⟩))
       go_ret
       exact ⟨Z3, Z4⟩
      ·rw [if_neg c7] at H
       have c7b0 : decide (t368 < 1) = false := decide_eq_false c7
       clear c7
       have H' := Aside0.mk H
       clear H
       have p5 : 0 ≤ (x6_1 : Int) := of_decide_eq_true Z5
       have q5 : x6_1 < (a0.size : Int) := of_decide_eq_true Z5
       have hx5 := bt_at a0 x6_1
       replace p5 := eq_true p5
       replace q5 := eq_true q5
       go_wp2_with (first | ((with_reducible refine gate_callee (f := 121) rfl ?_); refine goesL_ (some 12) rfl rfl Try.func121 Z0 rfl #[.int .u8 (bt a0 x6_1)] rfl Z11 ?_; (with_reducible refine (impl_LetterOf.calls (bt a0 x6_1) t368 _ A6.out).mono ?_); rintro e w' ⟨rfl, ⟨nd, rfl⟩⟩; refine ⟨_, rfl, ?_⟩))
       go_roundg k1
       case measure => have := HK1.out; omega
       case rel => exact ⟨(wrap64 (x6_1 + 1)), Z3, H', ⟨Z6⟩, Z4⟩
     ·rw [if_neg c4] at H
      exact absurd H (by simp)
    ·rw [if_neg c3] at H
     exact absurd H (by simp)
   ·rw [if_neg c2] at H
    have c2b0 : decide (x6_1 < (a0.size : Int)) = false := decide_eq_false c2
    clear c2
    replace H := Option.bind_eq_some_iff.mp H
    obtain ⟨t369, A80, H⟩ := H
    replace H : (some t369) = some r := H
    have A8 := Aside0.mk A80
    clear A80
    obtain rfl := Option.some.inj H
    go_wp2_with (first | ((with_reducible refine gate_callee (f := 103) rfl ?_); refine goesL_ (some 17) rfl rfl Try.func103 Z0 rfl #[.int .i64 (a0.size : Int), .int .i64 1, .int .i64 24] rfl Z11 ?_; (with_reducible refine (impl_within.calls (a0.size : Int) 1 24 t369 _ A8.out).mono ?_); rintro e w' ⟨rfl, ⟨nd, rfl⟩⟩; refine ⟨_, rfl, ?_⟩))
    go_ret
    exact ⟨Z3, Z4⟩

/-! ### impl_WidthOf: function 122 -/
def impl_WidthOf.f (a0 : Int) : Option (Int) := (impl_within.f a0 0 7).bind fun t370 => (if t370 = true then (some 4) else ((impl_within.f a0 8 15).bind fun t371 => (if t371 = true then (some 5) else ((impl_within.f a0 16 47).bind fun t372 => (if t372 = true then (some 7) else (some 0))))))
set_option maxHeartbeats 8000000 in
set_option maxRecDepth 100000 in
theorem impl_WidthOf.calls (a0 : Int) (r : Int) (w : World) (h : impl_WidthOf.f a0 = some r) :
  Calls Try.prog 122 #[.int .i64 a0] w fun e w' => e = .returned (.int .i64 r) ∧ Drawn0 w w' := by
 have H : ((impl_within.f a0 0 7).bind fun t370 => (if t370 = true then (some 4) else ((impl_within.f a0 8 15).bind fun t371 => (if t371 = true then (some 5) else ((impl_within.f a0 16 47).bind fun t372 => (if t372 = true then (some 7) else (some 0))))))) = some r := h
 clear h
 replace H := Option.bind_eq_some_iff.mp H
 obtain ⟨t370, A20, H⟩ := H
 replace H : (if t370 = true then (some 4) else ((impl_within.f a0 8 15).bind fun t371 => (if t371 = true then (some 5) else ((impl_within.f a0 16 47).bind fun t372 => (if t372 = true then (some 7) else (some 0)))))) = some r := H
 have A2 := Aside0.mk A20
 clear A20
 by_cases c3 : t370 = true
 ·subst c3
  have H1 : (some 4) = some r := Z7
  clear H
  have H := H1
  clear H1
  obtain rfl := Option.some.inj H
  go_enter Try.func122, Try.ntmps122
  go_wp2_with (first | ((with_reducible refine gate_callee (f := 103) rfl ?_); refine goesL_ (some 5) rfl rfl Try.func103 Z0 rfl #[.int .i64 a0, .int .i64 0, .int .i64 7] rfl Z11 ?_; (with_reducible refine (impl_within.calls a0 0 7 true _ A2.out).mono ?_); rintro e w' ⟨rfl, ⟨nd, rfl⟩⟩; refine ⟨_, rfl, ?_⟩))
  go_ret
  exact ⟨Z3, Z4⟩
 ·replace c3 := Bool.eq_false_iff.mpr c3
  subst c3
  have H1 : ((impl_within.f a0 8 15).bind fun t371 => (if t371 = true then (some 5) else ((impl_within.f a0 16 47).bind fun t372 => (if t372 = true then (some 7) else (some 0))))) = some r := by rw [if_neg (show ¬ (false = true) by decide)] at H; exact H
  clear H
  have H := H1
  clear H1
  replace H := Option.bind_eq_some_iff.mp H
  obtain ⟨t371, A40, H⟩ := H
  replace H : (if t371 = true then (some 5) else ((impl_within.f a0 16 47).bind fun t372 => (if t372 = true then (some 7) else (some 0)))) = some r := H
  have A4 := Aside0.mk A40
  clear A40
  by_cases c5 : t371 = true
  ·subst c5
   have H1 : (some 5) = some r := Z7
   clear H
   have H := H1
   clear H1
   obtain rfl := Option.some.inj H
   go_enter Try.func122, Try.ntmps122
   go_wp2_with (first | ((with_reducible refine gate_callee (f := 103) rfl ?_); refine goesL_ (some 5) rfl rfl Try.func103 Z0 rfl #[.int .i64 a0, .int .i64 0, .int .i64 7] rfl Z11 ?_; (with_reducible refine (impl_within.calls a0 0 7 false _ A2.out).mono ?_); rintro e w' ⟨rfl, ⟨nd, rfl⟩⟩; refine ⟨_, rfl, ?_⟩) | ((with_reducible refine gate_callee (f := 103) rfl ?_); refine goesL_ (some 8) rfl rfl Try.func103 Z0 rfl #[.int .i64 a0, .int .i64 8, .int .i64 15] rfl Z11 ?_; (with_reducible refine (impl_within.calls a0 8 15 true _ A4.out).mono ?_); rintro e w' ⟨rfl, ⟨nd, rfl⟩⟩; refine ⟨_, rfl, ?_⟩))
   go_ret
   exact ⟨Z3, Z4⟩
  ·replace c5 := Bool.eq_false_iff.mpr c5
   subst c5
   have H1 : ((impl_within.f a0 16 47).bind fun t372 => (if t372 = true then (some 7) else (some 0))) = some r := by rw [if_neg (show ¬ (false = true) by decide)] at H; exact H
   clear H
   have H := H1
   clear H1
   replace H := Option.bind_eq_some_iff.mp H
   obtain ⟨t372, A60, H⟩ := H
   replace H : (if t372 = true then (some 7) else (some 0)) = some r := H
   have A6 := Aside0.mk A60
   clear A60
   by_cases c7 : t372 = true
   ·subst c7
    have H1 : (some 7) = some r := Z7
    clear H
    have H := H1
    clear H1
    obtain rfl := Option.some.inj H
    go_enter Try.func122, Try.ntmps122
    go_wp2_with (first | ((with_reducible refine gate_callee (f := 103) rfl ?_); refine goesL_ (some 5) rfl rfl Try.func103 Z0 rfl #[.int .i64 a0, .int .i64 0, .int .i64 7] rfl Z11 ?_; (with_reducible refine (impl_within.calls a0 0 7 false _ A2.out).mono ?_); rintro e w' ⟨rfl, ⟨nd, rfl⟩⟩; refine ⟨_, rfl, ?_⟩) | ((with_reducible refine gate_callee (f := 103) rfl ?_); refine goesL_ (some 8) rfl rfl Try.func103 Z0 rfl #[.int .i64 a0, .int .i64 8, .int .i64 15] rfl Z11 ?_; (with_reducible refine (impl_within.calls a0 8 15 false _ A4.out).mono ?_); rintro e w' ⟨rfl, ⟨nd, rfl⟩⟩; refine ⟨_, rfl, ?_⟩) | ((with_reducible refine gate_callee (f := 103) rfl ?_); refine goesL_ (some 11) rfl rfl Try.func103 Z0 rfl #[.int .i64 a0, .int .i64 16, .int .i64 47] rfl Z11 ?_; (with_reducible refine (impl_within.calls a0 16 47 true _ A6.out).mono ?_); rintro e w' ⟨rfl, ⟨nd, rfl⟩⟩; refine ⟨_, rfl, ?_⟩))
    go_ret
    exact ⟨Z3, Z4⟩
   ·replace c7 := Bool.eq_false_iff.mpr c7
    subst c7
    have H1 : (some 0) = some r := by rw [if_neg (show ¬ (false = true) by decide)] at H; exact H
    clear H
    have H := H1
    clear H1
    obtain rfl := Option.some.inj H
    go_enter Try.func122, Try.ntmps122
    go_wp2_with (first | ((with_reducible refine gate_callee (f := 103) rfl ?_); refine goesL_ (some 5) rfl rfl Try.func103 Z0 rfl #[.int .i64 a0, .int .i64 0, .int .i64 7] rfl Z11 ?_; (with_reducible refine (impl_within.calls a0 0 7 false _ A2.out).mono ?_); rintro e w' ⟨rfl, ⟨nd, rfl⟩⟩; refine ⟨_, rfl, ?_⟩) | ((with_reducible refine gate_callee (f := 103) rfl ?_); refine goesL_ (some 8) rfl rfl Try.func103 Z0 rfl #[.int .i64 a0, .int .i64 8, .int .i64 15] rfl Z11 ?_; (with_reducible refine (impl_within.calls a0 8 15 false _ A4.out).mono ?_); rintro e w' ⟨rfl, ⟨nd, rfl⟩⟩; refine ⟨_, rfl, ?_⟩) | ((with_reducible refine gate_callee (f := 103) rfl ?_); refine goesL_ (some 11) rfl rfl Try.func103 Z0 rfl #[.int .i64 a0, .int .i64 16, .int .i64 47] rfl Z11 ?_; (with_reducible refine (impl_within.calls a0 16 47 false _ A6.out).mono ?_); rintro e w' ⟨rfl, ⟨nd, rfl⟩⟩; refine ⟨_, rfl, ?_⟩))
    go_ret
    exact ⟨Z3, Z4⟩

end Go.Proofs.Ytkkiibjnpkjijaa.QFnExactItemsOf
