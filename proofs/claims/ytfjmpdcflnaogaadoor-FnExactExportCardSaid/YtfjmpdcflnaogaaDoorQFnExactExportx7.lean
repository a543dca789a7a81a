/-
Plain functions for the Go functions that a law reaches, each with a proof that the translation's call comes to just that; no conditions beyond those written in each.
-/
import Derived.Test.YtfjmpdcflnaogaaDoorSFnExactExport
import Derived.Test.YtfjmpdcflnaogaaDoorQFnExactExportx1
import Derived.Test.YtfjmpdcflnaogaaDoorQFnExactExportx4
import Derived.Test.YtfjmpdcflnaogaaDoorQFnExactExportx5
import Derived.Test.YtfjmpdcflnaogaaDoorQFnExactExportx6
namespace Go.Proofs.YtfjmpdcflnaogaaDoor.QFnExactExport
open Go.RowKit Go.Proofs.YtfjmpdcflnaogaaDoorW.PrintWords Go.Proofs.YtfjmpdcflnaogaaDoorW.PrintLast Go.Proofs.YtfjmpdcflnaogaaDoorW.PrintMore
attribute [local go_sem] max2_int min2_int max_two min_two max_three min_three max_four min_four   -- for this text's walks alone
set_option linter.unusedVariables false
set_option linter.unusedSimpArgs false

attribute [local go_sem high] eqA27
/-! ### impl_ParseCells: function 29 -/
mutual
def impl_ParseCells.l0 : Nat → List Int → List (S27) → Option ((List (S27)))
 | 0, _, _ => none
 | k + 1, x0, x3 => if (x0.length : Int) > 0 then ((impl_parseOne.f k x0).bind fun bt468 => (if x3.length < 3518437208883 then ((impl_CellsOf.f k bt468.1 bt468.2.1 bt468.2.2.1 bt468.2.2.2.1 bt468.2.2.2.2).bind fun t477 => (if 0 ≤ (t477.length : Int) then (if (t477.length : Int) ≤ (x0.length : Int) then (impl_ParseCells.l0 k (x0.drop ((t477.length : Int) : Int).toNat) (x3 ++ [(⟨bt468.1, bt468.2.1, bt468.2.2.1, bt468.2.2.2.1, bt468.2.2.2.2⟩ : S27)])) else (none)) else (none))) else (none))) else (impl_ParseCells.l1 k x3 (wrap64 ((x3.length : Int) - 1)))
def impl_ParseCells.l1 : Nat → List (S27) → Int → Option ((List (S27)))
 | 0, _, _ => none
 | k + 1, x3, x5 => if x5 ≥ 0 then (if 0 ≤ x5 then (if x5 < (x3.length : Int) then (if (((rd_T27 x3 x5).f0) == 0 && ((((rd_T27 x3 x5).f1).toList) == ([] : List UInt8) && (((rd_T27 x3 x5).f2) == 0 && (!((rd_T27 x3 x5).f3) && (((rd_T27 x3 x5).f4) == 0))))) = true then (if x5 ≤ (x3.length : Int) then (impl_ParseCells.l1 k (x3.take (x5 : Int).toNat) (wrap64 (x5 - 1))) else (none)) else (some x3)) else (none)) else (none)) else (some x3)
end
def impl_ParseCells.f (k : Nat) (l0 : List Int) : Option ((List (S27))) := if (l0.length : Int) > 64 then (some ([] : List (S27))) else (impl_ParseCells.l0 k l0 (([] : List (S27))))
theorem impl_ParseCells.mono_l : ∀ k, (∀ y0 y1, LeO (impl_ParseCells.l0 k y0 y1) (impl_ParseCells.l0 (k + 1) y0 y1)) ∧ (∀ y0 y1, LeO (impl_ParseCells.l1 k y0 y1) (impl_ParseCells.l1 (k + 1) y0 y1))
 | 0 => ⟨fun _ _ r h => by simp [impl_ParseCells.l0] at h, fun _ _ r h => by simp [impl_ParseCells.l1] at h⟩
 | k + 1 => by
  obtain ⟨ih0, ih1⟩ := impl_ParseCells.mono_l k
  refine ⟨?_, ?_⟩
  ·intro y0 y1
   unfold impl_ParseCells.l0
   repeat' first
   | (with_reducible exact ih0 _ _)
   | (with_reducible exact ih1 _ _)
   | (with_reducible exact impl_CellsOf.mono _ _ _ _ _ _)
   | (with_reducible exact impl_parseOne.mono _ _)
   | (with_reducible exact LeO.refl _)
   | (with_reducible exact LeO.none _)
   | (with_reducible refine LeO.ite ?_ ?_)
   | (with_reducible refine LeO.bind ?_ (fun _ => ?_))
   | exact ih0 _ _
   | exact ih1 _ _
   | exact impl_CellsOf.mono _ _ _ _ _ _
   | exact impl_parseOne.mono _ _
   | exact LeO.none _
   | refine LeO.ite ?_ ?_
   | refine LeO.bind ?_ (fun _ => ?_)
  ·intro y0 y1
   unfold impl_ParseCells.l1
   repeat' first
   | (with_reducible exact ih0 _ _)
   | (with_reducible exact ih1 _ _)
   | (with_reducible exact impl_CellsOf.mono _ _ _ _ _ _)
   | (with_reducible exact impl_parseOne.mono _ _)
   | (with_reducible exact LeO.refl _)
   | (with_reducible exact LeO.none _)
   | (with_reducible refine LeO.ite ?_ ?_)
   | (with_reducible refine LeO.bind ?_ (fun _ => ?_))
   | exact ih0 _ _
   | exact ih1 _ _
   | exact impl_CellsOf.mono _ _ _ _ _ _
   | exact impl_parseOne.mono _ _
   | exact LeO.none _
   | refine LeO.ite ?_ ?_
   | refine LeO.bind ?_ (fun _ => ?_)
theorem impl_ParseCells.mono : ∀ a0 k, LeO (impl_ParseCells.f k a0) (impl_ParseCells.f (k + 1) a0) := by
 intro a0 k
 obtain ⟨ih0, ih1⟩ := impl_ParseCells.mono_l k
 unfold impl_ParseCells.f
 repeat' first
   | (with_reducible exact ih0 _ _)
   | (with_reducible exact ih1 _ _)
   | (with_reducible exact impl_CellsOf.mono _ _ _ _ _ _)
   | (with_reducible exact impl_parseOne.mono _ _)
   | (with_reducible exact LeO.refl _)
   | (with_reducible exact LeO.none _)
   | (with_reducible refine LeO.ite ?_ ?_)
   | (with_reducible refine LeO.bind ?_ (fun _ => ?_))
   | exact ih0 _ _
   | exact ih1 _ _
   | exact impl_CellsOf.mono _ _ _ _ _ _
   | exact impl_parseOne.mono _ _
   | exact LeO.none _
   | refine LeO.ite ?_ ?_
   | refine LeO.bind ?_ (fun _ => ?_)
set_option maxHeartbeats 8000000 in
set_option maxRecDepth 100000 in
theorem impl_ParseCells.calls (k : Nat) (P0_ : Nat → Prop) (A0 : Option Addr) (c0 : Nat) (l0 : List Int) (r : List (S27)) (w : World) (hs0 : Kd.V (Kd.int .u32) 22 w w.heap.size (fun k_ => P0_ k_) (.slice A0 l0.length c0) l0) (h : impl_ParseCells.f k l0 = some r) :
  Calls Tryd.prog 29 #[.slice A0 l0.length c0] w fun e w' => ∃ v0_ : Value, e = .returned (v0_) ∧ Kd.R k27 27 w' w.heap.size (fun k_ => (w.heap.size ≤ k_)) v0_ r ∧ Below w.heap.size w w' := by
 have hu27 := Tryd.underlying27
 have HO0 := Z (show Kd.V (Kd.int .u32) 22 w w.heap.size (fun k_ => (P0_ k_ ∨ w.heap.size ≤ k_)) (.slice A0 l0.length c0) l0 from Kd.V_mono hs0 (fun k_ hk => .inl hk))
 have HB := Z (Below.refl w.heap.size w)
 have H : (if (l0.length : Int) > 64 then (some ([] : List (S27))) else (impl_ParseCells.l0 k l0 (([] : List (S27))))) = some r := h
 clear h
 by_cases c2 : (l0.length : Int) > 64
 ·rw [if_pos c2] at H
  have c2b0 : decide (64 < (l0.length : Int)) = true := decide_eq_true c2
  have c2b1 : decide (64 < l0.length) = true := decide_eq_true (by omega)
  clear c2
  obtain rfl := Option.some.inj H
  go_enter Tryd.func29, Tryd.ntmps29
  go_wp2
  go_ret
  exact ⟨_, Z68, Z50, Z67⟩
 ·rw [if_neg c2] at H
  have c2b0 : decide (64 < (l0.length : Int)) = false := decide_eq_false c2
  have c2b1 : decide (64 < l0.length) = false := decide_eq_false (by omega)
  clear c2
  obtain ⟨y465, hy465⟩ : ∃ y_ : List (S27), y_ = (([] : List (S27))) := ⟨_, rfl⟩
  replace H : (impl_ParseCells.l0 k l0 y465) = some r := by first | (rw [hy465]; with_reducible exact H) | (have H2_ := (Option.bind_some _ _).symm.trans H; rw [hy465]; with_reducible exact H2_) | (have H2_ := (Option.bind_some _ _).symm.trans H; with_reducible exact H2_) | with_reducible exact H | (rw [hy465]; exact H) | exact H
  have Ny465 := Aside0.mk hy465
  clear hy465
  have H' := Aside0.mk H
  clear H
  go_enter Tryd.func29, Tryd.ntmps29
  go_wp2_with (first | ((with_reducible refine gate_dst (N := 9) rfl ?_); refine Kd.R_lit k27 _ 27 (by rfl) (N := 9) (by rfl) (xs := ([] : List (S27))) (inner := []) (ok := fun _ => True) (okp := fun _ => True) Z3 (Reps.none _ _) (fun _ hk => hk) trivial (Below.refl _ _) (Nat.le_refl _) (by simp) ?_; intro v466 w3 ho4 hb hg_ hnew_; clear hg_ hnew_; (first | rw [← Ny465.out] at ho4 | (simp only [Int.reduceToNat] at ho4; rw [← Ny465.out] at ho4)); replace HO0 := Z (Kd.V_elder' (Z57 HO0) (Kd.R_base ho4) hb); have HO467 := Z (Kd.R_lower (Kd.R_newM (M := fun k_ => (w.heap.size ≤ k_)) ho4 (below_size Z67) (fun k_ h_ => h_)) (below_size Z67)); replace HB := Z (below_step Z67 hb); clear hb ho4))
  go_loopg [0, 3] k (fun kq v0 v3 w' => ∃ (x0_1 : List Int) (x3_1 : List (S27)), Aside0 (impl_ParseCells.l0 kq x0_1 x3_1 = some r) ∧ Aside0 (kq ≤ k) ∧ Aside0 (Kd.V (Kd.int .u32) 22 w' w.heap.size (fun k_ => (P0_ k_ ∨ w.heap.size ≤ k_) ∧ some k_ ≠ (v3 : Value).ownBlock) v0 x0_1) ∧ Aside0 (Kd.R k27 27 w' w.heap.size (fun k_ => (w.heap.size ≤ k_)) v3 x3_1) ∧ Aside0 (Below w.heap.size w w'))
  case atStart => exact ⟨(l0), (y465), H', ⟨Nat.le_refl _⟩, ⟨(Z57 HO0)⟩, ⟨(Z58 HO467)⟩, ⟨Z67⟩⟩
  case round =>
   clear H'
   try clear c2
   try clear c2b0
   try clear c2b1
   try clear p2
   obtain ⟨x0_1, x3_1, HA, HK1, HO_0, HO_3, HB⟩ := hrel
   cases gk with
   | zero => exact absurd HA.out (by simp [impl_ParseCells.l0])
   | succ k1 =>
    have H := HA.out
    clear HA
    simp only [impl_ParseCells.l0] at H
    by_cases c5 : (x0_1.length : Int) > 0
    ·rw [if_pos c5] at H
     have c5b0 : decide (0 < (x0_1.length : Int)) = true := decide_eq_true c5
     have c5b1 : decide (0 < x0_1.length) = true := decide_eq_true (by omega)
     clear c5
     replace H := Option.bind_eq_some_iff.mp H
     obtain ⟨⟨t468, t469, t470, t471, t472⟩, A60, H⟩ := H
     replace H : (if x3_1.length < 3518437208883 then ((impl_CellsOf.f k1 t468 t469 t470 t471 t472).bind fun t477 => (if 0 ≤ (t477.length : Int) then (if (t477.length : Int) ≤ (x0_1.length : Int) then (impl_ParseCells.l0 k1 (x0_1.drop ((t477.length : Int) : Int).toNat) (x3_1 ++ [(⟨t468, t469, t470, t471, t472⟩ : S27)])) else (none)) else (none))) else (none)) = some r := H
     have A6 := Aside0.mk A60
     clear A60
     by_cases c7 : x3_1.length < 3518437208883
     ·rw [if_pos c7] at H
      have LMc7 := Aside0.mk c7
      clear c7
      obtain ⟨y474, hy474⟩ : ∃ y_ : List (S27), y_ = (x3_1 ++ [(⟨t468, t469, t470, t471, t472⟩ : S27)]) := ⟨_, rfl⟩
      replace H : ((impl_CellsOf.f k1 t468 t469 t470 t471 t472).bind fun t477 => (if 0 ≤ (t477.length : Int) then (if (t477.length : Int) ≤ (x0_1.length : Int) then (impl_ParseCells.l0 k1 (x0_1.drop ((t477.length : Int) : Int).toNat) y474) else (none)) else (none))) = some r := by first | (rw [hy474]; with_reducible exact H) | (have H2_ := (Option.bind_some _ _).symm.trans H; rw [hy474]; with_reducible exact H2_) | (have H2_ := (Option.bind_some _ _).symm.trans H; with_reducible exact H2_) | with_reducible exact H | (rw [hy474]; exact H) | exact H
      have Ny474 := Aside0.mk hy474
      clear hy474
      replace H := Option.bind_eq_some_iff.mp H
      obtain ⟨t477, A80, H⟩ := H
      replace H : (if 0 ≤ (t477.length : Int) then (if (t477.length : Int) ≤ (x0_1.length : Int) then (impl_ParseCells.l0 k1 (x0_1.drop ((t477.length : Int) : Int).toNat) y474) else (none)) else (none)) = some r := H
      have A8 := Aside0.mk A80
      clear A80
      by_cases c9 : 0 ≤ (t477.length : Int)
      ·rw [if_pos c9] at H
       have c9b0 := eq_true c9
       have c9b1 : decide (0 ≤ (t477.length : Int)) = true := decide_eq_true c9
       clear c9
       by_cases c10 : (t477.length : Int) ≤ (x0_1.length : Int)
       ·rw [if_pos c10] at H
        have c10b0 := eq_true c10
        have c10b1 : decide ((t477.length : Int) ≤ (x0_1.length : Int)) = true := decide_eq_true c10
        clear c10
        obtain ⟨y480, hy480⟩ : ∃ y_ : List Int, y_ = (x0_1.drop ((t477.length : Int) : Int).toNat) := ⟨_, rfl⟩
        replace H : (impl_ParseCells.l0 k1 y480 y474) = some r := by first | (rw [hy480]; with_reducible exact H) | (have H2_ := (Option.bind_some _ _).symm.trans H; rw [hy480]; with_reducible exact H2_) | (have H2_ := (Option.bind_some _ _).symm.trans H; with_reducible exact H2_) | with_reducible exact H | (rw [hy480]; exact H) | exact H
        have Ny480 := Aside0.mk hy480
        clear hy480
        have H' := Aside0.mk H
        clear H
        obtain ⟨Ao11, co11, eo11⟩ := Kd.V_slice HO_0.out
        subst eo11
        go_wp2_with (first | ((with_reducible refine gate_callee (f := 42) rfl ?_); refine goesL_ (some 14) rfl rfl Tryd.func42 Z0 rfl #[.slice Ao11 x0_1.length co11] rfl Z9 ?_; (with_reducible refine (impl_parseOne.calls k1 _ _ x0_1 t468 t469 t470 t471 t472 _ ?side1 ?side2 A6.out).mono ?_); (case side1 => exact (by repeat (first | exact (Kd.V_reads' HO_0.out).2.2 | (with_reducible refine Kd.C_alloc ?_ _) | (with_reducible refine Kd.C_drewN ?_ _) | (with_reducible refine Kd.C_drew ?_)))); (case side2 => exact (Kd.V_reads' HO_0.out).2.1); rintro e w12 ⟨rfl, hb⟩; refine ⟨_, rfl, ?_⟩; replace HO_0 := Z (Kd.V_below (Z57 HO_0) hb); replace HO_3 := Z (Kd.R_below (Z6 HO_3) hb); replace HB := Z (below_step Z67 hb); (try clear hb); (try clear hb2); (try clear hk); (try clear hi)) | ((with_reducible refine gate_dst (N := 4) rfl ?_); refine box_event (by rfl) (N := 4) (by rfl) (cs := #[.int .i64 0, .string (⟨#[]⟩ : ByteArray), .int .i32 0, .bool false, .int .u32 0]) (t := 27) Z3 ?_; intro gb473 hg w13 hbox hb; replace HO_0 := Z (Kd.V_below (Kd.V_elderB (Z57 HO_0) gb473 (Nat.le_of_eq hg.symm)) hb); replace HO_3 := Z (Kd.R_below (Kd.R_elderB (Z6 HO_3) gb473 (Nat.le_of_eq hg.symm)) hb); have BK473 := Z (hbox); have GW473 := Z ((Z79 : w.heap.size ≤ gb473)); have GE473 := Z ((Z79 : w.heap.size ≤ gb473)); replace HB := Z (below_step Z67 hb); clear hb hbox hg; have hcz14_0 : w13.cell? ⟨gb473, 0, none⟩ = some (.int .i64 0) := (blk_cell BK473.out 0).trans rfl; have hcz14_1 : w13.cell? ⟨gb473, 1, none⟩ = some (.string (⟨#[]⟩ : ByteArray)) := (blk_cell BK473.out 1).trans rfl; have hcz14_2 : w13.cell? ⟨gb473, 2, none⟩ = some (.int .i32 0) := (blk_cell BK473.out 2).trans rfl; have hcz14_3 : w13.cell? ⟨gb473, 3, none⟩ = some (.bool false) := (blk_cell BK473.out 3).trans rfl; have hcz14_4 : w13.cell? ⟨gb473, 4, none⟩ = some (.int .u32 0) := (blk_cell BK473.out 4).trans rfl; have hfz14_0 := blk_frozen BK473.out 0; have hfz14_1 := blk_frozen BK473.out 1; have hfz14_2 := blk_frozen BK473.out 2; have hfz14_3 := blk_frozen BK473.out 3; have hfz14_4 := blk_frozen BK473.out 4) | ((with_reducible refine gate_builtin (b := .append) (xs := #[.tmp 15, .tmp 17]) rfl ?_); at_builtin; refine Kd.R_append k27 (w0 := w) w.heap.size rfl (.tmp 15) (.tmp 17) 46 27 (.agg #[(.int .i64 0), (.string ⟨#[]⟩), (.int .i32 0), (.bool false), (.int .u32 0)]) 40 rfl Tryd.underlying46 info27 rfl (by decide) (by omega) u3 x3_1 (⟨t468, t469, t470, t471, t472⟩ : S27) [.int .i64 t468, .string t469, .int .i32 t470, .bool t471, .int .u32 t472] (fun k_ => (w.heap.size ≤ k_) ∧ k_ ≠ gb473) (fun _ => False) rfl Z3 ?aP (fun _ hk => hk.elim) ?aF ?aO ?aB ?aS ?aL ?_; (case aP => exact k27_mkM _ _ _ (⟨t468, t469, t470, t471, t472⟩ : S27)); (case aB => exact Z67); (case aF => exact (fun k_ hk => ⟨(Nat.le_trans (below_size Z67) hk), Kd.freshB (g := gb473) (o := .cells #[.int .i64 t468, .string t469, .int .i32 t470, .bool t471, .int .u32 t472] 27 (0, 0)) (Z59 BK473) k_ hk⟩)); (case aO => exact (by (with_reducible repeat (first | apply Kd.R_alloc | apply Kd.R_drewN | apply Kd.R_drew)); exact Kd.R_mono (Kd.R_far (p := ⟨gb473, 4, none⟩) (Kd.R_far (p := ⟨gb473, 3, none⟩) (Kd.R_far (p := ⟨gb473, 2, none⟩) (Kd.R_far (p := ⟨gb473, 1, none⟩) (Kd.R_far (p := ⟨gb473, 0, none⟩) (Kd.R_mono HO_3.out (fun k_ hk => (⟨hk, hk.2⟩ : _ ∧ k_ ≠ gb473))) (fun _ hk => hk.2) (.int .i64 t468)) (fun _ hk => hk.2) (.string t469)) (fun _ hk => hk.2) (.int .i32 t470)) (fun _ hk => hk.2) (.bool t471)) (fun _ hk => hk.2) (.int .u32 t472)) (fun _ hk => ⟨hk.1.1, hk.1.2⟩))); (case aS => exact (below_size Z67)); (case aL => have := LMc7.out; omega); intro v475 w15 ho hb hg hat; rw [← Ny474.out] at ho; replace HO_0 := Z (Kd.V_afterv (ok := (fun k_ => (P0_ k_ ∨ w.heap.size ≤ k_) ∧ k_ ≠ gb473)) (by (with_reducible repeat (first | apply Kd.V_alloc | apply Kd.V_drewN | apply Kd.V_drew)); exact Kd.V_mono (Kd.V_far (p := ⟨gb473, 4, none⟩) (Kd.V_far (p := ⟨gb473, 3, none⟩) (Kd.V_far (p := ⟨gb473, 2, none⟩) (Kd.V_far (p := ⟨gb473, 1, none⟩) (Kd.V_far (p := ⟨gb473, 0, none⟩) (Kd.V_mono HO_0.out (fun k_ hk => (⟨hk, hk.2⟩ : _ ∧ k_ ≠ gb473))) (fun _ hk => hk.2) (.int .i64 t468)) (fun _ hk => hk.2) (.string t469)) (fun _ hk => hk.2) (.int .i32 t470)) (fun _ hk => hk.2) (.bool t471)) (fun _ hk => hk.2) (.int .u32 t472)) (fun _ hk => ⟨⟨hk.1.1.1, hk.1.2⟩, hk.1.1.2⟩)) hg hat); replace BK473 := Z (blk_grown (g := gb473) (o := .cells #[.int .i64 t468, .string t469, .int .i32 t470, .bool t471, .int .u32 t472] 27 (0, 0)) (Z59 BK473) hg (Kd.R_away HO_3.out (fun _ hk => hk.2))); replace HB := Z (hb); have HO476 := Z (ho); clear HO_3; clear ho hb hg hat; have hcz16_0 : w15.cell? ⟨gb473, 0, none⟩ = some (.int .i64 t468) := (blk_cell BK473.out 0).trans rfl; have hcz16_1 : w15.cell? ⟨gb473, 1, none⟩ = some (.string t469) := (blk_cell BK473.out 1).trans rfl; have hcz16_2 : w15.cell? ⟨gb473, 2, none⟩ = some (.int .i32 t470) := (blk_cell BK473.out 2).trans rfl; have hcz16_3 : w15.cell? ⟨gb473, 3, none⟩ = some (.bool t471) := (blk_cell BK473.out 3).trans rfl; have hcz16_4 : w15.cell? ⟨gb473, 4, none⟩ = some (.int .u32 t472) := (blk_cell BK473.out 4).trans rfl; have hfz16_0 := blk_frozen BK473.out 0; have hfz16_1 := blk_frozen BK473.out 1; have hfz16_2 := blk_frozen BK473.out 2; have hfz16_3 := blk_frozen BK473.out 3; have hfz16_4 := blk_frozen BK473.out 4) | ((with_reducible refine gate_callee (f := 38) rfl ?_); refine goesL_ (some 21) rfl rfl Tryd.func38 Z0 rfl #[.agg #[.int .i64 t468, .string t469, .int .i32 t470, .bool t471, .int .u32 t472]] rfl Z9 ?_; (with_reducible refine (impl_CellsOf.calls k1 t468 t469 t470 t471 t472 t477 _ A8.out).mono ?_); rintro e w17 ⟨v478, rfl, ho0, hb⟩; refine ⟨_, rfl, ?_⟩; replace HO_0 := Z (Kd.V_elder' (Z57 HO_0) (Kd.R_base ho0) hb); replace HO476 := Z (Kd.R_below (Z6 HO476) hb); have HO479 := Z (Kd.R_lower (Kd.R_newM (M := fun k_ => (w.heap.size ≤ k_)) ho0 (below_size Z67) (fun k_ h_ => h_)) (below_size Z67)); replace BK473 := Z (blk_below (g := gb473) (o := .cells #[.int .i64 t468, .string t469, .int .i32 t470, .bool t471, .int .u32 t472] 27 (0, 0)) (Z15 BK473) hb); replace HB := Z (below_step Z67 hb); (try clear hb); (try clear hb2); (try clear hk); (try clear hi); (try clear ho0); obtain ⟨Ao18, co18, eo18⟩ := Kd.R_slice HO479.out; subst eo18; have q19 : ((t477.length : Int) : Int) ≤ ((x0_1.length : Int) : Int) := of_decide_eq_true Z10; obtain ⟨i019, hi019, _, hsz19, _⟩ := info_parts info22; have hroom19 : x0_1.length ≤ co11 := (Kd.V_reads' HO_0.out).2.1; have hC19 : Kd.F (Kd.int .u32) _ _ Ao11 x0_1.length x0_1 := (Kd.V_at (base := w.heap.size) HO_0.out).2.2; have q019 : (0 : Int) ≤ ((t477.length : Int) : Int) := of_decide_eq_true Z10; have hcut19 := cut_from (P := Tryd.prog) 30 22 .i64 Tryd.underlying30 hi019 1 hsz19 Ao11 x0_1.length co11 (t477.length : Int) q019 q19; have hr19 := Kd.F_cut (m := ((t477.length : Int) : Int).toNat) (c := co11) hC19 (by omega) hroom19; obtain ⟨A19, hA19⟩ : ∃ A1, A1 = (if co11 = ((t477.length : Int) : Int).toNat then Ao11 else (Ao11 : Option Addr).map (·.add (((t477.length : Int) : Int).toNat * 1))) := ⟨_, rfl⟩; obtain ⟨c19, hc19⟩ : ∃ c1, c1 = co11 - ((t477.length : Int) : Int).toNat := ⟨_, rfl⟩; have hy19 : y480.length = x0_1.length - ((t477.length : Int) : Int).toNat := (by rw [Ny480.out, List.length_drop] <;> omega); rw [show (x0_1).drop ((t477.length : Int) : Int).toNat = y480 from Ny480.out.symm] at hr19; replace hr19 : Kd.F (Kd.int .u32) _ _ A19 y480.length y480 := (by rw [hA19]; exact hr19); rw [← hy19, ← hA19, ← hc19] at hcut19; have HO484 := Z (show Kd.V (Kd.int .u32) 22 _ w.heap.size _ (.slice A19 y480.length c19) y480 from Kd.V_mk Z53 hr19); have HC484 := Z (show y480.length ≤ c19 from Z53); clear hr19 hC19 hroom19 hi019 hsz19 hc19; have KY19 := Aside0.mk hy19; have KA19 := Aside0.mk hA19; clear hy19 hA19; replace q19 := eq_true q19))
        go_roundg k1
        case measure => have := HK1.out; omega
        case rel => exact ⟨(y480), (y474), H', ⟨Z11⟩, ⟨by (with_reducible repeat (first | apply Kd.V_alloc | apply Kd.V_drewN | apply Kd.V_drew)); exact Kd.V_mono HO484.out (fun _ hk => ⟨hk.1.1.1, hk.1.2⟩)⟩, ⟨(Z58 HO476)⟩, ⟨Z67⟩⟩
       ·rw [if_neg c10] at H
        exact absurd H (by simp)
      ·rw [if_neg c9] at H
       exact absurd H (by simp)
     ·rw [if_neg c7] at H
      exact absurd H (by simp)
    ·rw [if_neg c5] at H
     have c5b0 : decide (0 < (x0_1.length : Int)) = false := decide_eq_false c5
     have c5b1 : decide (0 < x0_1.length) = false := decide_eq_false (by omega)
     clear c5
     have H' := Aside0.mk H
     clear H
     obtain ⟨Ao20, co20, eo20⟩ := Kd.V_slice HO_0.out
     subst eo20
     obtain ⟨Ao21, co21, eo21⟩ := Kd.R_slice HO_3.out
     subst eo21
     go_wp2
     go_loopg [3, 5] k1 (fun kq v3 v5 w' => ∃ (x3_2 : List (S27)) (x5_2 : Int), v5 = .int .i64 x5_2 ∧ Aside0 (impl_ParseCells.l1 kq x3_2 x5_2 = some r) ∧ Aside0 (kq ≤ k1) ∧ Aside0 (Kd.R k27 27 w' w.heap.size (fun k_ => (w.heap.size ≤ k_)) v3 x3_2) ∧ Aside0 (Below w.heap.size w w'))
     case atStart => exact ⟨(x3_1), (wrap64 ((x3_1.length : Int) - 1)), Z7, H', ⟨Nat.le_refl _⟩, ⟨(Z6 HO_3)⟩, ⟨Z67⟩⟩
     case round =>
      clear H'
      try clear c1
      try clear q1
      try clear c2
      try clear c2b0
      try clear c2b1
      try clear p2
      try clear c3
      try clear c4
      try clear c5
      try clear c5b0
      try clear c5b1
      try clear p6
      try clear c7
      try clear c9
      try clear c9b0
      try clear c9b1
      try clear c10
      try clear c10b0
      try clear c10b1
      try clear c19
      try clear q19
      try clear hcz14_0
      try clear hcz14_1
      try clear hcz14_2
      try clear hcz14_3
      try clear hcz14_4
      try clear hcz16_0
      try clear hcz16_1
      try clear hcz16_2
      try clear hcz16_3
      try clear hcz16_4
      try clear hfz14_0
      try clear hfz14_1
      try clear hfz14_2
      try clear hfz14_3
      try clear hfz14_4
      try clear hfz16_0
      try clear hfz16_1
      try clear hfz16_2
      try clear hfz16_3
      try clear hfz16_4
      try clear p2
      try clear q019
      try clear q19
      obtain ⟨x3_2, x5_2, rfl, HA, HK2, HO_3, HB⟩ := hrel
      cases gk with
      | zero => exact absurd HA.out (by simp [impl_ParseCells.l1])
      | succ k2 =>
       have H := HA.out
       clear HA
       simp only [impl_ParseCells.l1] at H
       by_cases c22 : x5_2 ≥ 0
       ·rw [if_pos c22] at H
        have c22b0 : decide (0 ≤ x5_2) = true := decide_eq_true c22
        clear c22
        by_cases c23 : 0 ≤ x5_2
        ·rw [if_pos c23] at H
         have c23b0 : decide (0 ≤ x5_2) = true := decide_eq_true c23
         clear c23
         by_cases c24 : x5_2 < (x3_2.length : Int)
         ·rw [if_pos c24] at H
          have c24b0 : decide (x5_2 < (x3_2.length : Int)) = true := decide_eq_true c24
          clear c24
          by_cases c25 : (((rd_T27 x3_2 x5_2).f0) == 0 && ((((rd_T27 x3_2 x5_2).f1).toList) == ([] : List UInt8) && (((rd_T27 x3_2 x5_2).f2) == 0 && (!((rd_T27 x3_2 x5_2).f3) && (((rd_T27 x3_2 x5_2).f4) == 0))))) = true
          ·rw [if_pos c25] at H
           have c25b0 : (((rd_T27 x3_2 x5_2).f0) == 0 && ((((rd_T27 x3_2 x5_2).f1).toList) == ([] : List UInt8) && (((rd_T27 x3_2 x5_2).f2) == 0 && (!((rd_T27 x3_2 x5_2).f3) && (((rd_T27 x3_2 x5_2).f4) == 0))))) = true := c25
           (try (have c25b1 : (((rd_T27 x3_2 x5_2).f0) == 0 && ((((rd_T27 x3_2 x5_2).f1).toList).isEmpty && (((rd_T27 x3_2 x5_2).f2) == 0 && (!((rd_T27 x3_2 x5_2).f3) && (((rd_T27 x3_2 x5_2).f4) == 0))))) = true := by have h_ : (((rd_T27 x3_2 x5_2).f0) == 0 && ((((rd_T27 x3_2 x5_2).f1).toList) == ([] : List UInt8) && (((rd_T27 x3_2 x5_2).f2) == 0 && (!((rd_T27 x3_2 x5_2).f3) && (((rd_T27 x3_2 x5_2).f4) == 0))))) = true := c25; simpa only [List.beq_nil_eq] using h_))
           (try (have c25b2 : decide (((rd_T27 x3_2 x5_2).f0) = 0 && ((((rd_T27 x3_2 x5_2).f1).toList) == ([] : List UInt8) && (((rd_T27 x3_2 x5_2).f2) == 0 && (!((rd_T27 x3_2 x5_2).f3) && (((rd_T27 x3_2 x5_2).f4) == 0))))) = true := Z60))
           (try (have c25b3 : (((rd_T27 x3_2 x5_2).f0) == 0 && ((((rd_T27 x3_2 x5_2).f1).toList) == ([] : List UInt8) && (((rd_T27 x3_2 x5_2).f2) == 0 && (!((rd_T27 x3_2 x5_2).f3) && (((rd_T27 x3_2 x5_2).f4) == 0))))) = true := Z60))
           clear c25
           by_cases c26 : x5_2 ≤ (x3_2.length : Int)
           ·rw [if_pos c26] at H
            have c26b0 := eq_true c26
            have c26b1 : decide (x5_2 ≤ (x3_2.length : Int)) = true := decide_eq_true c26
            clear c26
            obtain ⟨y486, hy486⟩ : ∃ y_ : List (S27), y_ = (x3_2.take (x5_2 : Int).toNat) := ⟨_, rfl⟩
            replace H : (impl_ParseCells.l1 k2 y486 (wrap64 (x5_2 - 1))) = some r := by first | (rw [hy486]; with_reducible exact H) | (have H2_ := (Option.bind_some _ _).symm.trans H; rw [hy486]; with_reducible exact H2_) | (have H2_ := (Option.bind_some _ _).symm.trans H; with_reducible exact H2_) | with_reducible exact H | (rw [hy486]; exact H) | exact H
            have Ny486 := Aside0.mk hy486
            clear hy486
            have H' := Aside0.mk H
            clear H
            obtain ⟨Ao27, co27, eo27⟩ := Kd.R_slice HO_3.out
            subst eo27
            have p485 : 0 ≤ (x5_2 : Int) := of_decide_eq_true Z10
            have q485 : x5_2 < (x3_2.length : Int) := of_decide_eq_true Z10
            obtain ⟨ad485, e485, hx485_0, hx485_1, hx485_2, hx485_3, hx485_4⟩ := at_T27 (Kd.R_reads' HO_3.out).2.2 x5_2 p485 q485
            cases e485
            replace p485 := eq_true p485
            replace q485 := eq_true q485
            (try clear hcut27)
            have q28 : (x5_2 : Int) ≤ ((x3_2.length : Int) : Int) := of_decide_eq_true Z10
            obtain ⟨i028, hi028, _, hsz28, _⟩ := info_parts info27
            have hcut28 := cut_to (P := Tryd.prog) 46 27 .i64 Tryd.underlying46 hi028 (some ad485) x3_2.length co27 x5_2 (of_decide_eq_true Z10) q28 (Kd.R_reads' HO_3.out).2.1
            have hl28 := (Kd.R_reads' HO_3.out).1
            have hr28 := Kd.R_take (m := (x5_2 : Int).toNat) HO_3.out (by omega)
            have hy28 : y486.length = (x5_2 : Int).toNat := (by rw [Ny486.out, List.length_take]; omega)
            rw [← Ny486.out] at hr28
            rw [← hy28] at hr28 hcut28
            clear hl28 hy28 hi028 hsz28 HO_3
            have HO488 := Aside0.mk hr28
            clear hr28
            replace q28 := eq_true q28
            go_wp2
            go_roundg k2
            case measure => have := HK1.out; have := HK2.out; omega
            case rel => exact ⟨(y486), (wrap64 (x5_2 - 1)), Z7, H', ⟨by have := HK1.out; have := HK2.out; omega⟩, ⟨(Z6 HO488)⟩, ⟨Z67⟩⟩
           ·rw [if_neg c26] at H
            exact absurd H (by simp)
          ·rw [if_neg c25] at H
           have c25b0 : (((rd_T27 x3_2 x5_2).f0) == 0 && ((((rd_T27 x3_2 x5_2).f1).toList) == ([] : List UInt8) && (((rd_T27 x3_2 x5_2).f2) == 0 && (!((rd_T27 x3_2 x5_2).f3) && (((rd_T27 x3_2 x5_2).f4) == 0))))) = false := Z60
           (try (have c25b1 : (((rd_T27 x3_2 x5_2).f0) == 0 && ((((rd_T27 x3_2 x5_2).f1).toList).isEmpty && (((rd_T27 x3_2 x5_2).f2) == 0 && (!((rd_T27 x3_2 x5_2).f3) && (((rd_T27 x3_2 x5_2).f4) == 0))))) = false := by have h_ : (((rd_T27 x3_2 x5_2).f0) == 0 && ((((rd_T27 x3_2 x5_2).f1).toList) == ([] : List UInt8) && (((rd_T27 x3_2 x5_2).f2) == 0 && (!((rd_T27 x3_2 x5_2).f3) && (((rd_T27 x3_2 x5_2).f4) == 0))))) = false := Z60; simpa only [List.beq_nil_eq] using h_))
           (try (have c25b2 : decide (((rd_T27 x3_2 x5_2).f0) = 0 && ((((rd_T27 x3_2 x5_2).f1).toList) == ([] : List UInt8) && (((rd_T27 x3_2 x5_2).f2) == 0 && (!((rd_T27 x3_2 x5_2).f3) && (((rd_T27 x3_2 x5_2).f4) == 0))))) = false := Z60))
           (try (have c25b3 : (((rd_T27 x3_2 x5_2).f0) == 0 && ((((rd_T27 x3_2 x5_2).f1).toList) == ([] : List UInt8) && (((rd_T27 x3_2 x5_2).f2) == 0 && (!((rd_T27 x3_2 x5_2).f3) && (((rd_T27 x3_2 x5_2).f4) == 0))))) = false := Z60))
           (try (have c25b4 : ¬ (((rd_T27 x3_2 x5_2).f0) = 0 && ((((rd_T27 x3_2 x5_2).f1).toList) == ([] : List UInt8) && (((rd_T27 x3_2 x5_2).f2) == 0 && (!((rd_T27 x3_2 x5_2).f3) && (((rd_T27 x3_2 x5_2).f4) == 0))))) := Z60))
           clear c25
           obtain rfl := Option.some.inj H
           obtain ⟨Ao29, co29, eo29⟩ := Kd.R_slice HO_3.out
           subst eo29
           have p485 : 0 ≤ (x5_2 : Int) := of_decide_eq_true Z10
           have q485 : x5_2 < (x3_2.length : Int) := of_decide_eq_true Z10
           obtain ⟨ad485, e485, hx485_0, hx485_1, hx485_2, hx485_3, hx485_4⟩ := at_T27 (Kd.R_reads' HO_3.out).2.2 x5_2 p485 q485
           cases e485
           replace p485 := eq_true p485
           replace q485 := eq_true q485
           go_wp2
           go_ret
           exact ⟨_, Z68, (Z6 HO_3), Z67⟩
         ·rw [if_neg c24] at H
          exact absurd H (by simp)
        ·rw [if_neg c23] at H
         exact absurd H (by simp)
       ·rw [if_neg c22] at H
        have c22b0 : decide (0 ≤ x5_2) = false := decide_eq_false c22
        clear c22
        obtain rfl := Option.some.inj H
        go_wp2
        go_ret
        exact ⟨_, Z68, (Z6 HO_3), Z67⟩

-- NOT PRINTED: function 30 (strings_Builder_WriteString)

-- NOT PRINTED: function 31 (strings_Builder_Len)

-- NOT PRINTED: function 32 (strings_Builder_String)

/-! ### impl_Export: function 13 (by hand: a strings.Builder written on in a loop) -/
def impl_Export.l (k : Nat) : List UInt8 → Bool → List (S27) → Option (List UInt8)
 | acc, _, [] => some acc
 | acc, fst, it :: its => (impl_ItemText.f k it.f0 it.f1 it.f2 it.f3 it.f4).bind fun t => if acc.length + 1 + t.size ≤ 140737488355327 then impl_Export.l k ((acc ++ (if fst = true then [] else if it.f0 = 2 then [10] else [32])) ++ t.data.toList) false its else none
def impl_Export.f (k : Nat) (l0 : List Int) : Option (ByteArray) := (impl_ParseCells.f k l0).bind fun its => (impl_Export.l k [] true its).bind fun fin => if fin.length + 1 ≤ 140737488355328 then some ⟨(if fin = [] then [] else fin ++ [10]).toArray⟩ else none
theorem impl_Export.mono_l (k : Nat) : ∀ (its : List (S27)) (acc : List UInt8) (b : Bool), LeO (impl_Export.l k acc b its) (impl_Export.l (k + 1) acc b its)
 | [], _, _ => LeO.refl _
 | it :: its, acc, b => by
  unfold impl_Export.l
  exact LeO.bind (impl_ItemText.mono _ _ _ _ _ _) (fun t => LeO.ite (impl_Export.mono_l k its _ _) (LeO.none _))
theorem impl_Export.mono : ∀ a0 k, LeO (impl_Export.f k a0) (impl_Export.f (k + 1) a0) := by
 intro a0 k
 unfold impl_Export.f
 exact LeO.bind (impl_ParseCells.mono _ _) (fun its => LeO.bind (impl_Export.mono_l k its _ _) (fun _ => LeO.refl _))
theorem impl_Export.view {w : World} {A : Option Addr} {c : Nat} {l : List Int} (h : Kd.C (Kd.int .u32) w A l.length l) (hc : l.length ≤ c) : Kd.V (Kd.int .u32) 22 w w.heap.size (fun k_ => (fun _ => True) k_) (.slice A l.length c) l :=
 ⟨A, c, rfl, hc, fun W' hW => by
  have hs : w.heap.size ≤ W'.heap.size := by
   rcases Nat.eq_zero_or_pos w.heap.size with h0 | h0
   ·omega
   ·have := heap_lt (hW (w.heap.size - 1) trivial (by omega)) (by omega)
    omega
  exact Kd.C_below (w1 := { w with heap := W'.heap }) h ⟨rfl, rfl, rfl, hs, fun k hk => hW k trivial hk⟩⟩
set_option maxHeartbeats 8000000 in
set_option maxRecDepth 100000 in
theorem impl_Export.calls (k : Nat) (A0 : Option Addr) (c0 : Nat) (l0 : List Int) (r : ByteArray) (w : World) (hr0 : Kd.C (Kd.int .u32) w A0 l0.length l0) (hc0 : l0.length ≤ c0) (h : impl_Export.f k l0 = some r) (HT0 : Aside0 (Itoa.Tab w)) :
  Calls Tryd.prog 13 #[.slice A0 l0.length c0] w fun e w' => e = .returned (.string r) ∧ Below w.heap.size w w' := by
 have hu_ := Tryd.underlying27
 unfold impl_Export.f at h
 obtain ⟨its, hp, h⟩ := Option.bind_eq_some_iff.mp h
 obtain ⟨fin, hl, h⟩ := Option.bind_eq_some_iff.mp h
 have hbig : fin.length + 1 ≤ 140737488355328 := by
  split at h
  ·assumption
  ·cases h
 rw [if_pos hbig] at h
 have HE := Z (Option.some.inj h)
 have HP := Aside0.mk hp
 have HL0 := Aside0.mk hl
 have HG := Aside0.mk hbig
 have HR0 := Aside0.mk hr0
 have HC0 := Aside0.mk hc0
 clear h hp hl hbig hr0 hc0
 have HB := Z (Below.refl w.heap.size w)
 have HI0 := Z (Bld.isB_new w)
 go_enter Tryd.func13, Tryd.ntmps13
 go_wp2_with (go_at_call 29; refine (impl_ParseCells.calls k (fun _ => True) A0 c0 l0 its _ (impl_Export.view (Kd.C_alloc HR0.out _) HC0.out) HP.out).mono ?_; rintro e w1 ⟨v0, rfl, hrow, hb1⟩; obtain ⟨Ao, co, rfl⟩ := Kd.R_slice hrow; have HROW := Aside0.mk hrow; have HB1 := Z (below_step (below_alloc HB.out _) hb1); have HI1 := Z (HI0.out.keep hb1); clear hrow hb1)
 go_loopg [9] its.length (fun kq v9 w' => ∃ (i : Nat) (x : Int) (acc : List UInt8), v9 = .int .i64 x ∧ Aside0 (x = (i : Int) ∧ i + kq = its.length) ∧ Aside0 (impl_Export.l k acc (decide (i = 0)) (its.drop i) = some fin) ∧ Aside0 (Bld.IsB w.heap.size acc w') ∧ Aside0 (∀ ad, Ao = some ad → w'.heap[ad.block]? = w1.heap[ad.block]?) ∧ Aside0 (Below w.heap.size w w'))
 case atStart => exact ⟨0, 0, [], rfl, ⟨rfl, by omega⟩, HL0, HI1, ⟨fun _ _ => rfl⟩, HB1⟩
 case round =>
  obtain ⟨i, x, acc, rfl, HX, HL, HI, HW, HBr⟩ := hrel
  by_cases hi : i = its.length
  ·have hlt : decide (x < (its.length : Int)) = false := by rw [decide_eq_false_iff_not]; have := HX.out; omega
   have hacc : acc = fin := by
    have h := HL.out
    rw [List.drop_of_length_le (by omega)] at h
    exact Option.some.inj h
   subst hacc
   by_cases h0 : acc = []
   ·subst h0
    have hg0 : decide ((0 : Int) < ((([] : List UInt8).length : Nat) : Int)) = false := by decide
    go_wp2_with (first | (go_at_call 31; refine (Bld.len w.heap.size [] _ HI.out).mono ?_; rintro e w2 ⟨rfl, rfl⟩) | (go_at_call 32; refine (Bld.str w.heap.size [] _ HI.out).mono ?_; rintro e w2 ⟨rfl, hb2⟩; have HB2 := Z (HBr.out.trans hb2); clear hb2))
    go_ret
    exact ⟨by rw [← HE.out]; rfl, HB2.out⟩
   ·have hpos : 0 < acc.length := List.length_pos_iff.2 h0
    have hg0 : decide ((0 : Int) < (acc.length : Int)) = true := decide_eq_true (by omega)
    have hg1 : decide (0 < acc.length) = true := decide_eq_true hpos
    have HE2 := Z (show (⟨(acc ++ [10]).toArray⟩ : ByteArray) = r by rw [← HE.out, if_neg h0])
    have HN := Z (show acc.length + (⟨#[10]⟩ : ByteArray).size ≤ 140737488355328 from HG.out)
    clear h0
    go_wp2_with (first | (go_at_call 31; refine (Bld.len w.heap.size acc _ HI.out).mono ?_; rintro e w2 ⟨rfl, rfl⟩) | (go_at_call 30; refine (Bld.write w.heap.size acc ⟨#[10]⟩ _ HI.out HN.out).mono ?_; rintro e w3 ⟨rfl, hi3, hb3, _⟩; have HI3 := Aside0.mk hi3; have HB3 := Z (HBr.out.trans hb3); clear hi3 hb3) | (go_at_call 32; refine (Bld.str w.heap.size (acc ++ [10]) _ HI3.out).mono ?_; rintro e w4 ⟨rfl, hb4⟩; have HB4 := Z (HB3.out.trans hb4); clear hb4))
    go_ret
    exact ⟨by rw [← HE2.out]; rfl, HB4.out⟩
  ·have hi' : i < its.length := by have := HX.out; omega
   cases gk with
   | zero => exact absurd HX.out (by omega)
   | succ k1 =>
    have hlt : decide (x < (its.length : Int)) = true := decide_eq_true Z61
    have p1 : 0 ≤ x := Z61
    have q1 : x < (its.length : Int) := Z61
    have hx1 : wrap64 (x + 1) = x + 1 := by
     have hm := Kd.C_max (Kd.R_reads' HROW.out).2.2
     have := HX.out
     unfold wrap64
     omega
    obtain ⟨ad, rfl, y0, y1, y2, y3, y4⟩ := at_T27 (Kd.R_reads' HROW.out).2.2 x p1 q1
    have hrd : rd_T27 its x = its[i] := by
     unfold rd_T27
     rw [show x.toNat = i by have := HX.out; omega, List.getD_eq_getElem?_getD, List.getElem?_eq_getElem hi']
     rfl
    rw [hrd] at y0 y1 y2 y3 y4
    obtain ⟨cur, hcur⟩ : ∃ cur, w1.heap[ad.block]? = some (.cells cur 27 (0, 0)) := by
     obtain ⟨inner, _, ho⟩ := Kd.R_own HROW.out
     rcases ho with ⟨e_, _⟩ | ⟨g_, cap_, cur_, e_, _, hc_, _⟩
     ·cases e_
     ·injection e_ with e_ _ _
      injection e_ with e_
      subst e_
      exact ⟨cur_, hc_⟩
    have HROWB := Aside0.mk hcur
    have HWr := Z (HW.out ad rfl)
    have tr : ∀ (p : Addr) (v : Value), w1.cell? p = some v → p.block = ad.block → wr.cell? p = some v := fun p v hv hp => (World.cell?_of_block (a := p) (by rw [hp]; exact HWr.out)).trans hv
    have hab : (ad.add (x.toNat * 5)).block = ad.block := by first | (unfold Addr.add; split <;> rfl) | (unfold Addr.add; rfl) | simp [Addr.add]
    replace y0 := tr _ _ y0 hab
    replace y1 := tr _ _ y1 hab
    replace y2 := tr _ _ y2 hab
    replace y3 := tr _ _ y3 hab
    replace y4 := tr _ _ y4 hab
    have HNE : Aside0 (ad.block ≠ w.heap.size) := ⟨by
     obtain ⟨cs_, hc_⟩ := HI.out.blk
     intro e_
     have h1 := HWr.out.trans HROWB.out
     rw [e_, hc_] at h1
     injection h1 with h1
     injection h1 with _ h1 _
     exact absurd h1 (by decide)⟩
    clear tr hcur hi hab
    obtain ⟨t, ht, hl2⟩ : ∃ t, impl_ItemText.f k its[i].f0 its[i].f1 its[i].f2 its[i].f3 its[i].f4 = some t ∧ (if acc.length + 1 + t.size ≤ 140737488355327 then impl_Export.l k ((acc ++ (if decide (i = 0) = true then [] else if its[i].f0 = 2 then [10] else [32])) ++ t.data.toList) false (its.drop (i + 1)) else none) = some fin := by
     have h := HL.out
     rw [List.drop_eq_getElem_cons hi'] at h
     exact Option.bind_eq_some_iff.mp h
    have hlen : acc.length + 1 + t.size ≤ 140737488355327 := by
     split at hl2
     ·assumption
     ·cases hl2
    rw [if_pos hlen] at hl2
    have HLEN := Aside0.mk hlen
    have HT := Aside0.mk ht
    clear hlen ht HL
    have p2 := eq_true p1
    have q2 := eq_true q1
    go_upto_region 6 with (first | ((with_reducible refine gate_dst (N := 5) rfl ?_); (try (refine gate_guard (by rfl) ?_; dsimp only)); refine box_event (by rfl) (N := 5) (by rfl) (cs := #[.int .i64 0, .string (⟨#[]⟩ : ByteArray), .int .i32 0, .bool false, .int .u32 0]) (t := 27) Z3 ?_; intro gb hg w2 hbox hb; have HGB := Z (show wr.heap.size ≤ gb by omega); have HBW2 := Aside0.mk hb; have BK2 := Aside0.mk hbox; clear hb hbox hg; have hcz_0 : w2.cell? ⟨gb, 0, none⟩ = some (.int .i64 0) := (blk_cell BK2.out 0).trans rfl; have hfz_0 := blk_frozen BK2.out 0; have hcz_1 : w2.cell? ⟨gb, 1, none⟩ = some (.string (⟨#[]⟩ : ByteArray)) := (blk_cell BK2.out 1).trans rfl; have hfz_1 := blk_frozen BK2.out 1; have hcz_2 : w2.cell? ⟨gb, 2, none⟩ = some (.int .i32 0) := (blk_cell BK2.out 2).trans rfl; have hfz_2 := blk_frozen BK2.out 2; have hcz_3 : w2.cell? ⟨gb, 3, none⟩ = some (.bool false) := (blk_cell BK2.out 3).trans rfl; have hfz_3 := blk_frozen BK2.out 3; have hcz_4 : w2.cell? ⟨gb, 4, none⟩ = some (.int .u32 0) := (blk_cell BK2.out 4).trans rfl; have hfz_4 := blk_frozen BK2.out 4))
    generalize hq_ : (((((World.setCell w2 _ _).setCell _ _).setCell _ _).setCell _ _).setCell _ _) = w3
    have BK3 : Aside0 (w3.heap[gb]? = some (.cells #[.int .i64 its[i].f0, .string its[i].f1, .int .i32 its[i].f2, .bool its[i].f3, .int .u32 its[i].f4] 27 (0, 0))) := ⟨by rw [← hq_]; refine blk_put (cs := #[.int .i64 its[i].f0, .string its[i].f1, .int .i32 its[i].f2, .bool its[i].f3, .int .u32 0]) ?_ 4 _ rfl; refine blk_put (cs := #[.int .i64 its[i].f0, .string its[i].f1, .int .i32 its[i].f2, .bool false, .int .u32 0]) ?_ 3 _ rfl; refine blk_put (cs := #[.int .i64 its[i].f0, .string its[i].f1, .int .i32 0, .bool false, .int .u32 0]) ?_ 2 _ rfl; refine blk_put (cs := #[.int .i64 its[i].f0, .string (⟨#[]⟩ : ByteArray), .int .i32 0, .bool false, .int .u32 0]) ?_ 1 _ rfl; refine blk_put (cs := #[.int .i64 0, .string (⟨#[]⟩ : ByteArray), .int .i32 0, .bool false, .int .u32 0]) ?_ 0 _ rfl; exact BK2.out⟩
    have HBW3 : Below wr.heap.size wr w3 := by rw [← hq_]; exact below_set (below_set (below_set (below_set (below_set HBW2.out HGB.out) HGB.out) HGB.out) HGB.out) HGB.out
    have HB3 := Z (below_step HBr.out HBW3)
    have HI3 := Z (HI.out.keep HBW3)
    have HW3 := Z ((HBW3.block ad.block (blk_lt (HWr.out.trans HROWB.out))).trans HWr.out)
    have HGN : Aside0 (gb ≠ w.heap.size) := ⟨by have := HI.out.lt; have := HGB.out; omega⟩
    clear HBW3 hq_ y0 y1 y2 y3 y4 hcz_0 hcz_1 hcz_2 hcz_3 hcz_4 hfz_0 hfz_1 hfz_2 hfz_3 hfz_4 BK2 HBW2 HI HW HBr HWr
    have hc_0 : w3.cell? ⟨gb, 0, none⟩ = some (.int .i64 its[i].f0) := (blk_cell BK3.out 0).trans rfl; have hc_1 : w3.cell? ⟨gb, 1, none⟩ = some (.string its[i].f1) := (blk_cell BK3.out 1).trans rfl; have hc_2 : w3.cell? ⟨gb, 2, none⟩ = some (.int .i32 its[i].f2) := (blk_cell BK3.out 2).trans rfl; have hc_3 : w3.cell? ⟨gb, 3, none⟩ = some (.bool its[i].f3) := (blk_cell BK3.out 3).trans rfl; have hc_4 : w3.cell? ⟨gb, 4, none⟩ = some (.int .u32 its[i].f4) := (blk_cell BK3.out 4).trans rfl
    by_cases hi0 : i = 0
    ·have hl3 : impl_Export.l k ((acc ++ []) ++ t.data.toList) (decide (i + 1 = 0)) (its.drop (i + 1)) = some fin := by
      rw [decide_eq_false (Nat.succ_ne_zero i)]
      have h := hl2
      rw [if_pos (decide_eq_true hi0)] at h
      exact h
     have hx0 : (x == 0) = true := by rw [beq_iff_eq]; have := HX.out; omega
     have HN1 := Z (show acc.length + (⟨#[10]⟩ : ByteArray).size ≤ 140737488355328 from Z62)
     have HN2 := Z (show (acc ++ []).length + t.size ≤ 140737488355328 from Z63)
     have HIx := Z (show Bld.IsB w.heap.size (acc ++ []) w3 by rw [List.append_nil]; exact HI3.out)
     clear hi0
     go_wp2_with (first | ((with_reducible refine gate_callee (f := 10) rfl ?_); refine goesL_ (some 24) rfl rfl Tryd.func10 Z0 rfl #[.agg #[.int .i64 its[i].f0, .string its[i].f1, .int .i32 its[i].f2, .bool its[i].f3, .int .u32 its[i].f4]] rfl Z64 ?_; (with_reducible refine (impl_ItemText.calls k its[i].f0 its[i].f1 its[i].f2 its[i].f3 its[i].f4 t _ HT.out ⟨Itoa.tab_at HT0.out HB3.out⟩).mono ?_); rintro e w5 ⟨rfl, hb_⟩; refine ⟨_, rfl, ?_⟩; have HBt := Z (below_step HB3.out hb_); have HIt := Z (HIx.out.keep hb_); have HWt := Z ((hb_.block ad.block (blk_lt (HW3.out.trans HROWB.out))).trans HW3.out); clear hb_) | ((with_reducible refine gate_callee (f := 30) rfl ?_); refine goesL_ (some 25) rfl rfl Tryd.func30 Z0 rfl #[.pointer (some ⟨w.heap.size, 0, none⟩), .string t] rfl Z64 ?_; (with_reducible refine (Bld.write w.heap.size (acc ++ []) t _ HIt.out ?hl).mono ?_); (case hl => exact Z65); rintro e w6 ⟨rfl, hi_, hb_, hk_⟩; refine ⟨_, rfl, ?_⟩; have HI6 := Aside0.mk hi_; have HB6 := Z (HBt.out.trans hb_); have HW6 := Z ((hk_.blk (HWt.out.trans HROWB.out) HNE.out (by decide)).trans HROWB.out.symm); clear hi_ hb_ hk_))
     go_roundg k1
     case measure => omega
     case rel =>
      refine ⟨i + 1, x + 1, _, by first | rw [hx1] | rfl, ⟨Z61, Z61⟩, ⟨?_⟩, HI6, ⟨fun ad_ e_ => Z66⟩, HB6⟩
      exact hl3
    by_cases hk2 : its[i].f0 = 2
    ·have hl3 : impl_Export.l k ((acc ++ [10]) ++ t.data.toList) (decide (i + 1 = 0)) (its.drop (i + 1)) = some fin := by
      rw [decide_eq_false (Nat.succ_ne_zero i)]
      have h := hl2
      rw [if_neg (by simpa using hi0), if_pos hk2] at h
      exact h
     have hx0 : (x == 0) = false := by rw [beq_eq_false_iff_ne]; have := HX.out; omega
     have hk0 : (its[i].f0 == 2) = true := beq_iff_eq.2 hk2
     have HN1 := Z (show acc.length + (⟨#[10]⟩ : ByteArray).size ≤ 140737488355328 from Z62)
     have HN2 := Z (show (acc ++ [10]).length + t.size ≤ 140737488355328 from Z63)
     clear hi0 hk2
     go_wp2_with (first | ((with_reducible refine gate_callee (f := 30) rfl ?_); refine goesL_ (some 22) rfl rfl Tryd.func30 Z0 rfl #[.pointer (some ⟨w.heap.size, 0, none⟩), .string (⟨#[10]⟩ : ByteArray)] rfl Z64 ?_; (with_reducible refine (Bld.write w.heap.size acc (⟨#[10]⟩ : ByteArray) _ HI3.out ?hl).mono ?_); (case hl => exact Z65); rintro e w4 ⟨rfl, hi_, hb_, hk_⟩; refine ⟨_, rfl, ?_⟩; have HI4 := Aside0.mk hi_; have HB4 := Z (HB3.out.trans hb_); have HW4 := Z ((hk_.blk (HW3.out.trans HROWB.out) HNE.out (by decide)).trans HROWB.out.symm); have BK4 := Z (hk_.blk BK3.out HGN.out (by decide)); clear hi_ hb_ hk_; have hd_0 : w4.cell? ⟨gb, 0, none⟩ = some (.int .i64 its[i].f0) := (blk_cell BK4.out 0).trans rfl; have hd_1 : w4.cell? ⟨gb, 1, none⟩ = some (.string its[i].f1) := (blk_cell BK4.out 1).trans rfl; have hd_2 : w4.cell? ⟨gb, 2, none⟩ = some (.int .i32 its[i].f2) := (blk_cell BK4.out 2).trans rfl; have hd_3 : w4.cell? ⟨gb, 3, none⟩ = some (.bool its[i].f3) := (blk_cell BK4.out 3).trans rfl; have hd_4 : w4.cell? ⟨gb, 4, none⟩ = some (.int .u32 its[i].f4) := (blk_cell BK4.out 4).trans rfl) | ((with_reducible refine gate_callee (f := 10) rfl ?_); refine goesL_ (some 24) rfl rfl Tryd.func10 Z0 rfl #[.agg #[.int .i64 its[i].f0, .string its[i].f1, .int .i32 its[i].f2, .bool its[i].f3, .int .u32 its[i].f4]] rfl Z64 ?_; (with_reducible refine (impl_ItemText.calls k its[i].f0 its[i].f1 its[i].f2 its[i].f3 its[i].f4 t _ HT.out ⟨Itoa.tab_at HT0.out HB4.out⟩).mono ?_); rintro e w5 ⟨rfl, hb_⟩; refine ⟨_, rfl, ?_⟩; have HBt := Z (below_step HB4.out hb_); have HIt := Z (HI4.out.keep hb_); have HWt := Z ((hb_.block ad.block (blk_lt (HW4.out.trans HROWB.out))).trans HW4.out); clear hb_) | ((with_reducible refine gate_callee (f := 30) rfl ?_); refine goesL_ (some 25) rfl rfl Tryd.func30 Z0 rfl #[.pointer (some ⟨w.heap.size, 0, none⟩), .string t] rfl Z64 ?_; (with_reducible refine (Bld.write w.heap.size (acc ++ [10]) t _ HIt.out ?hl).mono ?_); (case hl => exact Z65); rintro e w6 ⟨rfl, hi_, hb_, hk_⟩; refine ⟨_, rfl, ?_⟩; have HI6 := Aside0.mk hi_; have HB6 := Z (HBt.out.trans hb_); have HW6 := Z ((hk_.blk (HWt.out.trans HROWB.out) HNE.out (by decide)).trans HROWB.out.symm); clear hi_ hb_ hk_))
     go_roundg k1
     case measure => omega
     case rel =>
      refine ⟨i + 1, x + 1, _, by first | rw [hx1] | rfl, ⟨Z61, Z61⟩, ⟨?_⟩, HI6, ⟨fun ad_ e_ => Z66⟩, HB6⟩
      exact hl3
    ·have hl3 : impl_Export.l k ((acc ++ [32]) ++ t.data.toList) (decide (i + 1 = 0)) (its.drop (i + 1)) = some fin := by
      rw [decide_eq_false (Nat.succ_ne_zero i)]
      have h := hl2
      rw [if_neg (by simpa using hi0), if_neg hk2] at h
      exact h
     have hx0 : (x == 0) = false := by rw [beq_eq_false_iff_ne]; have := HX.out; omega
     have hk0 : (its[i].f0 == 2) = false := beq_eq_false_iff_ne.2 hk2
     have HN1 := Z (show acc.length + (⟨#[32]⟩ : ByteArray).size ≤ 140737488355328 by have := HLEN.out; have e_ : (⟨#[32]⟩ : ByteArray).size = 1 := rfl; omega)
     have HN2 := Z (show (acc ++ [32]).length + t.size ≤ 140737488355328 from Z63)
     clear hi0 hk2
     go_wp2_with (first | ((with_reducible refine gate_callee (f := 30) rfl ?_); refine goesL_ (some 14) rfl rfl Tryd.func30 Z0 rfl #[.pointer (some ⟨w.heap.size, 0, none⟩), .string (⟨#[32]⟩ : ByteArray)] rfl Z64 ?_; (with_reducible refine (Bld.write w.heap.size acc (⟨#[32]⟩ : ByteArray) _ HI3.out ?hl).mono ?_); (case hl => exact Z65); rintro e w4 ⟨rfl, hi_, hb_, hk_⟩; refine ⟨_, rfl, ?_⟩; have HI4 := Aside0.mk hi_; have HB4 := Z (HB3.out.trans hb_); have HW4 := Z ((hk_.blk (HW3.out.trans HROWB.out) HNE.out (by decide)).trans HROWB.out.symm); have BK4 := Z (hk_.blk BK3.out HGN.out (by decide)); clear hi_ hb_ hk_; have hd_0 : w4.cell? ⟨gb, 0, none⟩ = some (.int .i64 its[i].f0) := (blk_cell BK4.out 0).trans rfl; have hd_1 : w4.cell? ⟨gb, 1, none⟩ = some (.string its[i].f1) := (blk_cell BK4.out 1).trans rfl; have hd_2 : w4.cell? ⟨gb, 2, none⟩ = some (.int .i32 its[i].f2) := (blk_cell BK4.out 2).trans rfl; have hd_3 : w4.cell? ⟨gb, 3, none⟩ = some (.bool its[i].f3) := (blk_cell BK4.out 3).trans rfl; have hd_4 : w4.cell? ⟨gb, 4, none⟩ = some (.int .u32 its[i].f4) := (blk_cell BK4.out 4).trans rfl) | ((with_reducible refine gate_callee (f := 10) rfl ?_); refine goesL_ (some 24) rfl rfl Tryd.func10 Z0 rfl #[.agg #[.int .i64 its[i].f0, .string its[i].f1, .int .i32 its[i].f2, .bool its[i].f3, .int .u32 its[i].f4]] rfl Z64 ?_; (with_reducible refine (impl_ItemText.calls k its[i].f0 its[i].f1 its[i].f2 its[i].f3 its[i].f4 t _ HT.out ⟨Itoa.tab_at HT0.out HB4.out⟩).mono ?_); rintro e w5 ⟨rfl, hb_⟩; refine ⟨_, rfl, ?_⟩; have HBt := Z (below_step HB4.out hb_); have HIt := Z (HI4.out.keep hb_); have HWt := Z ((hb_.block ad.block (blk_lt (HW4.out.trans HROWB.out))).trans HW4.out); clear hb_) | ((with_reducible refine gate_callee (f := 30) rfl ?_); refine goesL_ (some 25) rfl rfl Tryd.func30 Z0 rfl #[.pointer (some ⟨w.heap.size, 0, none⟩), .string t] rfl Z64 ?_; (with_reducible refine (Bld.write w.heap.size (acc ++ [32]) t _ HIt.out ?hl).mono ?_); (case hl => exact Z65); rintro e w6 ⟨rfl, hi_, hb_, hk_⟩; refine ⟨_, rfl, ?_⟩; have HI6 := Aside0.mk hi_; have HB6 := Z (HBt.out.trans hb_); have HW6 := Z ((hk_.blk (HWt.out.trans HROWB.out) HNE.out (by decide)).trans HROWB.out.symm); clear hi_ hb_ hk_))
     go_roundg k1
     case measure => omega
     case rel =>
      refine ⟨i + 1, x + 1, _, by first | rw [hx1] | rfl, ⟨Z61, Z61⟩, ⟨?_⟩, HI6, ⟨fun ad_ e_ => Z66⟩, HB6⟩
      exact hl3

/-! ### laws_eqUint32S: function 14 -/
def laws_eqUint32S.l0 : Nat → List Int → List Int → Int → Option (Bool)
 | 0, _, _, _ => none
 | k + 1, x0, x1, x5 => if x5 < (x0.length : Int) then (if 0 ≤ x5 then (if x5 < (x1.length : Int) then (if (rd x0 x5) = (rd x1 x5) then (laws_eqUint32S.l0 k x0 x1 (wrap64 (x5 + 1))) else (some false)) else (none)) else (none)) else (some true)
def laws_eqUint32S.f (k : Nat) (l0 : List Int) (l1 : List Int) : Option (Bool) := if (l0.length : Int) = (l1.length : Int) then (laws_eqUint32S.l0 k l0 l1 0) else (some false)
theorem laws_eqUint32S.mono_l : ∀ k, (∀ y0 y1 y2, LeO (laws_eqUint32S.l0 k y0 y1 y2) (laws_eqUint32S.l0 (k + 1) y0 y1 y2))
 | 0 => fun _ _ _ r h => by simp [laws_eqUint32S.l0] at h
 | k + 1 => by
  have ih0 := laws_eqUint32S.mono_l k
  ·intro y0 y1 y2
   unfold laws_eqUint32S.l0
   repeat' first
   | (with_reducible exact ih0 _ _ _)
   | (with_reducible exact LeO.refl _)
   | (with_reducible exact LeO.none _)
   | (with_reducible refine LeO.ite ?_ ?_)
   | (with_reducible refine LeO.bind ?_ (fun _ => ?_))
   | exact ih0 _ _ _
   | exact LeO.none _
   | refine LeO.ite ?_ ?_
   | refine LeO.bind ?_ (fun _ => ?_)
theorem laws_eqUint32S.mono : ∀ a0 a1 k, LeO (laws_eqUint32S.f k a0 a1) (laws_eqUint32S.f (k + 1) a0 a1) := by
 intro a0 a1 k
 have ih0 := laws_eqUint32S.mono_l k
 unfold laws_eqUint32S.f
 repeat' first
   | (with_reducible exact ih0 _ _ _)
   | (with_reducible exact LeO.refl _)
   | (with_reducible exact LeO.none _)
   | (with_reducible refine LeO.ite ?_ ?_)
   | (with_reducible refine LeO.bind ?_ (fun _ => ?_))
   | exact ih0 _ _ _
   | exact LeO.none _
   | refine LeO.ite ?_ ?_
   | refine LeO.bind ?_ (fun _ => ?_)
set_option maxHeartbeats 8000000 in
set_option maxRecDepth 100000 in
theorem laws_eqUint32S.calls (k : Nat) (A0 : Option Addr) (c0 : Nat) (l0 : List Int) (A1 : Option Addr) (c1 : Nat) (l1 : List Int) (r : Bool) (w : World) (hr0 : Kd.C (Kd.int .u32) w A0 l0.length l0) (hc0 : l0.length ≤ c0) (hr1 : Kd.C (Kd.int .u32) w A1 l1.length l1) (hc1 : l1.length ≤ c1) (h : laws_eqUint32S.f k l0 l1 = some r) :
  Calls Tryd.prog 14 #[.slice A0 l0.length c0, .slice A1 l1.length c1] w fun e w' => e = .returned (.bool r) ∧ Drawn0 w w' := by
 have HR0 := Aside0.mk hr0
 have HC0 := Aside0.mk hc0
 clear hr0 hc0
 have HR1 := Aside0.mk hr1
 have HC1 := Aside0.mk hc1
 clear hr1 hc1
 have H : (if (l0.length : Int) = (l1.length : Int) then (laws_eqUint32S.l0 k l0 l1 0) else (some false)) = some r := h
 clear h
 by_cases c3 : (l0.length : Int) = (l1.length : Int)
 ·rw [if_pos c3] at H
  have c3b0 : ((l0.length : Int) == (l1.length : Int)) = true := beq_iff_eq.mpr c3
  have c3b1 : ((l0.length : Int) != (l1.length : Int)) = false := bne_eq_false_iff_eq.mpr c3
  have c3b2 : (l0.length == l1.length) = true := Z22
  clear c3
  have H' := Aside0.mk H
  clear H
  go_enter Tryd.func14, Tryd.ntmps14
  go_wp2
  repeat (go_quiet (fail); try go_wp2)
  go_loopg [5] k (fun kq v5 w' => ∃ (x5_1 : Int), v5 = .int .i64 x5_1 ∧ Aside0 (laws_eqUint32S.l0 kq l0 l1 x5_1 = some r) ∧ Aside0 (kq ≤ k) ∧ Drawn0 w w')
  case atStart => exact ⟨(0), Z7, H', ⟨Nat.le_refl _⟩, Z8⟩
  case round =>
   clear H'
   try clear c1
   try clear p2
   try clear c3
   try clear c3b0
   try clear c3b1
   try clear c3b2
   obtain ⟨x5_1, rfl, HA, HK1, ⟨m1, rfl⟩⟩ := hrel
   cases gk with
   | zero => exact absurd HA.out (by simp [laws_eqUint32S.l0])
   | succ k1 =>
    have H := HA.out
    clear HA
    simp only [laws_eqUint32S.l0] at H
    by_cases c4 : x5_1 < (l0.length : Int)
    ·rw [if_pos c4] at H
     have c4b0 : decide (x5_1 < (l0.length : Int)) = true := decide_eq_true c4
     clear c4
     by_cases c5 : 0 ≤ x5_1
     ·rw [if_pos c5] at H
      have c5b0 : decide (0 ≤ x5_1) = true := decide_eq_true c5
      clear c5
      by_cases c6 : x5_1 < (l1.length : Int)
      ·rw [if_pos c6] at H
       have c6b0 : decide (x5_1 < (l1.length : Int)) = true := decide_eq_true c6
       clear c6
       by_cases c7 : (rd l0 x5_1) = (rd l1 x5_1)
       ·rw [if_pos c7] at H
        have c7b0 : ((rd l0 x5_1) == (rd l1 x5_1)) = true := beq_iff_eq.mpr c7
        have c7b1 : ((rd l0 x5_1) != (rd l1 x5_1)) = false := bne_eq_false_iff_eq.mpr c7
        clear c7
        have H' := Aside0.mk H
        clear H
        have p489 : 0 ≤ (x5_1 : Int) := of_decide_eq_true Z10
        have q489 : x5_1 < (l0.length : Int) := of_decide_eq_true Z10
        obtain ⟨ad489, e489, hx489_0⟩ := Kd.at_int HR0.out x5_1 p489 q489
        cases e489
        replace p489 := eq_true p489
        replace q489 := eq_true q489
        have p490 : 0 ≤ (x5_1 : Int) := of_decide_eq_true Z10
        have q490 : x5_1 < (l1.length : Int) := of_decide_eq_true Z10
        obtain ⟨ad490, e490, hx490_0⟩ := Kd.at_int HR1.out x5_1 p490 q490
        cases e490
        replace p490 := eq_true p490
        replace q490 := eq_true q490
        go_wp2
        repeat (go_quiet (fail); try go_wp2)
        go_roundg k1
        case measure => have := HK1.out; omega
        case rel => exact ⟨(wrap64 (x5_1 + 1)), Z7, H', ⟨Z11⟩, Z8⟩
       ·rw [if_neg c7] at H
        have c7b0 : ((rd l0 x5_1) == (rd l1 x5_1)) = false := beq_eq_false_iff_ne.mpr c7
        have c7b1 : ((rd l0 x5_1) != (rd l1 x5_1)) = true := bne_iff_ne.mpr c7
        obtain rfl := Option.some.inj H
        have p489 : 0 ≤ (x5_1 : Int) := of_decide_eq_true Z10
        have q489 : x5_1 < (l0.length : Int) := of_decide_eq_true Z10
        obtain ⟨ad489, e489, hx489_0⟩ := Kd.at_int HR0.out x5_1 p489 q489
        cases e489
        replace p489 := eq_true p489
        replace q489 := eq_true q489
        have p490 : 0 ≤ (x5_1 : Int) := of_decide_eq_true Z10
        have q490 : x5_1 < (l1.length : Int) := of_decide_eq_true Z10
        obtain ⟨ad490, e490, hx490_0⟩ := Kd.at_int HR1.out x5_1 p490 q490
        cases e490
        replace p490 := eq_true p490
        replace q490 := eq_true q490
        go_wp2
        repeat (go_quiet (fail); try go_wp2)
        go_ret
        exact ⟨Z7, Z8⟩
      ·rw [if_neg c6] at H
       exact absurd H (by simp)
     ·rw [if_neg c5] at H
      exact absurd H (by simp)
    ·rw [if_neg c4] at H
     have c4b0 : decide (x5_1 < (l0.length : Int)) = false := decide_eq_false c4
     clear c4
     obtain rfl := Option.some.inj H
     go_wp2
     repeat (go_quiet (fail); try go_wp2)
     go_ret
     exact ⟨Z7, Z8⟩
 ·rw [if_neg c3] at H
  have c3b0 : ((l0.length : Int) == (l1.length : Int)) = false := beq_eq_false_iff_ne.mpr c3
  have c3b1 : ((l0.length : Int) != (l1.length : Int)) = true := bne_iff_ne.mpr c3
  have c3b2 : (l0.length == l1.length) = false := Z22
  obtain rfl := Option.some.inj H
  go_enter Tryd.func14, Tryd.ntmps14
  go_wp2
  repeat (go_quiet (fail); try go_wp2)
  go_ret
  exact ⟨Z7, Z8⟩

/-! ### laws_FnExactExport: function 4 -/
def laws_FnExactExport.f (k : Nat) (l0 : List Int) : Option (Bool) := if (l0.length : Int) > 1048576 then (some true) else ((laws_toUint32S.f k l0).bind fun t491 => ((spec_Export.f k t491).bind fun t494 => ((laws_toUint32S.f k l0).bind fun t495 => ((impl_Export.f k t495).bind fun t498 => (if t498.toList = t494.toList then ((laws_toUint32S.f k l0).bind fun t499 => ((laws_eqUint32S.f k t495 t499).bind fun t502 => (if t502 = true then (some true) else (some false)))) else (some false))))))
theorem laws_FnExactExport.mono : ∀ a0 k, LeO (laws_FnExactExport.f k a0) (laws_FnExactExport.f (k + 1) a0) := by
 intro a0 k
 unfold laws_FnExactExport.f
 repeat' first
   | (with_reducible exact impl_Export.mono _ _)
   | (with_reducible exact laws_eqUint32S.mono _ _ _)
   | (with_reducible exact laws_toUint32S.mono _ _)
   | (with_reducible exact spec_Export.mono _ _)
   | (with_reducible exact LeO.refl _)
   | (with_reducible exact LeO.none _)
   | (with_reducible refine LeO.ite ?_ ?_)
   | (with_reducible refine LeO.bind ?_ (fun _ => ?_))
   | exact impl_Export.mono _ _
   | exact laws_eqUint32S.mono _ _ _
   | exact laws_toUint32S.mono _ _
   | exact spec_Export.mono _ _
   | exact LeO.none _
   | refine LeO.ite ?_ ?_
   | refine LeO.bind ?_ (fun _ => ?_)
set_option maxHeartbeats 8000000 in
set_option maxRecDepth 100000 in
theorem laws_FnExactExport.calls (k : Nat) (A0 : Option Addr) (c0 : Nat) (l0 : List Int) (r : Bool) (w : World) (hr0 : Kd.C (Kd.int .u32) w A0 l0.length l0) (hc0 : l0.length ≤ c0) (h : laws_FnExactExport.f k l0 = some r) (HT0 : Aside0 (Itoa.Tab w)) :
  Calls Tryd.prog 4 #[.slice A0 l0.length c0] w fun e w' => e = .returned (.bool r) ∧ Below w.heap.size w w' := by
 have HR0 := Aside0.mk hr0
 have HC0 := Aside0.mk hc0
 clear hr0 hc0
 have HB := Z (Below.refl w.heap.size w)
 have H : (if (l0.length : Int) > 1048576 then (some true) else ((laws_toUint32S.f k l0).bind fun t491 => ((spec_Export.f k t491).bind fun t494 => ((laws_toUint32S.f k l0).bind fun t495 => ((impl_Export.f k t495).bind fun t498 => (if t498.toList = t494.toList then ((laws_toUint32S.f k l0).bind fun t499 => ((laws_eqUint32S.f k t495 t499).bind fun t502 => (if t502 = true then (some true) else (some false)))) else (some false))))))) = some r := h
 clear h
 by_cases c2 : (l0.length : Int) > 1048576
 ·rw [if_pos c2] at H
  have c2b0 : decide (1048576 < (l0.length : Int)) = true := decide_eq_true c2
  have c2b1 : decide (1048576 < l0.length) = true := decide_eq_true (by omega)
  clear c2
  obtain rfl := Option.some.inj H
  go_enter Tryd.func4, Tryd.ntmps4
  go_wp2
  go_ret
  exact ⟨Z68, Z67⟩
 ·rw [if_neg c2] at H
  have c2b0 : decide (1048576 < (l0.length : Int)) = false := decide_eq_false c2
  have c2b1 : decide (1048576 < l0.length) = false := decide_eq_false (by omega)
  clear c2
  replace H := Option.bind_eq_some_iff.mp H
  obtain ⟨t491, A30, H⟩ := H
  replace H : ((spec_Export.f k t491).bind fun t494 => ((laws_toUint32S.f k l0).bind fun t495 => ((impl_Export.f k t495).bind fun t498 => (if t498.toList = t494.toList then ((laws_toUint32S.f k l0).bind fun t499 => ((laws_eqUint32S.f k t495 t499).bind fun t502 => (if t502 = true then (some true) else (some false)))) else (some false))))) = some r := H
  have A3 := Aside0.mk A30
  clear A30
  replace H := Option.bind_eq_some_iff.mp H
  obtain ⟨t494, A40, H⟩ := H
  replace H : ((laws_toUint32S.f k l0).bind fun t495 => ((impl_Export.f k t495).bind fun t498 => (if t498.toList = t494.toList then ((laws_toUint32S.f k l0).bind fun t499 => ((laws_eqUint32S.f k t495 t499).bind fun t502 => (if t502 = true then (some true) else (some false)))) else (some false)))) = some r := H
  have A4 := Aside0.mk A40
  clear A40
  replace H := Option.bind_eq_some_iff.mp H
  obtain ⟨t495, A50, H⟩ := H
  replace H : ((impl_Export.f k t495).bind fun t498 => (if t498.toList = t494.toList then ((laws_toUint32S.f k l0).bind fun t499 => ((laws_eqUint32S.f k t495 t499).bind fun t502 => (if t502 = true then (some true) else (some false)))) else (some false))) = some r := H
  have A5 := Aside0.mk A50
  clear A50
  replace H := Option.bind_eq_some_iff.mp H
  obtain ⟨t498, A60, H⟩ := H
  replace H : (if t498.toList = t494.toList then ((laws_toUint32S.f k l0).bind fun t499 => ((laws_eqUint32S.f k t495 t499).bind fun t502 => (if t502 = true then (some true) else (some false)))) else (some false)) = some r := H
  have A6 := Aside0.mk A60
  clear A60
  by_cases c7 : t498.toList = t494.toList
  ·rw [if_pos c7] at H
   have c7b0 : (t498.toList == t494.toList) = true := beq_iff_eq.mpr c7
   have c7b1 : (t498.toList != t494.toList) = false := bne_eq_false_iff_eq.mpr c7
   clear c7
   replace H := Option.bind_eq_some_iff.mp H
   obtain ⟨t499, A80, H⟩ := H
   replace H : ((laws_eqUint32S.f k t495 t499).bind fun t502 => (if t502 = true then (some true) else (some false))) = some r := H
   have A8 := Aside0.mk A80
   clear A80
   replace H := Option.bind_eq_some_iff.mp H
   obtain ⟨t502, A90, H⟩ := H
   replace H : (if t502 = true then (some true) else (some false)) = some r := H
   have A9 := Aside0.mk A90
   clear A90
   by_cases c10 : t502 = true
   ·subst c10
    have H1 : (some true) = some r := Z2
    clear H
    have H := H1
    clear H1
    obtain rfl := Option.some.inj H
    go_enter Tryd.func4, Tryd.ntmps4
    go_wp2_with (first | ((with_reducible refine gate_callee (f := 12) rfl ?_); refine goesL_ (some 10) rfl rfl Tryd.func12 Z0 rfl #[.slice A0 l0.length c0] rfl Z9 ?_; (with_reducible refine (laws_toUint32S.calls k _ _ l0 t491 _ ?side1 ?side2 A3.out).mono ?_); (case side1 => exact (Z46 HR0)); (case side2 => exact HC0.out); rintro e w11 ⟨v492, rfl, ho0, hb⟩; refine ⟨_, rfl, ?_⟩; have HO493 := Z (Kd.R_lower ho0 (below_size Z67)); replace HB := Z (below_step Z67 hb); (try clear hb); (try clear hb2); (try clear hk); (try clear hi); (try clear ho0); obtain ⟨Ao12, co12, eo12⟩ := Kd.R_slice HO493.out; subst eo12) | ((with_reducible refine gate_callee (f := 11) rfl ?_); refine goesL_ (some 11) rfl rfl Tryd.func11 Z0 rfl #[.slice Ao12 t491.length co12] rfl Z9 ?_; (with_reducible refine (spec_Export.calls k _ _ t491 t494 _ ?side1 ?side2 A4.out).mono ?_); (case side1 => exact (Z23 HO493)); (case side2 => exact (Kd.R_reads' HO493.out).2.1); rintro e w13 ⟨rfl, hb⟩; refine ⟨_, rfl, ?_⟩; replace HO493 := Z (Kd.R_below (Z6 HO493) hb); replace HB := Z (below_step Z67 hb); (try clear hb); (try clear hb2); (try clear hk); (try clear hi)) | ((with_reducible refine gate_callee (f := 12) rfl ?_); refine goesL_ (some 13) rfl rfl Tryd.func12 Z0 rfl #[.slice A0 l0.length c0] rfl Z9 ?_; (with_reducible refine (laws_toUint32S.calls k _ _ l0 t495 _ ?side1 ?side2 A5.out).mono ?_); (case side1 => exact (Z24 HR0)); (case side2 => exact HC0.out); rintro e w14 ⟨v496, rfl, ho0, hb⟩; refine ⟨_, rfl, ?_⟩; have HO497 := Z (Kd.R_lower (Kd.R_new' ho0 (Kd.R_lt (Z6 HO493))) (below_size Z67)); replace HO493 := Z (Kd.R_elder' (Z6 HO493) (Kd.R_base ho0) hb); replace HB := Z (below_step Z67 hb); (try clear hb); (try clear hb2); (try clear hk); (try clear hi); (try clear ho0); obtain ⟨Ao15, co15, eo15⟩ := Kd.R_slice HO497.out; subst eo15) | ((with_reducible refine gate_callee (f := 13) rfl ?_); refine goesL_ (some 15) rfl rfl Tryd.func13 Z0 rfl #[.slice Ao15 t495.length co15] rfl Z9 ?_; (with_reducible refine (impl_Export.calls k _ _ t495 t498 _ ?side1 ?side2 A6.out ⟨Itoa.tab_at HT0.out Z73⟩).mono ?_); (case side1 => exact (Z23 HO497)); (case side2 => exact (Kd.R_reads' HO497.out).2.1); rintro e w16 ⟨rfl, hb⟩; refine ⟨_, rfl, ?_⟩; replace HO493 := Z (Kd.R_below (Z6 HO493) hb); replace HO497 := Z (Kd.R_below (Z6 HO497) hb); replace HB := Z (below_step Z67 hb); (try clear hb); (try clear hb2); (try clear hk); (try clear hi)) | ((with_reducible refine gate_callee (f := 12) rfl ?_); refine goesL_ (some 21) rfl rfl Tryd.func12 Z0 rfl #[.slice A0 l0.length c0] rfl Z9 ?_; (with_reducible refine (laws_toUint32S.calls k _ _ l0 t499 _ ?side1 ?side2 A8.out).mono ?_); (case side1 => exact (Z24 HR0)); (case side2 => exact HC0.out); rintro e w17 ⟨v500, rfl, ho0, hb⟩; refine ⟨_, rfl, ?_⟩; have HO501 := Z (Kd.R_lower (Kd.R_new' (Kd.R_new' ho0 (Kd.R_lt (Z6 HO493))) (Kd.R_lt (Z6 HO497))) (below_size Z67)); replace HO493 := Z (Kd.R_elder' (Z6 HO493) (Kd.R_base ho0) hb); replace HO497 := Z (Kd.R_elder' (Z6 HO497) (Kd.R_base ho0) hb); replace HB := Z (below_step Z67 hb); (try clear hb); (try clear hb2); (try clear hk); (try clear hi); (try clear ho0); obtain ⟨Ao18, co18, eo18⟩ := Kd.R_slice HO501.out; subst eo18) | ((with_reducible refine gate_callee (f := 14) rfl ?_); refine goesL_ (some 22) rfl rfl Tryd.func14 Z0 rfl #[.slice Ao15 t495.length co15, .slice Ao18 t499.length co18] rfl Z9 ?_; (with_reducible refine (laws_eqUint32S.calls k _ _ t495 _ _ t499 true _ ?side1 ?side2 ?side3 ?side4 A9.out).mono ?_); (case side1 => exact (Z23 HO497)); (case side2 => exact (Kd.R_reads' HO497.out).2.1); (case side3 => exact (Z23 HO501)); (case side4 => exact (Kd.R_reads' HO501.out).2.1); rintro e w' ⟨rfl, ⟨nd, rfl⟩⟩; refine ⟨_, rfl, ?_⟩))
    go_ret
    exact ⟨Z68, Z67⟩
   ·replace c10 := Bool.eq_false_iff.mpr c10
    subst c10
    have H1 : (some false) = some r := by rw [if_neg (show ¬ (false = true) by decide)] at H; exact H
    clear H
    have H := H1
    clear H1
    obtain rfl := Option.some.inj H
    go_enter Tryd.func4, Tryd.ntmps4
    go_wp2_with (first | ((with_reducible refine gate_callee (f := 12) rfl ?_); refine goesL_ (some 10) rfl rfl Tryd.func12 Z0 rfl #[.slice A0 l0.length c0] rfl Z9 ?_; (with_reducible refine (laws_toUint32S.calls k _ _ l0 t491 _ ?side1 ?side2 A3.out).mono ?_); (case side1 => exact (Z46 HR0)); (case side2 => exact HC0.out); rintro e w19 ⟨v492, rfl, ho0, hb⟩; refine ⟨_, rfl, ?_⟩; have HO493 := Z (Kd.R_lower ho0 (below_size Z67)); replace HB := Z (below_step Z67 hb); (try clear hb); (try clear hb2); (try clear hk); (try clear hi); (try clear ho0); obtain ⟨Ao20, co20, eo20⟩ := Kd.R_slice HO493.out; subst eo20) | ((with_reducible refine gate_callee (f := 11) rfl ?_); refine goesL_ (some 11) rfl rfl Tryd.func11 Z0 rfl #[.slice Ao20 t491.length co20] rfl Z9 ?_; (with_reducible refine (spec_Export.calls k _ _ t491 t494 _ ?side1 ?side2 A4.out).mono ?_); (case side1 => exact (Z23 HO493)); (case side2 => exact (Kd.R_reads' HO493.out).2.1); rintro e w21 ⟨rfl, hb⟩; refine ⟨_, rfl, ?_⟩; replace HO493 := Z (Kd.R_below (Z6 HO493) hb); replace HB := Z (below_step Z67 hb); (try clear hb); (try clear hb2); (try clear hk); (try clear hi)) | ((with_reducible refine gate_callee (f := 12) rfl ?_); refine goesL_ (some 13) rfl rfl Tryd.func12 Z0 rfl #[.slice A0 l0.length c0] rfl Z9 ?_; (with_reducible refine (laws_toUint32S.calls k _ _ l0 t495 _ ?side1 ?side2 A5.out).mono ?_); (case side1 => exact (Z24 HR0)); (case side2 => exact HC0.out); rintro e w22 ⟨v496, rfl, ho0, hb⟩; refine ⟨_, rfl, ?_⟩; have HO497 := Z (Kd.R_lower (Kd.R_new' ho0 (Kd.R_lt (Z6 HO493))) (below_size Z67)); replace HO493 := Z (Kd.R_elder' (Z6 HO493) (Kd.R_base ho0) hb); replace HB := Z (below_step Z67 hb); (try clear hb); (try clear hb2); (try clear hk); (try clear hi); (try clear ho0); obtain ⟨Ao23, co23, eo23⟩ := Kd.R_slice HO497.out; subst eo23) | ((with_reducible refine gate_callee (f := 13) rfl ?_); refine goesL_ (some 15) rfl rfl Tryd.func13 Z0 rfl #[.slice Ao23 t495.length co23] rfl Z9 ?_; (with_reducible refine (impl_Export.calls k _ _ t495 t498 _ ?side1 ?side2 A6.out ⟨Itoa.tab_at HT0.out Z73⟩).mono ?_); (case side1 => exact (Z23 HO497)); (case side2 => exact (Kd.R_reads' HO497.out).2.1); rintro e w24 ⟨rfl, hb⟩; refine ⟨_, rfl, ?_⟩; replace HO493 := Z (Kd.R_below (Z6 HO493) hb); replace HO497 := Z (Kd.R_below (Z6 HO497) hb); replace HB := Z (below_step Z67 hb); (try clear hb); (try clear hb2); (try clear hk); (try clear hi)) | ((with_reducible refine gate_callee (f := 12) rfl ?_); refine goesL_ (some 21) rfl rfl Tryd.func12 Z0 rfl #[.slice A0 l0.length c0] rfl Z9 ?_; (with_reducible refine (laws_toUint32S.calls k _ _ l0 t499 _ ?side1 ?side2 A8.out).mono ?_); (case side1 => exact (Z24 HR0)); (case side2 => exact HC0.out); rintro e w25 ⟨v500, rfl, ho0, hb⟩; refine ⟨_, rfl, ?_⟩; have HO501 := Z (Kd.R_lower (Kd.R_new' (Kd.R_new' ho0 (Kd.R_lt (Z6 HO493))) (Kd.R_lt (Z6 HO497))) (below_size Z67)); replace HO493 := Z (Kd.R_elder' (Z6 HO493) (Kd.R_base ho0) hb); replace HO497 := Z (Kd.R_elder' (Z6 HO497) (Kd.R_base ho0) hb); replace HB := Z (below_step Z67 hb); (try clear hb); (try clear hb2); (try clear hk); (try clear hi); (try clear ho0); obtain ⟨Ao26, co26, eo26⟩ := Kd.R_slice HO501.out; subst eo26) | ((with_reducible refine gate_callee (f := 14) rfl ?_); refine goesL_ (some 22) rfl rfl Tryd.func14 Z0 rfl #[.slice Ao23 t495.length co23, .slice Ao26 t499.length co26] rfl Z9 ?_; (with_reducible refine (laws_eqUint32S.calls k _ _ t495 _ _ t499 false _ ?side1 ?side2 ?side3 ?side4 A9.out).mono ?_); (case side1 => exact (Z23 HO497)); (case side2 => exact (Kd.R_reads' HO497.out).2.1); (case side3 => exact (Z23 HO501)); (case side4 => exact (Kd.R_reads' HO501.out).2.1); rintro e w' ⟨rfl, ⟨nd, rfl⟩⟩; refine ⟨_, rfl, ?_⟩))
    go_ret
    exact ⟨Z68, Z67⟩
  ·rw [if_neg c7] at H
   have c7b0 : (t498.toList == t494.toList) = false := beq_eq_false_iff_ne.mpr c7
   have c7b1 : (t498.toList != t494.toList) = true := bne_iff_ne.mpr c7
   obtain rfl := Option.some.inj H
   go_enter Tryd.func4, Tryd.ntmps4
   go_wp2_with (first | ((with_reducible refine gate_callee (f := 12) rfl ?_); refine goesL_ (some 10) rfl rfl Tryd.func12 Z0 rfl #[.slice A0 l0.length c0] rfl Z9 ?_; (with_reducible refine (laws_toUint32S.calls k _ _ l0 t491 _ ?side1 ?side2 A3.out).mono ?_); (case side1 => exact (Z46 HR0)); (case side2 => exact HC0.out); rintro e w27 ⟨v492, rfl, ho0, hb⟩; refine ⟨_, rfl, ?_⟩; have HO493 := Z (Kd.R_lower ho0 (below_size Z67)); replace HB := Z (below_step Z67 hb); (try clear hb); (try clear hb2); (try clear hk); (try clear hi); (try clear ho0); obtain ⟨Ao28, co28, eo28⟩ := Kd.R_slice HO493.out; subst eo28) | ((with_reducible refine gate_callee (f := 11) rfl ?_); refine goesL_ (some 11) rfl rfl Tryd.func11 Z0 rfl #[.slice Ao28 t491.length co28] rfl Z9 ?_; (with_reducible refine (spec_Export.calls k _ _ t491 t494 _ ?side1 ?side2 A4.out).mono ?_); (case side1 => exact (Z23 HO493)); (case side2 => exact (Kd.R_reads' HO493.out).2.1); rintro e w29 ⟨rfl, hb⟩; refine ⟨_, rfl, ?_⟩; replace HO493 := Z (Kd.R_below (Z6 HO493) hb); replace HB := Z (below_step Z67 hb); (try clear hb); (try clear hb2); (try clear hk); (try clear hi)) | ((with_reducible refine gate_callee (f := 12) rfl ?_); refine goesL_ (some 13) rfl rfl Tryd.func12 Z0 rfl #[.slice A0 l0.length c0] rfl Z9 ?_; (with_reducible refine (laws_toUint32S.calls k _ _ l0 t495 _ ?side1 ?side2 A5.out).mono ?_); (case side1 => exact (Z24 HR0)); (case side2 => exact HC0.out); rintro e w30 ⟨v496, rfl, ho0, hb⟩; refine ⟨_, rfl, ?_⟩; have HO497 := Z (Kd.R_lower (Kd.R_new' ho0 (Kd.R_lt (Z6 HO493))) (below_size Z67)); replace HO493 := Z (Kd.R_elder' (Z6 HO493) (Kd.R_base ho0) hb); replace HB := Z (below_step Z67 hb); (try clear hb); (try clear hb2); (try clear hk); (try clear hi); (try clear ho0); obtain ⟨Ao31, co31, eo31⟩ := Kd.R_slice HO497.out; subst eo31) | ((with_reducible refine gate_callee (f := 13) rfl ?_); refine goesL_ (some 15) rfl rfl Tryd.func13 Z0 rfl #[.slice Ao31 t495.length co31] rfl Z9 ?_; (with_reducible refine (impl_Export.calls k _ _ t495 t498 _ ?side1 ?side2 A6.out ⟨Itoa.tab_at HT0.out Z73⟩).mono ?_); (case side1 => exact (Z23 HO497)); (case side2 => exact (Kd.R_reads' HO497.out).2.1); rintro e w32 ⟨rfl, hb⟩; refine ⟨_, rfl, ?_⟩; replace HO493 := Z (Kd.R_below (Z6 HO493) hb); replace HO497 := Z (Kd.R_below (Z6 HO497) hb); replace HB := Z (below_step Z67 hb); (try clear hb); (try clear hb2); (try clear hk); (try clear hi)))
   go_ret
   exact ⟨Z68, Z67⟩

/-- THE ONE PURE STATEMENT of laws_FnExactExport: yours. -/
def laws_FnExactExport.Pure : Prop := ∀ (l0 : List Int), l0.length ≤ maxLen → l0.length * 4 ≤ 140737488351232 → (∀ x ∈ l0, (Lit.int .u32 x).wf = true) → ∃ k, laws_FnExactExport.f k l0 = some true
theorem laws_FnExactExport.walk (P : laws_FnExactExport.Pure) (a0 : Option Addr) (len0 cap0 : Nat) (z0 : List Int) (w : World) (w0 : (a0 = none ∧ len0 = 0 ∧ cap0 = 0 ∧ z0 = []) ∨ ∃ x, a0 = some x ∧ len0 ≤ cap0 ∧ cap0 ≤ maxLen ∧ z0.length = cap0 ∧ (∀ i, i < z0.length → w.cell? (x.add i) = some (.int .u32 (z0.getD i 0))) ∧ ∀ n ∈ z0, (Lit.int .u32 n).wf = true) (y0 : len0 * 4 ≤ 140737488351232) (HT0 : Aside0 (Itoa.Tab w)) :
  Calls Tryd.prog 4 #[.slice a0 len0 cap0] w fun e w' => e = .returned (.bool true) ∧ Below w.heap.size w w' := by
 obtain ⟨l0, rfl, hr0, hm0, hw0, hc0⟩ := ReadsInt.ofRowC w0
 obtain ⟨k, h⟩ := P l0 hm0 y0 hw0
 refine (laws_FnExactExport.calls k _ _ l0 true w (Kd.C_of_reads (d := (0 : Int)) (h1 := fun _ => rfl) hr0) hc0 h HT0).mono ?_
 rintro e w' ⟨rfl, hd⟩
 exact ⟨rfl, hd⟩

end Go.Proofs.YtfjmpdcflnaogaaDoor.QFnExactExport
