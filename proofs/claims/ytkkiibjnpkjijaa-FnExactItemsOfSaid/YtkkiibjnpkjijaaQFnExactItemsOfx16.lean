/-
Plain functions for the Go functions that a law reaches, each with a proof that the translation's call comes to just that; no conditions beyond those written in each.
-/
import Derived.Test.YtkkiibjnpkjijaaSFnExactItemsOf
import Derived.Test.YtkkiibjnpkjijaaQFnExactItemsOfx1
import Derived.Test.YtkkiibjnpkjijaaQFnExactItemsOfx11
import Derived.Test.YtkkiibjnpkjijaaQFnExactItemsOfx13
import Derived.Test.YtkkiibjnpkjijaaQFnExactItemsOfx15
namespace Go.Proofs.Ytkkiibjnpkjijaa.QFnExactItemsOf
open Go.RowKit Go.Proofs.YtkkiibjnpkjijaaW.PrintWords Go.Proofs.YtkkiibjnpkjijaaW.PrintLast Go.Proofs.YtkkiibjnpkjijaaW.PrintMore
attribute [local go_sem] max2_int min2_int max_two min_two max_three min_three max_four min_four   -- for this text's walks alone
set_option linter.unusedVariables false
set_option linter.unusedSimpArgs false

attribute [local go_sem high] eqA51
/-! ### impl_ParseCells: function 15 -/
mutual
def impl_ParseCells.l0 : Nat → List Int → List (S51) → Option ((List (S51)))
 | 0, _, _ => none
 | k + 1, x0, x3 => if (x0.length : Int) > 0 then ((impl_parseOne.f k x0).bind fun bt497 => (if x3.length < 3518437208883 then ((impl_CellsOf.f k bt497.1 bt497.2.1 bt497.2.2.1 bt497.2.2.2.1 bt497.2.2.2.2).bind fun t506 => (if 0 ≤ (t506.length : Int) then (if (t506.length : Int) ≤ (x0.length : Int) then (impl_ParseCells.l0 k (x0.drop ((t506.length : Int) : Int).toNat) (x3 ++ [(⟨bt497.1, bt497.2.1, bt497.2.2.1, bt497.2.2.2.1, bt497.2.2.2.2⟩ : S51)])) else (none)) else (none))) else (none))) else (impl_ParseCells.l1 k x3 (wrap64 ((x3.length : Int) - 1)))
def impl_ParseCells.l1 : Nat → List (S51) → Int → Option ((List (S51)))
 | 0, _, _ => none
 | k + 1, x3, x5 => if x5 ≥ 0 then (if 0 ≤ x5 then (if x5 < (x3.length : Int) then (if (((rd_T51 x3 x5).f0) == 0 && ((((rd_T51 x3 x5).f1).toList) == ([] : List UInt8) && (((rd_T51 x3 x5).f2) == 0 && (!((rd_T51 x3 x5).f3) && (((rd_T51 x3 x5).f4) == 0))))) = true then (if x5 ≤ (x3.length : Int) then (impl_ParseCells.l1 k (x3.take (x5 : Int).toNat) (wrap64 (x5 - 1))) else (none)) else (some x3)) else (none)) else (none)) else (some x3)
end
def impl_ParseCells.f (k : Nat) (l0 : List Int) : Option ((List (S51))) := if (l0.length : Int) > 64 then (some ([] : List (S51))) else (impl_ParseCells.l0 k l0 (([] : List (S51))))
theorem impl_ParseCells.mono_l : ∀ k, (∀ y0 y1, LeO (impl_ParseCells.l0 k y0 y1) (impl_ParseCells.l0 (k + 1) y0 y1)) ∧ (∀ y0 y1, LeO (impl_ParseCells.l1 k y0 y1) (impl_ParseCells.l1 (k + 1) y0 y1))
 | 0 => ⟨fun _ _ r h => by simp [impl_ParseCells.l0] at h, fun _ _ r h => by simp [impl_ParseCells.l1] at h⟩
 | k + 1 => by
  obtain ⟨ih0, ih1⟩ := impl_ParseCells.mono_l k
  refine ⟨?_, ?_⟩
  ·intro y0 y1
   unfold impl_ParseCells.l0
   repeat' first
   | (with_reducible exact ih0 _ _)
   | (with_reducible exact ih1 _ _)
   | (with_reducible exact impl_CellsOf.mono _ _ _ _ _ _)
   | (with_reducible exact impl_parseOne.mono _ _)
   | (with_reducible exact LeO.refl _)
   | (with_reducible exact LeO.none _)
   | (with_reducible refine LeO.ite ?_ ?_)
   | (with_reducible refine LeO.bind ?_ (fun _ => ?_))
   | exact ih0 _ _
   | exact ih1 _ _
   | exact impl_CellsOf.mono _ _ _ _ _ _
   | exact impl_parseOne.mono _ _
   | exact LeO.none _
   | refine LeO.ite ?_ ?_
   | refine LeO.bind ?_ (fun _ => ?_)
  ·intro y0 y1
   unfold impl_ParseCells.l1
   repeat' first
   | (with_reducible exact ih0 _ _)
   | (with_reducible exact ih1 _ _)
   | (with_reducible exact impl_CellsOf.mono _ _ _ _ _ _)
   | (with_reducible exact impl_parseOne.mono _ _)
   | (with_reducible exact LeO.refl _)
   | (with_reducible exact LeO.none _)
   | (with_reducible refine LeO.ite ?_ ?_)
   | (with_reducible refine LeO.bind ?_ (fun _ => ?_))
   | exact ih0 _ _
   | exact ih1 _ _
   | exact impl_CellsOf.mono _ _ _ _ _ _
   | exact impl_parseOne.mono _ _
   | exact LeO.none _
   | refine LeO.ite ?_ ?_
   | refine LeO.bind ?_ (fun _ => ?_)
theorem impl_ParseCells.mono : ∀ a0 k, LeO (impl_ParseCells.f k a0) (impl_ParseCells.f (k + 1) a0) := by
 intro a0 k
 obtain ⟨ih0, ih1⟩ := impl_ParseCells.mono_l k
 unfold impl_ParseCells.f
 repeat' first
   | (with_reducible exact ih0 _ _)
   | (with_reducible exact ih1 _ _)
   | (with_reducible exact impl_CellsOf.mono _ _ _ _ _ _)
   | (with_reducible exact impl_parseOne.mono _ _)
   | (with_reducible exact LeO.refl _)
   | (with_reducible exact LeO.none _)
   | (with_reducible refine LeO.ite ?_ ?_)
   | (with_reducible refine LeO.bind ?_ (fun _ => ?_))
   | exact ih0 _ _
   | exact ih1 _ _
   | exact impl_CellsOf.mono _ _ _ _ _ _
   | exact impl_parseOne.mono _ _
   | exact LeO.none _
   | refine LeO.ite ?_ ?_
   | refine LeO.bind ?_ (fun _ => ?_)
set_option maxHeartbeats 8000000 in
set_option maxRecDepth 100000 in
theorem impl_ParseCells.calls (k : Nat) (P0_ : Nat → Prop) (A0 : Option Addr) (c0 : Nat) (l0 : List Int) (r : List (S51)) (w : World) (hs0 : Kd.V (Kd.int .u32) 47 w w.heap.size (fun k_ => P0_ k_) (.slice A0 l0.length c0) l0) (h : impl_ParseCells.f k l0 = some r) :
  Calls Try.prog 15 #[.slice A0 l0.length c0] w fun e w' => ∃ v0_ : Value, e = .returned (v0_) ∧ Kd.R k51 51 w' w.heap.size (fun k_ => (w.heap.size ≤ k_)) v0_ r ∧ Below w.heap.size w w' := by
 have hu51 := Try.underlying51
 have HO0 := Z (show Kd.V (Kd.int .u32) 47 w w.heap.size (fun k_ => (P0_ k_ ∨ w.heap.size ≤ k_)) (.slice A0 l0.length c0) l0 from Kd.V_mono hs0 (fun k_ hk => .inl hk))
 have HB := Z (Below.refl w.heap.size w)
 have H : (if (l0.length : Int) > 64 then (some ([] : List (S51))) else (impl_ParseCells.l0 k l0 (([] : List (S51))))) = some r := h
 clear h
 by_cases c2 : (l0.length : Int) > 64
 ·rw [if_pos c2] at H
  have c2b0 : decide (64 < (l0.length : Int)) = true := decide_eq_true c2
  have c2b1 : decide (64 < l0.length) = true := decide_eq_true (by omega)
  clear c2
  obtain rfl := Option.some.inj H
  go_enter Try.func15, Try.ntmps15
  go_wp2
  go_ret
  exact ⟨_, Z13, Z51, Z68⟩
 ·rw [if_neg c2] at H
  have c2b0 : decide (64 < (l0.length : Int)) = false := decide_eq_false c2
  have c2b1 : decide (64 < l0.length) = false := decide_eq_false (by omega)
  clear c2
  obtain ⟨y494, hy494⟩ : ∃ y_ : List (S51), y_ = (([] : List (S51))) := ⟨_, rfl⟩
  replace H : (impl_ParseCells.l0 k l0 y494) = some r := by first | (rw [hy494]; with_reducible exact H) | (have H2_ := (Option.bind_some _ _).symm.trans H; rw [hy494]; with_reducible exact H2_) | (have H2_ := (Option.bind_some _ _).symm.trans H; with_reducible exact H2_) | with_reducible exact H | (rw [hy494]; exact H) | exact H
  have Ny494 := Aside0.mk hy494
  clear hy494
  have H' := Aside0.mk H
  clear H
  go_enter Try.func15, Try.ntmps15
  go_wp2_with (first | ((with_reducible refine gate_dst (N := 9) rfl ?_); refine Kd.R_lit k51 _ 51 (by rfl) (N := 9) (by rfl) (xs := ([] : List (S51))) (inner := []) (ok := fun _ => True) (okp := fun _ => True) Z8 (Reps.none _ _) (fun _ hk => hk) trivial (Below.refl _ _) (Nat.le_refl _) (by simp) ?_; intro v495 w3 ho4 hb hg_ hnew_; clear hg_ hnew_; (first | rw [← Ny494.out] at ho4 | (simp only [Int.reduceToNat] at ho4; rw [← Ny494.out] at ho4)); replace HO0 := Z (Kd.V_elder' (Z59 HO0) (Kd.R_base ho4) hb); have HO496 := Z (Kd.R_lower (Kd.R_newM (M := fun k_ => (w.heap.size ≤ k_)) ho4 (below_size Z68) (fun k_ h_ => h_)) (below_size Z68)); replace HB := Z (below_step Z68 hb); clear hb ho4))
  go_loopg [0, 3] k (fun kq v0 v3 w' => ∃ (x0_1 : List Int) (x3_1 : List (S51)), Aside0 (impl_ParseCells.l0 kq x0_1 x3_1 = some r) ∧ Aside0 (kq ≤ k) ∧ Aside0 (Kd.V (Kd.int .u32) 47 w' w.heap.size (fun k_ => (P0_ k_ ∨ w.heap.size ≤ k_) ∧ some k_ ≠ (v3 : Value).ownBlock) v0 x0_1) ∧ Aside0 (Kd.R k51 51 w' w.heap.size (fun k_ => (w.heap.size ≤ k_)) v3 x3_1) ∧ Aside0 (Below w.heap.size w w'))
  case atStart => exact ⟨(l0), (y494), H', ⟨Nat.le_refl _⟩, ⟨(Z59 HO0)⟩, ⟨(Z60 HO496)⟩, ⟨Z68⟩⟩
  case round =>
   clear H'
   try clear c1
   try clear c2
   try clear c2b0
   try clear c2b1
   try clear p2
   obtain ⟨x0_1, x3_1, HA, HK1, HO_0, HO_3, HB⟩ := hrel
   cases gk with
   | zero => exact absurd HA.out (by simp [impl_ParseCells.l0])
   | succ k1 =>
    have H := HA.out
    clear HA
    simp only [impl_ParseCells.l0] at H
    by_cases c5 : (x0_1.length : Int) > 0
    ·rw [if_pos c5] at H
     have c5b0 : decide (0 < (x0_1.length : Int)) = true := decide_eq_true c5
     have c5b1 : decide (0 < x0_1.length) = true := decide_eq_true (by omega)
     clear c5
     replace H := Option.bind_eq_some_iff.mp H
     obtain ⟨⟨t497, t498, t499, t500, t501⟩, A60, H⟩ := H
     replace H : (if x3_1.length < 3518437208883 then ((impl_CellsOf.f k1 t497 t498 t499 t500 t501).bind fun t506 => (if 0 ≤ (t506.length : Int) then (if (t506.length : Int) ≤ (x0_1.length : Int) then (impl_ParseCells.l0 k1 (x0_1.drop ((t506.length : Int) : Int).toNat) (x3_1 ++ [(⟨t497, t498, t499, t500, t501⟩ : S51)])) else (none)) else (none))) else (none)) = some r := H
     have A6 := Aside0.mk A60
     clear A60
     by_cases c7 : x3_1.length < 3518437208883
     ·rw [if_pos c7] at H
      have LMc7 := Aside0.mk c7
      clear c7
      obtain ⟨y503, hy503⟩ : ∃ y_ : List (S51), y_ = (x3_1 ++ [(⟨t497, t498, t499, t500, t501⟩ : S51)]) := ⟨_, rfl⟩
      replace H : ((impl_CellsOf.f k1 t497 t498 t499 t500 t501).bind fun t506 => (if 0 ≤ (t506.length : Int) then (if (t506.length : Int) ≤ (x0_1.length : Int) then (impl_ParseCells.l0 k1 (x0_1.drop ((t506.length : Int) : Int).toNat) y503) else (none)) else (none))) = some r := by first | (rw [hy503]; with_reducible exact H) | (have H2_ := (Option.bind_some _ _).symm.trans H; rw [hy503]; with_reducible exact H2_) | (have H2_ := (Option.bind_some _ _).symm.trans H; with_reducible exact H2_) | with_reducible exact H | (rw [hy503]; exact H) | exact H
      have Ny503 := Aside0.mk hy503
      clear hy503
      replace H := Option.bind_eq_some_iff.mp H
      obtain ⟨t506, A80, H⟩ := H
      replace H : (if 0 ≤ (t506.length : Int) then (if (t506.length : Int) ≤ (x0_1.length : Int) then (impl_ParseCells.l0 k1 (x0_1.drop ((t506.length : Int) : Int).toNat) y503) else (none)) else (none)) = some r := H
      have A8 := Aside0.mk A80
      clear A80
      by_cases c9 : 0 ≤ (t506.length : Int)
      ·rw [if_pos c9] at H
       have c9b0 := eq_true c9
       have c9b1 : decide (0 ≤ (t506.length : Int)) = true := decide_eq_true c9
       clear c9
       by_cases c10 : (t506.length : Int) ≤ (x0_1.length : Int)
       ·rw [if_pos c10] at H
        have c10b0 := eq_true c10
        have c10b1 : decide ((t506.length : Int) ≤ (x0_1.length : Int)) = true := decide_eq_true c10
        clear c10
        obtain ⟨y509, hy509⟩ : ∃ y_ : List Int, y_ = (x0_1.drop ((t506.length : Int) : Int).toNat) := ⟨_, rfl⟩
        replace H : (impl_ParseCells.l0 k1 y509 y503) = some r := by first | (rw [hy509]; with_reducible exact H) | (have H2_ := (Option.bind_some _ _).symm.trans H; rw [hy509]; with_reducible exact H2_) | (have H2_ := (Option.bind_some _ _).symm.trans H; with_reducible exact H2_) | with_reducible exact H | (rw [hy509]; exact H) | exact H
        have Ny509 := Aside0.mk hy509
        clear hy509
        have H' := Aside0.mk H
        clear H
        obtain ⟨Ao11, co11, eo11⟩ := Kd.V_slice HO_0.out
        subst eo11
        go_wp2_with (first | ((with_reducible refine gate_callee (f := 59) rfl ?_); refine goesL_ (some 14) rfl rfl Try.func59 Z0 rfl #[.slice Ao11 x0_1.length co11] rfl Z11 ?_; (with_reducible refine (impl_parseOne.calls k1 _ _ x0_1 t497 t498 t499 t500 t501 _ ?side1 ?side2 A6.out).mono ?_); (case side1 => exact (by repeat (first | exact (Kd.V_reads' HO_0.out).2.2 | (with_reducible refine Kd.C_alloc ?_ _) | (with_reducible refine Kd.C_drewN ?_ _) | (with_reducible refine Kd.C_drew ?_)))); (case side2 => exact (Kd.V_reads' HO_0.out).2.1); rintro e w12 ⟨rfl, hb⟩; refine ⟨_, rfl, ?_⟩; replace HO_0 := Z (Kd.V_below (Z59 HO_0) hb); replace HO_3 := Z (Kd.R_below (Z14 HO_3) hb); replace HB := Z (below_step Z68 hb); (try clear hb); (try clear hb2); (try clear hk); (try clear hi)) | ((with_reducible refine gate_dst (N := 4) rfl ?_); refine box_event (by rfl) (N := 4) (by rfl) (cs := #[.int .i64 0, .string (⟨#[]⟩ : ByteArray), .int .i32 0, .bool false, .int .u32 0]) (t := 51) Z8 ?_; intro gb502 hg w13 hbox hb; replace HO_0 := Z (Kd.V_below (Kd.V_elderB (Z59 HO_0) gb502 (Nat.le_of_eq hg.symm)) hb); replace HO_3 := Z (Kd.R_below (Kd.R_elderB (Z14 HO_3) gb502 (Nat.le_of_eq hg.symm)) hb); have BK502 := Z (hbox); have GW502 := Z ((Z85 : w.heap.size ≤ gb502)); have GE502 := Z ((Z85 : w.heap.size ≤ gb502)); replace HB := Z (below_step Z68 hb); clear hb hbox hg; have hcz14_0 : w13.cell? ⟨gb502, 0, none⟩ = some (.int .i64 0) := (blk_cell BK502.out 0).trans rfl; have hcz14_1 : w13.cell? ⟨gb502, 1, none⟩ = some (.string (⟨#[]⟩ : ByteArray)) := (blk_cell BK502.out 1).trans rfl; have hcz14_2 : w13.cell? ⟨gb502, 2, none⟩ = some (.int .i32 0) := (blk_cell BK502.out 2).trans rfl; have hcz14_3 : w13.cell? ⟨gb502, 3, none⟩ = some (.bool false) := (blk_cell BK502.out 3).trans rfl; have hcz14_4 : w13.cell? ⟨gb502, 4, none⟩ = some (.int .u32 0) := (blk_cell BK502.out 4).trans rfl; have hfz14_0 := blk_frozen BK502.out 0; have hfz14_1 := blk_frozen BK502.out 1; have hfz14_2 := blk_frozen BK502.out 2; have hfz14_3 := blk_frozen BK502.out 3; have hfz14_4 := blk_frozen BK502.out 4) | ((with_reducible refine gate_builtin (b := .append) (xs := #[.tmp 15, .tmp 17]) rfl ?_); at_builtin; refine Kd.R_append k51 (w0 := w) w.heap.size rfl (.tmp 15) (.tmp 17) 26 51 (.agg #[(.int .i64 0), (.string ⟨#[]⟩), (.int .i32 0), (.bool false), (.int .u32 0)]) 40 rfl Try.underlying26 info51 rfl (by decide) (by omega) u3 x3_1 (⟨t497, t498, t499, t500, t501⟩ : S51) [.int .i64 t497, .string t498, .int .i32 t499, .bool t500, .int .u32 t501] (fun k_ => (w.heap.size ≤ k_) ∧ k_ ≠ gb502) (fun _ => False) rfl Z8 ?aP (fun _ hk => hk.elim) ?aF ?aO ?aB ?aS ?aL ?_; (case aP => exact k51_mkM _ _ _ (⟨t497, t498, t499, t500, t501⟩ : S51)); (case aB => exact Z68); (case aF => exact (fun k_ hk => ⟨(Nat.le_trans (below_size Z68) hk), Kd.freshB (g := gb502) (o := .cells #[.int .i64 t497, .string t498, .int .i32 t499, .bool t500, .int .u32 t501] 51 (0, 0)) (Z61 BK502) k_ hk⟩)); (case aO => exact (by (with_reducible repeat (first | apply Kd.R_alloc | apply Kd.R_drewN | apply Kd.R_drew)); exact Kd.R_mono (Kd.R_far (p := ⟨gb502, 4, none⟩) (Kd.R_far (p := ⟨gb502, 3, none⟩) (Kd.R_far (p := ⟨gb502, 2, none⟩) (Kd.R_far (p := ⟨gb502, 1, none⟩) (Kd.R_far (p := ⟨gb502, 0, none⟩) (Kd.R_mono HO_3.out (fun k_ hk => (⟨hk, hk.2⟩ : _ ∧ k_ ≠ gb502))) (fun _ hk => hk.2) (.int .i64 t497)) (fun _ hk => hk.2) (.string t498)) (fun _ hk => hk.2) (.int .i32 t499)) (fun _ hk => hk.2) (.bool t500)) (fun _ hk => hk.2) (.int .u32 t501)) (fun _ hk => ⟨hk.1.1, hk.1.2⟩))); (case aS => exact (below_size Z68)); (case aL => have := LMc7.out; omega); intro v504 w15 ho hb hg hat; rw [← Ny503.out] at ho; replace HO_0 := Z (Kd.V_afterv (ok := (fun k_ => (P0_ k_ ∨ w.heap.size ≤ k_) ∧ k_ ≠ gb502)) (by (with_reducible repeat (first | apply Kd.V_alloc | apply Kd.V_drewN | apply Kd.V_drew)); exact Kd.V_mono (Kd.V_far (p := ⟨gb502, 4, none⟩) (Kd.V_far (p := ⟨gb502, 3, none⟩) (Kd.V_far (p := ⟨gb502, 2, none⟩) (Kd.V_far (p := ⟨gb502, 1, none⟩) (Kd.V_far (p := ⟨gb502, 0, none⟩) (Kd.V_mono HO_0.out (fun k_ hk => (⟨hk, hk.2⟩ : _ ∧ k_ ≠ gb502))) (fun _ hk => hk.2) (.int .i64 t497)) (fun _ hk => hk.2) (.string t498)) (fun _ hk => hk.2) (.int .i32 t499)) (fun _ hk => hk.2) (.bool t500)) (fun _ hk => hk.2) (.int .u32 t501)) (fun _ hk => ⟨⟨hk.1.1.1, hk.1.2⟩, hk.1.1.2⟩)) hg hat); replace BK502 := Z (blk_grown (g := gb502) (o := .cells #[.int .i64 t497, .string t498, .int .i32 t499, .bool t500, .int .u32 t501] 51 (0, 0)) (Z61 BK502) hg (Kd.R_away HO_3.out (fun _ hk => hk.2))); replace HB := Z (hb); have HO505 := Z (ho); clear HO_3; clear ho hb hg hat; have hcz16_0 : w15.cell? ⟨gb502, 0, none⟩ = some (.int .i64 t497) := (blk_cell BK502.out 0).trans rfl; have hcz16_1 : w15.cell? ⟨gb502, 1, none⟩ = some (.string t498) := (blk_cell BK502.out 1).trans rfl; have hcz16_2 : w15.cell? ⟨gb502, 2, none⟩ = some (.int .i32 t499) := (blk_cell BK502.out 2).trans rfl; have hcz16_3 : w15.cell? ⟨gb502, 3, none⟩ = some (.bool t500) := (blk_cell BK502.out 3).trans rfl; have hcz16_4 : w15.cell? ⟨gb502, 4, none⟩ = some (.int .u32 t501) := (blk_cell BK502.out 4).trans rfl; have hfz16_0 := blk_frozen BK502.out 0; have hfz16_1 := blk_frozen BK502.out 1; have hfz16_2 := blk_frozen BK502.out 2; have hfz16_3 := blk_frozen BK502.out 3; have hfz16_4 := blk_frozen BK502.out 4) | ((with_reducible refine gate_callee (f := 43) rfl ?_); refine goesL_ (some 21) rfl rfl Try.func43 Z0 rfl #[.agg #[.int .i64 t497, .string t498, .int .i32 t499, .bool t500, .int .u32 t501]] rfl Z11 ?_; (with_reducible refine (impl_CellsOf.calls k1 t497 t498 t499 t500 t501 t506 _ A8.out).mono ?_); rintro e w17 ⟨v507, rfl, ho0, hb⟩; refine ⟨_, rfl, ?_⟩; replace HO_0 := Z (Kd.V_elder' (Z59 HO_0) (Kd.R_base ho0) hb); replace HO505 := Z (Kd.R_below (Z14 HO505) hb); have HO508 := Z (Kd.R_lower (Kd.R_newM (M := fun k_ => (w.heap.size ≤ k_)) ho0 (below_size Z68) (fun k_ h_ => h_)) (below_size Z68)); replace BK502 := Z (blk_below (g := gb502) (o := .cells #[.int .i64 t497, .string t498, .int .i32 t499, .bool t500, .int .u32 t501] 51 (0, 0)) (Z10 BK502) hb); replace HB := Z (below_step Z68 hb); (try clear hb); (try clear hb2); (try clear hk); (try clear hi); (try clear ho0); obtain ⟨Ao18, co18, eo18⟩ := Kd.R_slice HO508.out; subst eo18; have q19 : ((t506.length : Int) : Int) ≤ ((x0_1.length : Int) : Int) := of_decide_eq_true Z5; obtain ⟨i019, hi019, _, hsz19, _⟩ := info_parts info47; have hroom19 : x0_1.length ≤ co11 := (Kd.V_reads' HO_0.out).2.1; have hC19 : Kd.F (Kd.int .u32) _ _ Ao11 x0_1.length x0_1 := (Kd.V_at (base := w.heap.size) HO_0.out).2.2; have q019 : (0 : Int) ≤ ((t506.length : Int) : Int) := of_decide_eq_true Z5; have hcut19 := cut_from (P := Try.prog) 24 47 .i64 Try.underlying24 hi019 1 hsz19 Ao11 x0_1.length co11 (t506.length : Int) q019 q19; have hr19 := Kd.F_cut (m := ((t506.length : Int) : Int).toNat) (c := co11) hC19 (by omega) hroom19; obtain ⟨A19, hA19⟩ : ∃ A1, A1 = (if co11 = ((t506.length : Int) : Int).toNat then Ao11 else (Ao11 : Option Addr).map (·.add (((t506.length : Int) : Int).toNat * 1))) := ⟨_, rfl⟩; obtain ⟨c19, hc19⟩ : ∃ c1, c1 = co11 - ((t506.length : Int) : Int).toNat := ⟨_, rfl⟩; have hy19 : y509.length = x0_1.length - ((t506.length : Int) : Int).toNat := (by rw [Ny509.out, List.length_drop] <;> omega); rw [show (x0_1).drop ((t506.length : Int) : Int).toNat = y509 from Ny509.out.symm] at hr19; replace hr19 : Kd.F (Kd.int .u32) _ _ A19 y509.length y509 := (by rw [hA19]; exact hr19); rw [← hy19, ← hA19, ← hc19] at hcut19; have HO513 := Z (show Kd.V (Kd.int .u32) 47 _ w.heap.size _ (.slice A19 y509.length c19) y509 from Kd.V_mk Z55 hr19); have HC513 := Z (show y509.length ≤ c19 from Z55); clear hr19 hC19 hroom19 hi019 hsz19 hc19; have KY19 := Aside0.mk hy19; have KA19 := Aside0.mk hA19; clear hy19 hA19; replace q19 := eq_true q19))
        go_roundg k1
        case measure => have := HK1.out; omega
        case rel => exact ⟨(y509), (y503), H', ⟨Z6⟩, ⟨by (with_reducible repeat (first | apply Kd.V_alloc | apply Kd.V_drewN | apply Kd.V_drew)); exact Kd.V_mono HO513.out (fun _ hk => ⟨hk.1.1.1, hk.1.2⟩)⟩, ⟨(Z60 HO505)⟩, ⟨Z68⟩⟩
       ·rw [if_neg c10] at H
        exact absurd H (by simp)
      ·rw [if_neg c9] at H
       exact absurd H (by simp)
     ·rw [if_neg c7] at H
      exact absurd H (by simp)
    ·rw [if_neg c5] at H
     have c5b0 : decide (0 < (x0_1.length : Int)) = false := decide_eq_false c5
     have c5b1 : decide (0 < x0_1.length) = false := decide_eq_false (by omega)
     clear c5
     have H' := Aside0.mk H
     clear H
     obtain ⟨Ao20, co20, eo20⟩ := Kd.V_slice HO_0.out
     subst eo20
     obtain ⟨Ao21, co21, eo21⟩ := Kd.R_slice HO_3.out
     subst eo21
     go_wp2
     go_loopg [3, 5] k1 (fun kq v3 v5 w' => ∃ (x3_2 : List (S51)) (x5_2 : Int), v5 = .int .i64 x5_2 ∧ Aside0 (impl_ParseCells.l1 kq x3_2 x5_2 = some r) ∧ Aside0 (kq ≤ k1) ∧ Aside0 (Kd.R k51 51 w' w.heap.size (fun k_ => (w.heap.size ≤ k_)) v3 x3_2) ∧ Aside0 (Below w.heap.size w w'))
     case atStart => exact ⟨(x3_1), (wrap64 ((x3_1.length : Int) - 1)), Z3, H', ⟨Nat.le_refl _⟩, ⟨(Z14 HO_3)⟩, ⟨Z68⟩⟩
     case round =>
      clear H'
      try clear c1
      try clear q1
      try clear c2
      try clear c2b0
      try clear c2b1
      try clear p2
      try clear c4
      try clear c5
      try clear c5b0
      try clear c5b1
      try clear p6
      try clear c7
      try clear c9
      try clear c9b0
      try clear c9b1
      try clear c10
      try clear c10b0
      try clear c10b1
      try clear c15
      try clear c19
      try clear q19
      try clear hcz14_0
      try clear hcz14_1
      try clear hcz14_2
      try clear hcz14_3
      try clear hcz14_4
      try clear hcz16_0
      try clear hcz16_1
      try clear hcz16_2
      try clear hcz16_3
      try clear hcz16_4
      try clear hfz14_0
      try clear hfz14_1
      try clear hfz14_2
      try clear hfz14_3
      try clear hfz14_4
      try clear hfz16_0
      try clear hfz16_1
      try clear hfz16_2
      try clear hfz16_3
      try clear hfz16_4
      try clear p2
      try clear q019
      try clear q19
      obtain ⟨x3_2, x5_2, rfl, HA, HK2, HO_3, HB⟩ := hrel
      cases gk with
      | zero => exact absurd HA.out (by simp [impl_ParseCells.l1])
      | succ k2 =>
       have H := HA.out
       clear HA
       simp only [impl_ParseCells.l1] at H
       by_cases c22 : x5_2 ≥ 0
       ·rw [if_pos c22] at H
        have c22b0 : decide (0 ≤ x5_2) = true := decide_eq_true c22
        clear c22
        by_cases c23 : 0 ≤ x5_2
        ·rw [if_pos c23] at H
         have c23b0 : decide (0 ≤ x5_2) = true := decide_eq_true c23
         clear c23
         by_cases c24 : x5_2 < (x3_2.length : Int)
         ·rw [if_pos c24] at H
          have c24b0 : decide (x5_2 < (x3_2.length : Int)) = true := decide_eq_true c24
          clear c24
          by_cases c25 : (((rd_T51 x3_2 x5_2).f0) == 0 && ((((rd_T51 x3_2 x5_2).f1).toList) == ([] : List UInt8) && (((rd_T51 x3_2 x5_2).f2) == 0 && (!((rd_T51 x3_2 x5_2).f3) && (((rd_T51 x3_2 x5_2).f4) == 0))))) = true
          ·rw [if_pos c25] at H
           have c25b0 : (((rd_T51 x3_2 x5_2).f0) == 0 && ((((rd_T51 x3_2 x5_2).f1).toList) == ([] : List UInt8) && (((rd_T51 x3_2 x5_2).f2) == 0 && (!((rd_T51 x3_2 x5_2).f3) && (((rd_T51 x3_2 x5_2).f4) == 0))))) = true := c25
           (try (have c25b1 : (((rd_T51 x3_2 x5_2).f0) == 0 && ((((rd_T51 x3_2 x5_2).f1).toList).isEmpty && (((rd_T51 x3_2 x5_2).f2) == 0 && (!((rd_T51 x3_2 x5_2).f3) && (((rd_T51 x3_2 x5_2).f4) == 0))))) = true := by have h_ : (((rd_T51 x3_2 x5_2).f0) == 0 && ((((rd_T51 x3_2 x5_2).f1).toList) == ([] : List UInt8) && (((rd_T51 x3_2 x5_2).f2) == 0 && (!((rd_T51 x3_2 x5_2).f3) && (((rd_T51 x3_2 x5_2).f4) == 0))))) = true := c25; simpa only [List.beq_nil_eq] using h_))
           (try (have c25b2 : decide (((rd_T51 x3_2 x5_2).f0) = 0 && ((((rd_T51 x3_2 x5_2).f1).toList) == ([] : List UInt8) && (((rd_T51 x3_2 x5_2).f2) == 0 && (!((rd_T51 x3_2 x5_2).f3) && (((rd_T51 x3_2 x5_2).f4) == 0))))) = true := Z62))
           (try (have c25b3 : (((rd_T51 x3_2 x5_2).f0) == 0 && ((((rd_T51 x3_2 x5_2).f1).toList) == ([] : List UInt8) && (((rd_T51 x3_2 x5_2).f2) == 0 && (!((rd_T51 x3_2 x5_2).f3) && (((rd_T51 x3_2 x5_2).f4) == 0))))) = true := Z62))
           clear c25
           by_cases c26 : x5_2 ≤ (x3_2.length : Int)
           ·rw [if_pos c26] at H
            have c26b0 := eq_true c26
            have c26b1 : decide (x5_2 ≤ (x3_2.length : Int)) = true := decide_eq_true c26
            clear c26
            obtain ⟨y515, hy515⟩ : ∃ y_ : List (S51), y_ = (x3_2.take (x5_2 : Int).toNat) := ⟨_, rfl⟩
            replace H : (impl_ParseCells.l1 k2 y515 (wrap64 (x5_2 - 1))) = some r := by first | (rw [hy515]; with_reducible exact H) | (have H2_ := (Option.bind_some _ _).symm.trans H; rw [hy515]; with_reducible exact H2_) | (have H2_ := (Option.bind_some _ _).symm.trans H; with_reducible exact H2_) | with_reducible exact H | (rw [hy515]; exact H) | exact H
            have Ny515 := Aside0.mk hy515
            clear hy515
            have H' := Aside0.mk H
            clear H
            obtain ⟨Ao27, co27, eo27⟩ := Kd.R_slice HO_3.out
            subst eo27
            have p514 : 0 ≤ (x5_2 : Int) := of_decide_eq_true Z5
            have q514 : x5_2 < (x3_2.length : Int) := of_decide_eq_true Z5
            obtain ⟨ad514, e514, hx514_0, hx514_1, hx514_2, hx514_3, hx514_4⟩ := at_T51 (Kd.R_reads' HO_3.out).2.2 x5_2 p514 q514
            cases e514
            replace p514 := eq_true p514
            replace q514 := eq_true q514
            (try clear hcut27)
            have q28 : (x5_2 : Int) ≤ ((x3_2.length : Int) : Int) := of_decide_eq_true Z5
            obtain ⟨i028, hi028, _, hsz28, _⟩ := info_parts info51
            have hcut28 := cut_to (P := Try.prog) 26 51 .i64 Try.underlying26 hi028 (some ad514) x3_2.length co27 x5_2 (of_decide_eq_true Z5) q28 (Kd.R_reads' HO_3.out).2.1
            have hr28 := Kd.R_take (m := (x5_2 : Int).toNat) HO_3.out (by omega)
            have hy28 : y515.length = (x5_2 : Int).toNat := (by rw [Ny515.out, List.length_take]; omega)
            rw [← Ny515.out] at hr28
            rw [← hy28] at hr28 hcut28
            clear hy28 hi028 hsz28 HO_3
            have HO517 := Aside0.mk hr28
            clear hr28
            replace q28 := eq_true q28
            go_wp2
            go_roundg k2
            case measure => have := HK1.out; have := HK2.out; omega
            case rel => exact ⟨(y515), (wrap64 (x5_2 - 1)), Z3, H', ⟨by have := HK1.out; have := HK2.out; omega⟩, ⟨(Z14 HO517)⟩, ⟨Z68⟩⟩
           ·rw [if_neg c26] at H
            exact absurd H (by simp)
          ·rw [if_neg c25] at H
           have c25b0 : (((rd_T51 x3_2 x5_2).f0) == 0 && ((((rd_T51 x3_2 x5_2).f1).toList) == ([] : List UInt8) && (((rd_T51 x3_2 x5_2).f2) == 0 && (!((rd_T51 x3_2 x5_2).f3) && (((rd_T51 x3_2 x5_2).f4) == 0))))) = false := Z62
           (try (have c25b1 : (((rd_T51 x3_2 x5_2).f0) == 0 && ((((rd_T51 x3_2 x5_2).f1).toList).isEmpty && (((rd_T51 x3_2 x5_2).f2) == 0 && (!((rd_T51 x3_2 x5_2).f3) && (((rd_T51 x3_2 x5_2).f4) == 0))))) = false := by have h_ : (((rd_T51 x3_2 x5_2).f0) == 0 && ((((rd_T51 x3_2 x5_2).f1).toList) == ([] : List UInt8) && (((rd_T51 x3_2 x5_2).f2) == 0 && (!((rd_T51 x3_2 x5_2).f3) && (((rd_T51 x3_2 x5_2).f4) == 0))))) = false := Z62; simpa only [List.beq_nil_eq] using h_))
           (try (have c25b2 : decide (((rd_T51 x3_2 x5_2).f0) = 0 && ((((rd_T51 x3_2 x5_2).f1).toList) == ([] : List UInt8) && (((rd_T51 x3_2 x5_2).f2) == 0 && (!((rd_T51 x3_2 x5_2).f3) && (((rd_T51 x3_2 x5_2).f4) == 0))))) = false := Z62))
           (try (have c25b3 : (((rd_T51 x3_2 x5_2).f0) == 0 && ((((rd_T51 x3_2 x5_2).f1).toList) == ([] : List UInt8) && (((rd_T51 x3_2 x5_2).f2) == 0 && (!((rd_T51 x3_2 x5_2).f3) && (((rd_T51 x3_2 x5_2).f4) == 0))))) = false := Z62))
           (try (have c25b4 : ¬ (((rd_T51 x3_2 x5_2).f0) = 0 && ((((rd_T51 x3_2 x5_2).f1).toList) == ([] : List UInt8) && (((rd_T51 x3_2 x5_2).f2) == 0 && (!((rd_T51 x3_2 x5_2).f3) && (((rd_T51 x3_2 x5_2).f4) == 0))))) := Z62))
           clear c25
           obtain rfl := Option.some.inj H
           obtain ⟨Ao29, co29, eo29⟩ := Kd.R_slice HO_3.out
           subst eo29
           have p514 : 0 ≤ (x5_2 : Int) := of_decide_eq_true Z5
           have q514 : x5_2 < (x3_2.length : Int) := of_decide_eq_true Z5
           obtain ⟨ad514, e514, hx514_0, hx514_1, hx514_2, hx514_3, hx514_4⟩ := at_T51 (Kd.R_reads' HO_3.out).2.2 x5_2 p514 q514
           cases e514
           replace p514 := eq_true p514
           replace q514 := eq_true q514
           go_wp2
           go_ret
           exact ⟨_, Z13, (Z14 HO_3), Z68⟩
         ·rw [if_neg c24] at H
          exact absurd H (by simp)
        ·rw [if_neg c23] at H
         exact absurd H (by simp)
       ·rw [if_neg c22] at H
        have c22b0 : decide (0 ≤ x5_2) = false := decide_eq_false c22
        clear c22
        obtain rfl := Option.some.inj H
        go_wp2
        go_ret
        exact ⟨_, Z13, (Z14 HO_3), Z68⟩

/-! ### impl_StoreOk: function 100 -/
def impl_StoreOk.f (l0_0 : List Int) : Option (Bool) := if ((l0_0.length : Int) % 64) = 0 then (some (decide ((l0_0.length : Int) ≤ 768))) else (some false)
set_option maxHeartbeats 8000000 in
set_option maxRecDepth 100000 in
theorem impl_StoreOk.calls (A0_0 : Option Addr) (c0_0 : Nat) (l0_0 : List Int) (r : Bool) (w : World) (hr0_0 : Kd.C (Kd.int .u32) w A0_0 l0_0.length l0_0) (hc0_0 : l0_0.length ≤ c0_0) (h : impl_StoreOk.f l0_0 = some r) :
  Calls Try.prog 100 #[.agg #[.slice A0_0 l0_0.length c0_0]] w fun e w' => e = .returned (.bool r) ∧ Below w.heap.size w w' := by
 have hu34 := Try.underlying34
 have HR0_0 := Aside0.mk hr0_0
 have HC0_0 := Aside0.mk hc0_0
 clear hr0_0 hc0_0
 have HB := Z (Below.refl w.heap.size w)
 have H : (if ((l0_0.length : Int) % 64) = 0 then (some (decide ((l0_0.length : Int) ≤ 768))) else (some false)) = some r := h
 clear h
 by_cases c2 : ((l0_0.length : Int) % 64) = 0
 ·rw [if_pos c2] at H
  have c2b0 : (((l0_0.length : Int) % 64) == 0) = true := beq_iff_eq.mpr c2
  have c2b1 : (((l0_0.length : Int) % 64) != 0) = false := bne_eq_false_iff_eq.mpr c2
  clear c2
  obtain rfl := Option.some.inj H
  go_enter Try.func100, Try.ntmps100
  go_wp2_with (first | ((with_reducible refine gate_dst (N := 1) rfl ?_); (try (refine gate_guard (by rfl) ?_; dsimp only)); refine box_event (by rfl) (N := 1) (by rfl) (cs := #[.slice A0_0 l0_0.length c0_0]) (t := 34) Z8 ?_; intro gb518 hg w3 hbox hb; have BK518 := Z (hbox); have GW518 := Z ((Z85 : w.heap.size ≤ gb518)); have GE518 := Z ((Z85 : w.heap.size ≤ gb518)); replace HB := Z (below_step Z68 hb); clear hb hbox hg; have hcz4_0 : w3.cell? ⟨gb518, 0, none⟩ = some (.slice A0_0 l0_0.length c0_0) := (blk_cell BK518.out 0).trans rfl; have hfz4_0 := blk_frozen BK518.out 0))
  go_ret
  exact ⟨Z13, Z68⟩
 ·rw [if_neg c2] at H
  have c2b0 : (((l0_0.length : Int) % 64) == 0) = false := beq_eq_false_iff_ne.mpr c2
  have c2b1 : (((l0_0.length : Int) % 64) != 0) = true := bne_iff_ne.mpr c2
  obtain rfl := Option.some.inj H
  go_enter Try.func100, Try.ntmps100
  go_wp2_with (first | ((with_reducible refine gate_dst (N := 1) rfl ?_); (try (refine gate_guard (by rfl) ?_; dsimp only)); refine box_event (by rfl) (N := 1) (by rfl) (cs := #[.slice A0_0 l0_0.length c0_0]) (t := 34) Z8 ?_; intro gb518 hg w5 hbox hb; have BK518 := Z (hbox); have GW518 := Z ((Z85 : w.heap.size ≤ gb518)); have GE518 := Z ((Z85 : w.heap.size ≤ gb518)); replace HB := Z (below_step Z68 hb); clear hb hbox hg; have hcz6_0 : w5.cell? ⟨gb518, 0, none⟩ = some (.slice A0_0 l0_0.length c0_0) := (blk_cell BK518.out 0).trans rfl; have hfz6_0 := blk_frozen BK518.out 0))
  go_ret
  exact ⟨Z13, Z68⟩

-- NOT PRINTED: function 120 (slices_IndexFunc_int_int)

-- NOT PRINTED: function 101 (slices_ContainsFunc_int_int)

/-! ### impl_hasBlocks: function 74 (by hand: a closure is handed on; at a list of one number) -/
def impl_hasBlocks.f (l0_0 : List Int) (l1 : List Int) : Option (Bool) := match l1 with
 | [b] => (impl_StoreOk.f l0_0).bind fun t => if t = true then (impl_within.f b 0 (wrap64 ((wrap64 ((l0_0.length : Int) / 64)) - 1))) else some false
 | _ => none
set_option maxHeartbeats 2000000 in
set_option maxRecDepth 100000 in
theorem impl_hasBlocks.calls (A0_0 : Option Addr) (c0_0 : Nat) (l0_0 : List Int) (A1 : Option Addr) (c1 : Nat) (l1 : List Int) (r : Bool) (w : World) (hr0_0 : Kd.C (Kd.int .u32) w A0_0 l0_0.length l0_0) (hc0_0 : l0_0.length ≤ c0_0) (hr1 : Kd.C (Kd.int .i64) w A1 l1.length l1) (hc1 : l1.length ≤ c1) (h : impl_hasBlocks.f l0_0 l1 = some r) :
  Calls Try.prog 74 #[.agg #[.slice A0_0 l0_0.length c0_0], .slice A1 l1.length c1] w fun e w' => e = .returned (.bool r) ∧ Below w.heap.size w w' := by
 have hu := Try.underlying34
 unfold impl_hasBlocks.f at h
 split at h
 case h_2 => cases h
 rename_i b
 replace h := Option.bind_eq_some_iff.mp h
 obtain ⟨t1, h1, h2⟩ := h
 have H1 := Aside0.mk h1
 have HR0 := Aside0.mk hr0_0
 have HC0 := Aside0.mk hc0_0
 obtain ⟨ad, rfl, hb⟩ : ∃ ad, A1 = some ad ∧ w.cell? (ad.add 0) = some (.int .i64 b) := by
  obtain ⟨ad, e, hx⟩ := Kd.at_int hr1 0 (by omega) (by simp)
  exact ⟨ad, e, hx⟩
 have HBB := Aside0.mk hb
 clear h1 hr0_0 hc0_0 hr1 hb
 cases t1 with
 | false =>
  rw [if_neg (by simp)] at h2
  obtain rfl := Option.some.inj h2
  clear h2
  go_enter Try.func74, Try.ntmps74
  go_wp2_with (go_at_call 100; refine (impl_StoreOk.calls _ _ l0_0 false _ (Kd.C_alloc HR0.out _) HC0.out H1.out).mono ?_; rintro e w1 ⟨rfl, hb1⟩)
  go_ret
  exact ⟨rfl, ((Below.refl _ w).alloc (Nat.le_refl _) _).trans (hb1.mono (by simp))⟩
 | true =>
  rw [if_pos rfl] at h2
  have H2 := Aside0.mk h2
  clear h2
  go_enter Try.func74, Try.ntmps74
  go_wp2_with fail
  refine (impl_StoreOk.calls _ _ l0_0 true _ (Kd.C_alloc HR0.out _) HC0.out H1.out).mono ?_
  rintro e w1 ⟨rfl, hb1⟩
  have hcell : w1.cell? ⟨w.heap.size, 0, none⟩ = some (.slice A0_0 l0_0.length c0_0) := by
   refine (hb1.cell (p := ⟨w.heap.size, 0, none⟩) (by simp)).trans ?_
   simp
  have hloc : (ad.add 0) = ad := by unfold Addr.add; simp
  have hcb : w1.cell? ad = some (.int .i64 b) := by
   rw [← hloc]
   have hlt := World.block_lt_of_cell? w _ HBB.out
   exact ((hb1.cell (p := ad.add 0) (by simp; omega)).trans (World.cell?_alloc_lt w _ _ hlt)).trans HBB.out
  have HBW : Below w.heap.size w w1 := ((Below.refl _ w).alloc (Nat.le_refl _) _).trans (hb1.mono (by simp))
  clear hb1
  clear hloc
  go_wp2_with (first | (go_at_call 101; go_in) | (go_at_call 120; go_in) | (go_at_call 102; go_in) | fail)
  refine wp_loop_rounds 2 ?_
  rw [rounds_succ]
  go_wp2_with (first | (go_at_call 102; go_in) | fail)
  cases r with
  | false =>
   refine (impl_within.calls b 0 _ false w1 H2.out).mono ?_
   rintro e w2 ⟨rfl, ⟨nd, rfl⟩⟩
   go_wp2_with fail
   go_ret
   exact ⟨rfl, pw_below_drewN HBW nd⟩
  | true =>
   refine (impl_within.calls b 0 _ true w1 H2.out).mono ?_
   rintro e w2 ⟨rfl, ⟨nd, rfl⟩⟩
   go_wp2_with fail
   rw [rounds_succ]
   go_wp2_with fail
   go_ret
   exact ⟨rfl, pw_below_drewN HBW nd⟩

/-! ### slices_Clone_uint32_uint32: function 75 (by hand: a slice held against nil) -/
def slices_Clone_uint32_uint32.f (l0 : List Int) : Option (List Int) := if l0.length ≤ 35184372088831 then some l0 else none
theorem slices_Clone_uint32_uint32.inf : (Try.prog.info? 47).map (fun i => (i.zero, i.size, i.bytes)) = some (some (.int .u32 0), 1, 4) := Z0
set_option maxHeartbeats 2000000 in
set_option maxRecDepth 100000 in
theorem slices_Clone_uint32_uint32.calls (A0 : Option Addr) (c0 : Nat) (l0 : List Int) (r : List Int) (w : World) (hr0 : Kd.C (Kd.int .u32) w A0 l0.length l0) (hc0 : l0.length ≤ c0) (h : slices_Clone_uint32_uint32.f l0 = some r) :
  Calls Try.prog 75 #[.slice A0 l0.length c0] w fun e w' => ∃ v0_ : Value, e = .returned (v0_) ∧ Kd.R (Kd.int .u32) 47 w' w.heap.size (fun _ => True) v0_ r ∧ Below w.heap.size w w' := by
 unfold slices_Clone_uint32_uint32.f at h
 split at h
 case isFalse => cases h
 rename_i hbig
 obtain rfl := Option.some.inj h
 have q22 : ∀ (w : World) (a : Option Addr) (n c n' c' : Nat), (binOp .eql 24 (.slice a n c) (.slice none n' c')).run Try.prog w = .ok (.bool a.isNone) w := fun w a n c n' c' => Lib.run_eql_slice_nil w _ _ a n c n' c' Try.underlying24
 have HR0 := Aside0.mk hr0
 clear hr0 h
 have HB0 := Aside0.mk hbig
 clear hbig
 cases A0 with
 | none =>
  have hl : l0 = [] := by
   rcases Nat.eq_zero_or_pos l0.length with h0 | h0
   ·exact List.eq_nil_of_length_eq_zero h0
   ·obtain ⟨ad, e, _⟩ := HR0.out.2.2 h0
    cases e
  subst hl
  go_enter Try.func75, Try.ntmps75
  go_wp2
  go_ret
  exact ⟨_, rfl, Kd.R_nil _ _ _ _ _, Below.refl _ _⟩
 | some ad =>
  obtain ⟨i0, hi, hz0, hz1, hz2⟩ := info_parts slices_Clone_uint32_uint32.inf
  have HI := Aside0.mk hi
  have HZ0 := Aside0.mk hz0
  have HZ1 := Aside0.mk hz1
  have HZ2 := Aside0.mk hz2
  clear hi hz0 hz1 hz2
  go_enter Try.func75, Try.ntmps75
  go_wp2_with (at_builtin; refine wpList_append_own _ rfl _ _ 24 rfl w.heap.size 47 i0 _ 1 4 Try.underlying24 HI.out HZ0.out HZ1.out HZ2.out rfl (by omega) _ _ _ rfl (World.ownsRow_made w #[] 0 (Nat.le_refl _) (Nat.zero_le _) (by simp)) ad l0.length c0 (encs (Value.int .u32) l0) rfl ?qc1 ?qc2 ?qc3 ?qc4 ?qc5 ?qc6 ?_)
  case qc1 => simp [encs]
  case qc2 =>
   intro j u hu
   obtain ⟨p, hp, rfl⟩ : ∃ p, l0[j]? = some p ∧ Value.int .u32 p = u := by simpa [encs] using hu
   obtain ⟨hj, hp⟩ := List.getElem?_eq_some_iff.1 hp
   obtain ⟨ad', e, hx⟩ := Kd.at_int (Kd.C_alloc HR0.out (.cells #[] 47)) (j : Int) (by omega) (by omega)
   injection e with e
   subst e
   rw [Int.toNat_natCast] at hx
   rw [hx]
   simp [rd, hp, List.getElem?_eq_getElem hj]
  case qc3 =>
   intro u hu
   obtain ⟨p, _, rfl⟩ := List.mem_map.1 hu
   rfl
  case qc4 => have := HB0.out; unfold maxLen; omega
  case qc5 => have := HB0.out; omega
  case qc6 => simp
  intro v' w1 hown hgrow hnil
  go_wp2
  go_ret
  refine ⟨v', rfl, Kd.R_of_own (by simpa using hown) (fun _ _ => trivial), ?_⟩
  exact ((Below.refl _ w).alloc (Nat.le_refl _) _).grown hgrow (by simp) (by intro k hk; simp [Value.ownBlock] at hk; omega)

/-! ### impl_BlockOf: function 41 -/
def impl_BlockOf.f (l0_0 : List Int) (a1 : Int) : Option (List Int × Bool) := (impl_hasBlocks.f l0_0 (([a1] : List Int))).bind fun t523 => (if t523 = true then (if 0 ≤ (wrap64 (a1 * 64)) then (if (wrap64 (a1 * 64)) ≤ (wrap64 ((wrap64 (a1 + 1)) * 64)) then (if (wrap64 ((wrap64 (a1 + 1)) * 64)) ≤ (l0_0.length : Int) then ((slices_Clone_uint32_uint32.f ((l0_0.take ((wrap64 ((wrap64 (a1 + 1)) * 64)) : Int).toNat).drop ((wrap64 (a1 * 64)) : Int).toNat)).bind fun t525 => (some (t525, true))) else (none)) else (none)) else (none)) else (some (([] : List Int), false)))
set_option maxHeartbeats 8000000 in
set_option maxRecDepth 100000 in
theorem impl_BlockOf.calls (A0_0 : Option Addr) (c0_0 : Nat) (l0_0 : List Int) (a1 : Int) (r1 : List Int) (r2 : Bool) (w : World) (hr0_0 : Kd.C (Kd.int .u32) w A0_0 l0_0.length l0_0) (hc0_0 : l0_0.length ≤ c0_0) (h : impl_BlockOf.f l0_0 a1 = some (r1, r2)) :
  Calls Try.prog 41 #[.agg #[.slice A0_0 l0_0.length c0_0], .int .i64 a1] w fun e w' => ∃ v0_ : Value, e = .returned (.tuple #[v0_, .bool r2]) ∧ Kd.R (Kd.int .u32) 47 w' w.heap.size (fun _ => True) v0_ r1 ∧ Below w.heap.size w w' := by
 have hu34 := Try.underlying34
 have HR0_0 := Aside0.mk hr0_0
 have HC0_0 := Aside0.mk hc0_0
 clear hr0_0 hc0_0
 have HB := Z (Below.refl w.heap.size w)
 have H : ((impl_hasBlocks.f l0_0 (([a1] : List Int))).bind fun t523 => (if t523 = true then (if 0 ≤ (wrap64 (a1 * 64)) then (if (wrap64 (a1 * 64)) ≤ (wrap64 ((wrap64 (a1 + 1)) * 64)) then (if (wrap64 ((wrap64 (a1 + 1)) * 64)) ≤ (l0_0.length : Int) then ((slices_Clone_uint32_uint32.f ((l0_0.take ((wrap64 ((wrap64 (a1 + 1)) * 64)) : Int).toNat).drop ((wrap64 (a1 * 64)) : Int).toNat)).bind fun t525 => (some (t525, true))) else (none)) else (none)) else (none)) else (some (([] : List Int), false)))) = some (r1, r2) := h
 clear h
 obtain ⟨y520, hy520⟩ : ∃ y_ : List Int, y_ = (([a1] : List Int)) := ⟨_, rfl⟩
 replace H : ((impl_hasBlocks.f l0_0 y520).bind fun t523 => (if t523 = true then (if 0 ≤ (wrap64 (a1 * 64)) then (if (wrap64 (a1 * 64)) ≤ (wrap64 ((wrap64 (a1 + 1)) * 64)) then (if (wrap64 ((wrap64 (a1 + 1)) * 64)) ≤ (l0_0.length : Int) then ((slices_Clone_uint32_uint32.f ((l0_0.take ((wrap64 ((wrap64 (a1 + 1)) * 64)) : Int).toNat).drop ((wrap64 (a1 * 64)) : Int).toNat)).bind fun t525 => (some (t525, true))) else (none)) else (none)) else (none)) else (some (([] : List Int), false)))) = some (r1, r2) := by first | (rw [hy520]; with_reducible exact H) | (have H2_ := (Option.bind_some _ _).symm.trans H; rw [hy520]; with_reducible exact H2_) | (have H2_ := (Option.bind_some _ _).symm.trans H; with_reducible exact H2_) | with_reducible exact H | (rw [hy520]; exact H) | exact H
 have Ny520 := Aside0.mk hy520
 clear hy520
 replace H := Option.bind_eq_some_iff.mp H
 obtain ⟨t523, A30, H⟩ := H
 replace H : (if t523 = true then (if 0 ≤ (wrap64 (a1 * 64)) then (if (wrap64 (a1 * 64)) ≤ (wrap64 ((wrap64 (a1 + 1)) * 64)) then (if (wrap64 ((wrap64 (a1 + 1)) * 64)) ≤ (l0_0.length : Int) then ((slices_Clone_uint32_uint32.f ((l0_0.take ((wrap64 ((wrap64 (a1 + 1)) * 64)) : Int).toNat).drop ((wrap64 (a1 * 64)) : Int).toNat)).bind fun t525 => (some (t525, true))) else (none)) else (none)) else (none)) else (some (([] : List Int), false))) = some (r1, r2) := H
 have A3 := Aside0.mk A30
 clear A30
 by_cases c4 : t523 = true
 ·subst c4
  have H1 : (if 0 ≤ (wrap64 (a1 * 64)) then (if (wrap64 (a1 * 64)) ≤ (wrap64 ((wrap64 (a1 + 1)) * 64)) then (if (wrap64 ((wrap64 (a1 + 1)) * 64)) ≤ (l0_0.length : Int) then ((slices_Clone_uint32_uint32.f ((l0_0.take ((wrap64 ((wrap64 (a1 + 1)) * 64)) : Int).toNat).drop ((wrap64 (a1 * 64)) : Int).toNat)).bind fun t525 => (some (t525, true))) else (none)) else (none)) else (none)) = some (r1, r2) := Z7
  clear H
  have H := H1
  clear H1
  obtain ⟨ji5, hji5⟩ : ∃ j_ : Int, (wrap64 (a1 * 64)) = j_ := ⟨_, rfl⟩
  replace H : (if 0 ≤ (ji5) then (if (ji5) ≤ (wrap64 ((wrap64 (a1 + 1)) * 64)) then (if (wrap64 ((wrap64 (a1 + 1)) * 64)) ≤ (l0_0.length : Int) then ((slices_Clone_uint32_uint32.f ((l0_0.take ((wrap64 ((wrap64 (a1 + 1)) * 64)) : Int).toNat).drop ((ji5) : Int).toNat)).bind fun t525 => (some (t525, true))) else (none)) else (none)) else (none)) = some (r1, r2) := Z46
  (try rw [hji5] at A3)
  have hji5w : (IntKind.i64.wrap (a1 * 64)) = ji5 := (i64_w _).trans hji5
  by_cases c6 : 0 ≤ (ji5)
  ·rw [if_pos c6] at H
   have c6b0 := eq_true c6
   have c6b1 : decide (0 ≤ (ji5)) = true := decide_eq_true c6
   clear c6
   by_cases c7 : (ji5) ≤ (wrap64 ((wrap64 (a1 + 1)) * 64))
   ·rw [if_pos c7] at H
    have c7b0 := eq_true c7
    have c7b1 : decide ((ji5) ≤ (wrap64 ((wrap64 (a1 + 1)) * 64))) = true := decide_eq_true c7
    by_cases c8 : (wrap64 ((wrap64 (a1 + 1)) * 64)) ≤ (l0_0.length : Int)
    ·rw [if_pos c8] at H
     have c8b0 := eq_true c8
     have c8b1 : decide ((wrap64 ((wrap64 (a1 + 1)) * 64)) ≤ (l0_0.length : Int)) = true := decide_eq_true c8
     replace H := Option.bind_eq_some_iff.mp H
     obtain ⟨t525, A90, H⟩ := H
     replace H : (some (t525, true)) = some (r1, r2) := H
     have A9 := Aside0.mk A90
     clear A90
     simp only [Option.some.injEq, Prod.mk.injEq] at H
     obtain ⟨rfl, rfl⟩ := H
     go_enter Try.func41, Try.ntmps41
     go_wp2_with (first | ((with_reducible refine gate_dst (N := 2) rfl ?_); refine box_event (by rfl) (N := 2) (by rfl) (cs := #[.slice A0_0 l0_0.length c0_0]) (t := 34) Z8 ?_; intro gb519 hg w10 hbox hb; have BK519 := Z (hbox); have GW519 := Z ((Z85 : w.heap.size ≤ gb519)); have GE519 := Z ((Z85 : w.heap.size ≤ gb519)); replace HB := Z (below_step Z68 hb); clear hb hbox hg; have hcz11_0 : w10.cell? ⟨gb519, 0, none⟩ = some (.slice A0_0 l0_0.length c0_0) := (blk_cell BK519.out 0).trans rfl; have hfz11_0 := blk_frozen BK519.out 0) | ((with_reducible refine gate_dst (N := 8) rfl ?_); refine Kd.R_lit (Kd.int .i64) _ 3 (by rfl) (N := 8) (by rfl) (xs := ([a1] : List Int)) (inner := [.int .i64 a1]) (ok := fun _ => True) (okp := fun _ => True) Z8 (Reps.one (show Kd.M (Kd.int .i64) _ _ _ a1 [.int .i64 a1] from rfl) (Reps.none _ _)) (fun _ hk => hk) trivial (Below.refl _ _) (Nat.le_refl _) (by simp) ?_; intro v521 w12 ho13 hb hg_ hnew_; clear hg_ hnew_; (first | rw [← Ny520.out] at ho13 | (simp only [Int.reduceToNat] at ho13; rw [← Ny520.out] at ho13)); have HO522 := Z (Kd.R_lower ho13 (below_size Z68)); replace BK519 := Z (blk_below (g := gb519) (o := .cells #[.slice A0_0 l0_0.length c0_0] 34 (0, 0)) (Z10 BK519) hb); replace HB := Z (below_step Z68 hb); clear hb ho13; obtain ⟨Ao14, co14, eo14⟩ := Kd.R_slice HO522.out; subst eo14) | ((with_reducible refine gate_callee (f := 74) rfl ?_); refine goesL_ (some 9) rfl rfl Try.func74 Z0 rfl #[.agg #[.slice A0_0 l0_0.length c0_0], .slice Ao14 y520.length co14] rfl Z11 ?_; (with_reducible refine (impl_hasBlocks.calls _ _ l0_0 _ _ y520 true _ ?side1 ?side2 ?side3 ?side4 A3.out).mono ?_); (case side1 => exact (Z12 HR0_0)); (case side2 => exact HC0_0.out); (case side3 => exact (Z22 HO522)); (case side4 => exact (Kd.R_reads' HO522.out).2.1); rintro e w15 ⟨rfl, hb⟩; refine ⟨_, rfl, ?_⟩; replace HO522 := Z (Kd.R_below (Z14 HO522) hb); replace BK519 := Z (blk_below (g := gb519) (o := .cells #[.slice A0_0 l0_0.length c0_0] 34 (0, 0)) (Z10 BK519) hb); replace HB := Z (below_step Z68 hb); (try clear hb); (try clear hb2); (try clear hk); (try clear hi); have hcz16_0 : w15.cell? ⟨gb519, 0, none⟩ = some (.slice A0_0 l0_0.length c0_0) := (blk_cell BK519.out 0).trans rfl; have hfz16_0 := blk_frozen BK519.out 0; obtain ⟨i017, hi017, _, hsz17, _⟩ := info_parts info47; obtain ⟨A17, hcut17, hA17, hC17⟩ := print_mid_of (P := Try.prog) (Value.int .u32) 0 24 47 .i64 .i64 Try.underlying24 hi017 hsz17 A0_0 c0_0 l0_0 (ji5) (wrap64 ((wrap64 (a1 + 1)) * 64)) (of_decide_eq_true Z5) (by first | omega | exact of_decide_eq_true Z5) (of_decide_eq_true Z5) HC0_0.out; have HR524 := Z (Kd.C_of_reads (h1 := fun _ => rfl) (hA17 _ (Kd.reads_of_C HR0_0.out))); have HC524 := Aside0.mk hC17; clear hA17 hC17 hi017 hsz17) | ((with_reducible refine gate_callee (f := 75) rfl ?_); refine goesL_ (some 19) rfl rfl Try.func75 Z0 rfl #[.slice A17 ((l0_0.take ((wrap64 ((wrap64 (a1 + 1)) * 64)) : Int).toNat).drop ((ji5) : Int).toNat).length (c0_0 - (ji5).toNat)] rfl (by (try simp only [List.map_toArray, List.map_cons, List.map_nil]); first | done | (rw [show ((l0_0.take ((wrap64 ((wrap64 (a1 + 1)) * 64)) : Int).toNat).drop ((ji5) : Int).toNat).length = ((wrap64 ((wrap64 (a1 + 1)) * 64)).toNat - (ji5).toNat) from Z80] <;> rfl) | (simp only [hji5]; rfl) | rfl | (simp only [List.length_drop, List.length_take]; rfl)) ?_; (with_reducible refine (slices_Clone_uint32_uint32.calls _ _ ((l0_0.take ((wrap64 ((wrap64 (a1 + 1)) * 64)) : Int).toNat).drop ((ji5) : Int).toNat) t525 _ ?side1 ?side2 A9.out).mono ?_); (case side1 => exact (Z12 HR524)); (case side2 => exact HC524.out); rintro e w18 ⟨v526, rfl, ho0, hb⟩; refine ⟨_, rfl, ?_⟩; replace HO522 := Z (Kd.R_below (Z14 HO522) hb); have HO527 := Z (Kd.R_lower ho0 (below_size Z68)); replace BK519 := Z (blk_below (g := gb519) (o := .cells #[.slice A0_0 l0_0.length c0_0] 34 (0, 0)) (Z10 BK519) hb); replace HB := Z (below_step Z68 hb); (try clear hb); (try clear hb2); (try clear hk); (try clear hi); (try clear ho0)))
     go_ret2
     exact ⟨_, Z47, (Z14 HO527), Z68⟩
    ·rw [if_neg c8] at H
     exact absurd H (by simp)
   ·rw [if_neg c7] at H
    exact absurd H (by simp)
  ·rw [if_neg c6] at H
   exact absurd H (by simp)
 ·replace c4 := Bool.eq_false_iff.mpr c4
  subst c4
  have H1 : (some (([] : List Int), false)) = some (r1, r2) := by rw [if_neg (show ¬ (false = true) by decide)] at H; exact H
  clear H
  have H := H1
  clear H1
  simp only [Option.some.injEq, Prod.mk.injEq] at H
  obtain ⟨rfl, rfl⟩ := H
  go_enter Try.func41, Try.ntmps41
  go_wp2_with (first | ((with_reducible refine gate_dst (N := 2) rfl ?_); refine box_event (by rfl) (N := 2) (by rfl) (cs := #[.slice A0_0 l0_0.length c0_0]) (t := 34) Z8 ?_; intro gb519 hg w19 hbox hb; have BK519 := Z (hbox); have GW519 := Z ((Z85 : w.heap.size ≤ gb519)); have GE519 := Z ((Z85 : w.heap.size ≤ gb519)); replace HB := Z (below_step Z68 hb); clear hb hbox hg; have hcz20_0 : w19.cell? ⟨gb519, 0, none⟩ = some (.slice A0_0 l0_0.length c0_0) := (blk_cell BK519.out 0).trans rfl; have hfz20_0 := blk_frozen BK519.out 0) | ((with_reducible refine gate_dst (N := 8) rfl ?_); refine Kd.R_lit (Kd.int .i64) _ 3 (by rfl) (N := 8) (by rfl) (xs := ([a1] : List Int)) (inner := [.int .i64 a1]) (ok := fun _ => True) (okp := fun _ => True) Z8 (Reps.one (show Kd.M (Kd.int .i64) _ _ _ a1 [.int .i64 a1] from rfl) (Reps.none _ _)) (fun _ hk => hk) trivial (Below.refl _ _) (Nat.le_refl _) (by simp) ?_; intro v521 w21 ho22 hb hg_ hnew_; clear hg_ hnew_; (first | rw [← Ny520.out] at ho22 | (simp only [Int.reduceToNat] at ho22; rw [← Ny520.out] at ho22)); have HO522 := Z (Kd.R_lower ho22 (below_size Z68)); replace BK519 := Z (blk_below (g := gb519) (o := .cells #[.slice A0_0 l0_0.length c0_0] 34 (0, 0)) (Z10 BK519) hb); replace HB := Z (below_step Z68 hb); clear hb ho22; obtain ⟨Ao23, co23, eo23⟩ := Kd.R_slice HO522.out; subst eo23) | ((with_reducible refine gate_callee (f := 74) rfl ?_); refine goesL_ (some 9) rfl rfl Try.func74 Z0 rfl #[.agg #[.slice A0_0 l0_0.length c0_0], .slice Ao23 y520.length co23] rfl Z11 ?_; (with_reducible refine (impl_hasBlocks.calls _ _ l0_0 _ _ y520 false _ ?side1 ?side2 ?side3 ?side4 A3.out).mono ?_); (case side1 => exact (Z12 HR0_0)); (case side2 => exact HC0_0.out); (case side3 => exact (Z22 HO522)); (case side4 => exact (Kd.R_reads' HO522.out).2.1); rintro e w24 ⟨rfl, hb⟩; refine ⟨_, rfl, ?_⟩; replace HO522 := Z (Kd.R_below (Z14 HO522) hb); replace BK519 := Z (blk_below (g := gb519) (o := .cells #[.slice A0_0 l0_0.length c0_0] 34 (0, 0)) (Z10 BK519) hb); replace HB := Z (below_step Z68 hb); (try clear hb); (try clear hb2); (try clear hk); (try clear hi)))
  go_ret2
  exact ⟨_, Z13, Z51, Z68⟩

/-! ### impl_ItemsOf: function 56 -/
def impl_ItemsOf.f (k : Nat) (l0_0 : List Int) (a1 : Int) : Option ((List (S51)) × Bool) := (impl_BlockOf.f l0_0 a1).bind fun bt529 => ((impl_ParseCells.f k bt529.1).bind fun t533 => (some (t533, bt529.2)))
theorem impl_ItemsOf.mono : ∀ a0 a1 k, LeO (impl_ItemsOf.f k a0 a1) (impl_ItemsOf.f (k + 1) a0 a1) := by
 intro a0 a1 k
 unfold impl_ItemsOf.f
 repeat' first
   | (with_reducible exact impl_ParseCells.mono _ _)
   | (with_reducible exact LeO.refl _)
   | (with_reducible exact LeO.none _)
   | (with_reducible refine LeO.ite ?_ ?_)
   | (with_reducible refine LeO.bind ?_ (fun _ => ?_))
   | exact impl_ParseCells.mono _ _
   | exact LeO.none _
   | refine LeO.ite ?_ ?_
   | refine LeO.bind ?_ (fun _ => ?_)
set_option maxHeartbeats 8000000 in
set_option maxRecDepth 100000 in
theorem impl_ItemsOf.calls (k : Nat) (A0_0 : Option Addr) (c0_0 : Nat) (l0_0 : List Int) (a1 : Int) (r1 : List (S51)) (r2 : Bool) (w : World) (hr0_0 : Kd.C (Kd.int .u32) w A0_0 l0_0.length l0_0) (hc0_0 : l0_0.length ≤ c0_0) (h : impl_ItemsOf.f k l0_0 a1 = some (r1, r2)) :
  Calls Try.prog 56 #[.agg #[.slice A0_0 l0_0.length c0_0], .int .i64 a1] w fun e w' => ∃ v0_ : Value, e = .returned (.tuple #[v0_, .bool r2]) ∧ Kd.R k51 51 w' w.heap.size (fun _ => True) v0_ r1 ∧ Below w.heap.size w w' := by
 have hu34 := Try.underlying34
 have HR0_0 := Aside0.mk hr0_0
 have HC0_0 := Aside0.mk hc0_0
 clear hr0_0 hc0_0
 have HB := Z (Below.refl w.heap.size w)
 have H : ((impl_BlockOf.f l0_0 a1).bind fun bt529 => ((impl_ParseCells.f k bt529.1).bind fun t533 => (some (t533, bt529.2)))) = some (r1, r2) := h
 clear h
 replace H := Option.bind_eq_some_iff.mp H
 obtain ⟨⟨t529, t532⟩, A30, H⟩ := H
 replace H : ((impl_ParseCells.f k t529).bind fun t533 => (some (t533, t532))) = some (r1, r2) := H
 have A3 := Aside0.mk A30
 clear A30
 replace H := Option.bind_eq_some_iff.mp H
 obtain ⟨t533, A40, H⟩ := H
 replace H : (some (t533, t532)) = some (r1, r2) := H
 have A4 := Aside0.mk A40
 clear A40
 simp only [Option.some.injEq, Prod.mk.injEq] at H
 obtain ⟨rfl, rfl⟩ := H
 go_enter Try.func56, Try.ntmps56
 go_wp2_with (first | ((with_reducible refine gate_dst (N := 2) rfl ?_); refine box_event (by rfl) (N := 2) (by rfl) (cs := #[.slice A0_0 l0_0.length c0_0]) (t := 34) Z8 ?_; intro gb528 hg w5 hbox hb; have BK528 := Z (hbox); have GW528 := Z ((Z85 : w.heap.size ≤ gb528)); have GE528 := Z ((Z85 : w.heap.size ≤ gb528)); replace HB := Z (below_step Z68 hb); clear hb hbox hg; have hcz6_0 : w5.cell? ⟨gb528, 0, none⟩ = some (.slice A0_0 l0_0.length c0_0) := (blk_cell BK528.out 0).trans rfl; have hfz6_0 := blk_frozen BK528.out 0) | ((with_reducible refine gate_callee (f := 41) rfl ?_); refine goesL_ (some 11) rfl rfl Try.func41 Z0 rfl #[.agg #[.slice A0_0 l0_0.length c0_0], .int .i64 a1] rfl Z11 ?_; (with_reducible refine (impl_BlockOf.calls _ _ l0_0 a1 t529 t532 _ ?side1 ?side2 A3.out).mono ?_); (case side1 => exact (Z12 HR0_0)); (case side2 => exact HC0_0.out); rintro e w7 ⟨v530, rfl, ho0, hb⟩; refine ⟨_, rfl, ?_⟩; have HO531 := Z (Kd.R_lower ho0 (below_size Z68)); replace BK528 := Z (blk_below (g := gb528) (o := .cells #[.slice A0_0 l0_0.length c0_0] 34 (0, 0)) (Z10 BK528) hb); replace HB := Z (below_step Z68 hb); (try clear hb); (try clear hb2); (try clear hk); (try clear hi); (try clear ho0); obtain ⟨Ao8, co8, eo8⟩ := Kd.R_slice HO531.out; subst eo8) | ((with_reducible refine gate_callee (f := 15) rfl ?_); refine goesL_ (some 15) rfl rfl Try.func15 Z0 rfl #[.slice Ao8 t529.length co8] rfl Z11 ?_; (with_reducible refine (impl_ParseCells.calls k (fun k_ => some k_ = (.slice Ao8 t529.length co8 : Value).ownBlock) _ _ t529 t533 _ ?side1 A4.out).mono ?_); (case side1 => exact Kd.R_V (Kd.R_tight rfl (Kd.R_types (HO531.out) BK528.out (by decide)))); rintro e w9 ⟨v534, rfl, ho0, hb⟩; refine ⟨_, rfl, ?_⟩; replace HO531 := Z (Kd.R_below (Z14 HO531) hb); have HO535 := Z (Kd.R_lower (Kd.R_mono (ok' := fun k_ => True) ho0 (fun _ hk_ => trivial)) (below_size Z68)); replace BK528 := Z (blk_below (g := gb528) (o := .cells #[.slice A0_0 l0_0.length c0_0] 34 (0, 0)) (Z10 BK528) hb); replace HB := Z (below_step Z68 hb); (try clear hb); (try clear hb2); (try clear hk); (try clear hi); (try clear ho0)))
 go_ret2
 exact ⟨_, Z13, (Z14 HO535), Z68⟩

end Go.Proofs.Ytkkiibjnpkjijaa.QFnExactItemsOf
