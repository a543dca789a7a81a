/-
Plain functions for the Go functions that a law reaches, each with a proof that the translation's call comes to just that; no conditions beyond those written in each.
-/
import Derived.Test.YtkkiibjnpkjijaaSFnExactListOk
import Derived.Test.YtkkiibjnpkjijaaQFnExactListOkx1
import Derived.Test.YtkkiibjnpkjijaaQFnExactListOkx3
import Derived.Test.YtkkiibjnpkjijaaQFnExactListOkx5
namespace Go.Proofs.Ytkkiibjnpkjijaa.QFnExactListOk
open Go.RowKit Go.Proofs.YtkkiibjnpkjijaaW.PrintWords Go.Proofs.YtkkiibjnpkjijaaW.PrintLast Go.Proofs.YtkkiibjnpkjijaaW.PrintMore
attribute [local go_sem] max2_int min2_int max_two min_two max_three min_three max_four min_four   -- for this text's walks alone
set_option linter.unusedVariables false
set_option linter.unusedSimpArgs false

attribute [local go_sem high] eqA51
/-! ### impl_ParseCells: function 15 -/
mutual
def impl_ParseCells.l0 : Nat → List Int → List (S51) → Option ((List (S51)))
 | 0, _, _ => none
 | k + 1, x0, x3 => if (x0.length : Int) > 0 then ((impl_parseOne.f k x0).bind fun bt233 => (if x3.length < 3518437208883 then ((impl_CellsOf.f k bt233.1 bt233.2.1 bt233.2.2.1 bt233.2.2.2.1 bt233.2.2.2.2).bind fun t242 => (if 0 ≤ (t242.length : Int) then (if (t242.length : Int) ≤ (x0.length : Int) then (impl_ParseCells.l0 k (x0.drop ((t242.length : Int) : Int).toNat) (x3 ++ [(⟨bt233.1, bt233.2.1, bt233.2.2.1, bt233.2.2.2.1, bt233.2.2.2.2⟩ : S51)])) else (none)) else (none))) else (none))) else (impl_ParseCells.l1 k x3 (wrap64 ((x3.length : Int) - 1)))
def impl_ParseCells.l1 : Nat → List (S51) → Int → Option ((List (S51)))
 | 0, _, _ => none
 | k + 1, x3, x5 => if x5 ≥ 0 then (if 0 ≤ x5 then (if x5 < (x3.length : Int) then (if (((rd_T51 x3 x5).f0) == 0 && ((((rd_T51 x3 x5).f1).toList) == ([] : List UInt8) && (((rd_T51 x3 x5).f2) == 0 && (!((rd_T51 x3 x5).f3) && (((rd_T51 x3 x5).f4) == 0))))) = true then (if x5 ≤ (x3.length : Int) then (impl_ParseCells.l1 k (x3.take (x5 : Int).toNat) (wrap64 (x5 - 1))) else (none)) else (some x3)) else (none)) else (none)) else (some x3)
end
def impl_ParseCells.f (k : Nat) (l0 : List Int) : Option ((List (S51))) := if (l0.length : Int) > 64 then (some ([] : List (S51))) else (impl_ParseCells.l0 k l0 (([] : List (S51))))
theorem impl_ParseCells.mono_l : ∀ k, (∀ y0 y1, LeO (impl_ParseCells.l0 k y0 y1) (impl_ParseCells.l0 (k + 1) y0 y1)) ∧ (∀ y0 y1, LeO (impl_ParseCells.l1 k y0 y1) (impl_ParseCells.l1 (k + 1) y0 y1))
 | 0 => ⟨fun _ _ r h => by simp [impl_ParseCells.l0] at h, fun _ _ r h => by simp [impl_ParseCells.l1] at h⟩
 | k + 1 => by
  obtain ⟨ih0, ih1⟩ := impl_ParseCells.mono_l k
  refine ⟨?_, ?_⟩
  ·intro y0 y1
   unfold impl_ParseCells.l0
   repeat' first
   | (with_reducible exact ih0 _ _)
   | (with_reducible exact ih1 _ _)
   | (with_reducible exact impl_CellsOf.mono _ _ _ _ _ _)
   | (with_reducible exact impl_parseOne.mono _ _)
   | (with_reducible exact LeO.refl _)
   | (with_reducible exact LeO.none _)
   | (with_reducible refine LeO.ite ?_ ?_)
   | (with_reducible refine LeO.bind ?_ (fun _ => ?_))
   | exact ih0 _ _
   | exact ih1 _ _
   | exact impl_CellsOf.mono _ _ _ _ _ _
   | exact impl_parseOne.mono _ _
   | exact LeO.none _
   | refine LeO.ite ?_ ?_
   | refine LeO.bind ?_ (fun _ => ?_)
  ·intro y0 y1
   unfold impl_ParseCells.l1
   repeat' first
   | (with_reducible exact ih0 _ _)
   | (with_reducible exact ih1 _ _)
   | (with_reducible exact impl_CellsOf.mono _ _ _ _ _ _)
   | (with_reducible exact impl_parseOne.mono _ _)
   | (with_reducible exact LeO.refl _)
   | (with_reducible exact LeO.none _)
   | (with_reducible refine LeO.ite ?_ ?_)
   | (with_reducible refine LeO.bind ?_ (fun _ => ?_))
   | exact ih0 _ _
   | exact ih1 _ _
   | exact impl_CellsOf.mono _ _ _ _ _ _
   | exact impl_parseOne.mono _ _
   | exact LeO.none _
   | refine LeO.ite ?_ ?_
   | refine LeO.bind ?_ (fun _ => ?_)
theorem impl_ParseCells.mono : ∀ a0 k, LeO (impl_ParseCells.f k a0) (impl_ParseCells.f (k + 1) a0) := by
 intro a0 k
 obtain ⟨ih0, ih1⟩ := impl_ParseCells.mono_l k
 unfold impl_ParseCells.f
 repeat' first
   | (with_reducible exact ih0 _ _)
   | (with_reducible exact ih1 _ _)
   | (with_reducible exact impl_CellsOf.mono _ _ _ _ _ _)
   | (with_reducible exact impl_parseOne.mono _ _)
   | (with_reducible exact LeO.refl _)
   | (with_reducible exact LeO.none _)
   | (with_reducible refine LeO.ite ?_ ?_)
   | (with_reducible refine LeO.bind ?_ (fun _ => ?_))
   | exact ih0 _ _
   | exact ih1 _ _
   | exact impl_CellsOf.mono _ _ _ _ _ _
   | exact impl_parseOne.mono _ _
   | exact LeO.none _
   | refine LeO.ite ?_ ?_
   | refine LeO.bind ?_ (fun _ => ?_)
set_option maxHeartbeats 8000000 in
set_option maxRecDepth 100000 in
theorem impl_ParseCells.calls (k : Nat) (P0_ : Nat → Prop) (A0 : Option Addr) (c0 : Nat) (l0 : List Int) (r : List (S51)) (w : World) (hs0 : Kd.V (Kd.int .u32) 47 w w.heap.size (fun k_ => P0_ k_) (.slice A0 l0.length c0) l0) (h : impl_ParseCells.f k l0 = some r) :
  Calls Try.prog 15 #[.slice A0 l0.length c0] w fun e w' => ∃ v0_ : Value, e = .returned (v0_) ∧ Kd.R k51 51 w' w.heap.size (fun k_ => (w.heap.size ≤ k_)) v0_ r ∧ Below w.heap.size w w' := by
 have hu51 := Try.underlying51
 have HO0 := Z (show Kd.V (Kd.int .u32) 47 w w.heap.size (fun k_ => (P0_ k_ ∨ w.heap.size ≤ k_)) (.slice A0 l0.length c0) l0 from Kd.V_mono hs0 (fun k_ hk => .inl hk))
 have HB := Z (Below.refl w.heap.size w)
 have H : (if (l0.length : Int) > 64 then (some ([] : List (S51))) else (impl_ParseCells.l0 k l0 (([] : List (S51))))) = some r := h
 clear h
 by_cases c2 : (l0.length : Int) > 64
 ·rw [if_pos c2] at H
  have c2b0 : decide (64 < (l0.length : Int)) = true := decide_eq_true c2
  have c2b1 : decide (64 < l0.length) = true := decide_eq_true (by omega)
  clear c2
  obtain rfl := Option.some.inj H
  go_enter Try.func15, Try.ntmps15
  go_wp2
  go_ret
  exact ⟨_, Z13, Z20, Z61⟩
 ·rw [if_neg c2] at H
  have c2b0 : decide (64 < (l0.length : Int)) = false := decide_eq_false c2
  have c2b1 : decide (64 < l0.length) = false := decide_eq_false (by omega)
  clear c2
  obtain ⟨y230, hy230⟩ : ∃ y_ : List (S51), y_ = (([] : List (S51))) := ⟨_, rfl⟩
  replace H : (impl_ParseCells.l0 k l0 y230) = some r := by first | (rw [hy230]; with_reducible exact H) | (have H2_ := (Option.bind_some _ _).symm.trans H; rw [hy230]; with_reducible exact H2_) | (have H2_ := (Option.bind_some _ _).symm.trans H; with_reducible exact H2_) | with_reducible exact H | (rw [hy230]; exact H) | exact H
  have Ny230 := Aside0.mk hy230
  clear hy230
  have H' := Aside0.mk H
  clear H
  go_enter Try.func15, Try.ntmps15
  go_wp2_with (first | ((with_reducible refine gate_dst (N := 9) rfl ?_); refine Kd.R_lit k51 _ 51 (by rfl) (N := 9) (by rfl) (xs := ([] : List (S51))) (inner := []) (ok := fun _ => True) (okp := fun _ => True) Z10 (Reps.none _ _) (fun _ hk => hk) trivial (Below.refl _ _) (Nat.le_refl _) (by simp) ?_; intro v231 w3 ho4 hb hg_ hnew_; clear hg_ hnew_; (first | rw [← Ny230.out] at ho4 | (simp only [Int.reduceToNat] at ho4; rw [← Ny230.out] at ho4)); replace HO0 := Z (Kd.V_elder' (Z34 HO0) (Kd.R_base ho4) hb); have HO232 := Z (Kd.R_lower (Kd.R_newM (M := fun k_ => (w.heap.size ≤ k_)) ho4 (below_size Z61) (fun k_ h_ => h_)) (below_size Z61)); replace HB := Z (below_step Z61 hb); clear hb ho4))
  go_loopg [0, 3] k (fun kq v0 v3 w' => ∃ (x0_1 : List Int) (x3_1 : List (S51)), Aside0 (impl_ParseCells.l0 kq x0_1 x3_1 = some r) ∧ Aside0 (kq ≤ k) ∧ Aside0 (Kd.V (Kd.int .u32) 47 w' w.heap.size (fun k_ => (P0_ k_ ∨ w.heap.size ≤ k_) ∧ some k_ ≠ (v3 : Value).ownBlock) v0 x0_1) ∧ Aside0 (Kd.R k51 51 w' w.heap.size (fun k_ => (w.heap.size ≤ k_)) v3 x3_1) ∧ Aside0 (Below w.heap.size w w'))
  case atStart => exact ⟨(l0), (y230), H', ⟨Nat.le_refl _⟩, ⟨(Z34 HO0)⟩, ⟨(Z35 HO232)⟩, ⟨Z61⟩⟩
  case round =>
   clear H'
   try clear c1
   try clear c2
   try clear c2b0
   try clear c2b1
   try clear p2
   obtain ⟨x0_1, x3_1, HA, HK1, HO_0, HO_3, HB⟩ := hrel
   cases gk with
   | zero => exact absurd HA.out (by simp [impl_ParseCells.l0])
   | succ k1 =>
    have H := HA.out
    clear HA
    simp only [impl_ParseCells.l0] at H
    by_cases c5 : (x0_1.length : Int) > 0
    ·rw [if_pos c5] at H
     have c5b0 : decide (0 < (x0_1.length : Int)) = true := decide_eq_true c5
     have c5b1 : decide (0 < x0_1.length) = true := decide_eq_true (by omega)
     clear c5
     replace H := Option.bind_eq_some_iff.mp H
     obtain ⟨⟨t233, t234, t235, t236, t237⟩, A60, H⟩ := H
     replace H : (if x3_1.length < 3518437208883 then ((impl_CellsOf.f k1 t233 t234 t235 t236 t237).bind fun t242 => (if 0 ≤ (t242.length : Int) then (if (t242.length : Int) ≤ (x0_1.length : Int) then (impl_ParseCells.l0 k1 (x0_1.drop ((t242.length : Int) : Int).toNat) (x3_1 ++ [(⟨t233, t234, t235, t236, t237⟩ : S51)])) else (none)) else (none))) else (none)) = some r := H
     have A6 := Aside0.mk A60
     clear A60
     by_cases c7 : x3_1.length < 3518437208883
     ·rw [if_pos c7] at H
      have LMc7 := Aside0.mk c7
      clear c7
      obtain ⟨y239, hy239⟩ : ∃ y_ : List (S51), y_ = (x3_1 ++ [(⟨t233, t234, t235, t236, t237⟩ : S51)]) := ⟨_, rfl⟩
      replace H : ((impl_CellsOf.f k1 t233 t234 t235 t236 t237).bind fun t242 => (if 0 ≤ (t242.length : Int) then (if (t242.length : Int) ≤ (x0_1.length : Int) then (impl_ParseCells.l0 k1 (x0_1.drop ((t242.length : Int) : Int).toNat) y239) else (none)) else (none))) = some r := by first | (rw [hy239]; with_reducible exact H) | (have H2_ := (Option.bind_some _ _).symm.trans H; rw [hy239]; with_reducible exact H2_) | (have H2_ := (Option.bind_some _ _).symm.trans H; with_reducible exact H2_) | with_reducible exact H | (rw [hy239]; exact H) | exact H
      have Ny239 := Aside0.mk hy239
      clear hy239
      replace H := Option.bind_eq_some_iff.mp H
      obtain ⟨t242, A80, H⟩ := H
      replace H : (if 0 ≤ (t242.length : Int) then (if (t242.length : Int) ≤ (x0_1.length : Int) then (impl_ParseCells.l0 k1 (x0_1.drop ((t242.length : Int) : Int).toNat) y239) else (none)) else (none)) = some r := H
      have A8 := Aside0.mk A80
      clear A80
      by_cases c9 : 0 ≤ (t242.length : Int)
      ·rw [if_pos c9] at H
       have c9b0 := eq_true c9
       have c9b1 : decide (0 ≤ (t242.length : Int)) = true := decide_eq_true c9
       clear c9
       by_cases c10 : (t242.length : Int) ≤ (x0_1.length : Int)
       ·rw [if_pos c10] at H
        have c10b0 := eq_true c10
        have c10b1 : decide ((t242.length : Int) ≤ (x0_1.length : Int)) = true := decide_eq_true c10
        clear c10
        obtain ⟨y245, hy245⟩ : ∃ y_ : List Int, y_ = (x0_1.drop ((t242.length : Int) : Int).toNat) := ⟨_, rfl⟩
        replace H : (impl_ParseCells.l0 k1 y245 y239) = some r := by first | (rw [hy245]; with_reducible exact H) | (have H2_ := (Option.bind_some _ _).symm.trans H; rw [hy245]; with_reducible exact H2_) | (have H2_ := (Option.bind_some _ _).symm.trans H; with_reducible exact H2_) | with_reducible exact H | (rw [hy245]; exact H) | exact H
        have Ny245 := Aside0.mk hy245
        clear hy245
        have H' := Aside0.mk H
        clear H
        obtain ⟨Ao11, co11, eo11⟩ := Kd.V_slice HO_0.out
        subst eo11
        go_wp2_with (first | ((with_reducible refine gate_callee (f := 59) rfl ?_); refine goesL_ (some 14) rfl rfl Try.func59 Z0 rfl #[.slice Ao11 x0_1.length co11] rfl Z4 ?_; (with_reducible refine (impl_parseOne.calls k1 _ _ x0_1 t233 t234 t235 t236 t237 _ ?side1 ?side2 A6.out).mono ?_); (case side1 => exact (by repeat (first | exact (Kd.V_reads' HO_0.out).2.2 | (with_reducible refine Kd.C_alloc ?_ _) | (with_reducible refine Kd.C_drewN ?_ _) | (with_reducible refine Kd.C_drew ?_)))); (case side2 => exact (Kd.V_reads' HO_0.out).2.1); rintro e w12 ⟨rfl, hb⟩; refine ⟨_, rfl, ?_⟩; replace HO_0 := Z (Kd.V_below (Z34 HO_0) hb); replace HO_3 := Z (Kd.R_below (Z12 HO_3) hb); replace HB := Z (below_step Z61 hb); (try clear hb); (try clear hb2); (try clear hk); (try clear hi)) | ((with_reducible refine gate_dst (N := 4) rfl ?_); refine box_event (by rfl) (N := 4) (by rfl) (cs := #[.int .i64 0, .string (⟨#[]⟩ : ByteArray), .int .i32 0, .bool false, .int .u32 0]) (t := 51) Z10 ?_; intro gb238 hg w13 hbox hb; replace HO_0 := Z (Kd.V_below (Kd.V_elderB (Z34 HO_0) gb238 (Nat.le_of_eq hg.symm)) hb); replace HO_3 := Z (Kd.R_below (Kd.R_elderB (Z12 HO_3) gb238 (Nat.le_of_eq hg.symm)) hb); have BK238 := Z (hbox); have GW238 := Z ((Z75 : w.heap.size ≤ gb238)); have GE238 := Z ((Z75 : w.heap.size ≤ gb238)); replace HB := Z (below_step Z61 hb); clear hb hbox hg; have hcz14_0 : w13.cell? ⟨gb238, 0, none⟩ = some (.int .i64 0) := (blk_cell BK238.out 0).trans rfl; have hcz14_1 : w13.cell? ⟨gb238, 1, none⟩ = some (.string (⟨#[]⟩ : ByteArray)) := (blk_cell BK238.out 1).trans rfl; have hcz14_2 : w13.cell? ⟨gb238, 2, none⟩ = some (.int .i32 0) := (blk_cell BK238.out 2).trans rfl; have hcz14_3 : w13.cell? ⟨gb238, 3, none⟩ = some (.bool false) := (blk_cell BK238.out 3).trans rfl; have hcz14_4 : w13.cell? ⟨gb238, 4, none⟩ = some (.int .u32 0) := (blk_cell BK238.out 4).trans rfl; have hfz14_0 := blk_frozen BK238.out 0; have hfz14_1 := blk_frozen BK238.out 1; have hfz14_2 := blk_frozen BK238.out 2; have hfz14_3 := blk_frozen BK238.out 3; have hfz14_4 := blk_frozen BK238.out 4) | ((with_reducible refine gate_builtin (b := .append) (xs := #[.tmp 15, .tmp 17]) rfl ?_); at_builtin; refine Kd.R_append k51 (w0 := w) w.heap.size rfl (.tmp 15) (.tmp 17) 26 51 (.agg #[(.int .i64 0), (.string ⟨#[]⟩), (.int .i32 0), (.bool false), (.int .u32 0)]) 40 rfl Try.underlying26 info51 rfl (by decide) (by omega) u3 x3_1 (⟨t233, t234, t235, t236, t237⟩ : S51) [.int .i64 t233, .string t234, .int .i32 t235, .bool t236, .int .u32 t237] (fun k_ => (w.heap.size ≤ k_) ∧ k_ ≠ gb238) (fun _ => False) rfl Z10 ?aP (fun _ hk => hk.elim) ?aF ?aO ?aB ?aS ?aL ?_; (case aP => exact k51_mkM _ _ _ (⟨t233, t234, t235, t236, t237⟩ : S51)); (case aB => exact Z61); (case aF => exact (fun k_ hk => ⟨(Nat.le_trans (below_size Z61) hk), Kd.freshB (g := gb238) (o := .cells #[.int .i64 t233, .string t234, .int .i32 t235, .bool t236, .int .u32 t237] 51 (0, 0)) (Z36 BK238) k_ hk⟩)); (case aO => exact (by (with_reducible repeat (first | apply Kd.R_alloc | apply Kd.R_drewN | apply Kd.R_drew)); exact Kd.R_mono (Kd.R_far (p := ⟨gb238, 4, none⟩) (Kd.R_far (p := ⟨gb238, 3, none⟩) (Kd.R_far (p := ⟨gb238, 2, none⟩) (Kd.R_far (p := ⟨gb238, 1, none⟩) (Kd.R_far (p := ⟨gb238, 0, none⟩) (Kd.R_mono HO_3.out (fun k_ hk => (⟨hk, hk.2⟩ : _ ∧ k_ ≠ gb238))) (fun _ hk => hk.2) (.int .i64 t233)) (fun _ hk => hk.2) (.string t234)) (fun _ hk => hk.2) (.int .i32 t235)) (fun _ hk => hk.2) (.bool t236)) (fun _ hk => hk.2) (.int .u32 t237)) (fun _ hk => ⟨hk.1.1, hk.1.2⟩))); (case aS => exact (below_size Z61)); (case aL => have := LMc7.out; omega); intro v240 w15 ho hb hg hat; rw [← Ny239.out] at ho; replace HO_0 := Z (Kd.V_afterv (ok := (fun k_ => (P0_ k_ ∨ w.heap.size ≤ k_) ∧ k_ ≠ gb238)) (by (with_reducible repeat (first | apply Kd.V_alloc | apply Kd.V_drewN | apply Kd.V_drew)); exact Kd.V_mono (Kd.V_far (p := ⟨gb238, 4, none⟩) (Kd.V_far (p := ⟨gb238, 3, none⟩) (Kd.V_far (p := ⟨gb238, 2, none⟩) (Kd.V_far (p := ⟨gb238, 1, none⟩) (Kd.V_far (p := ⟨gb238, 0, none⟩) (Kd.V_mono HO_0.out (fun k_ hk => (⟨hk, hk.2⟩ : _ ∧ k_ ≠ gb238))) (fun _ hk => hk.2) (.int .i64 t233)) (fun _ hk => hk.2) (.string t234)) (fun _ hk => hk.2) (.int .i32 t235)) (fun _ hk => hk.2) (.bool t236)) (fun _ hk => hk.2) (.int .u32 t237)) (fun _ hk => ⟨⟨hk.1.1.1, hk.1.2⟩, hk.1.1.2⟩)) hg hat); replace BK238 := Z (blk_grown (g := gb238) (o := .cells #[.int .i64 t233, .string t234, .int .i32 t235, .bool t236, .int .u32 t237] 51 (0, 0)) (Z36 BK238) hg (Kd.R_away HO_3.out (fun _ hk => hk.2))); replace HB := Z (hb); have HO241 := Z (ho); clear HO_3; clear ho hb hg hat; have hcz16_0 : w15.cell? ⟨gb238, 0, none⟩ = some (.int .i64 t233) := (blk_cell BK238.out 0).trans rfl; have hcz16_1 : w15.cell? ⟨gb238, 1, none⟩ = some (.string t234) := (blk_cell BK238.out 1).trans rfl; have hcz16_2 : w15.cell? ⟨gb238, 2, none⟩ = some (.int .i32 t235) := (blk_cell BK238.out 2).trans rfl; have hcz16_3 : w15.cell? ⟨gb238, 3, none⟩ = some (.bool t236) := (blk_cell BK238.out 3).trans rfl; have hcz16_4 : w15.cell? ⟨gb238, 4, none⟩ = some (.int .u32 t237) := (blk_cell BK238.out 4).trans rfl; have hfz16_0 := blk_frozen BK238.out 0; have hfz16_1 := blk_frozen BK238.out 1; have hfz16_2 := blk_frozen BK238.out 2; have hfz16_3 := blk_frozen BK238.out 3; have hfz16_4 := blk_frozen BK238.out 4) | ((with_reducible refine gate_callee (f := 43) rfl ?_); refine goesL_ (some 21) rfl rfl Try.func43 Z0 rfl #[.agg #[.int .i64 t233, .string t234, .int .i32 t235, .bool t236, .int .u32 t237]] rfl Z4 ?_; (with_reducible refine (impl_CellsOf.calls k1 t233 t234 t235 t236 t237 t242 _ A8.out).mono ?_); rintro e w17 ⟨v243, rfl, ho0, hb⟩; refine ⟨_, rfl, ?_⟩; replace HO_0 := Z (Kd.V_elder' (Z34 HO_0) (Kd.R_base ho0) hb); replace HO241 := Z (Kd.R_below (Z12 HO241) hb); have HO244 := Z (Kd.R_lower (Kd.R_newM (M := fun k_ => (w.heap.size ≤ k_)) ho0 (below_size Z61) (fun k_ h_ => h_)) (below_size Z61)); replace BK238 := Z (blk_below (g := gb238) (o := .cells #[.int .i64 t233, .string t234, .int .i32 t235, .bool t236, .int .u32 t237] 51 (0, 0)) (Z15 BK238) hb); replace HB := Z (below_step Z61 hb); (try clear hb); (try clear hb2); (try clear hk); (try clear hi); (try clear ho0); obtain ⟨Ao18, co18, eo18⟩ := Kd.R_slice HO244.out; subst eo18; have q19 : ((t242.length : Int) : Int) ≤ ((x0_1.length : Int) : Int) := of_decide_eq_true Z5; obtain ⟨i019, hi019, _, hsz19, _⟩ := info_parts info47; have hroom19 : x0_1.length ≤ co11 := (Kd.V_reads' HO_0.out).2.1; have hC19 : Kd.F (Kd.int .u32) _ _ Ao11 x0_1.length x0_1 := (Kd.V_at (base := w.heap.size) HO_0.out).2.2; have q019 : (0 : Int) ≤ ((t242.length : Int) : Int) := of_decide_eq_true Z5; have hcut19 := cut_from (P := Try.prog) 24 47 .i64 Try.underlying24 hi019 1 hsz19 Ao11 x0_1.length co11 (t242.length : Int) q019 q19; have hr19 := Kd.F_cut (m := ((t242.length : Int) : Int).toNat) (c := co11) hC19 (by omega) hroom19; obtain ⟨A19, hA19⟩ : ∃ A1, A1 = (if co11 = ((t242.length : Int) : Int).toNat then Ao11 else (Ao11 : Option Addr).map (·.add (((t242.length : Int) : Int).toNat * 1))) := ⟨_, rfl⟩; obtain ⟨c19, hc19⟩ : ∃ c1, c1 = co11 - ((t242.length : Int) : Int).toNat := ⟨_, rfl⟩; have hy19 : y245.length = x0_1.length - ((t242.length : Int) : Int).toNat := (by rw [Ny245.out, List.length_drop] <;> omega); rw [show (x0_1).drop ((t242.length : Int) : Int).toNat = y245 from Ny245.out.symm] at hr19; replace hr19 : Kd.F (Kd.int .u32) _ _ A19 y245.length y245 := (by rw [hA19]; exact hr19); rw [← hy19, ← hA19, ← hc19] at hcut19; have HO249 := Z (show Kd.V (Kd.int .u32) 47 _ w.heap.size _ (.slice A19 y245.length c19) y245 from Kd.V_mk Z30 hr19); have HC249 := Z (show y245.length ≤ c19 from Z30); clear hr19 hC19 hroom19 hi019 hsz19 hc19; have KY19 := Aside0.mk hy19; have KA19 := Aside0.mk hA19; clear hy19 hA19; replace q19 := eq_true q19))
        go_roundg k1
        case measure => have := HK1.out; omega
        case rel => exact ⟨(y245), (y239), H', ⟨Z6⟩, ⟨by (with_reducible repeat (first | apply Kd.V_alloc | apply Kd.V_drewN | apply Kd.V_drew)); exact Kd.V_mono HO249.out (fun _ hk => ⟨hk.1.1.1, hk.1.2⟩)⟩, ⟨(Z35 HO241)⟩, ⟨Z61⟩⟩
       ·rw [if_neg c10] at H
        exact absurd H (by simp)
      ·rw [if_neg c9] at H
       exact absurd H (by simp)
     ·rw [if_neg c7] at H
      exact absurd H (by simp)
    ·rw [if_neg c5] at H
     have c5b0 : decide (0 < (x0_1.length : Int)) = false := decide_eq_false c5
     have c5b1 : decide (0 < x0_1.length) = false := decide_eq_false (by omega)
     clear c5
     have H' := Aside0.mk H
     clear H
     obtain ⟨Ao20, co20, eo20⟩ := Kd.V_slice HO_0.out
     subst eo20
     obtain ⟨Ao21, co21, eo21⟩ := Kd.R_slice HO_3.out
     subst eo21
     go_wp2
     go_loopg [3, 5] k1 (fun kq v3 v5 w' => ∃ (x3_2 : List (S51)) (x5_2 : Int), v5 = .int .i64 x5_2 ∧ Aside0 (impl_ParseCells.l1 kq x3_2 x5_2 = some r) ∧ Aside0 (kq ≤ k1) ∧ Aside0 (Kd.R k51 51 w' w.heap.size (fun k_ => (w.heap.size ≤ k_)) v3 x3_2) ∧ Aside0 (Below w.heap.size w w'))
     case atStart => exact ⟨(x3_1), (wrap64 ((x3_1.length : Int) - 1)), Z2, H', ⟨Nat.le_refl _⟩, ⟨(Z12 HO_3)⟩, ⟨Z61⟩⟩
     case round =>
      clear H'
      try clear c1
      try clear q1
      try clear c2
      try clear c2b0
      try clear c2b1
      try clear p2
      try clear c4
      try clear c5
      try clear c5b0
      try clear c5b1
      try clear p6
      try clear c7
      try clear c9
      try clear c9b0
      try clear c9b1
      try clear c10
      try clear c10b0
      try clear c10b1
      try clear c15
      try clear c19
      try clear q19
      try clear hcz14_0
      try clear hcz14_1
      try clear hcz14_2
      try clear hcz14_3
      try clear hcz14_4
      try clear hcz16_0
      try clear hcz16_1
      try clear hcz16_2
      try clear hcz16_3
      try clear hcz16_4
      try clear hfz14_0
      try clear hfz14_1
      try clear hfz14_2
      try clear hfz14_3
      try clear hfz14_4
      try clear hfz16_0
      try clear hfz16_1
      try clear hfz16_2
      try clear hfz16_3
      try clear hfz16_4
      try clear p2
      try clear q019
      try clear q19
      obtain ⟨x3_2, x5_2, rfl, HA, HK2, HO_3, HB⟩ := hrel
      cases gk with
      | zero => exact absurd HA.out (by simp [impl_ParseCells.l1])
      | succ k2 =>
       have H := HA.out
       clear HA
       simp only [impl_ParseCells.l1] at H
       by_cases c22 : x5_2 ≥ 0
       ·rw [if_pos c22] at H
        have c22b0 : decide (0 ≤ x5_2) = true := decide_eq_true c22
        clear c22
        by_cases c23 : 0 ≤ x5_2
        ·rw [if_pos c23] at H
         have c23b0 : decide (0 ≤ x5_2) = true := decide_eq_true c23
         clear c23
         by_cases c24 : x5_2 < (x3_2.length : Int)
         ·rw [if_pos c24] at H
          have c24b0 : decide (x5_2 < (x3_2.length : Int)) = true := decide_eq_true c24
          clear c24
          by_cases c25 : (((rd_T51 x3_2 x5_2).f0) == 0 && ((((rd_T51 x3_2 x5_2).f1).toList) == ([] : List UInt8) && (((rd_T51 x3_2 x5_2).f2) == 0 && (!((rd_T51 x3_2 x5_2).f3) && (((rd_T51 x3_2 x5_2).f4) == 0))))) = true
          ·rw [if_pos c25] at H
           have c25b0 : (((rd_T51 x3_2 x5_2).f0) == 0 && ((((rd_T51 x3_2 x5_2).f1).toList) == ([] : List UInt8) && (((rd_T51 x3_2 x5_2).f2) == 0 && (!((rd_T51 x3_2 x5_2).f3) && (((rd_T51 x3_2 x5_2).f4) == 0))))) = true := c25
           (try (have c25b1 : (((rd_T51 x3_2 x5_2).f0) == 0 && ((((rd_T51 x3_2 x5_2).f1).toList).isEmpty && (((rd_T51 x3_2 x5_2).f2) == 0 && (!((rd_T51 x3_2 x5_2).f3) && (((rd_T51 x3_2 x5_2).f4) == 0))))) = true := by have h_ : (((rd_T51 x3_2 x5_2).f0) == 0 && ((((rd_T51 x3_2 x5_2).f1).toList) == ([] : List UInt8) && (((rd_T51 x3_2 x5_2).f2) == 0 && (!((rd_T51 x3_2 x5_2).f3) && (((rd_T51 x3_2 x5_2).f4) == 0))))) = true := c25; simpa only [List.beq_nil_eq] using h_))
           (try (have c25b2 : decide (((rd_T51 x3_2 x5_2).f0) = 0 && ((((rd_T51 x3_2 x5_2).f1).toList) == ([] : List UInt8) && (((rd_T51 x3_2 x5_2).f2) == 0 && (!((rd_T51 x3_2 x5_2).f3) && (((rd_T51 x3_2 x5_2).f4) == 0))))) = true := Z37))
           (try (have c25b3 : (((rd_T51 x3_2 x5_2).f0) == 0 && ((((rd_T51 x3_2 x5_2).f1).toList) == ([] : List UInt8) && (((rd_T51 x3_2 x5_2).f2) == 0 && (!((rd_T51 x3_2 x5_2).f3) && (((rd_T51 x3_2 x5_2).f4) == 0))))) = true := Z37))
           clear c25
           by_cases c26 : x5_2 ≤ (x3_2.length : Int)
           ·rw [if_pos c26] at H
            have c26b0 := eq_true c26
            have c26b1 : decide (x5_2 ≤ (x3_2.length : Int)) = true := decide_eq_true c26
            clear c26
            obtain ⟨y251, hy251⟩ : ∃ y_ : List (S51), y_ = (x3_2.take (x5_2 : Int).toNat) := ⟨_, rfl⟩
            replace H : (impl_ParseCells.l1 k2 y251 (wrap64 (x5_2 - 1))) = some r := by first | (rw [hy251]; with_reducible exact H) | (have H2_ := (Option.bind_some _ _).symm.trans H; rw [hy251]; with_reducible exact H2_) | (have H2_ := (Option.bind_some _ _).symm.trans H; with_reducible exact H2_) | with_reducible exact H | (rw [hy251]; exact H) | exact H
            have Ny251 := Aside0.mk hy251
            clear hy251
            have H' := Aside0.mk H
            clear H
            obtain ⟨Ao27, co27, eo27⟩ := Kd.R_slice HO_3.out
            subst eo27
            have p250 : 0 ≤ (x5_2 : Int) := of_decide_eq_true Z5
            have q250 : x5_2 < (x3_2.length : Int) := of_decide_eq_true Z5
            obtain ⟨ad250, e250, hx250_0, hx250_1, hx250_2, hx250_3, hx250_4⟩ := at_T51 (Kd.R_reads' HO_3.out).2.2 x5_2 p250 q250
            cases e250
            replace p250 := eq_true p250
            replace q250 := eq_true q250
            (try clear hcut27)
            have q28 : (x5_2 : Int) ≤ ((x3_2.length : Int) : Int) := of_decide_eq_true Z5
            obtain ⟨i028, hi028, _, hsz28, _⟩ := info_parts info51
            have hcut28 := cut_to (P := Try.prog) 26 51 .i64 Try.underlying26 hi028 (some ad250) x3_2.length co27 x5_2 (of_decide_eq_true Z5) q28 (Kd.R_reads' HO_3.out).2.1
            have hr28 := Kd.R_take (m := (x5_2 : Int).toNat) HO_3.out (by omega)
            have hy28 : y251.length = (x5_2 : Int).toNat := (by rw [Ny251.out, List.length_take]; omega)
            rw [← Ny251.out] at hr28
            rw [← hy28] at hr28 hcut28
            clear hy28 hi028 hsz28 HO_3
            have HO253 := Aside0.mk hr28
            clear hr28
            replace q28 := eq_true q28
            go_wp2
            go_roundg k2
            case measure => have := HK1.out; have := HK2.out; omega
            case rel => exact ⟨(y251), (wrap64 (x5_2 - 1)), Z2, H', ⟨by have := HK1.out; have := HK2.out; omega⟩, ⟨(Z12 HO253)⟩, ⟨Z61⟩⟩
           ·rw [if_neg c26] at H
            exact absurd H (by simp)
          ·rw [if_neg c25] at H
           have c25b0 : (((rd_T51 x3_2 x5_2).f0) == 0 && ((((rd_T51 x3_2 x5_2).f1).toList) == ([] : List UInt8) && (((rd_T51 x3_2 x5_2).f2) == 0 && (!((rd_T51 x3_2 x5_2).f3) && (((rd_T51 x3_2 x5_2).f4) == 0))))) = false := Z37
           (try (have c25b1 : (((rd_T51 x3_2 x5_2).f0) == 0 && ((((rd_T51 x3_2 x5_2).f1).toList).isEmpty && (((rd_T51 x3_2 x5_2).f2) == 0 && (!((rd_T51 x3_2 x5_2).f3) && (((rd_T51 x3_2 x5_2).f4) == 0))))) = false := by have h_ : (((rd_T51 x3_2 x5_2).f0) == 0 && ((((rd_T51 x3_2 x5_2).f1).toList) == ([] : List UInt8) && (((rd_T51 x3_2 x5_2).f2) == 0 && (!((rd_T51 x3_2 x5_2).f3) && (((rd_T51 x3_2 x5_2).f4) == 0))))) = false := Z37; simpa only [List.beq_nil_eq] using h_))
           (try (have c25b2 : decide (((rd_T51 x3_2 x5_2).f0) = 0 && ((((rd_T51 x3_2 x5_2).f1).toList) == ([] : List UInt8) && (((rd_T51 x3_2 x5_2).f2) == 0 && (!((rd_T51 x3_2 x5_2).f3) && (((rd_T51 x3_2 x5_2).f4) == 0))))) = false := Z37))
           (try (have c25b3 : (((rd_T51 x3_2 x5_2).f0) == 0 && ((((rd_T51 x3_2 x5_2).f1).toList) == ([] : List UInt8) && (((rd_T51 x3_2 x5_2).f2) == 0 && (!((rd_T51 x3_2 x5_2).f3) && (((rd_T51 x3_2 x5_2).f4) == 0))))) = false := Z37))
           (try (have c25b4 : ¬ (((rd_T51 x3_2 x5_2).f0) = 0 && ((((rd_T51 x3_2 x5_2).f1).toList) == ([] : List UInt8) && (((rd_T51 x3_2 x5_2).f2) == 0 && (!((rd_T51 x3_2 x5_2).f3) && (((rd_T51 x3_2 x5_2).f4) == 0))))) := Z37))
           clear c25
           obtain rfl := Option.some.inj H
           obtain ⟨Ao29, co29, eo29⟩ := Kd.R_slice HO_3.out
           subst eo29
           have p250 : 0 ≤ (x5_2 : Int) := of_decide_eq_true Z5
           have q250 : x5_2 < (x3_2.length : Int) := of_decide_eq_true Z5
           obtain ⟨ad250, e250, hx250_0, hx250_1, hx250_2, hx250_3, hx250_4⟩ := at_T51 (Kd.R_reads' HO_3.out).2.2 x5_2 p250 q250
           cases e250
           replace p250 := eq_true p250
           replace q250 := eq_true q250
           go_wp2
           go_ret
           exact ⟨_, Z13, (Z12 HO_3), Z61⟩
         ·rw [if_neg c24] at H
          exact absurd H (by simp)
        ·rw [if_neg c23] at H
         exact absurd H (by simp)
       ·rw [if_neg c22] at H
        have c22b0 : decide (0 ≤ x5_2) = false := decide_eq_false c22
        clear c22
        obtain rfl := Option.some.inj H
        go_wp2
        go_ret
        exact ⟨_, Z13, (Z12 HO_3), Z61⟩

/-! ### impl_Unparse: function 16 -/
def impl_Unparse.l0 : Nat → List Int → List (S51) → Int → Int → Option (List Int × Bool)
 | 0, _, _, _, _ => none
 | k + 1, x4, x9, x10, x11 => if x11 < x10 then (if 0 ≤ x11 then (if x11 < (x9.length : Int) then ((impl_CellsOf.f k ((rd_T51 x9 x11).f0) ((rd_T51 x9 x11).f1) ((rd_T51 x9 x11).f2) ((rd_T51 x9 x11).f3) ((rd_T51 x9 x11).f4)).bind fun t259 => (if x4.length + t259.length < 35184372088832 then ((some (x4 ++ t259 : List Int)).bind fun y262 => (if (t259.length : Int) = 0 then (some (([] : List Int), false)) else (if (y262.length : Int) > 64 then (some (([] : List Int), false)) else (impl_Unparse.l0 k y262 x9 x10 (wrap64 (x11 + 1)))))) else (none))) else (none)) else (none)) else (some (x4, true))
def impl_Unparse.f (k : Nat) (l0 : List (S51)) : Option (List Int × Bool) := impl_Unparse.l0 k (([] : List Int)) l0 (l0.length : Int) 0
theorem impl_Unparse.mono_l : ∀ k, (∀ y0 y1 y2 y3, LeO (impl_Unparse.l0 k y0 y1 y2 y3) (impl_Unparse.l0 (k + 1) y0 y1 y2 y3))
 | 0 => fun _ _ _ _ r h => by simp [impl_Unparse.l0] at h
 | k + 1 => by
  have ih0 := impl_Unparse.mono_l k
  ·intro y0 y1 y2 y3
   unfold impl_Unparse.l0
   repeat' first
   | (with_reducible exact ih0 _ _ _ _)
   | (with_reducible exact impl_CellsOf.mono _ _ _ _ _ _)
   | (with_reducible exact LeO.refl _)
   | (with_reducible exact LeO.none _)
   | (with_reducible refine LeO.ite ?_ ?_)
   | (with_reducible refine LeO.bind ?_ (fun _ => ?_))
   | exact ih0 _ _ _ _
   | exact impl_CellsOf.mono _ _ _ _ _ _
   | exact LeO.none _
   | refine LeO.ite ?_ ?_
   | refine LeO.bind ?_ (fun _ => ?_)
theorem impl_Unparse.mono : ∀ a0 k, LeO (impl_Unparse.f k a0) (impl_Unparse.f (k + 1) a0) := by
 intro a0 k
 have ih0 := impl_Unparse.mono_l k
 unfold impl_Unparse.f
 repeat' first
   | (with_reducible exact ih0 _ _ _ _)
   | (with_reducible exact impl_CellsOf.mono _ _ _ _ _ _)
   | (with_reducible exact LeO.refl _)
   | (with_reducible exact LeO.none _)
   | (with_reducible refine LeO.ite ?_ ?_)
   | (with_reducible refine LeO.bind ?_ (fun _ => ?_))
   | exact ih0 _ _ _ _
   | exact impl_CellsOf.mono _ _ _ _ _ _
   | exact LeO.none _
   | refine LeO.ite ?_ ?_
   | refine LeO.bind ?_ (fun _ => ?_)
set_option maxHeartbeats 8000000 in
set_option maxRecDepth 100000 in
theorem impl_Unparse.calls (k : Nat) (A0 : Option Addr) (c0 : Nat) (l0 : List (S51)) (r1 : List Int) (r2 : Bool) (w : World) (hr0 : Kd.C k51 w A0 l0.length l0) (hc0 : l0.length ≤ c0) (h : impl_Unparse.f k l0 = some (r1, r2)) :
  Calls Try.prog 16 #[.slice A0 l0.length c0] w fun e w' => ∃ v0_ : Value, e = .returned (.tuple #[v0_, .bool r2]) ∧ Kd.R (Kd.int .u32) 47 w' w.heap.size (fun _ => True) v0_ r1 ∧ Below w.heap.size w w' := by
 have hu51 := Try.underlying51
 have HR0 := Aside0.mk hr0
 have HC0 := Aside0.mk hc0
 clear hr0 hc0
 have HB := Z (Below.refl w.heap.size w)
 have H : (impl_Unparse.l0 k (([] : List Int)) l0 (l0.length : Int) 0) = some (r1, r2) := h
 clear h
 obtain ⟨y254, hy254⟩ : ∃ y_ : List Int, y_ = (([] : List Int)) := ⟨_, rfl⟩
 replace H : (impl_Unparse.l0 k y254 l0 (l0.length : Int) 0) = some (r1, r2) := by first | (rw [hy254]; with_reducible exact H) | (have H2_ := (Option.bind_some _ _).symm.trans H; rw [hy254]; with_reducible exact H2_) | (have H2_ := (Option.bind_some _ _).symm.trans H; with_reducible exact H2_) | with_reducible exact H | (rw [hy254]; exact H) | exact H
 have Ny254 := Aside0.mk hy254
 clear hy254
 have H' := Aside0.mk H
 clear H
 go_enter Try.func16, Try.ntmps16
 go_wp2_with (first | ((with_reducible refine gate_dst (N := 8) rfl ?_); (try (refine gate_guard (by rfl) ?_; dsimp only)); refine Kd.R_lit (Kd.int .u32) _ 47 (by rfl) (N := 8) (by rfl) (xs := ([] : List Int)) (inner := []) (ok := fun _ => True) (okp := fun _ => True) Z10 (Reps.none _ _) (fun _ hk => hk) trivial (Below.refl _ _) (Nat.le_refl _) (by simp) ?_; intro v255 w2 ho3 hb hg_ hnew_; clear hg_ hnew_; (first | rw [← Ny254.out] at ho3 | (simp only [Int.reduceToNat] at ho3; rw [← Ny254.out] at ho3)); have HO256 := Z (Kd.R_lower ho3 (below_size Z61)); replace HB := Z (below_step Z61 hb); clear hb ho3))
 go_loopg [4, 11] k (fun kq v4 v11 w' => ∃ (x4_1 : List Int) (x11_1 : Int), v11 = .int .i64 x11_1 ∧ Aside0 (impl_Unparse.l0 kq x4_1 l0 (l0.length : Int) x11_1 = some (r1, r2)) ∧ Aside0 (kq ≤ k) ∧ Aside0 (Kd.R (Kd.int .u32) 47 w' w.heap.size (fun _ => True) v4 x4_1) ∧ Aside0 (Below w.heap.size w w'))
 case atStart => exact ⟨(y254), (0), Z2, H', ⟨Nat.le_refl _⟩, ⟨(Z12 HO256)⟩, ⟨Z61⟩⟩
 case round =>
  clear H'
  try clear c1
  try clear p2
  obtain ⟨x4_1, x11_1, rfl, HA, HK1, HO_4, HB⟩ := hrel
  cases gk with
  | zero => exact absurd HA.out (by simp [impl_Unparse.l0])
  | succ k1 =>
   have H := HA.out
   clear HA
   simp only [impl_Unparse.l0] at H
   by_cases c4 : x11_1 < (l0.length : Int)
   ·rw [if_pos c4] at H
    have c4b0 : decide (x11_1 < (l0.length : Int)) = true := decide_eq_true c4
    clear c4
    by_cases c5 : 0 ≤ x11_1
    ·rw [if_pos c5] at H
     have c5b0 : decide (0 ≤ x11_1) = true := decide_eq_true c5
     clear c5
     by_cases c6 : x11_1 < (l0.length : Int)
     ·rw [if_pos c6] at H
      have c6b0 : decide (x11_1 < (l0.length : Int)) = true := decide_eq_true c6
      clear c6
      replace H := Option.bind_eq_some_iff.mp H
      obtain ⟨t259, A70, H⟩ := H
      replace H : (if x4_1.length + t259.length < 35184372088832 then ((some (x4_1 ++ t259 : List Int)).bind fun y262 => (if (t259.length : Int) = 0 then (some (([] : List Int), false)) else (if (y262.length : Int) > 64 then (some (([] : List Int), false)) else (impl_Unparse.l0 k1 y262 l0 (l0.length : Int) (wrap64 (x11_1 + 1)))))) else (none)) = some (r1, r2) := H
      have A7 := Aside0.mk A70
      clear A70
      by_cases c8 : x4_1.length + t259.length < 35184372088832
      ·rw [if_pos c8] at H
       have LMc8 := Aside0.mk c8
       clear c8
       obtain ⟨y262, hy262⟩ : ∃ y_ : List Int, y_ = (x4_1 ++ t259) := ⟨_, rfl⟩
       replace H : (if (t259.length : Int) = 0 then (some (([] : List Int), false)) else (if (y262.length : Int) > 64 then (some (([] : List Int), false)) else (impl_Unparse.l0 k1 y262 l0 (l0.length : Int) (wrap64 (x11_1 + 1))))) = some (r1, r2) := by first | (rw [hy262]; with_reducible exact H) | (have H2_ := (Option.bind_some _ _).symm.trans H; rw [hy262]; with_reducible exact H2_) | (have H2_ := (Option.bind_some _ _).symm.trans H; with_reducible exact H2_) | with_reducible exact H | (rw [hy262]; exact H) | exact H
       have Ny262 := Aside0.mk hy262
       clear hy262
       by_cases c9 : (t259.length : Int) = 0
       ·rw [if_pos c9] at H
        have c9b0 : ((t259.length : Int) == 0) = true := beq_iff_eq.mpr c9
        have c9b1 : ((t259.length : Int) != 0) = false := bne_eq_false_iff_eq.mpr c9
        clear c9
        simp only [Option.some.injEq, Prod.mk.injEq] at H
        obtain ⟨rfl, rfl⟩ := H
        have p257 : 0 ≤ (x11_1 : Int) := of_decide_eq_true Z5
        have q257 : x11_1 < (l0.length : Int) := of_decide_eq_true Z5
        obtain ⟨ad257, e257, hx257_0, hx257_1, hx257_2, hx257_3, hx257_4⟩ := at_T51 HR0.out x11_1 p257 q257
        cases e257
        replace hx257_0 := (HB.out.cell (World.block_lt_of_cell? w _ hx257_0)).trans hx257_0
        replace hx257_1 := (HB.out.cell (World.block_lt_of_cell? w _ hx257_1)).trans hx257_1
        replace hx257_2 := (HB.out.cell (World.block_lt_of_cell? w _ hx257_2)).trans hx257_2
        replace hx257_3 := (HB.out.cell (World.block_lt_of_cell? w _ hx257_3)).trans hx257_3
        replace hx257_4 := (HB.out.cell (World.block_lt_of_cell? w _ hx257_4)).trans hx257_4
        replace p257 := eq_true p257
        replace q257 := eq_true q257
        go_wp2_with (first | ((with_reducible refine gate_dst (N := 6) rfl ?_); (try (refine gate_guard (by rfl) ?_; dsimp only)); refine box_event (by rfl) (N := 6) (by rfl) (cs := #[.int .i64 0, .string (⟨#[]⟩ : ByteArray), .int .i32 0, .bool false, .int .u32 0]) (t := 51) Z10 ?_; intro gb258 hg w10 hbox hb; replace HO_4 := Z (Kd.R_below (Z12 HO_4) hb); have BK258 := Z (hbox); have GW258 := Z ((Z75 : w.heap.size ≤ gb258)); have GE258 := Z ((Z75 : w.heap.size ≤ gb258)); replace HB := Z (below_step Z61 hb); clear hb hbox hg; have hcz11_0 : w10.cell? ⟨gb258, 0, none⟩ = some (.int .i64 0) := (blk_cell BK258.out 0).trans rfl; have hcz11_1 : w10.cell? ⟨gb258, 1, none⟩ = some (.string (⟨#[]⟩ : ByteArray)) := (blk_cell BK258.out 1).trans rfl; have hcz11_2 : w10.cell? ⟨gb258, 2, none⟩ = some (.int .i32 0) := (blk_cell BK258.out 2).trans rfl; have hcz11_3 : w10.cell? ⟨gb258, 3, none⟩ = some (.bool false) := (blk_cell BK258.out 3).trans rfl; have hcz11_4 : w10.cell? ⟨gb258, 4, none⟩ = some (.int .u32 0) := (blk_cell BK258.out 4).trans rfl; have hfz11_0 := blk_frozen BK258.out 0; have hfz11_1 := blk_frozen BK258.out 1; have hfz11_2 := blk_frozen BK258.out 2; have hfz11_3 := blk_frozen BK258.out 3; have hfz11_4 := blk_frozen BK258.out 4) | ((with_reducible refine gate_callee (f := 43) rfl ?_); refine goesL_ (some 16) rfl rfl Try.func43 Z0 rfl #[.agg #[.int .i64 ((rd_T51 l0 x11_1).f0), .string ((rd_T51 l0 x11_1).f1), .int .i32 ((rd_T51 l0 x11_1).f2), .bool ((rd_T51 l0 x11_1).f3), .int .u32 ((rd_T51 l0 x11_1).f4)]] rfl Z4 ?_; (with_reducible refine (impl_CellsOf.calls k1 ((rd_T51 l0 x11_1).f0) ((rd_T51 l0 x11_1).f1) ((rd_T51 l0 x11_1).f2) ((rd_T51 l0 x11_1).f3) ((rd_T51 l0 x11_1).f4) t259 _ A7.out).mono ?_); rintro e w12 ⟨v260, rfl, ho0, hb⟩; refine ⟨_, rfl, ?_⟩; have HO261 := Z (Kd.R_lower (Kd.R_new' ho0 (Kd.R_lt (by (with_reducible repeat (first | apply Kd.R_alloc | apply Kd.R_drewN | apply Kd.R_drew)); exact (Kd.R_mono (Kd.R_far (p := ⟨gb258, 4, none⟩) (Kd.R_far (p := ⟨gb258, 3, none⟩) (Kd.R_far (p := ⟨gb258, 2, none⟩) (Kd.R_far (p := ⟨gb258, 1, none⟩) (Kd.R_far (p := ⟨gb258, 0, none⟩) (Kd.R_types HO_4.out BK258.out (by decide)) (fun _ hk => hk.2) (.int .i64 ((rd_T51 l0 x11_1).f0))) (fun _ hk => hk.2) (.string ((rd_T51 l0 x11_1).f1))) (fun _ hk => hk.2) (.int .i32 ((rd_T51 l0 x11_1).f2))) (fun _ hk => hk.2) (.bool ((rd_T51 l0 x11_1).f3))) (fun _ hk => hk.2) (.int .u32 ((rd_T51 l0 x11_1).f4))) (fun _ h_ => h_.1))))) (below_size Z61)); replace HO_4 := Z (Kd.R_elder' (by (with_reducible repeat (first | apply Kd.R_alloc | apply Kd.R_drewN | apply Kd.R_drew)); exact (Kd.R_mono (Kd.R_far (p := ⟨gb258, 4, none⟩) (Kd.R_far (p := ⟨gb258, 3, none⟩) (Kd.R_far (p := ⟨gb258, 2, none⟩) (Kd.R_far (p := ⟨gb258, 1, none⟩) (Kd.R_far (p := ⟨gb258, 0, none⟩) (Kd.R_types HO_4.out BK258.out (by decide)) (fun _ hk => hk.2) (.int .i64 ((rd_T51 l0 x11_1).f0))) (fun _ hk => hk.2) (.string ((rd_T51 l0 x11_1).f1))) (fun _ hk => hk.2) (.int .i32 ((rd_T51 l0 x11_1).f2))) (fun _ hk => hk.2) (.bool ((rd_T51 l0 x11_1).f3))) (fun _ hk => hk.2) (.int .u32 ((rd_T51 l0 x11_1).f4))) (fun _ h_ => h_.1))) (Kd.R_base ho0) hb); replace BK258 := Z (blk_below (g := gb258) (o := .cells #[.int .i64 ((rd_T51 l0 x11_1).f0), .string ((rd_T51 l0 x11_1).f1), .int .i32 ((rd_T51 l0 x11_1).f2), .bool ((rd_T51 l0 x11_1).f3), .int .u32 ((rd_T51 l0 x11_1).f4)] 51 (0, 0)) (Z38 BK258) hb); replace HB := Z (below_step Z61 hb); (try clear hb); (try clear hb2); (try clear hk); (try clear hi); (try clear ho0); obtain ⟨Ao14, co14, eo14⟩ := Kd.R_slice HO261.out; subst eo14) | ((with_reducible refine gate_builtin (b := .append) (xs := #[.tmp 17, .tmp 18]) rfl ?_); (try (refine gate_guard (by rfl) ?_; dsimp only)); at_builtin; refine Kd.R_append_rows (Kd.int .u32) (w0 := w) w.heap.size rfl (.tmp 17) (.tmp 18) 24 47 (.int .u32 0) 4 rfl Try.underlying24 info47 rfl (by decide) (by omega) u4 x4_1 t259 _ _ _ (fun k_ => some k_ ≠ (.slice Ao14 t259.length co14 : Value).ownBlock) (fun _ => False) rfl rfl ?aO ?aR (fun _ _ h => h) (fun _ h => h.elim) ?aF ?aB ?aS ?aL ?_; (case aR => exact (Z26 HO261)); (case aB => exact Z61); (case aF => exact (fun k_ hk => Kd.fresh' (Kd.R_lt (Z12 HO261)) k_ hk)); (case aO => exact (Z16 HO_4)); (case aS => exact (below_size Z61)); (case aL => have := LMc8.out; omega); intro v263 w13 ho hb hg hat; rw [← Ny262.out] at ho; replace BK258 := Z (blk_grown (g := gb258) (o := .cells #[.int .i64 ((rd_T51 l0 x11_1).f0), .string ((rd_T51 l0 x11_1).f1), .int .i32 ((rd_T51 l0 x11_1).f2), .bool ((rd_T51 l0 x11_1).f3), .int .u32 ((rd_T51 l0 x11_1).f4)] 51 (0, 0)) (Z15 BK258) hg (Kd.R_ne HO_4.out BK258.out (by decide))); replace HO261 := Z (Kd.R_after (ok := (fun _ => True)) (Z12 HO261) hg hat); replace HB := Z (hb); have HO264 := Z (ho); clear HO_4; clear ho hb hg hat))
        go_ret2
        exact ⟨_, Z13, Z20, Z61⟩
       ·rw [if_neg c9] at H
        have c9b0 : ((t259.length : Int) == 0) = false := beq_eq_false_iff_ne.mpr c9
        have c9b1 : ((t259.length : Int) != 0) = true := bne_iff_ne.mpr c9
        have c9b2 : ¬ (t259 = []) := fun h_ => c9 (by rw [h_]; rfl)
        by_cases c15 : (y262.length : Int) > 64
        ·rw [if_pos c15] at H
         have c15b0 : decide (64 < (y262.length : Int)) = true := decide_eq_true c15
         have c15b1 : decide (64 < y262.length) = true := decide_eq_true (by omega)
         clear c15
         simp only [Option.some.injEq, Prod.mk.injEq] at H
         obtain ⟨rfl, rfl⟩ := H
         have p257 : 0 ≤ (x11_1 : Int) := of_decide_eq_true Z5
         have q257 : x11_1 < (l0.length : Int) := of_decide_eq_true Z5
         obtain ⟨ad257, e257, hx257_0, hx257_1, hx257_2, hx257_3, hx257_4⟩ := at_T51 HR0.out x11_1 p257 q257
         cases e257
         replace hx257_0 := (HB.out.cell (World.block_lt_of_cell? w _ hx257_0)).trans hx257_0
         replace hx257_1 := (HB.out.cell (World.block_lt_of_cell? w _ hx257_1)).trans hx257_1
         replace hx257_2 := (HB.out.cell (World.block_lt_of_cell? w _ hx257_2)).trans hx257_2
         replace hx257_3 := (HB.out.cell (World.block_lt_of_cell? w _ hx257_3)).trans hx257_3
         replace hx257_4 := (HB.out.cell (World.block_lt_of_cell? w _ hx257_4)).trans hx257_4
         replace p257 := eq_true p257
         replace q257 := eq_true q257
         go_wp2_with (first | ((with_reducible refine gate_dst (N := 6) rfl ?_); (try (refine gate_guard (by rfl) ?_; dsimp only)); refine box_event (by rfl) (N := 6) (by rfl) (cs := #[.int .i64 0, .string (⟨#[]⟩ : ByteArray), .int .i32 0, .bool false, .int .u32 0]) (t := 51) Z10 ?_; intro gb258 hg w16 hbox hb; replace HO_4 := Z (Kd.R_below (Z12 HO_4) hb); have BK258 := Z (hbox); have GW258 := Z ((Z75 : w.heap.size ≤ gb258)); have GE258 := Z ((Z75 : w.heap.size ≤ gb258)); replace HB := Z (below_step Z61 hb); clear hb hbox hg; have hcz17_0 : w16.cell? ⟨gb258, 0, none⟩ = some (.int .i64 0) := (blk_cell BK258.out 0).trans rfl; have hcz17_1 : w16.cell? ⟨gb258, 1, none⟩ = some (.string (⟨#[]⟩ : ByteArray)) := (blk_cell BK258.out 1).trans rfl; have hcz17_2 : w16.cell? ⟨gb258, 2, none⟩ = some (.int .i32 0) := (blk_cell BK258.out 2).trans rfl; have hcz17_3 : w16.cell? ⟨gb258, 3, none⟩ = some (.bool false) := (blk_cell BK258.out 3).trans rfl; have hcz17_4 : w16.cell? ⟨gb258, 4, none⟩ = some (.int .u32 0) := (blk_cell BK258.out 4).trans rfl; have hfz17_0 := blk_frozen BK258.out 0; have hfz17_1 := blk_frozen BK258.out 1; have hfz17_2 := blk_frozen BK258.out 2; have hfz17_3 := blk_frozen BK258.out 3; have hfz17_4 := blk_frozen BK258.out 4) | ((with_reducible refine gate_callee (f := 43) rfl ?_); refine goesL_ (some 16) rfl rfl Try.func43 Z0 rfl #[.agg #[.int .i64 ((rd_T51 l0 x11_1).f0), .string ((rd_T51 l0 x11_1).f1), .int .i32 ((rd_T51 l0 x11_1).f2), .bool ((rd_T51 l0 x11_1).f3), .int .u32 ((rd_T51 l0 x11_1).f4)]] rfl Z4 ?_; (with_reducible refine (impl_CellsOf.calls k1 ((rd_T51 l0 x11_1).f0) ((rd_T51 l0 x11_1).f1) ((rd_T51 l0 x11_1).f2) ((rd_T51 l0 x11_1).f3) ((rd_T51 l0 x11_1).f4) t259 _ A7.out).mono ?_); rintro e w18 ⟨v260, rfl, ho0, hb⟩; refine ⟨_, rfl, ?_⟩; have HO261 := Z (Kd.R_lower (Kd.R_new' ho0 (Kd.R_lt (by (with_reducible repeat (first | apply Kd.R_alloc | apply Kd.R_drewN | apply Kd.R_drew)); exact (Kd.R_mono (Kd.R_far (p := ⟨gb258, 4, none⟩) (Kd.R_far (p := ⟨gb258, 3, none⟩) (Kd.R_far (p := ⟨gb258, 2, none⟩) (Kd.R_far (p := ⟨gb258, 1, none⟩) (Kd.R_far (p := ⟨gb258, 0, none⟩) (Kd.R_types HO_4.out BK258.out (by decide)) (fun _ hk => hk.2) (.int .i64 ((rd_T51 l0 x11_1).f0))) (fun _ hk => hk.2) (.string ((rd_T51 l0 x11_1).f1))) (fun _ hk => hk.2) (.int .i32 ((rd_T51 l0 x11_1).f2))) (fun _ hk => hk.2) (.bool ((rd_T51 l0 x11_1).f3))) (fun _ hk => hk.2) (.int .u32 ((rd_T51 l0 x11_1).f4))) (fun _ h_ => h_.1))))) (below_size Z61)); replace HO_4 := Z (Kd.R_elder' (by (with_reducible repeat (first | apply Kd.R_alloc | apply Kd.R_drewN | apply Kd.R_drew)); exact (Kd.R_mono (Kd.R_far (p := ⟨gb258, 4, none⟩) (Kd.R_far (p := ⟨gb258, 3, none⟩) (Kd.R_far (p := ⟨gb258, 2, none⟩) (Kd.R_far (p := ⟨gb258, 1, none⟩) (Kd.R_far (p := ⟨gb258, 0, none⟩) (Kd.R_types HO_4.out BK258.out (by decide)) (fun _ hk => hk.2) (.int .i64 ((rd_T51 l0 x11_1).f0))) (fun _ hk => hk.2) (.string ((rd_T51 l0 x11_1).f1))) (fun _ hk => hk.2) (.int .i32 ((rd_T51 l0 x11_1).f2))) (fun _ hk => hk.2) (.bool ((rd_T51 l0 x11_1).f3))) (fun _ hk => hk.2) (.int .u32 ((rd_T51 l0 x11_1).f4))) (fun _ h_ => h_.1))) (Kd.R_base ho0) hb); replace BK258 := Z (blk_below (g := gb258) (o := .cells #[.int .i64 ((rd_T51 l0 x11_1).f0), .string ((rd_T51 l0 x11_1).f1), .int .i32 ((rd_T51 l0 x11_1).f2), .bool ((rd_T51 l0 x11_1).f3), .int .u32 ((rd_T51 l0 x11_1).f4)] 51 (0, 0)) (Z38 BK258) hb); replace HB := Z (below_step Z61 hb); (try clear hb); (try clear hb2); (try clear hk); (try clear hi); (try clear ho0); obtain ⟨Ao20, co20, eo20⟩ := Kd.R_slice HO261.out; subst eo20) | ((with_reducible refine gate_builtin (b := .append) (xs := #[.tmp 17, .tmp 18]) rfl ?_); (try (refine gate_guard (by rfl) ?_; dsimp only)); at_builtin; refine Kd.R_append_rows (Kd.int .u32) (w0 := w) w.heap.size rfl (.tmp 17) (.tmp 18) 24 47 (.int .u32 0) 4 rfl Try.underlying24 info47 rfl (by decide) (by omega) u4 x4_1 t259 _ _ _ (fun k_ => some k_ ≠ (.slice Ao20 t259.length co20 : Value).ownBlock) (fun _ => False) rfl rfl ?aO ?aR (fun _ _ h => h) (fun _ h => h.elim) ?aF ?aB ?aS ?aL ?_; (case aR => exact (Z26 HO261)); (case aB => exact Z61); (case aF => exact (fun k_ hk => Kd.fresh' (Kd.R_lt (Z12 HO261)) k_ hk)); (case aO => exact (Z16 HO_4)); (case aS => exact (below_size Z61)); (case aL => have := LMc8.out; omega); intro v263 w19 ho hb hg hat; rw [← Ny262.out] at ho; replace BK258 := Z (blk_grown (g := gb258) (o := .cells #[.int .i64 ((rd_T51 l0 x11_1).f0), .string ((rd_T51 l0 x11_1).f1), .int .i32 ((rd_T51 l0 x11_1).f2), .bool ((rd_T51 l0 x11_1).f3), .int .u32 ((rd_T51 l0 x11_1).f4)] 51 (0, 0)) (Z15 BK258) hg (Kd.R_ne HO_4.out BK258.out (by decide))); replace HO261 := Z (Kd.R_after (ok := (fun _ => True)) (Z12 HO261) hg hat); replace HB := Z (hb); have HO264 := Z (ho); clear HO_4; clear ho hb hg hat; obtain ⟨Ao21, co21, eo21⟩ := Kd.R_slice HO264.out; subst eo21))
         go_ret2
         exact ⟨_, Z13, Z20, Z61⟩
        ·rw [if_neg c15] at H
         have c15b0 : decide (64 < (y262.length : Int)) = false := decide_eq_false c15
         have c15b1 : decide (64 < y262.length) = false := decide_eq_false (by omega)
         clear c15
         have H' := Aside0.mk H
         clear H
         have p257 : 0 ≤ (x11_1 : Int) := of_decide_eq_true Z5
         have q257 : x11_1 < (l0.length : Int) := of_decide_eq_true Z5
         obtain ⟨ad257, e257, hx257_0, hx257_1, hx257_2, hx257_3, hx257_4⟩ := at_T51 HR0.out x11_1 p257 q257
         cases e257
         replace hx257_0 := (HB.out.cell (World.block_lt_of_cell? w _ hx257_0)).trans hx257_0
         replace hx257_1 := (HB.out.cell (World.block_lt_of_cell? w _ hx257_1)).trans hx257_1
         replace hx257_2 := (HB.out.cell (World.block_lt_of_cell? w _ hx257_2)).trans hx257_2
         replace hx257_3 := (HB.out.cell (World.block_lt_of_cell? w _ hx257_3)).trans hx257_3
         replace hx257_4 := (HB.out.cell (World.block_lt_of_cell? w _ hx257_4)).trans hx257_4
         replace p257 := eq_true p257
         replace q257 := eq_true q257
         go_wp2_with (first | ((with_reducible refine gate_dst (N := 6) rfl ?_); (try (refine gate_guard (by rfl) ?_; dsimp only)); refine box_event (by rfl) (N := 6) (by rfl) (cs := #[.int .i64 0, .string (⟨#[]⟩ : ByteArray), .int .i32 0, .bool false, .int .u32 0]) (t := 51) Z10 ?_; intro gb258 hg w22 hbox hb; replace HO_4 := Z (Kd.R_below (Z12 HO_4) hb); have BK258 := Z (hbox); have GW258 := Z ((Z75 : w.heap.size ≤ gb258)); have GE258 := Z ((Z75 : w.heap.size ≤ gb258)); replace HB := Z (below_step Z61 hb); clear hb hbox hg; have hcz23_0 : w22.cell? ⟨gb258, 0, none⟩ = some (.int .i64 0) := (blk_cell BK258.out 0).trans rfl; have hcz23_1 : w22.cell? ⟨gb258, 1, none⟩ = some (.string (⟨#[]⟩ : ByteArray)) := (blk_cell BK258.out 1).trans rfl; have hcz23_2 : w22.cell? ⟨gb258, 2, none⟩ = some (.int .i32 0) := (blk_cell BK258.out 2).trans rfl; have hcz23_3 : w22.cell? ⟨gb258, 3, none⟩ = some (.bool false) := (blk_cell BK258.out 3).trans rfl; have hcz23_4 : w22.cell? ⟨gb258, 4, none⟩ = some (.int .u32 0) := (blk_cell BK258.out 4).trans rfl; have hfz23_0 := blk_frozen BK258.out 0; have hfz23_1 := blk_frozen BK258.out 1; have hfz23_2 := blk_frozen BK258.out 2; have hfz23_3 := blk_frozen BK258.out 3; have hfz23_4 := blk_frozen BK258.out 4) | ((with_reducible refine gate_callee (f := 43) rfl ?_); refine goesL_ (some 16) rfl rfl Try.func43 Z0 rfl #[.agg #[.int .i64 ((rd_T51 l0 x11_1).f0), .string ((rd_T51 l0 x11_1).f1), .int .i32 ((rd_T51 l0 x11_1).f2), .bool ((rd_T51 l0 x11_1).f3), .int .u32 ((rd_T51 l0 x11_1).f4)]] rfl Z4 ?_; (with_reducible refine (impl_CellsOf.calls k1 ((rd_T51 l0 x11_1).f0) ((rd_T51 l0 x11_1).f1) ((rd_T51 l0 x11_1).f2) ((rd_T51 l0 x11_1).f3) ((rd_T51 l0 x11_1).f4) t259 _ A7.out).mono ?_); rintro e w24 ⟨v260, rfl, ho0, hb⟩; refine ⟨_, rfl, ?_⟩; have HO261 := Z (Kd.R_lower (Kd.R_new' ho0 (Kd.R_lt (by (with_reducible repeat (first | apply Kd.R_alloc | apply Kd.R_drewN | apply Kd.R_drew)); exact (Kd.R_mono (Kd.R_far (p := ⟨gb258, 4, none⟩) (Kd.R_far (p := ⟨gb258, 3, none⟩) (Kd.R_far (p := ⟨gb258, 2, none⟩) (Kd.R_far (p := ⟨gb258, 1, none⟩) (Kd.R_far (p := ⟨gb258, 0, none⟩) (Kd.R_types HO_4.out BK258.out (by decide)) (fun _ hk => hk.2) (.int .i64 ((rd_T51 l0 x11_1).f0))) (fun _ hk => hk.2) (.string ((rd_T51 l0 x11_1).f1))) (fun _ hk => hk.2) (.int .i32 ((rd_T51 l0 x11_1).f2))) (fun _ hk => hk.2) (.bool ((rd_T51 l0 x11_1).f3))) (fun _ hk => hk.2) (.int .u32 ((rd_T51 l0 x11_1).f4))) (fun _ h_ => h_.1))))) (below_size Z61)); replace HO_4 := Z (Kd.R_elder' (by (with_reducible repeat (first | apply Kd.R_alloc | apply Kd.R_drewN | apply Kd.R_drew)); exact (Kd.R_mono (Kd.R_far (p := ⟨gb258, 4, none⟩) (Kd.R_far (p := ⟨gb258, 3, none⟩) (Kd.R_far (p := ⟨gb258, 2, none⟩) (Kd.R_far (p := ⟨gb258, 1, none⟩) (Kd.R_far (p := ⟨gb258, 0, none⟩) (Kd.R_types HO_4.out BK258.out (by decide)) (fun _ hk => hk.2) (.int .i64 ((rd_T51 l0 x11_1).f0))) (fun _ hk => hk.2) (.string ((rd_T51 l0 x11_1).f1))) (fun _ hk => hk.2) (.int .i32 ((rd_T51 l0 x11_1).f2))) (fun _ hk => hk.2) (.bool ((rd_T51 l0 x11_1).f3))) (fun _ hk => hk.2) (.int .u32 ((rd_T51 l0 x11_1).f4))) (fun _ h_ => h_.1))) (Kd.R_base ho0) hb); replace BK258 := Z (blk_below (g := gb258) (o := .cells #[.int .i64 ((rd_T51 l0 x11_1).f0), .string ((rd_T51 l0 x11_1).f1), .int .i32 ((rd_T51 l0 x11_1).f2), .bool ((rd_T51 l0 x11_1).f3), .int .u32 ((rd_T51 l0 x11_1).f4)] 51 (0, 0)) (Z38 BK258) hb); replace HB := Z (below_step Z61 hb); (try clear hb); (try clear hb2); (try clear hk); (try clear hi); (try clear ho0); obtain ⟨Ao26, co26, eo26⟩ := Kd.R_slice HO261.out; subst eo26) | ((with_reducible refine gate_builtin (b := .append) (xs := #[.tmp 17, .tmp 18]) rfl ?_); (try (refine gate_guard (by rfl) ?_; dsimp only)); at_builtin; refine Kd.R_append_rows (Kd.int .u32) (w0 := w) w.heap.size rfl (.tmp 17) (.tmp 18) 24 47 (.int .u32 0) 4 rfl Try.underlying24 info47 rfl (by decide) (by omega) u4 x4_1 t259 _ _ _ (fun k_ => some k_ ≠ (.slice Ao26 t259.length co26 : Value).ownBlock) (fun _ => False) rfl rfl ?aO ?aR (fun _ _ h => h) (fun _ h => h.elim) ?aF ?aB ?aS ?aL ?_; (case aR => exact (Z26 HO261)); (case aB => exact Z61); (case aF => exact (fun k_ hk => Kd.fresh' (Kd.R_lt (Z12 HO261)) k_ hk)); (case aO => exact (Z16 HO_4)); (case aS => exact (below_size Z61)); (case aL => have := LMc8.out; omega); intro v263 w25 ho hb hg hat; rw [← Ny262.out] at ho; replace BK258 := Z (blk_grown (g := gb258) (o := .cells #[.int .i64 ((rd_T51 l0 x11_1).f0), .string ((rd_T51 l0 x11_1).f1), .int .i32 ((rd_T51 l0 x11_1).f2), .bool ((rd_T51 l0 x11_1).f3), .int .u32 ((rd_T51 l0 x11_1).f4)] 51 (0, 0)) (Z15 BK258) hg (Kd.R_ne HO_4.out BK258.out (by decide))); replace HO261 := Z (Kd.R_after (ok := (fun _ => True)) (Z12 HO261) hg hat); replace HB := Z (hb); have HO264 := Z (ho); clear HO_4; clear ho hb hg hat; obtain ⟨Ao27, co27, eo27⟩ := Kd.R_slice HO264.out; subst eo27))
         go_roundg k1
         case measure => have := HK1.out; omega
         case rel => exact ⟨(y262), (wrap64 (x11_1 + 1)), Z2, H', ⟨Z6⟩, ⟨(Z17 HO264)⟩, ⟨Z61⟩⟩
      ·rw [if_neg c8] at H
       exact absurd H (by simp)
     ·rw [if_neg c6] at H
      exact absurd H (by simp)
    ·rw [if_neg c5] at H
     exact absurd H (by simp)
   ·rw [if_neg c4] at H
    have c4b0 : decide (x11_1 < (l0.length : Int)) = false := decide_eq_false c4
    clear c4
    simp only [Option.some.injEq, Prod.mk.injEq] at H
    obtain ⟨rfl, rfl⟩ := H
    go_wp2
    go_ret2
    exact ⟨_, Z13, (Z12 HO_4), Z61⟩

/-! ### impl_Item: function 61 -/
def impl_Item.l0 : Nat → List (S51) → List (S51) → Int → Int → Option (Bool)
 | 0, _, _, _, _ => none
 | k + 1, x0, x1, x12, x13 => if x13 < x12 then (if 0 ≤ x13 then (if x13 < (x0.length : Int) then (if x13 < (x1.length : Int) then (if (!(((rd_T51 x0 x13).f0) == ((rd_T51 x1 x13).f0)) || (!((((rd_T51 x0 x13).f1).toList) == (((rd_T51 x1 x13).f1).toList)) || (!(((rd_T51 x0 x13).f2) == ((rd_T51 x1 x13).f2)) || (!(((rd_T51 x0 x13).f3) == ((rd_T51 x1 x13).f3)) || (!(((rd_T51 x0 x13).f4) == ((rd_T51 x1 x13).f4))))))) = true then (some false) else (impl_Item.l0 k x0 x1 x12 (wrap64 (x13 + 1)))) else (none)) else (none)) else (none)) else (some true)
def impl_Item.f (k : Nat) (l0 : List (S51)) (l1 : List (S51)) : Option (Bool) := if (l0.length : Int) = (l1.length : Int) then (impl_Item.l0 k l0 l1 (l0.length : Int) 0) else (some false)
theorem impl_Item.mono_l : ∀ k, (∀ y0 y1 y2 y3, LeO (impl_Item.l0 k y0 y1 y2 y3) (impl_Item.l0 (k + 1) y0 y1 y2 y3))
 | 0 => fun _ _ _ _ r h => by simp [impl_Item.l0] at h
 | k + 1 => by
  have ih0 := impl_Item.mono_l k
  ·intro y0 y1 y2 y3
   unfold impl_Item.l0
   repeat' first
   | (with_reducible exact ih0 _ _ _ _)
   | (with_reducible exact LeO.refl _)
   | (with_reducible exact LeO.none _)
   | (with_reducible refine LeO.ite ?_ ?_)
   | (with_reducible refine LeO.bind ?_ (fun _ => ?_))
   | exact ih0 _ _ _ _
   | exact LeO.none _
   | refine LeO.ite ?_ ?_
   | refine LeO.bind ?_ (fun _ => ?_)
theorem impl_Item.mono : ∀ a0 a1 k, LeO (impl_Item.f k a0 a1) (impl_Item.f (k + 1) a0 a1) := by
 intro a0 a1 k
 have ih0 := impl_Item.mono_l k
 unfold impl_Item.f
 repeat' first
   | (with_reducible exact ih0 _ _ _ _)
   | (with_reducible exact LeO.refl _)
   | (with_reducible exact LeO.none _)
   | (with_reducible refine LeO.ite ?_ ?_)
   | (with_reducible refine LeO.bind ?_ (fun _ => ?_))
   | exact ih0 _ _ _ _
   | exact LeO.none _
   | refine LeO.ite ?_ ?_
   | refine LeO.bind ?_ (fun _ => ?_)
set_option maxHeartbeats 8000000 in
set_option maxRecDepth 100000 in
theorem impl_Item.calls (k : Nat) (A0 : Option Addr) (c0 : Nat) (l0 : List (S51)) (A1 : Option Addr) (c1 : Nat) (l1 : List (S51)) (r : Bool) (w : World) (hr0 : Kd.C k51 w A0 l0.length l0) (hc0 : l0.length ≤ c0) (hr1 : Kd.C k51 w A1 l1.length l1) (hc1 : l1.length ≤ c1) (h : impl_Item.f k l0 l1 = some r) :
  Calls Try.prog 61 #[.slice A0 l0.length c0, .slice A1 l1.length c1] w fun e w' => e = .returned (.bool r) ∧ Drawn0 w w' := by
 have hu51 := Try.underlying51
 have HR0 := Aside0.mk hr0
 have HC0 := Aside0.mk hc0
 clear hr0 hc0
 have HR1 := Aside0.mk hr1
 have HC1 := Aside0.mk hc1
 clear hr1 hc1
 have H : (if (l0.length : Int) = (l1.length : Int) then (impl_Item.l0 k l0 l1 (l0.length : Int) 0) else (some false)) = some r := h
 clear h
 by_cases c3 : (l0.length : Int) = (l1.length : Int)
 ·rw [if_pos c3] at H
  have c3b0 : ((l0.length : Int) == (l1.length : Int)) = true := beq_iff_eq.mpr c3
  have c3b1 : ((l0.length : Int) != (l1.length : Int)) = false := bne_eq_false_iff_eq.mpr c3
  have c3b2 : (l0.length == l1.length) = true := Z22
  clear c3
  have H' := Aside0.mk H
  clear H
  go_enter Try.func61, Try.ntmps61
  go_wp2
  repeat (go_quiet (fail); try go_wp2)
  go_loopg [13] k (fun kq v13 w' => ∃ (x13_1 : Int), v13 = .int .i64 x13_1 ∧ Aside0 (impl_Item.l0 kq l0 l1 (l0.length : Int) x13_1 = some r) ∧ Aside0 (kq ≤ k) ∧ Drawn0 w w')
  case atStart => exact ⟨(0), Z2, H', ⟨Nat.le_refl _⟩, Z3⟩
  case round =>
   clear H'
   try clear c1
   try clear p2
   try clear c3
   try clear c3b0
   try clear c3b1
   try clear c3b2
   obtain ⟨x13_1, rfl, HA, HK1, ⟨m1, rfl⟩⟩ := hrel
   cases gk with
   | zero => exact absurd HA.out (by simp [impl_Item.l0])
   | succ k1 =>
    have H := HA.out
    clear HA
    simp only [impl_Item.l0] at H
    by_cases c4 : x13_1 < (l0.length : Int)
    ·rw [if_pos c4] at H
     have c4b0 : decide (x13_1 < (l0.length : Int)) = true := decide_eq_true c4
     clear c4
     by_cases c5 : 0 ≤ x13_1
     ·rw [if_pos c5] at H
      have c5b0 : decide (0 ≤ x13_1) = true := decide_eq_true c5
      clear c5
      by_cases c6 : x13_1 < (l0.length : Int)
      ·rw [if_pos c6] at H
       have c6b0 : decide (x13_1 < (l0.length : Int)) = true := decide_eq_true c6
       clear c6
       by_cases c7 : x13_1 < (l1.length : Int)
       ·rw [if_pos c7] at H
        have c7b0 : decide (x13_1 < (l1.length : Int)) = true := decide_eq_true c7
        clear c7
        by_cases c8 : (!(((rd_T51 l0 x13_1).f0) == ((rd_T51 l1 x13_1).f0)) || (!((((rd_T51 l0 x13_1).f1).toList) == (((rd_T51 l1 x13_1).f1).toList)) || (!(((rd_T51 l0 x13_1).f2) == ((rd_T51 l1 x13_1).f2)) || (!(((rd_T51 l0 x13_1).f3) == ((rd_T51 l1 x13_1).f3)) || (!(((rd_T51 l0 x13_1).f4) == ((rd_T51 l1 x13_1).f4))))))) = true
        ·rw [if_pos c8] at H
         have c8b0 : (!(((rd_T51 l0 x13_1).f0) == ((rd_T51 l1 x13_1).f0)) || (!((((rd_T51 l0 x13_1).f1).toList) == (((rd_T51 l1 x13_1).f1).toList)) || (!(((rd_T51 l0 x13_1).f2) == ((rd_T51 l1 x13_1).f2)) || (!(((rd_T51 l0 x13_1).f3) == ((rd_T51 l1 x13_1).f3)) || (!(((rd_T51 l0 x13_1).f4) == ((rd_T51 l1 x13_1).f4))))))) = true := c8
         clear c8
         obtain rfl := Option.some.inj H
         have p265 : 0 ≤ (x13_1 : Int) := of_decide_eq_true Z5
         have q265 : x13_1 < (l0.length : Int) := of_decide_eq_true Z5
         obtain ⟨ad265, e265, hx265_0, hx265_1, hx265_2, hx265_3, hx265_4⟩ := at_T51 HR0.out x13_1 p265 q265
         cases e265
         replace p265 := eq_true p265
         replace q265 := eq_true q265
         have p266 : 0 ≤ (x13_1 : Int) := of_decide_eq_true Z5
         have q266 : x13_1 < (l1.length : Int) := of_decide_eq_true Z5
         obtain ⟨ad266, e266, hx266_0, hx266_1, hx266_2, hx266_3, hx266_4⟩ := at_T51 HR1.out x13_1 p266 q266
         cases e266
         replace p266 := eq_true p266
         replace q266 := eq_true q266
         go_wp2
         repeat (go_quiet (fail); try go_wp2)
         go_ret
         exact ⟨Z2, Z3⟩
        ·rw [if_neg c8] at H
         have c8b0 : (!(((rd_T51 l0 x13_1).f0) == ((rd_T51 l1 x13_1).f0)) || (!((((rd_T51 l0 x13_1).f1).toList) == (((rd_T51 l1 x13_1).f1).toList)) || (!(((rd_T51 l0 x13_1).f2) == ((rd_T51 l1 x13_1).f2)) || (!(((rd_T51 l0 x13_1).f3) == ((rd_T51 l1 x13_1).f3)) || (!(((rd_T51 l0 x13_1).f4) == ((rd_T51 l1 x13_1).f4))))))) = false := by simpa using c8
         clear c8
         have H' := Aside0.mk H
         clear H
         have p265 : 0 ≤ (x13_1 : Int) := of_decide_eq_true Z5
         have q265 : x13_1 < (l0.length : Int) := of_decide_eq_true Z5
         obtain ⟨ad265, e265, hx265_0, hx265_1, hx265_2, hx265_3, hx265_4⟩ := at_T51 HR0.out x13_1 p265 q265
         cases e265
         replace p265 := eq_true p265
         replace q265 := eq_true q265
         have p266 : 0 ≤ (x13_1 : Int) := of_decide_eq_true Z5
         have q266 : x13_1 < (l1.length : Int) := of_decide_eq_true Z5
         obtain ⟨ad266, e266, hx266_0, hx266_1, hx266_2, hx266_3, hx266_4⟩ := at_T51 HR1.out x13_1 p266 q266
         cases e266
         replace p266 := eq_true p266
         replace q266 := eq_true q266
         go_wp2
         repeat (go_quiet (fail); try go_wp2)
         go_roundg k1
         case measure => have := HK1.out; omega
         case rel => exact ⟨(wrap64 (x13_1 + 1)), Z2, H', ⟨Z6⟩, Z3⟩
       ·rw [if_neg c7] at H
        exact absurd H (by simp)
      ·rw [if_neg c6] at H
       exact absurd H (by simp)
     ·rw [if_neg c5] at H
      exact absurd H (by simp)
    ·rw [if_neg c4] at H
     have c4b0 : decide (x13_1 < (l0.length : Int)) = false := decide_eq_false c4
     clear c4
     obtain rfl := Option.some.inj H
     go_wp2
     repeat (go_quiet (fail); try go_wp2)
     go_ret
     exact ⟨Z2, Z3⟩
 ·rw [if_neg c3] at H
  have c3b0 : ((l0.length : Int) == (l1.length : Int)) = false := beq_eq_false_iff_ne.mpr c3
  have c3b1 : ((l0.length : Int) != (l1.length : Int)) = true := bne_iff_ne.mpr c3
  have c3b2 : (l0.length == l1.length) = false := Z22
  obtain rfl := Option.some.inj H
  go_enter Try.func61, Try.ntmps61
  go_wp2
  repeat (go_quiet (fail); try go_wp2)
  go_ret
  exact ⟨Z2, Z3⟩

/-! ### impl_ListOk: function 20 -/
def impl_ListOk.f (k : Nat) (l0 : List (S51)) : Option (Bool) := (impl_Unparse.f k l0).bind fun bt267 => (if bt267.2 = true then ((impl_ParseCells.f k bt267.1).bind fun t271 => ((impl_Item.f k t271 l0).bind fun t274 => (some t274))) else (some false))
theorem impl_ListOk.mono : ∀ a0 k, LeO (impl_ListOk.f k a0) (impl_ListOk.f (k + 1) a0) := by
 intro a0 k
 unfold impl_ListOk.f
 repeat' first
   | (with_reducible exact impl_Item.mono _ _ _)
   | (with_reducible exact impl_ParseCells.mono _ _)
   | (with_reducible exact impl_Unparse.mono _ _)
   | (with_reducible exact LeO.refl _)
   | (with_reducible exact LeO.none _)
   | (with_reducible refine LeO.ite ?_ ?_)
   | (with_reducible refine LeO.bind ?_ (fun _ => ?_))
   | exact impl_Item.mono _ _ _
   | exact impl_ParseCells.mono _ _
   | exact impl_Unparse.mono _ _
   | exact LeO.none _
   | refine LeO.ite ?_ ?_
   | refine LeO.bind ?_ (fun _ => ?_)
set_option maxHeartbeats 8000000 in
set_option maxRecDepth 100000 in
theorem impl_ListOk.calls (k : Nat) (A0 : Option Addr) (c0 : Nat) (l0 : List (S51)) (r : Bool) (w : World) (hr0 : Kd.C k51 w A0 l0.length l0) (hc0 : l0.length ≤ c0) (h : impl_ListOk.f k l0 = some r) :
  Calls Try.prog 20 #[.slice A0 l0.length c0] w fun e w' => e = .returned (.bool r) ∧ Below w.heap.size w w' := by
 have HR0 := Aside0.mk hr0
 have HC0 := Aside0.mk hc0
 clear hr0 hc0
 have HB := Z (Below.refl w.heap.size w)
 have H : ((impl_Unparse.f k l0).bind fun bt267 => (if bt267.2 = true then ((impl_ParseCells.f k bt267.1).bind fun t271 => ((impl_Item.f k t271 l0).bind fun t274 => (some t274))) else (some false))) = some r := h
 clear h
 replace H := Option.bind_eq_some_iff.mp H
 obtain ⟨⟨t267, t268⟩, A20, H⟩ := H
 replace H : (if t268 = true then ((impl_ParseCells.f k t267).bind fun t271 => ((impl_Item.f k t271 l0).bind fun t274 => (some t274))) else (some false)) = some r := H
 have A2 := Aside0.mk A20
 clear A20
 by_cases c3 : t268 = true
 ·subst c3
  have H1 : ((impl_ParseCells.f k t267).bind fun t271 => ((impl_Item.f k t271 l0).bind fun t274 => (some t274))) = some r := Z7
  clear H
  have H := H1
  clear H1
  replace H := Option.bind_eq_some_iff.mp H
  obtain ⟨t271, A40, H⟩ := H
  replace H : ((impl_Item.f k t271 l0).bind fun t274 => (some t274)) = some r := H
  have A4 := Aside0.mk A40
  clear A40
  replace H := Option.bind_eq_some_iff.mp H
  obtain ⟨t274, A50, H⟩ := H
  replace H : (some t274) = some r := H
  have A5 := Aside0.mk A50
  clear A50
  obtain rfl := Option.some.inj H
  go_enter Try.func20, Try.ntmps20
  go_wp2_with (first | ((with_reducible refine gate_callee (f := 16) rfl ?_); refine goesL_ (some 7) rfl rfl Try.func16 Z0 rfl #[.slice A0 l0.length c0] rfl Z4 ?_; (with_reducible refine (impl_Unparse.calls k _ _ l0 t267 true _ ?side1 ?side2 A2.out).mono ?_); (case side1 => exact (Z39 HR0)); (case side2 => exact HC0.out); rintro e w6 ⟨v269, rfl, ho0, hb⟩; refine ⟨_, rfl, ?_⟩; have HO270 := Z (Kd.R_lower ho0 (below_size Z61)); replace HB := Z (below_step Z61 hb); (try clear hb); (try clear hb2); (try clear hk); (try clear hi); (try clear ho0); obtain ⟨Ao7, co7, eo7⟩ := Kd.R_slice HO270.out; subst eo7) | (go_at_call 15; (with_reducible refine (impl_ParseCells.calls k (fun k_ => some k_ = (.slice Ao7 t267.length co7 : Value).ownBlock) _ _ t267 t271 _ ?side1 A4.out).mono ?_); (case side1 => exact Kd.R_V (Kd.R_tight rfl (HO270.out))); rintro e w8 ⟨v272, rfl, ho0, hb⟩; replace HO270 := Z (Kd.R_below (Z12 HO270) hb); have HO273 := Z (Kd.R_lower (Kd.R_mono (ok' := fun k_ => True) ho0 (fun _ hk_ => trivial)) (below_size Z61)); replace HB := Z (below_step Z61 hb); (try clear hb); (try clear hb2); (try clear hk); (try clear hi); (try clear ho0); obtain ⟨Ao9, co9, eo9⟩ := Kd.R_slice HO273.out; subst eo9) | (go_at_call 61; (with_reducible refine (impl_Item.calls k _ _ t271 _ _ l0 t274 _ ?side1 ?side2 ?side3 ?side4 A5.out).mono ?_); (case side1 => exact (Z26 HO273)); (case side2 => exact (Kd.R_reads' HO273.out).2.1); (case side3 => exact (Z27 HR0)); (case side4 => exact HC0.out); rintro e w' ⟨rfl, ⟨nd, rfl⟩⟩))
  go_ret
  exact ⟨Z13, Z61⟩
 ·replace c3 := Bool.eq_false_iff.mpr c3
  subst c3
  have H1 : (some false) = some r := by rw [if_neg (show ¬ (false = true) by decide)] at H; exact H
  clear H
  have H := H1
  clear H1
  obtain rfl := Option.some.inj H
  go_enter Try.func20, Try.ntmps20
  go_wp2_with (first | ((with_reducible refine gate_callee (f := 16) rfl ?_); refine goesL_ (some 7) rfl rfl Try.func16 Z0 rfl #[.slice A0 l0.length c0] rfl Z4 ?_; (with_reducible refine (impl_Unparse.calls k _ _ l0 t267 false _ ?side1 ?side2 A2.out).mono ?_); (case side1 => exact (Z39 HR0)); (case side2 => exact HC0.out); rintro e w10 ⟨v269, rfl, ho0, hb⟩; refine ⟨_, rfl, ?_⟩; have HO270 := Z (Kd.R_lower ho0 (below_size Z61)); replace HB := Z (below_step Z61 hb); (try clear hb); (try clear hb2); (try clear hk); (try clear hi); (try clear ho0)))
  go_ret
  exact ⟨Z13, Z61⟩

/-! ### laws_szItem: function 33 -/
def laws_szItem.f (a0_0 : Int) (a0_1 : ByteArray) (a0_2 : Int) (a0_3 : Bool) (a0_4 : Int) (a1 : Int) : Option (Int) := if (wrap64 (a1 - (a0_1.size : Int))) < 0 then (some (-1)) else (some (wrap64 (a1 - (a0_1.size : Int))))
set_option maxHeartbeats 8000000 in
set_option maxRecDepth 100000 in
theorem laws_szItem.calls (a0_0 : Int) (a0_1 : ByteArray) (a0_2 : Int) (a0_3 : Bool) (a0_4 : Int) (a1 : Int) (r : Int) (w : World) (h : laws_szItem.f a0_0 a0_1 a0_2 a0_3 a0_4 a1 = some r) :
  Calls Try.prog 33 #[.agg #[.int .i64 a0_0, .string a0_1, .int .i32 a0_2, .bool a0_3, .int .u32 a0_4], .int .i64 a1] w fun e w' => e = .returned (.int .i64 r) ∧ Below w.heap.size w w' := by
 have hu49 := Try.underlying49
 have HB := Z (Below.refl w.heap.size w)
 have H : (if (wrap64 (a1 - (a0_1.size : Int))) < 0 then (some (-1)) else (some (wrap64 (a1 - (a0_1.size : Int))))) = some r := h
 clear h
 by_cases c3 : (wrap64 (a1 - (a0_1.size : Int))) < 0
 ·rw [if_pos c3] at H
  have c3b0 : decide ((wrap64 (a1 - (a0_1.size : Int))) < 0) = true := decide_eq_true c3
  clear c3
  obtain rfl := Option.some.inj H
  go_enter Try.func33, Try.ntmps33
  go_wp2_with (first | ((with_reducible refine gate_dst (N := 2) rfl ?_); refine box_event (by rfl) (N := 2) (by rfl) (cs := #[.int .i64 a0_0, .string a0_1, .int .i32 a0_2, .bool a0_3, .int .u32 a0_4]) (t := 49) Z10 ?_; intro gb275 hg w4 hbox hb; have BK275 := Z (hbox); have GW275 := Z ((Z75 : w.heap.size ≤ gb275)); have GE275 := Z ((Z75 : w.heap.size ≤ gb275)); replace HB := Z (below_step Z61 hb); clear hb hbox hg; have hcz5_0 : w4.cell? ⟨gb275, 0, none⟩ = some (.int .i64 a0_0) := (blk_cell BK275.out 0).trans rfl; have hcz5_1 : w4.cell? ⟨gb275, 1, none⟩ = some (.string a0_1) := (blk_cell BK275.out 1).trans rfl; have hcz5_2 : w4.cell? ⟨gb275, 2, none⟩ = some (.int .i32 a0_2) := (blk_cell BK275.out 2).trans rfl; have hcz5_3 : w4.cell? ⟨gb275, 3, none⟩ = some (.bool a0_3) := (blk_cell BK275.out 3).trans rfl; have hcz5_4 : w4.cell? ⟨gb275, 4, none⟩ = some (.int .u32 a0_4) := (blk_cell BK275.out 4).trans rfl; have hfz5_0 := blk_frozen BK275.out 0; have hfz5_1 := blk_frozen BK275.out 1; have hfz5_2 := blk_frozen BK275.out 2; have hfz5_3 := blk_frozen BK275.out 3; have hfz5_4 := blk_frozen BK275.out 4))
  go_ret
  exact ⟨Z13, Z61⟩
 ·rw [if_neg c3] at H
  have c3b0 : decide ((wrap64 (a1 - (a0_1.size : Int))) < 0) = false := decide_eq_false c3
  clear c3
  obtain rfl := Option.some.inj H
  go_enter Try.func33, Try.ntmps33
  go_wp2_with (first | ((with_reducible refine gate_dst (N := 2) rfl ?_); refine box_event (by rfl) (N := 2) (by rfl) (cs := #[.int .i64 a0_0, .string a0_1, .int .i32 a0_2, .bool a0_3, .int .u32 a0_4]) (t := 49) Z10 ?_; intro gb275 hg w6 hbox hb; have BK275 := Z (hbox); have GW275 := Z ((Z75 : w.heap.size ≤ gb275)); have GE275 := Z ((Z75 : w.heap.size ≤ gb275)); replace HB := Z (below_step Z61 hb); clear hb hbox hg; have hcz7_0 : w6.cell? ⟨gb275, 0, none⟩ = some (.int .i64 a0_0) := (blk_cell BK275.out 0).trans rfl; have hcz7_1 : w6.cell? ⟨gb275, 1, none⟩ = some (.string a0_1) := (blk_cell BK275.out 1).trans rfl; have hcz7_2 : w6.cell? ⟨gb275, 2, none⟩ = some (.int .i32 a0_2) := (blk_cell BK275.out 2).trans rfl; have hcz7_3 : w6.cell? ⟨gb275, 3, none⟩ = some (.bool a0_3) := (blk_cell BK275.out 3).trans rfl; have hcz7_4 : w6.cell? ⟨gb275, 4, none⟩ = some (.int .u32 a0_4) := (blk_cell BK275.out 4).trans rfl; have hfz7_0 := blk_frozen BK275.out 0; have hfz7_1 := blk_frozen BK275.out 1; have hfz7_2 := blk_frozen BK275.out 2; have hfz7_3 := blk_frozen BK275.out 3; have hfz7_4 := blk_frozen BK275.out 4))
  go_ret
  exact ⟨Z13, Z61⟩

/-! ### laws_szItemS: function 44 -/
def laws_szItemS.l0 : Nat → List (S49) → Int → Int → Option (Int)
 | 0, _, _, _ => none
 | k + 1, x0, x1, x5 => if x5 < (x0.length : Int) then (if 0 ≤ x5 then ((laws_szItem.f ((rd_T49 x0 x5).f0) ((rd_T49 x0 x5).f1) ((rd_T49 x0 x5).f2) ((rd_T49 x0 x5).f3) ((rd_T49 x0 x5).f4) x1).bind fun t277 => (if t277 < 0 then (some (-1)) else (laws_szItemS.l0 k x0 t277 (wrap64 (x5 + 1))))) else (none)) else (some x1)
def laws_szItemS.f (k : Nat) (l0 : List (S49)) (a1 : Int) : Option (Int) := if (wrap64 (a1 - (l0.length : Int))) < 0 then (some (-1)) else (laws_szItemS.l0 k l0 (wrap64 (a1 - (l0.length : Int))) 0)
theorem laws_szItemS.mono_l : ∀ k, (∀ y0 y1 y2, LeO (laws_szItemS.l0 k y0 y1 y2) (laws_szItemS.l0 (k + 1) y0 y1 y2))
 | 0 => fun _ _ _ r h => by simp [laws_szItemS.l0] at h
 | k + 1 => by
  have ih0 := laws_szItemS.mono_l k
  ·intro y0 y1 y2
   unfold laws_szItemS.l0
   repeat' first
   | (with_reducible exact ih0 _ _ _)
   | (with_reducible exact LeO.refl _)
   | (with_reducible exact LeO.none _)
   | (with_reducible refine LeO.ite ?_ ?_)
   | (with_reducible refine LeO.bind ?_ (fun _ => ?_))
   | exact ih0 _ _ _
   | exact LeO.none _
   | refine LeO.ite ?_ ?_
   | refine LeO.bind ?_ (fun _ => ?_)
theorem laws_szItemS.mono : ∀ a0 a1 k, LeO (laws_szItemS.f k a0 a1) (laws_szItemS.f (k + 1) a0 a1) := by
 intro a0 a1 k
 have ih0 := laws_szItemS.mono_l k
 unfold laws_szItemS.f
 repeat' first
   | (with_reducible exact ih0 _ _ _)
   | (with_reducible exact LeO.refl _)
   | (with_reducible exact LeO.none _)
   | (with_reducible refine LeO.ite ?_ ?_)
   | (with_reducible refine LeO.bind ?_ (fun _ => ?_))
   | exact ih0 _ _ _
   | exact LeO.none _
   | refine LeO.ite ?_ ?_
   | refine LeO.bind ?_ (fun _ => ?_)
set_option maxHeartbeats 8000000 in
set_option maxRecDepth 100000 in
theorem laws_szItemS.calls (k : Nat) (A0 : Option Addr) (c0 : Nat) (l0 : List (S49)) (a1 : Int) (r : Int) (w : World) (hr0 : Kd.C k49 w A0 l0.length l0) (hc0 : l0.length ≤ c0) (h : laws_szItemS.f k l0 a1 = some r) :
  Calls Try.prog 44 #[.slice A0 l0.length c0, .int .i64 a1] w fun e w' => e = .returned (.int .i64 r) ∧ Below w.heap.size w w' := by
 have hu49 := Try.underlying49
 have HR0 := Aside0.mk hr0
 have HC0 := Aside0.mk hc0
 clear hr0 hc0
 have HB := Z (Below.refl w.heap.size w)
 have H : (if (wrap64 (a1 - (l0.length : Int))) < 0 then (some (-1)) else (laws_szItemS.l0 k l0 (wrap64 (a1 - (l0.length : Int))) 0)) = some r := h
 clear h
 by_cases c3 : (wrap64 (a1 - (l0.length : Int))) < 0
 ·rw [if_pos c3] at H
  have c3b0 : decide ((wrap64 (a1 - (l0.length : Int))) < 0) = true := decide_eq_true c3
  clear c3
  obtain rfl := Option.some.inj H
  go_enter Try.func44, Try.ntmps44
  go_wp2
  go_ret
  exact ⟨Z13, Z61⟩
 ·rw [if_neg c3] at H
  have c3b0 : decide ((wrap64 (a1 - (l0.length : Int))) < 0) = false := decide_eq_false c3
  clear c3
  have H' := Aside0.mk H
  clear H
  go_enter Try.func44, Try.ntmps44
  go_wp2
  go_loopg [1, 5] k (fun kq v1 v5 w' => ∃ (x1_1 : Int) (x5_1 : Int), v1 = .int .i64 x1_1 ∧ v5 = .int .i64 x5_1 ∧ Aside0 (laws_szItemS.l0 kq l0 x1_1 x5_1 = some r) ∧ Aside0 (kq ≤ k) ∧ Aside0 (Below w.heap.size w w'))
  case atStart => exact ⟨(wrap64 (a1 - (l0.length : Int))), (0), Z2, Z2, H', ⟨Nat.le_refl _⟩, ⟨Z61⟩⟩
  case round =>
   clear H'
   try clear p2
   try clear c3
   try clear c3b0
   obtain ⟨x1_1, x5_1, rfl, rfl, HA, HK1, HB⟩ := hrel
   cases gk with
   | zero => exact absurd HA.out (by simp [laws_szItemS.l0])
   | succ k1 =>
    have H := HA.out
    clear HA
    simp only [laws_szItemS.l0] at H
    by_cases c4 : x5_1 < (l0.length : Int)
    ·rw [if_pos c4] at H
     have c4b0 : decide (x5_1 < (l0.length : Int)) = true := decide_eq_true c4
     clear c4
     by_cases c5 : 0 ≤ x5_1
     ·rw [if_pos c5] at H
      have c5b0 : decide (0 ≤ x5_1) = true := decide_eq_true c5
      clear c5
      replace H := Option.bind_eq_some_iff.mp H
      obtain ⟨t277, A60, H⟩ := H
      replace H : (if t277 < 0 then (some (-1)) else (laws_szItemS.l0 k1 l0 t277 (wrap64 (x5_1 + 1)))) = some r := H
      have A6 := Aside0.mk A60
      clear A60
      by_cases c7 : t277 < 0
      ·rw [if_pos c7] at H
       have c7b0 : decide (t277 < 0) = true := decide_eq_true c7
       clear c7
       obtain rfl := Option.some.inj H
       have p276 : 0 ≤ (x5_1 : Int) := of_decide_eq_true Z5
       have q276 : x5_1 < (l0.length : Int) := of_decide_eq_true Z5
       obtain ⟨ad276, e276, hx276_0, hx276_1, hx276_2, hx276_3, hx276_4⟩ := at_T49 HR0.out x5_1 p276 q276
       cases e276
       replace hx276_0 := (HB.out.cell (World.block_lt_of_cell? w _ hx276_0)).trans hx276_0
       replace hx276_1 := (HB.out.cell (World.block_lt_of_cell? w _ hx276_1)).trans hx276_1
       replace hx276_2 := (HB.out.cell (World.block_lt_of_cell? w _ hx276_2)).trans hx276_2
       replace hx276_3 := (HB.out.cell (World.block_lt_of_cell? w _ hx276_3)).trans hx276_3
       replace hx276_4 := (HB.out.cell (World.block_lt_of_cell? w _ hx276_4)).trans hx276_4
       replace p276 := eq_true p276
       replace q276 := eq_true q276
       go_wp2_with (first | ((with_reducible refine gate_callee (f := 33) rfl ?_); refine goesL_ (some 23) rfl rfl Try.func33 Z0 rfl #[.agg #[.int .i64 ((rd_T49 l0 x5_1).f0), .string ((rd_T49 l0 x5_1).f1), .int .i32 ((rd_T49 l0 x5_1).f2), .bool ((rd_T49 l0 x5_1).f3), .int .u32 ((rd_T49 l0 x5_1).f4)], .int .i64 x1_1] rfl Z4 ?_; (with_reducible refine (laws_szItem.calls ((rd_T49 l0 x5_1).f0) ((rd_T49 l0 x5_1).f1) ((rd_T49 l0 x5_1).f2) ((rd_T49 l0 x5_1).f3) ((rd_T49 l0 x5_1).f4) x1_1 t277 _ A6.out).mono ?_); rintro e w8 ⟨rfl, hb⟩; refine ⟨_, rfl, ?_⟩; replace HB := Z (below_step Z61 hb); (try clear hb); (try clear hb2); (try clear hk); (try clear hi)))
       go_ret
       exact ⟨Z13, Z61⟩
      ·rw [if_neg c7] at H
       have c7b0 : decide (t277 < 0) = false := decide_eq_false c7
       clear c7
       have H' := Aside0.mk H
       clear H
       have p276 : 0 ≤ (x5_1 : Int) := of_decide_eq_true Z5
       have q276 : x5_1 < (l0.length : Int) := of_decide_eq_true Z5
       obtain ⟨ad276, e276, hx276_0, hx276_1, hx276_2, hx276_3, hx276_4⟩ := at_T49 HR0.out x5_1 p276 q276
       cases e276
       replace hx276_0 := (HB.out.cell (World.block_lt_of_cell? w _ hx276_0)).trans hx276_0
       replace hx276_1 := (HB.out.cell (World.block_lt_of_cell? w _ hx276_1)).trans hx276_1
       replace hx276_2 := (HB.out.cell (World.block_lt_of_cell? w _ hx276_2)).trans hx276_2
       replace hx276_3 := (HB.out.cell (World.block_lt_of_cell? w _ hx276_3)).trans hx276_3
       replace hx276_4 := (HB.out.cell (World.block_lt_of_cell? w _ hx276_4)).trans hx276_4
       replace p276 := eq_true p276
       replace q276 := eq_true q276
       go_wp2_with (first | ((with_reducible refine gate_callee (f := 33) rfl ?_); refine goesL_ (some 23) rfl rfl Try.func33 Z0 rfl #[.agg #[.int .i64 ((rd_T49 l0 x5_1).f0), .string ((rd_T49 l0 x5_1).f1), .int .i32 ((rd_T49 l0 x5_1).f2), .bool ((rd_T49 l0 x5_1).f3), .int .u32 ((rd_T49 l0 x5_1).f4)], .int .i64 x1_1] rfl Z4 ?_; (with_reducible refine (laws_szItem.calls ((rd_T49 l0 x5_1).f0) ((rd_T49 l0 x5_1).f1) ((rd_T49 l0 x5_1).f2) ((rd_T49 l0 x5_1).f3) ((rd_T49 l0 x5_1).f4) x1_1 t277 _ A6.out).mono ?_); rintro e w9 ⟨rfl, hb⟩; refine ⟨_, rfl, ?_⟩; replace HB := Z (below_step Z61 hb); (try clear hb); (try clear hb2); (try clear hk); (try clear hi)))
       go_roundg k1
       case measure => have := HK1.out; omega
       case rel => exact ⟨(t277), (wrap64 (x5_1 + 1)), Z2, Z2, H', ⟨Z6⟩, ⟨Z61⟩⟩
     ·rw [if_neg c5] at H
      exact absurd H (by simp)
    ·rw [if_neg c4] at H
     have c4b0 : decide (x5_1 < (l0.length : Int)) = false := decide_eq_false c4
     clear c4
     obtain rfl := Option.some.inj H
     go_wp2
     go_ret
     exact ⟨Z13, Z61⟩

end Go.Proofs.Ytkkiibjnpkjijaa.QFnExactListOk
