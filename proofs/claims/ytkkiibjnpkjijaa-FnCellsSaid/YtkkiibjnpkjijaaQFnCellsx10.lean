/-
Plain functions for the Go functions that a law reaches, each with a proof that the translation's call comes to just that; no conditions beyond those written in each.
-/
import Derived.Test.YtkkiibjnpkjijaaSFnCells
import Derived.Test.YtkkiibjnpkjijaaQFnCellsx1
import Derived.Test.YtkkiibjnpkjijaaQFnCellsx2
import Derived.Test.YtkkiibjnpkjijaaQFnCellsx3
import Derived.Test.YtkkiibjnpkjijaaQFnCellsx7
import Derived.Test.YtkkiibjnpkjijaaQFnCellsx9
namespace Go.Proofs.Ytkkiibjnpkjijaa.QFnCells
open Go.RowKit Go.Proofs.YtkkiibjnpkjijaaW.PrintWords Go.Proofs.YtkkiibjnpkjijaaW.PrintLast Go.Proofs.YtkkiibjnpkjijaaW.PrintMore
attribute [local go_sem] max2_int min2_int max_two min_two max_three min_three max_four min_four   -- for this text's walks alone
set_option linter.unusedVariables false
set_option linter.unusedSimpArgs false

attribute [local go_sem high] eqA51
/-! ### impl_ParseCells: function 15 -/
mutual
def impl_ParseCells.l0 : Nat → List Int → List (S51) → Option ((List (S51)))
 | 0, _, _ => none
 | k + 1, x0, x3 => if (x0.length : Int) > 0 then ((impl_parseOne.f k x0).bind fun bt509 => (if x3.length < 3518437208883 then ((impl_CellsOf.f k bt509.1 bt509.2.1 bt509.2.2.1 bt509.2.2.2.1 bt509.2.2.2.2).bind fun t518 => (if 0 ≤ (t518.length : Int) then (if (t518.length : Int) ≤ (x0.length : Int) then (impl_ParseCells.l0 k (x0.drop ((t518.length : Int) : Int).toNat) (x3 ++ [(⟨bt509.1, bt509.2.1, bt509.2.2.1, bt509.2.2.2.1, bt509.2.2.2.2⟩ : S51)])) else (none)) else (none))) else (none))) else (impl_ParseCells.l1 k x3 (wrap64 ((x3.length : Int) - 1)))
def impl_ParseCells.l1 : Nat → List (S51) → Int → Option ((List (S51)))
 | 0, _, _ => none
 | k + 1, x3, x5 => if x5 ≥ 0 then (if 0 ≤ x5 then (if x5 < (x3.length : Int) then (if (((rd_T51 x3 x5).f0) == 0 && ((((rd_T51 x3 x5).f1).toList) == ([] : List UInt8) && (((rd_T51 x3 x5).f2) == 0 && (!((rd_T51 x3 x5).f3) && (((rd_T51 x3 x5).f4) == 0))))) = true then (if x5 ≤ (x3.length : Int) then (impl_ParseCells.l1 k (x3.take (x5 : Int).toNat) (wrap64 (x5 - 1))) else (none)) else (some x3)) else (none)) else (none)) else (some x3)
end
def impl_ParseCells.f (k : Nat) (l0 : List Int) : Option ((List (S51))) := if (l0.length : Int) > 64 then (some ([] : List (S51))) else (impl_ParseCells.l0 k l0 (([] : List (S51))))
theorem impl_ParseCells.mono_l : ∀ k, (∀ y0 y1, LeO (impl_ParseCells.l0 k y0 y1) (impl_ParseCells.l0 (k + 1) y0 y1)) ∧ (∀ y0 y1, LeO (impl_ParseCells.l1 k y0 y1) (impl_ParseCells.l1 (k + 1) y0 y1))
 | 0 => ⟨fun _ _ r h => by simp [impl_ParseCells.l0] at h, fun _ _ r h => by simp [impl_ParseCells.l1] at h⟩
 | k + 1 => by
  obtain ⟨ih0, ih1⟩ := impl_ParseCells.mono_l k
  refine ⟨?_, ?_⟩
  ·intro y0 y1
   unfold impl_ParseCells.l0
   repeat' first
   | (with_reducible exact ih0 _ _)
   | (with_reducible exact ih1 _ _)
   | (with_reducible exact impl_CellsOf.mono _ _ _ _ _ _)
   | (with_reducible exact impl_parseOne.mono _ _)
   | (with_reducible exact LeO.refl _)
   | (with_reducible exact LeO.none _)
   | (with_reducible refine LeO.ite ?_ ?_)
   | (with_reducible refine LeO.bind ?_ (fun _ => ?_))
   | exact ih0 _ _
   | exact ih1 _ _
   | exact impl_CellsOf.mono _ _ _ _ _ _
   | exact impl_parseOne.mono _ _
   | exact LeO.none _
   | refine LeO.ite ?_ ?_
   | refine LeO.bind ?_ (fun _ => ?_)
  ·intro y0 y1
   unfold impl_ParseCells.l1
   repeat' first
   | (with_reducible exact ih0 _ _)
   | (with_reducible exact ih1 _ _)
   | (with_reducible exact impl_CellsOf.mono _ _ _ _ _ _)
   | (with_reducible exact impl_parseOne.mono _ _)
   | (with_reducible exact LeO.refl _)
   | (with_reducible exact LeO.none _)
   | (with_reducible refine LeO.ite ?_ ?_)
   | (with_reducible refine LeO.bind ?_ (fun _ => ?_))
   | exact ih0 _ _
   | exact ih1 _ _
   | exact impl_CellsOf.mono _ _ _ _ _ _
   | exact impl_parseOne.mono _ _
   | exact LeO.none _
   | refine LeO.ite ?_ ?_
   | refine LeO.bind ?_ (fun _ => ?_)
theorem impl_ParseCells.mono : ∀ a0 k, LeO (impl_ParseCells.f k a0) (impl_ParseCells.f (k + 1) a0) := by
 intro a0 k
 obtain ⟨ih0, ih1⟩ := impl_ParseCells.mono_l k
 unfold impl_ParseCells.f
 repeat' first
   | (with_reducible exact ih0 _ _)
   | (with_reducible exact ih1 _ _)
   | (with_reducible exact impl_CellsOf.mono _ _ _ _ _ _)
   | (with_reducible exact impl_parseOne.mono _ _)
   | (with_reducible exact LeO.refl _)
   | (with_reducible exact LeO.none _)
   | (with_reducible refine LeO.ite ?_ ?_)
   | (with_reducible refine LeO.bind ?_ (fun _ => ?_))
   | exact ih0 _ _
   | exact ih1 _ _
   | exact impl_CellsOf.mono _ _ _ _ _ _
   | exact impl_parseOne.mono _ _
   | exact LeO.none _
   | refine LeO.ite ?_ ?_
   | refine LeO.bind ?_ (fun _ => ?_)
set_option maxHeartbeats 8000000 in
set_option maxRecDepth 100000 in
theorem impl_ParseCells.calls (k : Nat) (P0_ : Nat → Prop) (A0 : Option Addr) (c0 : Nat) (l0 : List Int) (r : List (S51)) (w : World) (hs0 : Kd.V (Kd.int .u32) 47 w w.heap.size (fun k_ => P0_ k_) (.slice A0 l0.length c0) l0) (h : impl_ParseCells.f k l0 = some r) :
  Calls Try.prog 15 #[.slice A0 l0.length c0] w fun e w' => ∃ v0_ : Value, e = .returned (v0_) ∧ Kd.R k51 51 w' w.heap.size (fun k_ => (w.heap.size ≤ k_)) v0_ r ∧ Below w.heap.size w w' := by
 have hu51 := Try.underlying51
 have HO0 := Z (show Kd.V (Kd.int .u32) 47 w w.heap.size (fun k_ => (P0_ k_ ∨ w.heap.size ≤ k_)) (.slice A0 l0.length c0) l0 from Kd.V_mono hs0 (fun k_ hk => .inl hk))
 have HB := Z (Below.refl w.heap.size w)
 have H : (if (l0.length : Int) > 64 then (some ([] : List (S51))) else (impl_ParseCells.l0 k l0 (([] : List (S51))))) = some r := h
 clear h
 by_cases c2 : (l0.length : Int) > 64
 ·rw [if_pos c2] at H
  have c2b0 : decide (64 < (l0.length : Int)) = true := decide_eq_true c2
  have c2b1 : decide (64 < l0.length) = true := decide_eq_true (by omega)
  clear c2
  obtain rfl := Option.some.inj H
  go_enter Try.func15, Try.ntmps15
  go_wp2
  go_ret
  exact ⟨_, Z9, Z24, Z63⟩
 ·rw [if_neg c2] at H
  have c2b0 : decide (64 < (l0.length : Int)) = false := decide_eq_false c2
  have c2b1 : decide (64 < l0.length) = false := decide_eq_false (by omega)
  clear c2
  obtain ⟨y506, hy506⟩ : ∃ y_ : List (S51), y_ = (([] : List (S51))) := ⟨_, rfl⟩
  replace H : (impl_ParseCells.l0 k l0 y506) = some r := by first | (rw [hy506]; with_reducible exact H) | (have H2_ := (Option.bind_some _ _).symm.trans H; rw [hy506]; with_reducible exact H2_) | (have H2_ := (Option.bind_some _ _).symm.trans H; with_reducible exact H2_) | with_reducible exact H | (rw [hy506]; exact H) | exact H
  have Ny506 := Aside0.mk hy506
  clear hy506
  have H' := Aside0.mk H
  clear H
  go_enter Try.func15, Try.ntmps15
  go_wp2_with (first | ((with_reducible refine gate_dst (N := 9) rfl ?_); refine Kd.R_lit k51 _ 51 (by rfl) (N := 9) (by rfl) (xs := ([] : List (S51))) (inner := []) (ok := fun _ => True) (okp := fun _ => True) Z7 (Reps.none _ _) (fun _ hk => hk) trivial (Below.refl _ _) (Nat.le_refl _) (by simp) ?_; intro v507 w3 ho4 hb hg_ hnew_; clear hg_ hnew_; (first | rw [← Ny506.out] at ho4 | (simp only [Int.reduceToNat] at ho4; rw [← Ny506.out] at ho4)); replace HO0 := Z (Kd.V_elder' (Z37 HO0) (Kd.R_base ho4) hb); have HO508 := Z (Kd.R_lower (Kd.R_newM (M := fun k_ => (w.heap.size ≤ k_)) ho4 (below_size Z63) (fun k_ h_ => h_)) (below_size Z63)); replace HB := Z (below_step Z63 hb); clear hb ho4))
  go_loopg [0, 3] k (fun kq v0 v3 w' => ∃ (x0_1 : List Int) (x3_1 : List (S51)), Aside0 (impl_ParseCells.l0 kq x0_1 x3_1 = some r) ∧ Aside0 (kq ≤ k) ∧ Aside0 (Kd.V (Kd.int .u32) 47 w' w.heap.size (fun k_ => (P0_ k_ ∨ w.heap.size ≤ k_) ∧ some k_ ≠ (v3 : Value).ownBlock) v0 x0_1) ∧ Aside0 (Kd.R k51 51 w' w.heap.size (fun k_ => (w.heap.size ≤ k_)) v3 x3_1) ∧ Aside0 (Below w.heap.size w w'))
  case atStart => exact ⟨(l0), (y506), H', ⟨Nat.le_refl _⟩, ⟨(Z37 HO0)⟩, ⟨(Z38 HO508)⟩, ⟨Z63⟩⟩
  case round =>
   clear H'
   try clear c1
   try clear c2
   try clear c2b0
   try clear c2b1
   try clear p2
   obtain ⟨x0_1, x3_1, HA, HK1, HO_0, HO_3, HB⟩ := hrel
   cases gk with
   | zero => exact absurd HA.out (by simp [impl_ParseCells.l0])
   | succ k1 =>
    have H := HA.out
    clear HA
    simp only [impl_ParseCells.l0] at H
    by_cases c5 : (x0_1.length : Int) > 0
    ·rw [if_pos c5] at H
     have c5b0 : decide (0 < (x0_1.length : Int)) = true := decide_eq_true c5
     have c5b1 : decide (0 < x0_1.length) = true := decide_eq_true (by omega)
     clear c5
     replace H := Option.bind_eq_some_iff.mp H
     obtain ⟨⟨t509, t510, t511, t512, t513⟩, A60, H⟩ := H
     replace H : (if x3_1.length < 3518437208883 then ((impl_CellsOf.f k1 t509 t510 t511 t512 t513).bind fun t518 => (if 0 ≤ (t518.length : Int) then (if (t518.length : Int) ≤ (x0_1.length : Int) then (impl_ParseCells.l0 k1 (x0_1.drop ((t518.length : Int) : Int).toNat) (x3_1 ++ [(⟨t509, t510, t511, t512, t513⟩ : S51)])) else (none)) else (none))) else (none)) = some r := H
     have A6 := Aside0.mk A60
     clear A60
     by_cases c7 : x3_1.length < 3518437208883
     ·rw [if_pos c7] at H
      have LMc7 := Aside0.mk c7
      clear c7
      obtain ⟨y515, hy515⟩ : ∃ y_ : List (S51), y_ = (x3_1 ++ [(⟨t509, t510, t511, t512, t513⟩ : S51)]) := ⟨_, rfl⟩
      replace H : ((impl_CellsOf.f k1 t509 t510 t511 t512 t513).bind fun t518 => (if 0 ≤ (t518.length : Int) then (if (t518.length : Int) ≤ (x0_1.length : Int) then (impl_ParseCells.l0 k1 (x0_1.drop ((t518.length : Int) : Int).toNat) y515) else (none)) else (none))) = some r := by first | (rw [hy515]; with_reducible exact H) | (have H2_ := (Option.bind_some _ _).symm.trans H; rw [hy515]; with_reducible exact H2_) | (have H2_ := (Option.bind_some _ _).symm.trans H; with_reducible exact H2_) | with_reducible exact H | (rw [hy515]; exact H) | exact H
      have Ny515 := Aside0.mk hy515
      clear hy515
      replace H := Option.bind_eq_some_iff.mp H
      obtain ⟨t518, A80, H⟩ := H
      replace H : (if 0 ≤ (t518.length : Int) then (if (t518.length : Int) ≤ (x0_1.length : Int) then (impl_ParseCells.l0 k1 (x0_1.drop ((t518.length : Int) : Int).toNat) y515) else (none)) else (none)) = some r := H
      have A8 := Aside0.mk A80
      clear A80
      by_cases c9 : 0 ≤ (t518.length : Int)
      ·rw [if_pos c9] at H
       have c9b0 := eq_true c9
       have c9b1 : decide (0 ≤ (t518.length : Int)) = true := decide_eq_true c9
       clear c9
       by_cases c10 : (t518.length : Int) ≤ (x0_1.length : Int)
       ·rw [if_pos c10] at H
        have c10b0 := eq_true c10
        have c10b1 : decide ((t518.length : Int) ≤ (x0_1.length : Int)) = true := decide_eq_true c10
        clear c10
        obtain ⟨y521, hy521⟩ : ∃ y_ : List Int, y_ = (x0_1.drop ((t518.length : Int) : Int).toNat) := ⟨_, rfl⟩
        replace H : (impl_ParseCells.l0 k1 y521 y515) = some r := by first | (rw [hy521]; with_reducible exact H) | (have H2_ := (Option.bind_some _ _).symm.trans H; rw [hy521]; with_reducible exact H2_) | (have H2_ := (Option.bind_some _ _).symm.trans H; with_reducible exact H2_) | with_reducible exact H | (rw [hy521]; exact H) | exact H
        have Ny521 := Aside0.mk hy521
        clear hy521
        have H' := Aside0.mk H
        clear H
        obtain ⟨Ao11, co11, eo11⟩ := Kd.V_slice HO_0.out
        subst eo11
        go_wp2_with (first | ((with_reducible refine gate_callee (f := 59) rfl ?_); refine goesL_ (some 14) rfl rfl Try.func59 Z0 rfl #[.slice Ao11 x0_1.length co11] rfl Z10 ?_; (with_reducible refine (impl_parseOne.calls k1 _ _ x0_1 t509 t510 t511 t512 t513 _ ?side1 ?side2 A6.out).mono ?_); (case side1 => exact (by repeat (first | exact (Kd.V_reads' HO_0.out).2.2 | (with_reducible refine Kd.C_alloc ?_ _) | (with_reducible refine Kd.C_drewN ?_ _) | (with_reducible refine Kd.C_drew ?_)))); (case side2 => exact (Kd.V_reads' HO_0.out).2.1); rintro e w12 ⟨rfl, hb⟩; refine ⟨_, rfl, ?_⟩; replace HO_0 := Z (Kd.V_below (Z37 HO_0) hb); replace HO_3 := Z (Kd.R_below (Z12 HO_3) hb); replace HB := Z (below_step Z63 hb); (try clear hb); (try clear hb2); (try clear hk); (try clear hi)) | ((with_reducible refine gate_dst (N := 4) rfl ?_); refine box_event (by rfl) (N := 4) (by rfl) (cs := #[.int .i64 0, .string (⟨#[]⟩ : ByteArray), .int .i32 0, .bool false, .int .u32 0]) (t := 51) Z7 ?_; intro gb514 hg w13 hbox hb; replace HO_0 := Z (Kd.V_below (Kd.V_elderB (Z37 HO_0) gb514 (Nat.le_of_eq hg.symm)) hb); replace HO_3 := Z (Kd.R_below (Kd.R_elderB (Z12 HO_3) gb514 (Nat.le_of_eq hg.symm)) hb); have BK514 := Z (hbox); have GW514 := Z ((Z76 : w.heap.size ≤ gb514)); have GE514 := Z ((Z76 : w.heap.size ≤ gb514)); replace HB := Z (below_step Z63 hb); clear hb hbox hg; have hcz14_0 : w13.cell? ⟨gb514, 0, none⟩ = some (.int .i64 0) := (blk_cell BK514.out 0).trans rfl; have hcz14_1 : w13.cell? ⟨gb514, 1, none⟩ = some (.string (⟨#[]⟩ : ByteArray)) := (blk_cell BK514.out 1).trans rfl; have hcz14_2 : w13.cell? ⟨gb514, 2, none⟩ = some (.int .i32 0) := (blk_cell BK514.out 2).trans rfl; have hcz14_3 : w13.cell? ⟨gb514, 3, none⟩ = some (.bool false) := (blk_cell BK514.out 3).trans rfl; have hcz14_4 : w13.cell? ⟨gb514, 4, none⟩ = some (.int .u32 0) := (blk_cell BK514.out 4).trans rfl; have hfz14_0 := blk_frozen BK514.out 0; have hfz14_1 := blk_frozen BK514.out 1; have hfz14_2 := blk_frozen BK514.out 2; have hfz14_3 := blk_frozen BK514.out 3; have hfz14_4 := blk_frozen BK514.out 4) | ((with_reducible refine gate_builtin (b := .append) (xs := #[.tmp 15, .tmp 17]) rfl ?_); at_builtin; refine Kd.R_append k51 (w0 := w) w.heap.size rfl (.tmp 15) (.tmp 17) 26 51 (.agg #[(.int .i64 0), (.string ⟨#[]⟩), (.int .i32 0), (.bool false), (.int .u32 0)]) 40 rfl Try.underlying26 info51 rfl (by decide) (by omega) u3 x3_1 (⟨t509, t510, t511, t512, t513⟩ : S51) [.int .i64 t509, .string t510, .int .i32 t511, .bool t512, .int .u32 t513] (fun k_ => (w.heap.size ≤ k_) ∧ k_ ≠ gb514) (fun _ => False) rfl Z7 ?aP (fun _ hk => hk.elim) ?aF ?aO ?aB ?aS ?aL ?_; (case aP => exact k51_mkM _ _ _ (⟨t509, t510, t511, t512, t513⟩ : S51)); (case aB => exact Z63); (case aF => exact (fun k_ hk => ⟨(Nat.le_trans (below_size Z63) hk), Kd.freshB (g := gb514) (o := .cells #[.int .i64 t509, .string t510, .int .i32 t511, .bool t512, .int .u32 t513] 51 (0, 0)) (Z39 BK514) k_ hk⟩)); (case aO => exact (by (with_reducible repeat (first | apply Kd.R_alloc | apply Kd.R_drewN | apply Kd.R_drew)); exact Kd.R_mono (Kd.R_far (p := ⟨gb514, 4, none⟩) (Kd.R_far (p := ⟨gb514, 3, none⟩) (Kd.R_far (p := ⟨gb514, 2, none⟩) (Kd.R_far (p := ⟨gb514, 1, none⟩) (Kd.R_far (p := ⟨gb514, 0, none⟩) (Kd.R_mono HO_3.out (fun k_ hk => (⟨hk, hk.2⟩ : _ ∧ k_ ≠ gb514))) (fun _ hk => hk.2) (.int .i64 t509)) (fun _ hk => hk.2) (.string t510)) (fun _ hk => hk.2) (.int .i32 t511)) (fun _ hk => hk.2) (.bool t512)) (fun _ hk => hk.2) (.int .u32 t513)) (fun _ hk => ⟨hk.1.1, hk.1.2⟩))); (case aS => exact (below_size Z63)); (case aL => have := LMc7.out; omega); intro v516 w15 ho hb hg hat; rw [← Ny515.out] at ho; replace HO_0 := Z (Kd.V_afterv (ok := (fun k_ => (P0_ k_ ∨ w.heap.size ≤ k_) ∧ k_ ≠ gb514)) (by (with_reducible repeat (first | apply Kd.V_alloc | apply Kd.V_drewN | apply Kd.V_drew)); exact Kd.V_mono (Kd.V_far (p := ⟨gb514, 4, none⟩) (Kd.V_far (p := ⟨gb514, 3, none⟩) (Kd.V_far (p := ⟨gb514, 2, none⟩) (Kd.V_far (p := ⟨gb514, 1, none⟩) (Kd.V_far (p := ⟨gb514, 0, none⟩) (Kd.V_mono HO_0.out (fun k_ hk => (⟨hk, hk.2⟩ : _ ∧ k_ ≠ gb514))) (fun _ hk => hk.2) (.int .i64 t509)) (fun _ hk => hk.2) (.string t510)) (fun _ hk => hk.2) (.int .i32 t511)) (fun _ hk => hk.2) (.bool t512)) (fun _ hk => hk.2) (.int .u32 t513)) (fun _ hk => ⟨⟨hk.1.1.1, hk.1.2⟩, hk.1.1.2⟩)) hg hat); replace BK514 := Z (blk_grown (g := gb514) (o := .cells #[.int .i64 t509, .string t510, .int .i32 t511, .bool t512, .int .u32 t513] 51 (0, 0)) (Z39 BK514) hg (Kd.R_away HO_3.out (fun _ hk => hk.2))); replace HB := Z (hb); have HO517 := Z (ho); clear HO_3; clear ho hb hg hat; have hcz16_0 : w15.cell? ⟨gb514, 0, none⟩ = some (.int .i64 t509) := (blk_cell BK514.out 0).trans rfl; have hcz16_1 : w15.cell? ⟨gb514, 1, none⟩ = some (.string t510) := (blk_cell BK514.out 1).trans rfl; have hcz16_2 : w15.cell? ⟨gb514, 2, none⟩ = some (.int .i32 t511) := (blk_cell BK514.out 2).trans rfl; have hcz16_3 : w15.cell? ⟨gb514, 3, none⟩ = some (.bool t512) := (blk_cell BK514.out 3).trans rfl; have hcz16_4 : w15.cell? ⟨gb514, 4, none⟩ = some (.int .u32 t513) := (blk_cell BK514.out 4).trans rfl; have hfz16_0 := blk_frozen BK514.out 0; have hfz16_1 := blk_frozen BK514.out 1; have hfz16_2 := blk_frozen BK514.out 2; have hfz16_3 := blk_frozen BK514.out 3; have hfz16_4 := blk_frozen BK514.out 4) | ((with_reducible refine gate_callee (f := 43) rfl ?_); refine goesL_ (some 21) rfl rfl Try.func43 Z0 rfl #[.agg #[.int .i64 t509, .string t510, .int .i32 t511, .bool t512, .int .u32 t513]] rfl Z10 ?_; (with_reducible refine (impl_CellsOf.calls k1 t509 t510 t511 t512 t513 t518 _ A8.out).mono ?_); rintro e w17 ⟨v519, rfl, ho0, hb⟩; refine ⟨_, rfl, ?_⟩; replace HO_0 := Z (Kd.V_elder' (Z37 HO_0) (Kd.R_base ho0) hb); replace HO517 := Z (Kd.R_below (Z12 HO517) hb); have HO520 := Z (Kd.R_lower (Kd.R_newM (M := fun k_ => (w.heap.size ≤ k_)) ho0 (below_size Z63) (fun k_ h_ => h_)) (below_size Z63)); replace BK514 := Z (blk_below (g := gb514) (o := .cells #[.int .i64 t509, .string t510, .int .i32 t511, .bool t512, .int .u32 t513] 51 (0, 0)) (Z8 BK514) hb); replace HB := Z (below_step Z63 hb); (try clear hb); (try clear hb2); (try clear hk); (try clear hi); (try clear ho0); obtain ⟨Ao18, co18, eo18⟩ := Kd.R_slice HO520.out; subst eo18; have q19 : ((t518.length : Int) : Int) ≤ ((x0_1.length : Int) : Int) := of_decide_eq_true Z5; obtain ⟨i019, hi019, _, hsz19, _⟩ := info_parts info47; have hroom19 : x0_1.length ≤ co11 := (Kd.V_reads' HO_0.out).2.1; have hC19 : Kd.F (Kd.int .u32) _ _ Ao11 x0_1.length x0_1 := (Kd.V_at (base := w.heap.size) HO_0.out).2.2; have q019 : (0 : Int) ≤ ((t518.length : Int) : Int) := of_decide_eq_true Z5; have hcut19 := cut_from (P := Try.prog) 24 47 .i64 Try.underlying24 hi019 1 hsz19 Ao11 x0_1.length co11 (t518.length : Int) q019 q19; have hr19 := Kd.F_cut (m := ((t518.length : Int) : Int).toNat) (c := co11) hC19 (by omega) hroom19; obtain ⟨A19, hA19⟩ : ∃ A1, A1 = (if co11 = ((t518.length : Int) : Int).toNat then Ao11 else (Ao11 : Option Addr).map (·.add (((t518.length : Int) : Int).toNat * 1))) := ⟨_, rfl⟩; obtain ⟨c19, hc19⟩ : ∃ c1, c1 = co11 - ((t518.length : Int) : Int).toNat := ⟨_, rfl⟩; have hy19 : y521.length = x0_1.length - ((t518.length : Int) : Int).toNat := (by rw [Ny521.out, List.length_drop] <;> omega); rw [show (x0_1).drop ((t518.length : Int) : Int).toNat = y521 from Ny521.out.symm] at hr19; replace hr19 : Kd.F (Kd.int .u32) _ _ A19 y521.length y521 := (by rw [hA19]; exact hr19); rw [← hy19, ← hA19, ← hc19] at hcut19; have HO525 := Z (show Kd.V (Kd.int .u32) 47 _ w.heap.size _ (.slice A19 y521.length c19) y521 from Kd.V_mk Z33 hr19); have HC525 := Z (show y521.length ≤ c19 from Z33); clear hr19 hC19 hroom19 hi019 hsz19 hc19; have KY19 := Aside0.mk hy19; have KA19 := Aside0.mk hA19; clear hy19 hA19; replace q19 := eq_true q19))
        go_roundg k1
        case measure => have := HK1.out; omega
        case rel => exact ⟨(y521), (y515), H', ⟨Z6⟩, ⟨by (with_reducible repeat (first | apply Kd.V_alloc | apply Kd.V_drewN | apply Kd.V_drew)); exact Kd.V_mono HO525.out (fun _ hk => ⟨hk.1.1.1, hk.1.2⟩)⟩, ⟨(Z38 HO517)⟩, ⟨Z63⟩⟩
       ·rw [if_neg c10] at H
        exact absurd H (by simp)
      ·rw [if_neg c9] at H
       exact absurd H (by simp)
     ·rw [if_neg c7] at H
      exact absurd H (by simp)
    ·rw [if_neg c5] at H
     have c5b0 : decide (0 < (x0_1.length : Int)) = false := decide_eq_false c5
     have c5b1 : decide (0 < x0_1.length) = false := decide_eq_false (by omega)
     clear c5
     have H' := Aside0.mk H
     clear H
     obtain ⟨Ao20, co20, eo20⟩ := Kd.V_slice HO_0.out
     subst eo20
     obtain ⟨Ao21, co21, eo21⟩ := Kd.R_slice HO_3.out
     subst eo21
     go_wp2
     go_loopg [3, 5] k1 (fun kq v3 v5 w' => ∃ (x3_2 : List (S51)) (x5_2 : Int), v5 = .int .i64 x5_2 ∧ Aside0 (impl_ParseCells.l1 kq x3_2 x5_2 = some r) ∧ Aside0 (kq ≤ k1) ∧ Aside0 (Kd.R k51 51 w' w.heap.size (fun k_ => (w.heap.size ≤ k_)) v3 x3_2) ∧ Aside0 (Below w.heap.size w w'))
     case atStart => exact ⟨(x3_1), (wrap64 ((x3_1.length : Int) - 1)), Z2, H', ⟨Nat.le_refl _⟩, ⟨(Z12 HO_3)⟩, ⟨Z63⟩⟩
     case round =>
      clear H'
      try clear c1
      try clear q1
      try clear c2
      try clear c2b0
      try clear c2b1
      try clear p2
      try clear c4
      try clear c5
      try clear c5b0
      try clear c5b1
      try clear p6
      try clear c7
      try clear c9
      try clear c9b0
      try clear c9b1
      try clear c10
      try clear c10b0
      try clear c10b1
      try clear c15
      try clear c19
      try clear q19
      try clear hcz14_0
      try clear hcz14_1
      try clear hcz14_2
      try clear hcz14_3
      try clear hcz14_4
      try clear hcz16_0
      try clear hcz16_1
      try clear hcz16_2
      try clear hcz16_3
      try clear hcz16_4
      try clear hfz14_0
      try clear hfz14_1
      try clear hfz14_2
      try clear hfz14_3
      try clear hfz14_4
      try clear hfz16_0
      try clear hfz16_1
      try clear hfz16_2
      try clear hfz16_3
      try clear hfz16_4
      try clear p2
      try clear q019
      try clear q19
      obtain ⟨x3_2, x5_2, rfl, HA, HK2, HO_3, HB⟩ := hrel
      cases gk with
      | zero => exact absurd HA.out (by simp [impl_ParseCells.l1])
      | succ k2 =>
       have H := HA.out
       clear HA
       simp only [impl_ParseCells.l1] at H
       by_cases c22 : x5_2 ≥ 0
       ·rw [if_pos c22] at H
        have c22b0 : decide (0 ≤ x5_2) = true := decide_eq_true c22
        clear c22
        by_cases c23 : 0 ≤ x5_2
        ·rw [if_pos c23] at H
         have c23b0 : decide (0 ≤ x5_2) = true := decide_eq_true c23
         clear c23
         by_cases c24 : x5_2 < (x3_2.length : Int)
         ·rw [if_pos c24] at H
          have c24b0 : decide (x5_2 < (x3_2.length : Int)) = true := decide_eq_true c24
          clear c24
          by_cases c25 : (((rd_T51 x3_2 x5_2).f0) == 0 && ((((rd_T51 x3_2 x5_2).f1).toList) == ([] : List UInt8) && (((rd_T51 x3_2 x5_2).f2) == 0 && (!((rd_T51 x3_2 x5_2).f3) && (((rd_T51 x3_2 x5_2).f4) == 0))))) = true
          ·rw [if_pos c25] at H
           have c25b0 : (((rd_T51 x3_2 x5_2).f0) == 0 && ((((rd_T51 x3_2 x5_2).f1).toList) == ([] : List UInt8) && (((rd_T51 x3_2 x5_2).f2) == 0 && (!((rd_T51 x3_2 x5_2).f3) && (((rd_T51 x3_2 x5_2).f4) == 0))))) = true := c25
           (try (have c25b1 : (((rd_T51 x3_2 x5_2).f0) == 0 && ((((rd_T51 x3_2 x5_2).f1).toList).isEmpty && (((rd_T51 x3_2 x5_2).f2) == 0 && (!((rd_T51 x3_2 x5_2).f3) && (((rd_T51 x3_2 x5_2).f4) == 0))))) = true := by have h_ : (((rd_T51 x3_2 x5_2).f0) == 0 && ((((rd_T51 x3_2 x5_2).f1).toList) == ([] : List UInt8) && (((rd_T51 x3_2 x5_2).f2) == 0 && (!((rd_T51 x3_2 x5_2).f3) && (((rd_T51 x3_2 x5_2).f4) == 0))))) = true := c25; simpa only [List.beq_nil_eq] using h_))
           (try (have c25b2 : decide (((rd_T51 x3_2 x5_2).f0) = 0 && ((((rd_T51 x3_2 x5_2).f1).toList) == ([] : List UInt8) && (((rd_T51 x3_2 x5_2).f2) == 0 && (!((rd_T51 x3_2 x5_2).f3) && (((rd_T51 x3_2 x5_2).f4) == 0))))) = true := Z40))
           (try (have c25b3 : (((rd_T51 x3_2 x5_2).f0) == 0 && ((((rd_T51 x3_2 x5_2).f1).toList) == ([] : List UInt8) && (((rd_T51 x3_2 x5_2).f2) == 0 && (!((rd_T51 x3_2 x5_2).f3) && (((rd_T51 x3_2 x5_2).f4) == 0))))) = true := Z40))
           clear c25
           by_cases c26 : x5_2 ≤ (x3_2.length : Int)
           ·rw [if_pos c26] at H
            have c26b0 := eq_true c26
            have c26b1 : decide (x5_2 ≤ (x3_2.length : Int)) = true := decide_eq_true c26
            clear c26
            obtain ⟨y527, hy527⟩ : ∃ y_ : List (S51), y_ = (x3_2.take (x5_2 : Int).toNat) := ⟨_, rfl⟩
            replace H : (impl_ParseCells.l1 k2 y527 (wrap64 (x5_2 - 1))) = some r := by first | (rw [hy527]; with_reducible exact H) | (have H2_ := (Option.bind_some _ _).symm.trans H; rw [hy527]; with_reducible exact H2_) | (have H2_ := (Option.bind_some _ _).symm.trans H; with_reducible exact H2_) | with_reducible exact H | (rw [hy527]; exact H) | exact H
            have Ny527 := Aside0.mk hy527
            clear hy527
            have H' := Aside0.mk H
            clear H
            obtain ⟨Ao27, co27, eo27⟩ := Kd.R_slice HO_3.out
            subst eo27
            have p526 : 0 ≤ (x5_2 : Int) := of_decide_eq_true Z5
            have q526 : x5_2 < (x3_2.length : Int) := of_decide_eq_true Z5
            obtain ⟨ad526, e526, hx526_0, hx526_1, hx526_2, hx526_3, hx526_4⟩ := at_T51 (Kd.R_reads' HO_3.out).2.2 x5_2 p526 q526
            cases e526
            replace p526 := eq_true p526
            replace q526 := eq_true q526
            (try clear hcut27)
            have q28 : (x5_2 : Int) ≤ ((x3_2.length : Int) : Int) := of_decide_eq_true Z5
            obtain ⟨i028, hi028, _, hsz28, _⟩ := info_parts info51
            have hcut28 := cut_to (P := Try.prog) 26 51 .i64 Try.underlying26 hi028 (some ad526) x3_2.length co27 x5_2 (of_decide_eq_true Z5) q28 (Kd.R_reads' HO_3.out).2.1
            have hr28 := Kd.R_take (m := (x5_2 : Int).toNat) HO_3.out (by omega)
            have hy28 : y527.length = (x5_2 : Int).toNat := (by rw [Ny527.out, List.length_take]; omega)
            rw [← Ny527.out] at hr28
            rw [← hy28] at hr28 hcut28
            clear hy28 hi028 hsz28 HO_3
            have HO529 := Aside0.mk hr28
            clear hr28
            replace q28 := eq_true q28
            go_wp2
            go_roundg k2
            case measure => have := HK1.out; have := HK2.out; omega
            case rel => exact ⟨(y527), (wrap64 (x5_2 - 1)), Z2, H', ⟨by have := HK1.out; have := HK2.out; omega⟩, ⟨(Z12 HO529)⟩, ⟨Z63⟩⟩
           ·rw [if_neg c26] at H
            exact absurd H (by simp)
          ·rw [if_neg c25] at H
           have c25b0 : (((rd_T51 x3_2 x5_2).f0) == 0 && ((((rd_T51 x3_2 x5_2).f1).toList) == ([] : List UInt8) && (((rd_T51 x3_2 x5_2).f2) == 0 && (!((rd_T51 x3_2 x5_2).f3) && (((rd_T51 x3_2 x5_2).f4) == 0))))) = false := Z40
           (try (have c25b1 : (((rd_T51 x3_2 x5_2).f0) == 0 && ((((rd_T51 x3_2 x5_2).f1).toList).isEmpty && (((rd_T51 x3_2 x5_2).f2) == 0 && (!((rd_T51 x3_2 x5_2).f3) && (((rd_T51 x3_2 x5_2).f4) == 0))))) = false := by have h_ : (((rd_T51 x3_2 x5_2).f0) == 0 && ((((rd_T51 x3_2 x5_2).f1).toList) == ([] : List UInt8) && (((rd_T51 x3_2 x5_2).f2) == 0 && (!((rd_T51 x3_2 x5_2).f3) && (((rd_T51 x3_2 x5_2).f4) == 0))))) = false := Z40; simpa only [List.beq_nil_eq] using h_))
           (try (have c25b2 : decide (((rd_T51 x3_2 x5_2).f0) = 0 && ((((rd_T51 x3_2 x5_2).f1).toList) == ([] : List UInt8) && (((rd_T51 x3_2 x5_2).f2) == 0 && (!((rd_T51 x3_2 x5_2).f3) && (((rd_T51 x3_2 x5_2).f4) == 0))))) = false := Z40))
           (try (have c25b3 : (((rd_T51 x3_2 x5_2).f0) == 0 && ((((rd_T51 x3_2 x5_2).f1).toList) == ([] : List UInt8) && (((rd_T51 x3_2 x5_2).f2) == 0 && (!((rd_T51 x3_2 x5_2).f3) && (((rd_T51 x3_2 x5_2).f4) == 0))))) = false := Z40))
           (try (have c25b4 : ¬ (((rd_T51 x3_2 x5_2).f0) = 0 && ((((rd_T51 x3_2 x5_2).f1).toList) == ([] : List UInt8) && (((rd_T51 x3_2 x5_2).f2) == 0 && (!((rd_T51 x3_2 x5_2).f3) && (((rd_T51 x3_2 x5_2).f4) == 0))))) := Z40))
           clear c25
           obtain rfl := Option.some.inj H
           obtain ⟨Ao29, co29, eo29⟩ := Kd.R_slice HO_3.out
           subst eo29
           have p526 : 0 ≤ (x5_2 : Int) := of_decide_eq_true Z5
           have q526 : x5_2 < (x3_2.length : Int) := of_decide_eq_true Z5
           obtain ⟨ad526, e526, hx526_0, hx526_1, hx526_2, hx526_3, hx526_4⟩ := at_T51 (Kd.R_reads' HO_3.out).2.2 x5_2 p526 q526
           cases e526
           replace p526 := eq_true p526
           replace q526 := eq_true q526
           go_wp2
           go_ret
           exact ⟨_, Z9, (Z12 HO_3), Z63⟩
         ·rw [if_neg c24] at H
          exact absurd H (by simp)
        ·rw [if_neg c23] at H
         exact absurd H (by simp)
       ·rw [if_neg c22] at H
        have c22b0 : decide (0 ≤ x5_2) = false := decide_eq_false c22
        clear c22
        obtain rfl := Option.some.inj H
        go_wp2
        go_ret
        exact ⟨_, Z9, (Z12 HO_3), Z63⟩

/-! ### impl_Unparse: function 16 -/
def impl_Unparse.l0 : Nat → List Int → List (S51) → Int → Int → Option (List Int × Bool)
 | 0, _, _, _, _ => none
 | k + 1, x4, x9, x10, x11 => if x11 < x10 then (if 0 ≤ x11 then (if x11 < (x9.length : Int) then ((impl_CellsOf.f k ((rd_T51 x9 x11).f0) ((rd_T51 x9 x11).f1) ((rd_T51 x9 x11).f2) ((rd_T51 x9 x11).f3) ((rd_T51 x9 x11).f4)).bind fun t535 => (if x4.length + t535.length < 35184372088832 then ((some (x4 ++ t535 : List Int)).bind fun y538 => (if (t535.length : Int) = 0 then (some (([] : List Int), false)) else (if (y538.length : Int) > 64 then (some (([] : List Int), false)) else (impl_Unparse.l0 k y538 x9 x10 (wrap64 (x11 + 1)))))) else (none))) else (none)) else (none)) else (some (x4, true))
def impl_Unparse.f (k : Nat) (l0 : List (S51)) : Option (List Int × Bool) := impl_Unparse.l0 k (([] : List Int)) l0 (l0.length : Int) 0
theorem impl_Unparse.mono_l : ∀ k, (∀ y0 y1 y2 y3, LeO (impl_Unparse.l0 k y0 y1 y2 y3) (impl_Unparse.l0 (k + 1) y0 y1 y2 y3))
 | 0 => fun _ _ _ _ r h => by simp [impl_Unparse.l0] at h
 | k + 1 => by
  have ih0 := impl_Unparse.mono_l k
  ·intro y0 y1 y2 y3
   unfold impl_Unparse.l0
   repeat' first
   | (with_reducible exact ih0 _ _ _ _)
   | (with_reducible exact impl_CellsOf.mono _ _ _ _ _ _)
   | (with_reducible exact LeO.refl _)
   | (with_reducible exact LeO.none _)
   | (with_reducible refine LeO.ite ?_ ?_)
   | (with_reducible refine LeO.bind ?_ (fun _ => ?_))
   | exact ih0 _ _ _ _
   | exact impl_CellsOf.mono _ _ _ _ _ _
   | exact LeO.none _
   | refine LeO.ite ?_ ?_
   | refine LeO.bind ?_ (fun _ => ?_)
theorem impl_Unparse.mono : ∀ a0 k, LeO (impl_Unparse.f k a0) (impl_Unparse.f (k + 1) a0) := by
 intro a0 k
 have ih0 := impl_Unparse.mono_l k
 unfold impl_Unparse.f
 repeat' first
   | (with_reducible exact ih0 _ _ _ _)
   | (with_reducible exact impl_CellsOf.mono _ _ _ _ _ _)
   | (with_reducible exact LeO.refl _)
   | (with_reducible exact LeO.none _)
   | (with_reducible refine LeO.ite ?_ ?_)
   | (with_reducible refine LeO.bind ?_ (fun _ => ?_))
   | exact ih0 _ _ _ _
   | exact impl_CellsOf.mono _ _ _ _ _ _
   | exact LeO.none _
   | refine LeO.ite ?_ ?_
   | refine LeO.bind ?_ (fun _ => ?_)
set_option maxHeartbeats 8000000 in
set_option maxRecDepth 100000 in
theorem impl_Unparse.calls (k : Nat) (A0 : Option Addr) (c0 : Nat) (l0 : List (S51)) (r1 : List Int) (r2 : Bool) (w : World) (hr0 : Kd.C k51 w A0 l0.length l0) (hc0 : l0.length ≤ c0) (h : impl_Unparse.f k l0 = some (r1, r2)) :
  Calls Try.prog 16 #[.slice A0 l0.length c0] w fun e w' => ∃ v0_ : Value, e = .returned (.tuple #[v0_, .bool r2]) ∧ Kd.R (Kd.int .u32) 47 w' w.heap.size (fun _ => True) v0_ r1 ∧ Below w.heap.size w w' := by
 have hu51 := Try.underlying51
 have HR0 := Aside0.mk hr0
 have HC0 := Aside0.mk hc0
 clear hr0 hc0
 have HB := Z (Below.refl w.heap.size w)
 have H : (impl_Unparse.l0 k (([] : List Int)) l0 (l0.length : Int) 0) = some (r1, r2) := h
 clear h
 obtain ⟨y530, hy530⟩ : ∃ y_ : List Int, y_ = (([] : List Int)) := ⟨_, rfl⟩
 replace H : (impl_Unparse.l0 k y530 l0 (l0.length : Int) 0) = some (r1, r2) := by first | (rw [hy530]; with_reducible exact H) | (have H2_ := (Option.bind_some _ _).symm.trans H; rw [hy530]; with_reducible exact H2_) | (have H2_ := (Option.bind_some _ _).symm.trans H; with_reducible exact H2_) | with_reducible exact H | (rw [hy530]; exact H) | exact H
 have Ny530 := Aside0.mk hy530
 clear hy530
 have H' := Aside0.mk H
 clear H
 go_enter Try.func16, Try.ntmps16
 go_wp2_with (first | ((with_reducible refine gate_dst (N := 8) rfl ?_); (try (refine gate_guard (by rfl) ?_; dsimp only)); refine Kd.R_lit (Kd.int .u32) _ 47 (by rfl) (N := 8) (by rfl) (xs := ([] : List Int)) (inner := []) (ok := fun _ => True) (okp := fun _ => True) Z7 (Reps.none _ _) (fun _ hk => hk) trivial (Below.refl _ _) (Nat.le_refl _) (by simp) ?_; intro v531 w2 ho3 hb hg_ hnew_; clear hg_ hnew_; (first | rw [← Ny530.out] at ho3 | (simp only [Int.reduceToNat] at ho3; rw [← Ny530.out] at ho3)); have HO532 := Z (Kd.R_lower ho3 (below_size Z63)); replace HB := Z (below_step Z63 hb); clear hb ho3))
 go_loopg [4, 11] k (fun kq v4 v11 w' => ∃ (x4_1 : List Int) (x11_1 : Int), v11 = .int .i64 x11_1 ∧ Aside0 (impl_Unparse.l0 kq x4_1 l0 (l0.length : Int) x11_1 = some (r1, r2)) ∧ Aside0 (kq ≤ k) ∧ Aside0 (Kd.R (Kd.int .u32) 47 w' w.heap.size (fun _ => True) v4 x4_1) ∧ Aside0 (Below w.heap.size w w'))
 case atStart => exact ⟨(y530), (0), Z2, H', ⟨Nat.le_refl _⟩, ⟨(Z12 HO532)⟩, ⟨Z63⟩⟩
 case round =>
  clear H'
  try clear c1
  try clear p2
  obtain ⟨x4_1, x11_1, rfl, HA, HK1, HO_4, HB⟩ := hrel
  cases gk with
  | zero => exact absurd HA.out (by simp [impl_Unparse.l0])
  | succ k1 =>
   have H := HA.out
   clear HA
   simp only [impl_Unparse.l0] at H
   by_cases c4 : x11_1 < (l0.length : Int)
   ·rw [if_pos c4] at H
    have c4b0 : decide (x11_1 < (l0.length : Int)) = true := decide_eq_true c4
    clear c4
    by_cases c5 : 0 ≤ x11_1
    ·rw [if_pos c5] at H
     have c5b0 : decide (0 ≤ x11_1) = true := decide_eq_true c5
     clear c5
     by_cases c6 : x11_1 < (l0.length : Int)
     ·rw [if_pos c6] at H
      have c6b0 : decide (x11_1 < (l0.length : Int)) = true := decide_eq_true c6
      clear c6
      replace H := Option.bind_eq_some_iff.mp H
      obtain ⟨t535, A70, H⟩ := H
      replace H : (if x4_1.length + t535.length < 35184372088832 then ((some (x4_1 ++ t535 : List Int)).bind fun y538 => (if (t535.length : Int) = 0 then (some (([] : List Int), false)) else (if (y538.length : Int) > 64 then (some (([] : List Int), false)) else (impl_Unparse.l0 k1 y538 l0 (l0.length : Int) (wrap64 (x11_1 + 1)))))) else (none)) = some (r1, r2) := H
      have A7 := Aside0.mk A70
      clear A70
      by_cases c8 : x4_1.length + t535.length < 35184372088832
      ·rw [if_pos c8] at H
       have LMc8 := Aside0.mk c8
       clear c8
       obtain ⟨y538, hy538⟩ : ∃ y_ : List Int, y_ = (x4_1 ++ t535) := ⟨_, rfl⟩
       replace H : (if (t535.length : Int) = 0 then (some (([] : List Int), false)) else (if (y538.length : Int) > 64 then (some (([] : List Int), false)) else (impl_Unparse.l0 k1 y538 l0 (l0.length : Int) (wrap64 (x11_1 + 1))))) = some (r1, r2) := by first | (rw [hy538]; with_reducible exact H) | (have H2_ := (Option.bind_some _ _).symm.trans H; rw [hy538]; with_reducible exact H2_) | (have H2_ := (Option.bind_some _ _).symm.trans H; with_reducible exact H2_) | with_reducible exact H | (rw [hy538]; exact H) | exact H
       have Ny538 := Aside0.mk hy538
       clear hy538
       by_cases c9 : (t535.length : Int) = 0
       ·rw [if_pos c9] at H
        have c9b0 : ((t535.length : Int) == 0) = true := beq_iff_eq.mpr c9
        have c9b1 : ((t535.length : Int) != 0) = false := bne_eq_false_iff_eq.mpr c9
        clear c9
        simp only [Option.some.injEq, Prod.mk.injEq] at H
        obtain ⟨rfl, rfl⟩ := H
        have p533 : 0 ≤ (x11_1 : Int) := of_decide_eq_true Z5
        have q533 : x11_1 < (l0.length : Int) := of_decide_eq_true Z5
        obtain ⟨ad533, e533, hx533_0, hx533_1, hx533_2, hx533_3, hx533_4⟩ := at_T51 HR0.out x11_1 p533 q533
        cases e533
        replace hx533_0 := (HB.out.cell (World.block_lt_of_cell? w _ hx533_0)).trans hx533_0
        replace hx533_1 := (HB.out.cell (World.block_lt_of_cell? w _ hx533_1)).trans hx533_1
        replace hx533_2 := (HB.out.cell (World.block_lt_of_cell? w _ hx533_2)).trans hx533_2
        replace hx533_3 := (HB.out.cell (World.block_lt_of_cell? w _ hx533_3)).trans hx533_3
        replace hx533_4 := (HB.out.cell (World.block_lt_of_cell? w _ hx533_4)).trans hx533_4
        replace p533 := eq_true p533
        replace q533 := eq_true q533
        go_wp2_with (first | ((with_reducible refine gate_dst (N := 6) rfl ?_); (try (refine gate_guard (by rfl) ?_; dsimp only)); refine box_event (by rfl) (N := 6) (by rfl) (cs := #[.int .i64 0, .string (⟨#[]⟩ : ByteArray), .int .i32 0, .bool false, .int .u32 0]) (t := 51) Z7 ?_; intro gb534 hg w10 hbox hb; replace HO_4 := Z (Kd.R_below (Z12 HO_4) hb); have BK534 := Z (hbox); have GW534 := Z ((Z76 : w.heap.size ≤ gb534)); have GE534 := Z ((Z76 : w.heap.size ≤ gb534)); replace HB := Z (below_step Z63 hb); clear hb hbox hg; have hcz11_0 : w10.cell? ⟨gb534, 0, none⟩ = some (.int .i64 0) := (blk_cell BK534.out 0).trans rfl; have hcz11_1 : w10.cell? ⟨gb534, 1, none⟩ = some (.string (⟨#[]⟩ : ByteArray)) := (blk_cell BK534.out 1).trans rfl; have hcz11_2 : w10.cell? ⟨gb534, 2, none⟩ = some (.int .i32 0) := (blk_cell BK534.out 2).trans rfl; have hcz11_3 : w10.cell? ⟨gb534, 3, none⟩ = some (.bool false) := (blk_cell BK534.out 3).trans rfl; have hcz11_4 : w10.cell? ⟨gb534, 4, none⟩ = some (.int .u32 0) := (blk_cell BK534.out 4).trans rfl; have hfz11_0 := blk_frozen BK534.out 0; have hfz11_1 := blk_frozen BK534.out 1; have hfz11_2 := blk_frozen BK534.out 2; have hfz11_3 := blk_frozen BK534.out 3; have hfz11_4 := blk_frozen BK534.out 4) | ((with_reducible refine gate_callee (f := 43) rfl ?_); refine goesL_ (some 16) rfl rfl Try.func43 Z0 rfl #[.agg #[.int .i64 ((rd_T51 l0 x11_1).f0), .string ((rd_T51 l0 x11_1).f1), .int .i32 ((rd_T51 l0 x11_1).f2), .bool ((rd_T51 l0 x11_1).f3), .int .u32 ((rd_T51 l0 x11_1).f4)]] rfl Z10 ?_; (with_reducible refine (impl_CellsOf.calls k1 ((rd_T51 l0 x11_1).f0) ((rd_T51 l0 x11_1).f1) ((rd_T51 l0 x11_1).f2) ((rd_T51 l0 x11_1).f3) ((rd_T51 l0 x11_1).f4) t535 _ A7.out).mono ?_); rintro e w12 ⟨v536, rfl, ho0, hb⟩; refine ⟨_, rfl, ?_⟩; have HO537 := Z (Kd.R_lower (Kd.R_new' ho0 (Kd.R_lt (by (with_reducible repeat (first | apply Kd.R_alloc | apply Kd.R_drewN | apply Kd.R_drew)); exact (Kd.R_mono (Kd.R_far (p := ⟨gb534, 4, none⟩) (Kd.R_far (p := ⟨gb534, 3, none⟩) (Kd.R_far (p := ⟨gb534, 2, none⟩) (Kd.R_far (p := ⟨gb534, 1, none⟩) (Kd.R_far (p := ⟨gb534, 0, none⟩) (Kd.R_types HO_4.out BK534.out (by decide)) (fun _ hk => hk.2) (.int .i64 ((rd_T51 l0 x11_1).f0))) (fun _ hk => hk.2) (.string ((rd_T51 l0 x11_1).f1))) (fun _ hk => hk.2) (.int .i32 ((rd_T51 l0 x11_1).f2))) (fun _ hk => hk.2) (.bool ((rd_T51 l0 x11_1).f3))) (fun _ hk => hk.2) (.int .u32 ((rd_T51 l0 x11_1).f4))) (fun _ h_ => h_.1))))) (below_size Z63)); replace HO_4 := Z (Kd.R_elder' (by (with_reducible repeat (first | apply Kd.R_alloc | apply Kd.R_drewN | apply Kd.R_drew)); exact (Kd.R_mono (Kd.R_far (p := ⟨gb534, 4, none⟩) (Kd.R_far (p := ⟨gb534, 3, none⟩) (Kd.R_far (p := ⟨gb534, 2, none⟩) (Kd.R_far (p := ⟨gb534, 1, none⟩) (Kd.R_far (p := ⟨gb534, 0, none⟩) (Kd.R_types HO_4.out BK534.out (by decide)) (fun _ hk => hk.2) (.int .i64 ((rd_T51 l0 x11_1).f0))) (fun _ hk => hk.2) (.string ((rd_T51 l0 x11_1).f1))) (fun _ hk => hk.2) (.int .i32 ((rd_T51 l0 x11_1).f2))) (fun _ hk => hk.2) (.bool ((rd_T51 l0 x11_1).f3))) (fun _ hk => hk.2) (.int .u32 ((rd_T51 l0 x11_1).f4))) (fun _ h_ => h_.1))) (Kd.R_base ho0) hb); replace BK534 := Z (blk_below (g := gb534) (o := .cells #[.int .i64 ((rd_T51 l0 x11_1).f0), .string ((rd_T51 l0 x11_1).f1), .int .i32 ((rd_T51 l0 x11_1).f2), .bool ((rd_T51 l0 x11_1).f3), .int .u32 ((rd_T51 l0 x11_1).f4)] 51 (0, 0)) (Z41 BK534) hb); replace HB := Z (below_step Z63 hb); (try clear hb); (try clear hb2); (try clear hk); (try clear hi); (try clear ho0); obtain ⟨Ao14, co14, eo14⟩ := Kd.R_slice HO537.out; subst eo14) | ((with_reducible refine gate_builtin (b := .append) (xs := #[.tmp 17, .tmp 18]) rfl ?_); (try (refine gate_guard (by rfl) ?_; dsimp only)); at_builtin; refine Kd.R_append_rows (Kd.int .u32) (w0 := w) w.heap.size rfl (.tmp 17) (.tmp 18) 24 47 (.int .u32 0) 4 rfl Try.underlying24 info47 rfl (by decide) (by omega) u4 x4_1 t535 _ _ _ (fun k_ => some k_ ≠ (.slice Ao14 t535.length co14 : Value).ownBlock) (fun _ => False) rfl rfl ?aO ?aR (fun _ _ h => h) (fun _ h => h.elim) ?aF ?aB ?aS ?aL ?_; (case aR => exact (Z17 HO537)); (case aB => exact Z63); (case aF => exact (fun k_ hk => Kd.fresh' (Kd.R_lt (Z12 HO537)) k_ hk)); (case aO => exact (Z18 HO_4)); (case aS => exact (below_size Z63)); (case aL => have := LMc8.out; omega); intro v539 w13 ho hb hg hat; rw [← Ny538.out] at ho; replace BK534 := Z (blk_grown (g := gb534) (o := .cells #[.int .i64 ((rd_T51 l0 x11_1).f0), .string ((rd_T51 l0 x11_1).f1), .int .i32 ((rd_T51 l0 x11_1).f2), .bool ((rd_T51 l0 x11_1).f3), .int .u32 ((rd_T51 l0 x11_1).f4)] 51 (0, 0)) (Z8 BK534) hg (Kd.R_ne HO_4.out BK534.out (by decide))); replace HO537 := Z (Kd.R_after (ok := (fun _ => True)) (Z12 HO537) hg hat); replace HB := Z (hb); have HO540 := Z (ho); clear HO_4; clear ho hb hg hat))
        go_ret2
        exact ⟨_, Z9, Z24, Z63⟩
       ·rw [if_neg c9] at H
        have c9b0 : ((t535.length : Int) == 0) = false := beq_eq_false_iff_ne.mpr c9
        have c9b1 : ((t535.length : Int) != 0) = true := bne_iff_ne.mpr c9
        have c9b2 : ¬ (t535 = []) := fun h_ => c9 (by rw [h_]; rfl)
        by_cases c15 : (y538.length : Int) > 64
        ·rw [if_pos c15] at H
         have c15b0 : decide (64 < (y538.length : Int)) = true := decide_eq_true c15
         have c15b1 : decide (64 < y538.length) = true := decide_eq_true (by omega)
         clear c15
         simp only [Option.some.injEq, Prod.mk.injEq] at H
         obtain ⟨rfl, rfl⟩ := H
         have p533 : 0 ≤ (x11_1 : Int) := of_decide_eq_true Z5
         have q533 : x11_1 < (l0.length : Int) := of_decide_eq_true Z5
         obtain ⟨ad533, e533, hx533_0, hx533_1, hx533_2, hx533_3, hx533_4⟩ := at_T51 HR0.out x11_1 p533 q533
         cases e533
         replace hx533_0 := (HB.out.cell (World.block_lt_of_cell? w _ hx533_0)).trans hx533_0
         replace hx533_1 := (HB.out.cell (World.block_lt_of_cell? w _ hx533_1)).trans hx533_1
         replace hx533_2 := (HB.out.cell (World.block_lt_of_cell? w _ hx533_2)).trans hx533_2
         replace hx533_3 := (HB.out.cell (World.block_lt_of_cell? w _ hx533_3)).trans hx533_3
         replace hx533_4 := (HB.out.cell (World.block_lt_of_cell? w _ hx533_4)).trans hx533_4
         replace p533 := eq_true p533
         replace q533 := eq_true q533
         go_wp2_with (first | ((with_reducible refine gate_dst (N := 6) rfl ?_); (try (refine gate_guard (by rfl) ?_; dsimp only)); refine box_event (by rfl) (N := 6) (by rfl) (cs := #[.int .i64 0, .string (⟨#[]⟩ : ByteArray), .int .i32 0, .bool false, .int .u32 0]) (t := 51) Z7 ?_; intro gb534 hg w16 hbox hb; replace HO_4 := Z (Kd.R_below (Z12 HO_4) hb); have BK534 := Z (hbox); have GW534 := Z ((Z76 : w.heap.size ≤ gb534)); have GE534 := Z ((Z76 : w.heap.size ≤ gb534)); replace HB := Z (below_step Z63 hb); clear hb hbox hg; have hcz17_0 : w16.cell? ⟨gb534, 0, none⟩ = some (.int .i64 0) := (blk_cell BK534.out 0).trans rfl; have hcz17_1 : w16.cell? ⟨gb534, 1, none⟩ = some (.string (⟨#[]⟩ : ByteArray)) := (blk_cell BK534.out 1).trans rfl; have hcz17_2 : w16.cell? ⟨gb534, 2, none⟩ = some (.int .i32 0) := (blk_cell BK534.out 2).trans rfl; have hcz17_3 : w16.cell? ⟨gb534, 3, none⟩ = some (.bool false) := (blk_cell BK534.out 3).trans rfl; have hcz17_4 : w16.cell? ⟨gb534, 4, none⟩ = some (.int .u32 0) := (blk_cell BK534.out 4).trans rfl; have hfz17_0 := blk_frozen BK534.out 0; have hfz17_1 := blk_frozen BK534.out 1; have hfz17_2 := blk_frozen BK534.out 2; have hfz17_3 := blk_frozen BK534.out 3; have hfz17_4 := blk_frozen BK534.out 4) | ((with_reducible refine gate_callee (f := 43) rfl ?_); refine goesL_ (some 16) rfl rfl Try.func43 Z0 rfl #[.agg #[.int .i64 ((rd_T51 l0 x11_1).f0), .string ((rd_T51 l0 x11_1).f1), .int .i32 ((rd_T51 l0 x11_1).f2), .bool ((rd_T51 l0 x11_1).f3), .int .u32 ((rd_T51 l0 x11_1).f4)]] rfl Z10 ?_; (with_reducible refine (impl_CellsOf.calls k1 ((rd_T51 l0 x11_1).f0) ((rd_T51 l0 x11_1).f1) ((rd_T51 l0 x11_1).f2) ((rd_T51 l0 x11_1).f3) ((rd_T51 l0 x11_1).f4) t535 _ A7.out).mono ?_); rintro e w18 ⟨v536, rfl, ho0, hb⟩; refine ⟨_, rfl, ?_⟩; have HO537 := Z (Kd.R_lower (Kd.R_new' ho0 (Kd.R_lt (by (with_reducible repeat (first | apply Kd.R_alloc | apply Kd.R_drewN | apply Kd.R_drew)); exact (Kd.R_mono (Kd.R_far (p := ⟨gb534, 4, none⟩) (Kd.R_far (p := ⟨gb534, 3, none⟩) (Kd.R_far (p := ⟨gb534, 2, none⟩) (Kd.R_far (p := ⟨gb534, 1, none⟩) (Kd.R_far (p := ⟨gb534, 0, none⟩) (Kd.R_types HO_4.out BK534.out (by decide)) (fun _ hk => hk.2) (.int .i64 ((rd_T51 l0 x11_1).f0))) (fun _ hk => hk.2) (.string ((rd_T51 l0 x11_1).f1))) (fun _ hk => hk.2) (.int .i32 ((rd_T51 l0 x11_1).f2))) (fun _ hk => hk.2) (.bool ((rd_T51 l0 x11_1).f3))) (fun _ hk => hk.2) (.int .u32 ((rd_T51 l0 x11_1).f4))) (fun _ h_ => h_.1))))) (below_size Z63)); replace HO_4 := Z (Kd.R_elder' (by (with_reducible repeat (first | apply Kd.R_alloc | apply Kd.R_drewN | apply Kd.R_drew)); exact (Kd.R_mono (Kd.R_far (p := ⟨gb534, 4, none⟩) (Kd.R_far (p := ⟨gb534, 3, none⟩) (Kd.R_far (p := ⟨gb534, 2, none⟩) (Kd.R_far (p := ⟨gb534, 1, none⟩) (Kd.R_far (p := ⟨gb534, 0, none⟩) (Kd.R_types HO_4.out BK534.out (by decide)) (fun _ hk => hk.2) (.int .i64 ((rd_T51 l0 x11_1).f0))) (fun _ hk => hk.2) (.string ((rd_T51 l0 x11_1).f1))) (fun _ hk => hk.2) (.int .i32 ((rd_T51 l0 x11_1).f2))) (fun _ hk => hk.2) (.bool ((rd_T51 l0 x11_1).f3))) (fun _ hk => hk.2) (.int .u32 ((rd_T51 l0 x11_1).f4))) (fun _ h_ => h_.1))) (Kd.R_base ho0) hb); replace BK534 := Z (blk_below (g := gb534) (o := .cells #[.int .i64 ((rd_T51 l0 x11_1).f0), .string ((rd_T51 l0 x11_1).f1), .int .i32 ((rd_T51 l0 x11_1).f2), .bool ((rd_T51 l0 x11_1).f3), .int .u32 ((rd_T51 l0 x11_1).f4)] 51 (0, 0)) (Z41 BK534) hb); replace HB := Z (below_step Z63 hb); (try clear hb); (try clear hb2); (try clear hk); (try clear hi); (try clear ho0); obtain ⟨Ao20, co20, eo20⟩ := Kd.R_slice HO537.out; subst eo20) | ((with_reducible refine gate_builtin (b := .append) (xs := #[.tmp 17, .tmp 18]) rfl ?_); (try (refine gate_guard (by rfl) ?_; dsimp only)); at_builtin; refine Kd.R_append_rows (Kd.int .u32) (w0 := w) w.heap.size rfl (.tmp 17) (.tmp 18) 24 47 (.int .u32 0) 4 rfl Try.underlying24 info47 rfl (by decide) (by omega) u4 x4_1 t535 _ _ _ (fun k_ => some k_ ≠ (.slice Ao20 t535.length co20 : Value).ownBlock) (fun _ => False) rfl rfl ?aO ?aR (fun _ _ h => h) (fun _ h => h.elim) ?aF ?aB ?aS ?aL ?_; (case aR => exact (Z17 HO537)); (case aB => exact Z63); (case aF => exact (fun k_ hk => Kd.fresh' (Kd.R_lt (Z12 HO537)) k_ hk)); (case aO => exact (Z18 HO_4)); (case aS => exact (below_size Z63)); (case aL => have := LMc8.out; omega); intro v539 w19 ho hb hg hat; rw [← Ny538.out] at ho; replace BK534 := Z (blk_grown (g := gb534) (o := .cells #[.int .i64 ((rd_T51 l0 x11_1).f0), .string ((rd_T51 l0 x11_1).f1), .int .i32 ((rd_T51 l0 x11_1).f2), .bool ((rd_T51 l0 x11_1).f3), .int .u32 ((rd_T51 l0 x11_1).f4)] 51 (0, 0)) (Z8 BK534) hg (Kd.R_ne HO_4.out BK534.out (by decide))); replace HO537 := Z (Kd.R_after (ok := (fun _ => True)) (Z12 HO537) hg hat); replace HB := Z (hb); have HO540 := Z (ho); clear HO_4; clear ho hb hg hat; obtain ⟨Ao21, co21, eo21⟩ := Kd.R_slice HO540.out; subst eo21))
         go_ret2
         exact ⟨_, Z9, Z24, Z63⟩
        ·rw [if_neg c15] at H
         have c15b0 : decide (64 < (y538.length : Int)) = false := decide_eq_false c15
         have c15b1 : decide (64 < y538.length) = false := decide_eq_false (by omega)
         clear c15
         have H' := Aside0.mk H
         clear H
         have p533 : 0 ≤ (x11_1 : Int) := of_decide_eq_true Z5
         have q533 : x11_1 < (l0.length : Int) := of_decide_eq_true Z5
         obtain ⟨ad533, e533, hx533_0, hx533_1, hx533_2, hx533_3, hx533_4⟩ := at_T51 HR0.out x11_1 p533 q533
         cases e533
         replace hx533_0 := (HB.out.cell (World.block_lt_of_cell? w _ hx533_0)).trans hx533_0
         replace hx533_1 := (HB.out.cell (World.block_lt_of_cell? w _ hx533_1)).trans hx533_1
         replace hx533_2 := (HB.out.cell (World.block_lt_of_cell? w _ hx533_2)).trans hx533_2
         replace hx533_3 := (HB.out.cell (World.block_lt_of_cell? w _ hx533_3)).trans hx533_3
         replace hx533_4 := (HB.out.cell (World.block_lt_of_cell? w _ hx533_4)).trans hx533_4
         replace p533 := eq_true p533
         replace q533 := eq_true q533
         go_wp2_with (first | ((with_reducible refine gate_dst (N := 6) rfl ?_); (try (refine gate_guard (by rfl) ?_; dsimp only)); refine box_event (by rfl) (N := 6) (by rfl) (cs := #[.int .i64 0, .string (⟨#[]⟩ : ByteArray), .int .i32 0, .bool false, .int .u32 0]) (t := 51) Z7 ?_; intro gb534 hg w22 hbox hb; replace HO_4 := Z (Kd.R_below (Z12 HO_4) hb); have BK534 := Z (hbox); have GW534 := Z ((Z76 : w.heap.size ≤ gb534)); have GE534 := Z ((Z76 : w.heap.size ≤ gb534)); replace HB := Z (below_step Z63 hb); clear hb hbox hg; have hcz23_0 : w22.cell? ⟨gb534, 0, none⟩ = some (.int .i64 0) := (blk_cell BK534.out 0).trans rfl; have hcz23_1 : w22.cell? ⟨gb534, 1, none⟩ = some (.string (⟨#[]⟩ : ByteArray)) := (blk_cell BK534.out 1).trans rfl; have hcz23_2 : w22.cell? ⟨gb534, 2, none⟩ = some (.int .i32 0) := (blk_cell BK534.out 2).trans rfl; have hcz23_3 : w22.cell? ⟨gb534, 3, none⟩ = some (.bool false) := (blk_cell BK534.out 3).trans rfl; have hcz23_4 : w22.cell? ⟨gb534, 4, none⟩ = some (.int .u32 0) := (blk_cell BK534.out 4).trans rfl; have hfz23_0 := blk_frozen BK534.out 0; have hfz23_1 := blk_frozen BK534.out 1; have hfz23_2 := blk_frozen BK534.out 2; have hfz23_3 := blk_frozen BK534.out 3; have hfz23_4 := blk_frozen BK534.out 4) | ((with_reducible refine gate_callee (f := 43) rfl ?_); refine goesL_ (some 16) rfl rfl Try.func43 Z0 rfl #[.agg #[.int .i64 ((rd_T51 l0 x11_1).f0), .string ((rd_T51 l0 x11_1).f1), .int .i32 ((rd_T51 l0 x11_1).f2), .bool ((rd_T51 l0 x11_1).f3), .int .u32 ((rd_T51 l0 x11_1).f4)]] rfl Z10 ?_; (with_reducible refine (impl_CellsOf.calls k1 ((rd_T51 l0 x11_1).f0) ((rd_T51 l0 x11_1).f1) ((rd_T51 l0 x11_1).f2) ((rd_T51 l0 x11_1).f3) ((rd_T51 l0 x11_1).f4) t535 _ A7.out).mono ?_); rintro e w24 ⟨v536, rfl, ho0, hb⟩; refine ⟨_, rfl, ?_⟩; have HO537 := Z (Kd.R_lower (Kd.R_new' ho0 (Kd.R_lt (by (with_reducible repeat (first | apply Kd.R_alloc | apply Kd.R_drewN | apply Kd.R_drew)); exact (Kd.R_mono (Kd.R_far (p := ⟨gb534, 4, none⟩) (Kd.R_far (p := ⟨gb534, 3, none⟩) (Kd.R_far (p := ⟨gb534, 2, none⟩) (Kd.R_far (p := ⟨gb534, 1, none⟩) (Kd.R_far (p := ⟨gb534, 0, none⟩) (Kd.R_types HO_4.out BK534.out (by decide)) (fun _ hk => hk.2) (.int .i64 ((rd_T51 l0 x11_1).f0))) (fun _ hk => hk.2) (.string ((rd_T51 l0 x11_1).f1))) (fun _ hk => hk.2) (.int .i32 ((rd_T51 l0 x11_1).f2))) (fun _ hk => hk.2) (.bool ((rd_T51 l0 x11_1).f3))) (fun _ hk => hk.2) (.int .u32 ((rd_T51 l0 x11_1).f4))) (fun _ h_ => h_.1))))) (below_size Z63)); replace HO_4 := Z (Kd.R_elder' (by (with_reducible repeat (first | apply Kd.R_alloc | apply Kd.R_drewN | apply Kd.R_drew)); exact (Kd.R_mono (Kd.R_far (p := ⟨gb534, 4, none⟩) (Kd.R_far (p := ⟨gb534, 3, none⟩) (Kd.R_far (p := ⟨gb534, 2, none⟩) (Kd.R_far (p := ⟨gb534, 1, none⟩) (Kd.R_far (p := ⟨gb534, 0, none⟩) (Kd.R_types HO_4.out BK534.out (by decide)) (fun _ hk => hk.2) (.int .i64 ((rd_T51 l0 x11_1).f0))) (fun _ hk => hk.2) (.string ((rd_T51 l0 x11_1).f1))) (fun _ hk => hk.2) (.int .i32 ((rd_T51 l0 x11_1).f2))) (fun _ hk => hk.2) (.bool ((rd_T51 l0 x11_1).f3))) (fun _ hk => hk.2) (.int .u32 ((rd_T51 l0 x11_1).f4))) (fun _ h_ => h_.1))) (Kd.R_base ho0) hb); replace BK534 := Z (blk_below (g := gb534) (o := .cells #[.int .i64 ((rd_T51 l0 x11_1).f0), .string ((rd_T51 l0 x11_1).f1), .int .i32 ((rd_T51 l0 x11_1).f2), .bool ((rd_T51 l0 x11_1).f3), .int .u32 ((rd_T51 l0 x11_1).f4)] 51 (0, 0)) (Z41 BK534) hb); replace HB := Z (below_step Z63 hb); (try clear hb); (try clear hb2); (try clear hk); (try clear hi); (try clear ho0); obtain ⟨Ao26, co26, eo26⟩ := Kd.R_slice HO537.out; subst eo26) | ((with_reducible refine gate_builtin (b := .append) (xs := #[.tmp 17, .tmp 18]) rfl ?_); (try (refine gate_guard (by rfl) ?_; dsimp only)); at_builtin; refine Kd.R_append_rows (Kd.int .u32) (w0 := w) w.heap.size rfl (.tmp 17) (.tmp 18) 24 47 (.int .u32 0) 4 rfl Try.underlying24 info47 rfl (by decide) (by omega) u4 x4_1 t535 _ _ _ (fun k_ => some k_ ≠ (.slice Ao26 t535.length co26 : Value).ownBlock) (fun _ => False) rfl rfl ?aO ?aR (fun _ _ h => h) (fun _ h => h.elim) ?aF ?aB ?aS ?aL ?_; (case aR => exact (Z17 HO537)); (case aB => exact Z63); (case aF => exact (fun k_ hk => Kd.fresh' (Kd.R_lt (Z12 HO537)) k_ hk)); (case aO => exact (Z18 HO_4)); (case aS => exact (below_size Z63)); (case aL => have := LMc8.out; omega); intro v539 w25 ho hb hg hat; rw [← Ny538.out] at ho; replace BK534 := Z (blk_grown (g := gb534) (o := .cells #[.int .i64 ((rd_T51 l0 x11_1).f0), .string ((rd_T51 l0 x11_1).f1), .int .i32 ((rd_T51 l0 x11_1).f2), .bool ((rd_T51 l0 x11_1).f3), .int .u32 ((rd_T51 l0 x11_1).f4)] 51 (0, 0)) (Z8 BK534) hg (Kd.R_ne HO_4.out BK534.out (by decide))); replace HO537 := Z (Kd.R_after (ok := (fun _ => True)) (Z12 HO537) hg hat); replace HB := Z (hb); have HO540 := Z (ho); clear HO_4; clear ho hb hg hat; obtain ⟨Ao27, co27, eo27⟩ := Kd.R_slice HO540.out; subst eo27))
         go_roundg k1
         case measure => have := HK1.out; omega
         case rel => exact ⟨(y538), (wrap64 (x11_1 + 1)), Z2, H', ⟨Z6⟩, ⟨(Z16 HO540)⟩, ⟨Z63⟩⟩
      ·rw [if_neg c8] at H
       exact absurd H (by simp)
     ·rw [if_neg c6] at H
      exact absurd H (by simp)
    ·rw [if_neg c5] at H
     exact absurd H (by simp)
   ·rw [if_neg c4] at H
    have c4b0 : decide (x11_1 < (l0.length : Int)) = false := decide_eq_false c4
    clear c4
    simp only [Option.some.injEq, Prod.mk.injEq] at H
    obtain ⟨rfl, rfl⟩ := H
    go_wp2
    go_ret2
    exact ⟨_, Z9, (Z12 HO_4), Z63⟩

/-! ### spec_l04Kind: function 93 -/
def spec_l04Kind.l0 : Nat → Int → Int → Option (Int)
 | 0, _, _ => none
 | k + 1, x0, x3 => if x3 ≤ 6 then ((spec_l04Tag.f x3).bind fun t541 => (if t541 = x0 then (some x3) else (spec_l04Kind.l0 k x0 (wrap64 (x3 + 1))))) else (some (-1))
def spec_l04Kind.f (k : Nat) (a0 : Int) : Option (Int) := spec_l04Kind.l0 k a0 1
theorem spec_l04Kind.mono_l : ∀ k, (∀ y0 y1, LeO (spec_l04Kind.l0 k y0 y1) (spec_l04Kind.l0 (k + 1) y0 y1))
 | 0 => fun _ _ r h => by simp [spec_l04Kind.l0] at h
 | k + 1 => by
  have ih0 := spec_l04Kind.mono_l k
  ·intro y0 y1
   unfold spec_l04Kind.l0
   repeat' first
   | (with_reducible exact ih0 _ _)
   | (with_reducible exact LeO.refl _)
   | (with_reducible exact LeO.none _)
   | (with_reducible refine LeO.ite ?_ ?_)
   | (with_reducible refine LeO.bind ?_ (fun _ => ?_))
   | exact ih0 _ _
   | exact LeO.none _
   | refine LeO.ite ?_ ?_
   | refine LeO.bind ?_ (fun _ => ?_)
theorem spec_l04Kind.mono : ∀ a0 k, LeO (spec_l04Kind.f k a0) (spec_l04Kind.f (k + 1) a0) := by
 intro a0 k
 have ih0 := spec_l04Kind.mono_l k
 unfold spec_l04Kind.f
 repeat' first
   | (with_reducible exact ih0 _ _)
   | (with_reducible exact LeO.refl _)
   | (with_reducible exact LeO.none _)
   | (with_reducible refine LeO.ite ?_ ?_)
   | (with_reducible refine LeO.bind ?_ (fun _ => ?_))
   | exact ih0 _ _
   | exact LeO.none _
   | refine LeO.ite ?_ ?_
   | refine LeO.bind ?_ (fun _ => ?_)
set_option maxHeartbeats 8000000 in
set_option maxRecDepth 100000 in
theorem spec_l04Kind.calls (k : Nat) (a0 : Int) (r : Int) (w : World) (h : spec_l04Kind.f k a0 = some r) :
  Calls Try.prog 93 #[.int .u32 a0] w fun e w' => e = .returned (.int .i64 r) ∧ Drawn0 w w' := by
 have H : (spec_l04Kind.l0 k a0 1) = some r := h
 clear h
 have H' := Aside0.mk H
 clear H
 go_enter Try.func93, Try.ntmps93
 go_wp2
 go_loopg [3] k (fun kq v3 w' => ∃ (x3_1 : Int), v3 = .int .i64 x3_1 ∧ Aside0 (spec_l04Kind.l0 kq a0 x3_1 = some r) ∧ Aside0 (kq ≤ k) ∧ Drawn0 w w')
 case atStart => exact ⟨(1), Z2, H', ⟨Nat.le_refl _⟩, Z3⟩
 case round =>
  clear H'
  obtain ⟨x3_1, rfl, HA, HK1, ⟨m1, rfl⟩⟩ := hrel
  cases gk with
  | zero => exact absurd HA.out (by simp [spec_l04Kind.l0])
  | succ k1 =>
   have H := HA.out
   clear HA
   simp only [spec_l04Kind.l0] at H
   by_cases c2 : x3_1 ≤ 6
   ·rw [if_pos c2] at H
    have c2b0 : decide (x3_1 ≤ 6) = true := decide_eq_true c2
    clear c2
    replace H := Option.bind_eq_some_iff.mp H
    obtain ⟨t541, A30, H⟩ := H
    replace H : (if t541 = a0 then (some x3_1) else (spec_l04Kind.l0 k1 a0 (wrap64 (x3_1 + 1)))) = some r := H
    have A3 := Aside0.mk A30
    clear A30
    by_cases c4 : t541 = a0
    ·rw [if_pos c4] at H
     have c4b0 : (t541 == a0) = true := beq_iff_eq.mpr c4
     have c4b1 : (t541 != a0) = false := bne_eq_false_iff_eq.mpr c4
     clear c4
     obtain rfl := Option.some.inj H
     go_wp2_with (first | ((with_reducible refine gate_callee (f := 110) rfl ?_); refine goesL_ (some 9) rfl rfl Try.func110 Z0 rfl #[.int .i64 x3_1] rfl Z10 ?_; (with_reducible refine (spec_l04Tag.calls x3_1 t541 _ A3.out).mono ?_); rintro e w' ⟨rfl, ⟨nd, rfl⟩⟩; refine ⟨_, rfl, ?_⟩))
     go_ret
     exact ⟨Z2, Z3⟩
    ·rw [if_neg c4] at H
     have c4b0 : (t541 == a0) = false := beq_eq_false_iff_ne.mpr c4
     have c4b1 : (t541 != a0) = true := bne_iff_ne.mpr c4
     have H' := Aside0.mk H
     clear H
     go_wp2_with (first | ((with_reducible refine gate_callee (f := 110) rfl ?_); refine goesL_ (some 9) rfl rfl Try.func110 Z0 rfl #[.int .i64 x3_1] rfl Z10 ?_; (with_reducible refine (spec_l04Tag.calls x3_1 t541 _ A3.out).mono ?_); rintro e w' ⟨rfl, ⟨nd, rfl⟩⟩; refine ⟨_, rfl, ?_⟩))
     go_roundg k1
     case measure => have := HK1.out; omega
     case rel => exact ⟨(wrap64 (x3_1 + 1)), Z2, H', ⟨Z6⟩, Z3⟩
   ·rw [if_neg c2] at H
    have c2b0 : decide (x3_1 ≤ 6) = false := decide_eq_false c2
    clear c2
    obtain rfl := Option.some.inj H
    go_wp2
    go_ret
    exact ⟨Z2, Z3⟩

/-! ### spec_Decode: function 117 -/
def spec_Decode.l0 : Nat → Int → Int → Int → Option (Int × Int)
 | 0, _, _, _ => none
 | k + 1, x0, x1, x6 => if x6 < 48 then ((spec_WidthOf.f x6).bind fun t543 => (if t543 > x1 then (spec_Decode.l0 k x0 x1 (wrap64 (x6 + 1))) else (if 0 ≤ (IntKind.u64.wrap (x1)) then (if 0 ≤ (IntKind.u64.wrap (wrap64 (x1 - t543))) then ((spec_BitsOf.f x6).bind fun t544 => (if (shr .i64 (Go.bits .and .i64 (wrap64 (x0)) (wrap64 ((shl .i64 1 (IntKind.u64.wrap (x1))) - 1))) (IntKind.u64.wrap (wrap64 (x1 - t543)))) = (wrap64 (t544)) then (some (x6, t543)) else (spec_Decode.l0 k x0 x1 (wrap64 (x6 + 1))))) else (none)) else (none)))) else (some ((-1), 0))
def spec_Decode.f (k : Nat) (a0 : Int) (a1 : Int) : Option (Int × Int) := (spec_l01In.f a1 1 32).bind fun t542 => (if t542 = true then (spec_Decode.l0 k a0 a1 0) else (some ((-1), 0)))
theorem spec_Decode.mono_l : ∀ k, (∀ y0 y1 y2, LeO (spec_Decode.l0 k y0 y1 y2) (spec_Decode.l0 (k + 1) y0 y1 y2))
 | 0 => fun _ _ _ r h => by simp [spec_Decode.l0] at h
 | k + 1 => by
  have ih0 := spec_Decode.mono_l k
  ·intro y0 y1 y2
   unfold spec_Decode.l0
   repeat' first
   | (with_reducible exact ih0 _ _ _)
   | (with_reducible exact LeO.refl _)
   | (with_reducible exact LeO.none _)
   | (with_reducible refine LeO.ite ?_ ?_)
   | (with_reducible refine LeO.bind ?_ (fun _ => ?_))
   | exact ih0 _ _ _
   | exact LeO.none _
   | refine LeO.ite ?_ ?_
   | refine LeO.bind ?_ (fun _ => ?_)
theorem spec_Decode.mono : ∀ a0 a1 k, LeO (spec_Decode.f k a0 a1) (spec_Decode.f (k + 1) a0 a1) := by
 intro a0 a1 k
 have ih0 := spec_Decode.mono_l k
 unfold spec_Decode.f
 repeat' first
   | (with_reducible exact ih0 _ _ _)
   | (with_reducible exact LeO.refl _)
   | (with_reducible exact LeO.none _)
   | (with_reducible refine LeO.ite ?_ ?_)
   | (with_reducible refine LeO.bind ?_ (fun _ => ?_))
   | exact ih0 _ _ _
   | exact LeO.none _
   | refine LeO.ite ?_ ?_
   | refine LeO.bind ?_ (fun _ => ?_)
set_option maxHeartbeats 8000000 in
set_option maxRecDepth 100000 in
theorem spec_Decode.calls (k : Nat) (a0 : Int) (a1 : Int) (r1 : Int) (r2 : Int) (w : World) (h : spec_Decode.f k a0 a1 = some (r1, r2)) :
  Calls Try.prog 117 #[.int .u32 a0, .int .i64 a1] w fun e w' => e = .returned (.tuple #[.int .i64 r1, .int .i64 r2]) ∧ Drawn0 w w' := by
 have H : ((spec_l01In.f a1 1 32).bind fun t542 => (if t542 = true then (spec_Decode.l0 k a0 a1 0) else (some ((-1), 0)))) = some (r1, r2) := h
 clear h
 replace H := Option.bind_eq_some_iff.mp H
 obtain ⟨t542, A30, H⟩ := H
 replace H : (if t542 = true then (spec_Decode.l0 k a0 a1 0) else (some ((-1), 0))) = some (r1, r2) := H
 have A3 := Aside0.mk A30
 clear A30
 by_cases c4 : t542 = true
 ·subst c4
  have H1 : (spec_Decode.l0 k a0 a1 0) = some (r1, r2) := Z11
  clear H
  have H := H1
  clear H1
  have H' := Aside0.mk H
  clear H
  go_enter Try.func117, Try.ntmps117
  go_wp2_with (first | ((with_reducible refine gate_callee (f := 68) rfl ?_); refine goesL_ (some 10) rfl rfl Try.func68 Z0 rfl #[.int .i64 a1, .int .i64 1, .int .i64 32] rfl Z10 ?_; (with_reducible refine (spec_l01In.calls a1 1 32 true _ A3.out).mono ?_); rintro e w' ⟨rfl, ⟨nd, rfl⟩⟩; refine ⟨_, rfl, ?_⟩))
  go_loopg [6] k (fun kq v6 w' => ∃ (x6_1 : Int), v6 = .int .i64 x6_1 ∧ Aside0 (spec_Decode.l0 kq a0 a1 x6_1 = some (r1, r2)) ∧ Aside0 (kq ≤ k) ∧ Drawn0 w w')
  case atStart => exact ⟨(0), Z2, H', ⟨Nat.le_refl _⟩, Z3⟩
  case round =>
   clear H'
   try clear c1
   try clear p2
   try clear c4
   obtain ⟨x6_1, rfl, HA, HK1, ⟨m1, rfl⟩⟩ := hrel
   cases gk with
   | zero => exact absurd HA.out (by simp [spec_Decode.l0])
   | succ k1 =>
    have H := HA.out
    clear HA
    simp only [spec_Decode.l0] at H
    by_cases c5 : x6_1 < 48
    ·rw [if_pos c5] at H
     have c5b0 : decide (x6_1 < 48) = true := decide_eq_true c5
     clear c5
     replace H := Option.bind_eq_some_iff.mp H
     obtain ⟨t543, A60, H⟩ := H
     replace H : (if t543 > a1 then (spec_Decode.l0 k1 a0 a1 (wrap64 (x6_1 + 1))) else (if 0 ≤ (IntKind.u64.wrap (a1)) then (if 0 ≤ (IntKind.u64.wrap (wrap64 (a1 - t543))) then ((spec_BitsOf.f x6_1).bind fun t544 => (if (shr .i64 (Go.bits .and .i64 (wrap64 (a0)) (wrap64 ((shl .i64 1 (IntKind.u64.wrap (a1))) - 1))) (IntKind.u64.wrap (wrap64 (a1 - t543)))) = (wrap64 (t544)) then (some (x6_1, t543)) else (spec_Decode.l0 k1 a0 a1 (wrap64 (x6_1 + 1))))) else (none)) else (none))) = some (r1, r2) := H
     have A6 := Aside0.mk A60
     clear A60
     by_cases c7 : t543 > a1
     ·rw [if_pos c7] at H
      have c7b0 : decide (a1 < t543) = true := decide_eq_true c7
      clear c7
      have H' := Aside0.mk H
      clear H
      go_wp2_with (first | ((with_reducible refine gate_callee (f := 128) rfl ?_); refine goesL_ (some 17) rfl rfl Try.func128 Z0 rfl #[.int .i64 x6_1] rfl Z10 ?_; (with_reducible refine (spec_WidthOf.calls x6_1 t543 _ A6.out).mono ?_); rintro e w' ⟨rfl, ⟨nd, rfl⟩⟩; refine ⟨_, rfl, ?_⟩))
      go_roundg k1
      case measure => have := HK1.out; omega
      case rel => exact ⟨(wrap64 (x6_1 + 1)), Z2, H', ⟨Z6⟩, Z3⟩
     ·rw [if_neg c7] at H
      have c7b0 : decide (a1 < t543) = false := decide_eq_false c7
      clear c7
      obtain ⟨ji8, hji8⟩ : ∃ j_ : Int, (IntKind.u64.wrap (a1)) = j_ := ⟨_, rfl⟩
      replace H : (if 0 ≤ (ji8) then (if 0 ≤ (IntKind.u64.wrap (wrap64 (a1 - t543))) then ((spec_BitsOf.f x6_1).bind fun t544 => (if (shr .i64 (Go.bits .and .i64 (wrap64 (a0)) (wrap64 ((shl .i64 1 (ji8)) - 1))) (IntKind.u64.wrap (wrap64 (a1 - t543)))) = (wrap64 (t544)) then (some (x6_1, t543)) else (spec_Decode.l0 k1 a0 a1 (wrap64 (x6_1 + 1))))) else (none)) else (none)) = some (r1, r2) := Z27
      (try rw [hji8] at A6)
      by_cases c9 : 0 ≤ (ji8)
      ·rw [if_pos c9] at H
       have c9b0 := eq_true c9
       have c9b1 : decide (0 ≤ (ji8)) = true := decide_eq_true c9
       clear c9
       obtain ⟨ji10, hji10⟩ : ∃ j_ : Int, (shl .i64 1 (ji8)) = j_ := ⟨_, rfl⟩
       replace H : (if 0 ≤ (IntKind.u64.wrap (wrap64 (a1 - t543))) then ((spec_BitsOf.f x6_1).bind fun t544 => (if (shr .i64 (Go.bits .and .i64 (wrap64 (a0)) (wrap64 ((ji10) - 1))) (IntKind.u64.wrap (wrap64 (a1 - t543)))) = (wrap64 (t544)) then (some (x6_1, t543)) else (spec_Decode.l0 k1 a0 a1 (wrap64 (x6_1 + 1))))) else (none)) = some (r1, r2) := Z28
       (try rw [hji10] at A6)
       have hji10_ : (IntKind.i64.wrap (1 * 2 ^ min (ji8).toNat 64)) = ji10 := hji10
       have hji10z : (ji8) ≤ 64 → (IntKind.i64.wrap (1 * 2 ^ (ji8).toNat)) = ji10 := shl_small hji10
       have hji10u : (IntKind.i64.wrap (2 ^ min (ji8).toNat 64)) = ji10 := by have h_ := hji10_; rw [Int.one_mul] at h_; exact h_
       have hji10v : (ji8) ≤ 64 → (IntKind.i64.wrap (2 ^ (ji8).toNat)) = ji10 := fun hle_ => by have h_ := hji10z hle_; rw [Int.one_mul] at h_; exact h_
       have hji10y : (wrap64 (1 * 2 ^ min (ji8).toNat 64)) = ji10 := (i64_w _).symm.trans hji10_
       have hji10x : (ji8) ≤ 64 → (wrap64 (1 * 2 ^ (ji8).toNat)) = ji10 := fun h_ => (i64_w _).symm.trans (hji10z h_)
       obtain ⟨ji11, hji11⟩ : ∃ j_ : Int, (IntKind.u64.wrap (wrap64 (a1 - t543))) = j_ := ⟨_, rfl⟩
       replace H : (if 0 ≤ (ji11) then ((spec_BitsOf.f x6_1).bind fun t544 => (if (shr .i64 (Go.bits .and .i64 (wrap64 (a0)) (wrap64 ((ji10) - 1))) (ji11)) = (wrap64 (t544)) then (some (x6_1, t543)) else (spec_Decode.l0 k1 a0 a1 (wrap64 (x6_1 + 1))))) else (none)) = some (r1, r2) := Z14
       (try rw [hji11] at A6)
       by_cases c12 : 0 ≤ (ji11)
       ·rw [if_pos c12] at H
        have c12b0 := eq_true c12
        have c12b1 : decide (0 ≤ (ji11)) = true := decide_eq_true c12
        clear c12
        obtain ⟨ji13, hji13⟩ : ∃ j_ : Int, (shr .i64 (Go.bits .and .i64 (wrap64 (a0)) (wrap64 ((ji10) - 1))) (ji11)) = j_ := ⟨_, rfl⟩
        replace H : ((spec_BitsOf.f x6_1).bind fun t544 => (if (ji13) = (wrap64 (t544)) then (some (x6_1, t543)) else (spec_Decode.l0 k1 a0 a1 (wrap64 (x6_1 + 1))))) = some (r1, r2) := Z20
        (try rw [hji13] at A6)
        have hji13_ : ((Go.bits .and .i64 (wrap64 (a0)) (wrap64 ((ji10) - 1))) / 2 ^ min (ji11).toNat 64) = ji13 := hji13
        have hji13z : (ji11) ≤ 64 → ((Go.bits .and .i64 (wrap64 (a0)) (wrap64 ((ji10) - 1))) / 2 ^ (ji11).toNat) = ji13 := shr_small hji13
        replace H := Option.bind_eq_some_iff.mp H
        obtain ⟨t544, A140, H⟩ := H
        replace H : (if (ji13) = (wrap64 (t544)) then (some (x6_1, t543)) else (spec_Decode.l0 k1 a0 a1 (wrap64 (x6_1 + 1)))) = some (r1, r2) := H
        have A14 := Aside0.mk A140
        clear A140
        by_cases c15 : (ji13) = (wrap64 (t544))
        ·rw [if_pos c15] at H
         have c15b0 : ((ji13) == (wrap64 (t544))) = true := beq_iff_eq.mpr c15
         have c15b1 : ((ji13) != (wrap64 (t544))) = false := bne_eq_false_iff_eq.mpr c15
         clear c15
         simp only [Option.some.injEq, Prod.mk.injEq] at H
         obtain ⟨rfl, rfl⟩ := H
         go_wp2_with (first | ((with_reducible refine gate_callee (f := 128) rfl ?_); refine goesL_ (some 17) rfl rfl Try.func128 Z0 rfl #[.int .i64 x6_1] rfl Z10 ?_; (with_reducible refine (spec_WidthOf.calls x6_1 t543 _ A6.out).mono ?_); rintro e w' ⟨rfl, ⟨nd, rfl⟩⟩; refine ⟨_, rfl, ?_⟩) | ((with_reducible refine gate_callee (f := 129) rfl ?_); refine goesL_ (some 35) rfl rfl Try.func129 Z0 rfl #[.int .i64 x6_1] rfl Z10 ?_; (with_reducible refine (spec_BitsOf.calls x6_1 t544 _ A14.out).mono ?_); rintro e w' ⟨rfl, ⟨nd, rfl⟩⟩; refine ⟨_, rfl, ?_⟩))
         go_ret2
         exact ⟨by first | rfl | (simp; done) | (simp only [← hji8, ← hji10, ← hji11, ← hji13] <;> (first | rfl | simp)) | (simp [*]; done), Z3⟩
        ·rw [if_neg c15] at H
         have c15b0 : ((ji13) == (wrap64 (t544))) = false := beq_eq_false_iff_ne.mpr c15
         have c15b1 : ((ji13) != (wrap64 (t544))) = true := bne_iff_ne.mpr c15
         have H' := Aside0.mk H
         clear H
         go_wp2_with (first | ((with_reducible refine gate_callee (f := 128) rfl ?_); refine goesL_ (some 17) rfl rfl Try.func128 Z0 rfl #[.int .i64 x6_1] rfl Z10 ?_; (with_reducible refine (spec_WidthOf.calls x6_1 t543 _ A6.out).mono ?_); rintro e w' ⟨rfl, ⟨nd, rfl⟩⟩; refine ⟨_, rfl, ?_⟩) | ((with_reducible refine gate_callee (f := 129) rfl ?_); refine goesL_ (some 35) rfl rfl Try.func129 Z0 rfl #[.int .i64 x6_1] rfl Z10 ?_; (with_reducible refine (spec_BitsOf.calls x6_1 t544 _ A14.out).mono ?_); rintro e w' ⟨rfl, ⟨nd, rfl⟩⟩; refine ⟨_, rfl, ?_⟩))
         go_roundg k1
         case measure => have := HK1.out; omega
         case rel => exact ⟨(wrap64 (x6_1 + 1)), Z2, H', ⟨Z6⟩, Z3⟩
       ·rw [if_neg c12] at H
        exact absurd H (by simp)
      ·rw [if_neg c9] at H
       exact absurd H (by simp)
    ·rw [if_neg c5] at H
     have c5b0 : decide (x6_1 < 48) = false := decide_eq_false c5
     clear c5
     simp only [Option.some.injEq, Prod.mk.injEq] at H
     obtain ⟨rfl, rfl⟩ := H
     go_wp2
     go_ret2
     exact ⟨Z2, Z3⟩
 ·replace c4 := Bool.eq_false_iff.mpr c4
  subst c4
  have H1 : (some ((-1), 0)) = some (r1, r2) := by rw [if_neg (show ¬ (false = true) by decide)] at H; exact H
  clear H
  have H := H1
  clear H1
  simp only [Option.some.injEq, Prod.mk.injEq] at H
  obtain ⟨rfl, rfl⟩ := H
  go_enter Try.func117, Try.ntmps117
  go_wp2_with (first | ((with_reducible refine gate_callee (f := 68) rfl ?_); refine goesL_ (some 10) rfl rfl Try.func68 Z0 rfl #[.int .i64 a1, .int .i64 1, .int .i64 32] rfl Z10 ?_; (with_reducible refine (spec_l01In.calls a1 1 32 false _ A3.out).mono ?_); rintro e w' ⟨rfl, ⟨nd, rfl⟩⟩; refine ⟨_, rfl, ?_⟩))
  go_ret2
  exact ⟨Z2, Z3⟩

end Go.Proofs.Ytkkiibjnpkjijaa.QFnCells
