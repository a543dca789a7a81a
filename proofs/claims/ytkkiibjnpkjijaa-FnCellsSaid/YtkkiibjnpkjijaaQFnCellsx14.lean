/-
Plain functions for the Go functions that a law reaches, each with a proof that the translation's call comes to just that; no conditions beyond those written in each.
-/
import Derived.Test.YtkkiibjnpkjijaaSFnCells
import Derived.Test.YtkkiibjnpkjijaaQFnCellsx1
import Derived.Test.YtkkiibjnpkjijaaQFnCellsx10
import Derived.Test.YtkkiibjnpkjijaaQFnCellsx13
namespace Go.Proofs.Ytkkiibjnpkjijaa.QFnCells
open Go.RowKit Go.Proofs.YtkkiibjnpkjijaaW.PrintWords Go.Proofs.YtkkiibjnpkjijaaW.PrintLast Go.Proofs.YtkkiibjnpkjijaaW.PrintMore
attribute [local go_sem] max2_int min2_int max_two min_two max_three min_three max_four min_four   -- for this text's walks alone
set_option linter.unusedVariables false
set_option linter.unusedSimpArgs false

attribute [local go_sem high] eqA51
/-! ### spec_ParseCells: function 17 -/
mutual
def spec_ParseCells.l0 : Nat → List Int → List (S51) → Int → Option ((List (S51)))
 | 0, _, _, _ => none
 | k + 1, x0, x3, x4 => if x4 < (x0.length : Int) then ((spec_l04Item.f k x0 x4).bind fun bt621 => (if x3.length < 3518437208883 then (spec_ParseCells.l0 k x0 (x3 ++ [(⟨bt621.1, bt621.2.1, bt621.2.2.1, bt621.2.2.2.1, bt621.2.2.2.2.1⟩ : S51)]) (wrap64 (x4 + bt621.2.2.2.2.2))) else (none))) else (spec_ParseCells.l1 k x3)
def spec_ParseCells.l1 : Nat → List (S51) → Option ((List (S51)))
 | 0, _ => none
 | k + 1, x3 => if (x3.length : Int) > 0 then (if 0 ≤ (wrap64 ((x3.length : Int) - 1)) then (if (wrap64 ((x3.length : Int) - 1)) < (x3.length : Int) then (if (((rd_T51 x3 (wrap64 ((x3.length : Int) - 1))).f0) == 0 && ((((rd_T51 x3 (wrap64 ((x3.length : Int) - 1))).f1).toList) == ([] : List UInt8) && (((rd_T51 x3 (wrap64 ((x3.length : Int) - 1))).f2) == 0 && (!((rd_T51 x3 (wrap64 ((x3.length : Int) - 1))).f3) && (((rd_T51 x3 (wrap64 ((x3.length : Int) - 1))).f4) == 0))))) = true then (if (wrap64 ((x3.length : Int) - 1)) ≤ (x3.length : Int) then (spec_ParseCells.l1 k (x3.take ((wrap64 ((x3.length : Int) - 1)) : Int).toNat)) else (none)) else (some x3)) else (none)) else (none)) else (some x3)
end
def spec_ParseCells.f (k : Nat) (l0 : List Int) : Option ((List (S51))) := (some (([] : List (S51)) : List (S51))).bind fun y618 => (if (l0.length : Int) > 64 then (some y618) else (spec_ParseCells.l0 k l0 y618 0))
theorem spec_ParseCells.mono_l : ∀ k, (∀ y0 y1 y2, LeO (spec_ParseCells.l0 k y0 y1 y2) (spec_ParseCells.l0 (k + 1) y0 y1 y2)) ∧ (∀ y0, LeO (spec_ParseCells.l1 k y0) (spec_ParseCells.l1 (k + 1) y0))
 | 0 => ⟨fun _ _ _ r h => by simp [spec_ParseCells.l0] at h, fun _ r h => by simp [spec_ParseCells.l1] at h⟩
 | k + 1 => by
  obtain ⟨ih0, ih1⟩ := spec_ParseCells.mono_l k
  refine ⟨?_, ?_⟩
  ·intro y0 y1 y2
   unfold spec_ParseCells.l0
   repeat' first
   | (with_reducible exact ih0 _ _ _)
   | (with_reducible exact ih1 _)
   | (with_reducible exact spec_l04Item.mono _ _ _)
   | (with_reducible exact LeO.refl _)
   | (with_reducible exact LeO.none _)
   | (with_reducible refine LeO.ite ?_ ?_)
   | (with_reducible refine LeO.bind ?_ (fun _ => ?_))
   | exact ih0 _ _ _
   | exact ih1 _
   | exact spec_l04Item.mono _ _ _
   | exact LeO.none _
   | refine LeO.ite ?_ ?_
   | refine LeO.bind ?_ (fun _ => ?_)
  ·intro y0
   unfold spec_ParseCells.l1
   repeat' first
   | (with_reducible exact ih0 _ _ _)
   | (with_reducible exact ih1 _)
   | (with_reducible exact spec_l04Item.mono _ _ _)
   | (with_reducible exact LeO.refl _)
   | (with_reducible exact LeO.none _)
   | (with_reducible refine LeO.ite ?_ ?_)
   | (with_reducible refine LeO.bind ?_ (fun _ => ?_))
   | exact ih0 _ _ _
   | exact ih1 _
   | exact spec_l04Item.mono _ _ _
   | exact LeO.none _
   | refine LeO.ite ?_ ?_
   | refine LeO.bind ?_ (fun _ => ?_)
theorem spec_ParseCells.mono : ∀ a0 k, LeO (spec_ParseCells.f k a0) (spec_ParseCells.f (k + 1) a0) := by
 intro a0 k
 obtain ⟨ih0, ih1⟩ := spec_ParseCells.mono_l k
 unfold spec_ParseCells.f
 repeat' first
   | (with_reducible exact ih0 _ _ _)
   | (with_reducible exact ih1 _)
   | (with_reducible exact spec_l04Item.mono _ _ _)
   | (with_reducible exact LeO.refl _)
   | (with_reducible exact LeO.none _)
   | (with_reducible refine LeO.ite ?_ ?_)
   | (with_reducible refine LeO.bind ?_ (fun _ => ?_))
   | exact ih0 _ _ _
   | exact ih1 _
   | exact spec_l04Item.mono _ _ _
   | exact LeO.none _
   | refine LeO.ite ?_ ?_
   | refine LeO.bind ?_ (fun _ => ?_)
set_option maxHeartbeats 8000000 in
set_option maxRecDepth 100000 in
theorem spec_ParseCells.calls (k : Nat) (A0 : Option Addr) (c0 : Nat) (l0 : List Int) (r : List (S51)) (w : World) (hr0 : Kd.C (Kd.int .u32) w A0 l0.length l0) (hc0 : l0.length ≤ c0) (h : spec_ParseCells.f k l0 = some r) :
  Calls Try.prog 17 #[.slice A0 l0.length c0] w fun e w' => ∃ v0_ : Value, e = .returned (v0_) ∧ Kd.R k51 51 w' w.heap.size (fun _ => True) v0_ r ∧ Below w.heap.size w w' := by
 have hu51 := Try.underlying51
 have HR0 := Aside0.mk hr0
 have HC0 := Aside0.mk hc0
 clear hr0 hc0
 have HB := Z (Below.refl w.heap.size w)
 have H : ((some (([] : List (S51)) : List (S51))).bind fun y618 => (if (l0.length : Int) > 64 then (some y618) else (spec_ParseCells.l0 k l0 y618 0))) = some r := h
 clear h
 obtain ⟨y618, hy618⟩ : ∃ y_ : List (S51), y_ = (([] : List (S51))) := ⟨_, rfl⟩
 replace H : (if (l0.length : Int) > 64 then (some y618) else (spec_ParseCells.l0 k l0 y618 0)) = some r := by first | (rw [hy618]; with_reducible exact H) | (have H2_ := (Option.bind_some _ _).symm.trans H; rw [hy618]; with_reducible exact H2_) | (have H2_ := (Option.bind_some _ _).symm.trans H; with_reducible exact H2_) | with_reducible exact H | (rw [hy618]; exact H) | exact H
 have Ny618 := Aside0.mk hy618
 clear hy618
 by_cases c2 : (l0.length : Int) > 64
 ·rw [if_pos c2] at H
  have c2b0 : decide (64 < (l0.length : Int)) = true := decide_eq_true c2
  have c2b1 : decide (64 < l0.length) = true := decide_eq_true (by omega)
  clear c2
  obtain rfl := Option.some.inj H
  go_enter Try.func17, Try.ntmps17
  go_wp2_with (first | ((with_reducible refine gate_dst (N := 7) rfl ?_); (try (refine gate_guard (by rfl) ?_; dsimp only)); refine Kd.R_lit k51 _ 51 (by rfl) (N := 7) (by rfl) (xs := ([] : List (S51))) (inner := []) (ok := fun _ => True) (okp := fun _ => True) Z7 (Reps.none _ _) (fun _ hk => hk) trivial (Below.refl _ _) (Nat.le_refl _) (by simp) ?_; intro v619 w3 ho4 hb hg_ hnew_; clear hg_ hnew_; (first | rw [← Ny618.out] at ho4 | (simp only [Int.reduceToNat] at ho4; rw [← Ny618.out] at ho4)); have HO620 := Z (Kd.R_lower ho4 (below_size Z63)); replace HB := Z (below_step Z63 hb); clear hb ho4))
  go_ret
  exact ⟨_, Z9, (Z12 HO620), Z63⟩
 ·rw [if_neg c2] at H
  have c2b0 : decide (64 < (l0.length : Int)) = false := decide_eq_false c2
  have c2b1 : decide (64 < l0.length) = false := decide_eq_false (by omega)
  clear c2
  have H' := Aside0.mk H
  clear H
  go_enter Try.func17, Try.ntmps17
  go_wp2_with (first | ((with_reducible refine gate_dst (N := 7) rfl ?_); (try (refine gate_guard (by rfl) ?_; dsimp only)); refine Kd.R_lit k51 _ 51 (by rfl) (N := 7) (by rfl) (xs := ([] : List (S51))) (inner := []) (ok := fun _ => True) (okp := fun _ => True) Z7 (Reps.none _ _) (fun _ hk => hk) trivial (Below.refl _ _) (Nat.le_refl _) (by simp) ?_; intro v619 w5 ho6 hb hg_ hnew_; clear hg_ hnew_; (first | rw [← Ny618.out] at ho6 | (simp only [Int.reduceToNat] at ho6; rw [← Ny618.out] at ho6)); have HO620 := Z (Kd.R_lower ho6 (below_size Z63)); replace HB := Z (below_step Z63 hb); clear hb ho6))
  go_loopg [3, 4] k (fun kq v3 v4 w' => ∃ (x3_1 : List (S51)) (x4_1 : Int), v4 = .int .i64 x4_1 ∧ Aside0 (spec_ParseCells.l0 kq l0 x3_1 x4_1 = some r) ∧ Aside0 (kq ≤ k) ∧ Aside0 (Kd.R k51 51 w' w.heap.size (fun _ => True) v3 x3_1) ∧ Aside0 (Below w.heap.size w w'))
  case atStart => exact ⟨(y618), (0), Z2, H', ⟨Nat.le_refl _⟩, ⟨(Z12 HO620)⟩, ⟨Z63⟩⟩
  case round =>
   clear H'
   try clear c1
   try clear c2
   try clear c2b0
   try clear c2b1
   try clear p2
   obtain ⟨x3_1, x4_1, rfl, HA, HK1, HO_3, HB⟩ := hrel
   cases gk with
   | zero => exact absurd HA.out (by simp [spec_ParseCells.l0])
   | succ k1 =>
    have H := HA.out
    clear HA
    simp only [spec_ParseCells.l0] at H
    by_cases c7 : x4_1 < (l0.length : Int)
    ·rw [if_pos c7] at H
     have c7b0 : decide (x4_1 < (l0.length : Int)) = true := decide_eq_true c7
     clear c7
     replace H := Option.bind_eq_some_iff.mp H
     obtain ⟨⟨t621, t622, t623, t624, t625, t626⟩, A80, H⟩ := H
     replace H : (if x3_1.length < 3518437208883 then (spec_ParseCells.l0 k1 l0 (x3_1 ++ [(⟨t621, t622, t623, t624, t625⟩ : S51)]) (wrap64 (x4_1 + t626))) else (none)) = some r := H
     have A8 := Aside0.mk A80
     clear A80
     by_cases c9 : x3_1.length < 3518437208883
     ·rw [if_pos c9] at H
      have LMc9 := Aside0.mk c9
      clear c9
      obtain ⟨y628, hy628⟩ : ∃ y_ : List (S51), y_ = (x3_1 ++ [(⟨t621, t622, t623, t624, t625⟩ : S51)]) := ⟨_, rfl⟩
      replace H : (spec_ParseCells.l0 k1 l0 y628 (wrap64 (x4_1 + t626))) = some r := by first | (rw [hy628]; with_reducible exact H) | (have H2_ := (Option.bind_some _ _).symm.trans H; rw [hy628]; with_reducible exact H2_) | (have H2_ := (Option.bind_some _ _).symm.trans H; with_reducible exact H2_) | with_reducible exact H | (rw [hy628]; exact H) | exact H
      have Ny628 := Aside0.mk hy628
      clear hy628
      have H' := Aside0.mk H
      clear H
      go_wp2_with (first | ((with_reducible refine gate_callee (f := 60) rfl ?_); refine goesL_ (some 19) rfl rfl Try.func60 Z0 rfl #[.slice A0 l0.length c0, .int .i64 x4_1] rfl Z10 ?_; (with_reducible refine (spec_l04Item.calls k1 _ _ l0 x4_1 t621 t622 t623 t624 t625 t626 _ ?side1 ?side2 A8.out).mono ?_); (case side1 => exact (Z30 HR0)); (case side2 => exact HC0.out); rintro e w10 ⟨rfl, hb⟩; refine ⟨_, rfl, ?_⟩; replace HO_3 := Z (Kd.R_below (Z12 HO_3) hb); replace HB := Z (below_step Z63 hb); (try clear hb); (try clear hb2); (try clear hk); (try clear hi)) | ((with_reducible refine gate_dst (N := 5) rfl ?_); (try (refine gate_guard (by rfl) ?_; dsimp only)); refine box_event (by rfl) (N := 5) (by rfl) (cs := #[.int .i64 0, .string (⟨#[]⟩ : ByteArray), .int .i32 0, .bool false, .int .u32 0]) (t := 51) Z7 ?_; intro gb627 hg w11 hbox hb; replace HO_3 := Z (Kd.R_below (Kd.R_elderB (Z12 HO_3) gb627 (Nat.le_of_eq hg.symm)) hb); have BK627 := Z (hbox); have GW627 := Z ((Z76 : w.heap.size ≤ gb627)); have GE627 := Z ((Z76 : w.heap.size ≤ gb627)); replace HB := Z (below_step Z63 hb); clear hb hbox hg; have hcz12_0 : w11.cell? ⟨gb627, 0, none⟩ = some (.int .i64 0) := (blk_cell BK627.out 0).trans rfl; have hcz12_1 : w11.cell? ⟨gb627, 1, none⟩ = some (.string (⟨#[]⟩ : ByteArray)) := (blk_cell BK627.out 1).trans rfl; have hcz12_2 : w11.cell? ⟨gb627, 2, none⟩ = some (.int .i32 0) := (blk_cell BK627.out 2).trans rfl; have hcz12_3 : w11.cell? ⟨gb627, 3, none⟩ = some (.bool false) := (blk_cell BK627.out 3).trans rfl; have hcz12_4 : w11.cell? ⟨gb627, 4, none⟩ = some (.int .u32 0) := (blk_cell BK627.out 4).trans rfl; have hfz12_0 := blk_frozen BK627.out 0; have hfz12_1 := blk_frozen BK627.out 1; have hfz12_2 := blk_frozen BK627.out 2; have hfz12_3 := blk_frozen BK627.out 3; have hfz12_4 := blk_frozen BK627.out 4) | ((with_reducible refine gate_builtin (b := .append) (xs := #[.tmp 22, .tmp 24]) rfl ?_); (try (refine gate_guard (by rfl) ?_; dsimp only)); at_builtin; refine Kd.R_append k51 (w0 := w) w.heap.size rfl (.tmp 22) (.tmp 24) 26 51 (.agg #[(.int .i64 0), (.string ⟨#[]⟩), (.int .i32 0), (.bool false), (.int .u32 0)]) 40 rfl Try.underlying26 info51 rfl (by decide) (by omega) u3 x3_1 (⟨t621, t622, t623, t624, t625⟩ : S51) [.int .i64 t621, .string t622, .int .i32 t623, .bool t624, .int .u32 t625] (fun k_ => k_ ≠ gb627) (fun _ => False) rfl Z7 ?aP (fun _ hk => hk.elim) ?aF ?aO ?aB ?aS ?aL ?_; (case aP => exact k51_mkM _ _ _ (⟨t621, t622, t623, t624, t625⟩ : S51)); (case aB => exact Z63); (case aF => exact (fun k_ hk => Kd.freshB (g := gb627) (o := .cells #[.int .i64 t621, .string t622, .int .i32 t623, .bool t624, .int .u32 t625] 51 (0, 0)) (Z59 BK627) k_ hk)); (case aO => exact (by (with_reducible repeat (first | apply Kd.R_alloc | apply Kd.R_drewN | apply Kd.R_drew)); exact Kd.R_mono (Kd.R_far (p := ⟨gb627, 4, none⟩) (Kd.R_far (p := ⟨gb627, 3, none⟩) (Kd.R_far (p := ⟨gb627, 2, none⟩) (Kd.R_far (p := ⟨gb627, 1, none⟩) (Kd.R_far (p := ⟨gb627, 0, none⟩) (Kd.R_mono HO_3.out (fun k_ hk => (⟨hk, hk.2⟩ : _ ∧ k_ ≠ gb627))) (fun _ hk => hk.2) (.int .i64 t621)) (fun _ hk => hk.2) (.string t622)) (fun _ hk => hk.2) (.int .i32 t623)) (fun _ hk => hk.2) (.bool t624)) (fun _ hk => hk.2) (.int .u32 t625)) (fun _ hk => hk.1.2))); (case aS => exact (below_size Z63)); (case aL => have := LMc9.out; omega); intro v629 w13 ho hb hg hat; rw [← Ny628.out] at ho; replace BK627 := Z (blk_grown (g := gb627) (o := .cells #[.int .i64 t621, .string t622, .int .i32 t623, .bool t624, .int .u32 t625] 51 (0, 0)) (Z59 BK627) hg (Kd.R_away HO_3.out (fun _ hk => hk.2))); replace HB := Z (hb); have HO630 := Z (ho); clear HO_3; clear ho hb hg hat))
      go_roundg k1
      case measure => have := HK1.out; omega
      case rel => exact ⟨(y628), (wrap64 (x4_1 + t626)), Z2, H', ⟨Z6⟩, ⟨(Z16 HO630)⟩, ⟨Z63⟩⟩
     ·rw [if_neg c9] at H
      exact absurd H (by simp)
    ·rw [if_neg c7] at H
     have c7b0 : decide (x4_1 < (l0.length : Int)) = false := decide_eq_false c7
     clear c7
     have H' := Aside0.mk H
     clear H
     go_wp2
     go_loopg [3] k1 (fun kq v3 w' => ∃ (x3_2 : List (S51)), Aside0 (spec_ParseCells.l1 kq x3_2 = some r) ∧ Aside0 (kq ≤ k1) ∧ Aside0 (Kd.R k51 51 w' w.heap.size (fun _ => True) v3 x3_2) ∧ Aside0 (Below w.heap.size w w'))
     case atStart => exact ⟨(x3_1), H', ⟨Nat.le_refl _⟩, ⟨(Z12 HO_3)⟩, ⟨Z63⟩⟩
     case round =>
      clear H'
      try clear c1
      try clear c2
      try clear c2b0
      try clear c2b1
      try clear p2
      try clear c6
      try clear p6
      try clear c7
      try clear c7b0
      try clear c9
      try clear hcz12_0
      try clear hcz12_1
      try clear hcz12_2
      try clear hcz12_3
      try clear hcz12_4
      try clear hfz12_0
      try clear hfz12_1
      try clear hfz12_2
      try clear hfz12_3
      try clear hfz12_4
      try clear p2
      obtain ⟨x3_2, HA, HK2, HO_3, HB⟩ := hrel
      cases gk with
      | zero => exact absurd HA.out (by simp [spec_ParseCells.l1])
      | succ k2 =>
       have H := HA.out
       clear HA
       simp only [spec_ParseCells.l1] at H
       by_cases c14 : (x3_2.length : Int) > 0
       ·rw [if_pos c14] at H
        have c14b0 : decide (0 < (x3_2.length : Int)) = true := decide_eq_true c14
        have c14b1 : decide (0 < x3_2.length) = true := decide_eq_true (by omega)
        clear c14
        obtain ⟨ji15, hji15⟩ : ∃ j_ : Int, (wrap64 ((x3_2.length : Int) - 1)) = j_ := ⟨_, rfl⟩
        replace H : (if 0 ≤ (ji15) then (if (ji15) < (x3_2.length : Int) then (if (((rd_T51 x3_2 (ji15)).f0) == 0 && ((((rd_T51 x3_2 (ji15)).f1).toList) == ([] : List UInt8) && (((rd_T51 x3_2 (ji15)).f2) == 0 && (!((rd_T51 x3_2 (ji15)).f3) && (((rd_T51 x3_2 (ji15)).f4) == 0))))) = true then (if (ji15) ≤ (x3_2.length : Int) then (spec_ParseCells.l1 k2 (x3_2.take ((ji15) : Int).toNat)) else (none)) else (some x3_2)) else (none)) else (none)) = some r := Z21
        have hji15w : (IntKind.i64.wrap ((x3_2.length : Int) - 1)) = ji15 := (i64_w _).trans hji15
        by_cases c16 : 0 ≤ (ji15)
        ·rw [if_pos c16] at H
         have c16b0 : decide (0 ≤ (ji15)) = true := decide_eq_true c16
         clear c16
         by_cases c17 : (ji15) < (x3_2.length : Int)
         ·rw [if_pos c17] at H
          have c17b0 : decide ((ji15) < (x3_2.length : Int)) = true := decide_eq_true c17
          clear c17
          by_cases c18 : (((rd_T51 x3_2 (ji15)).f0) == 0 && ((((rd_T51 x3_2 (ji15)).f1).toList) == ([] : List UInt8) && (((rd_T51 x3_2 (ji15)).f2) == 0 && (!((rd_T51 x3_2 (ji15)).f3) && (((rd_T51 x3_2 (ji15)).f4) == 0))))) = true
          ·rw [if_pos c18] at H
           have c18b0 : (((rd_T51 x3_2 (ji15)).f0) == 0 && ((((rd_T51 x3_2 (ji15)).f1).toList) == ([] : List UInt8) && (((rd_T51 x3_2 (ji15)).f2) == 0 && (!((rd_T51 x3_2 (ji15)).f3) && (((rd_T51 x3_2 (ji15)).f4) == 0))))) = true := c18
           (try (have c18b1 : (((rd_T51 x3_2 (ji15)).f0) == 0 && ((((rd_T51 x3_2 (ji15)).f1).toList).isEmpty && (((rd_T51 x3_2 (ji15)).f2) == 0 && (!((rd_T51 x3_2 (ji15)).f3) && (((rd_T51 x3_2 (ji15)).f4) == 0))))) = true := by have h_ : (((rd_T51 x3_2 (ji15)).f0) == 0 && ((((rd_T51 x3_2 (ji15)).f1).toList) == ([] : List UInt8) && (((rd_T51 x3_2 (ji15)).f2) == 0 && (!((rd_T51 x3_2 (ji15)).f3) && (((rd_T51 x3_2 (ji15)).f4) == 0))))) = true := c18; simpa only [List.beq_nil_eq] using h_))
           (try (have c18b2 : decide (((rd_T51 x3_2 (ji15)).f0) = 0 && ((((rd_T51 x3_2 (ji15)).f1).toList) == ([] : List UInt8) && (((rd_T51 x3_2 (ji15)).f2) == 0 && (!((rd_T51 x3_2 (ji15)).f3) && (((rd_T51 x3_2 (ji15)).f4) == 0))))) = true := Z60))
           (try (have c18b3 : (((rd_T51 x3_2 (ji15)).f0) == 0 && ((((rd_T51 x3_2 (ji15)).f1).toList) == ([] : List UInt8) && (((rd_T51 x3_2 (ji15)).f2) == 0 && (!((rd_T51 x3_2 (ji15)).f3) && (((rd_T51 x3_2 (ji15)).f4) == 0))))) = true := Z60))
           clear c18
           by_cases c19 : (ji15) ≤ (x3_2.length : Int)
           ·rw [if_pos c19] at H
            have c19b0 := eq_true c19
            have c19b1 : decide ((ji15) ≤ (x3_2.length : Int)) = true := decide_eq_true c19
            clear c19
            obtain ⟨y632, hy632⟩ : ∃ y_ : List (S51), y_ = (x3_2.take ((ji15) : Int).toNat) := ⟨_, rfl⟩
            replace H : (spec_ParseCells.l1 k2 y632) = some r := by first | (rw [hy632]; with_reducible exact H) | (have H2_ := (Option.bind_some _ _).symm.trans H; rw [hy632]; with_reducible exact H2_) | (have H2_ := (Option.bind_some _ _).symm.trans H; with_reducible exact H2_) | with_reducible exact H | (rw [hy632]; exact H) | exact H
            have Ny632 := Aside0.mk hy632
            clear hy632
            have H' := Aside0.mk H
            clear H
            obtain ⟨Ao20, co20, eo20⟩ := Kd.R_slice HO_3.out
            subst eo20
            have p631 : 0 ≤ ((ji15) : Int) := of_decide_eq_true Z5
            have q631 : (ji15) < (x3_2.length : Int) := of_decide_eq_true Z5
            obtain ⟨ad631, e631, hx631_0, hx631_1, hx631_2, hx631_3, hx631_4⟩ := at_T51 (Kd.R_reads' HO_3.out).2.2 (ji15) p631 q631
            cases e631
            replace p631 := eq_true p631
            replace q631 := eq_true q631
            (try clear hcut20)
            have q21 : ((ji15) : Int) ≤ ((x3_2.length : Int) : Int) := of_decide_eq_true Z5
            obtain ⟨i021, hi021, _, hsz21, _⟩ := info_parts info51
            have hcut21 := cut_to (P := Try.prog) 26 51 .i64 Try.underlying26 hi021 (some ad631) x3_2.length co20 (ji15) (of_decide_eq_true Z5) q21 (Kd.R_reads' HO_3.out).2.1
            have hr21 := Kd.R_take (m := ((ji15) : Int).toNat) HO_3.out (by omega)
            have hy21 : y632.length = ((ji15) : Int).toNat := (by rw [Ny632.out, List.length_take]; omega)
            rw [← Ny632.out] at hr21
            rw [← hy21] at hr21 hcut21
            clear hy21 hi021 hsz21 HO_3
            have HO634 := Aside0.mk hr21
            clear hr21
            replace q21 := eq_true q21
            go_wp2
            go_roundg k2
            case measure => have := HK1.out; have := HK2.out; omega
            case rel => exact ⟨(y632), H', ⟨by have := HK1.out; have := HK2.out; omega⟩, ⟨(Z12 HO634)⟩, ⟨Z63⟩⟩
           ·rw [if_neg c19] at H
            exact absurd H (by simp)
          ·rw [if_neg c18] at H
           have c18b0 : (((rd_T51 x3_2 (ji15)).f0) == 0 && ((((rd_T51 x3_2 (ji15)).f1).toList) == ([] : List UInt8) && (((rd_T51 x3_2 (ji15)).f2) == 0 && (!((rd_T51 x3_2 (ji15)).f3) && (((rd_T51 x3_2 (ji15)).f4) == 0))))) = false := Z60
           (try (have c18b1 : (((rd_T51 x3_2 (ji15)).f0) == 0 && ((((rd_T51 x3_2 (ji15)).f1).toList).isEmpty && (((rd_T51 x3_2 (ji15)).f2) == 0 && (!((rd_T51 x3_2 (ji15)).f3) && (((rd_T51 x3_2 (ji15)).f4) == 0))))) = false := by have h_ : (((rd_T51 x3_2 (ji15)).f0) == 0 && ((((rd_T51 x3_2 (ji15)).f1).toList) == ([] : List UInt8) && (((rd_T51 x3_2 (ji15)).f2) == 0 && (!((rd_T51 x3_2 (ji15)).f3) && (((rd_T51 x3_2 (ji15)).f4) == 0))))) = false := Z60; simpa only [List.beq_nil_eq] using h_))
           (try (have c18b2 : decide (((rd_T51 x3_2 (ji15)).f0) = 0 && ((((rd_T51 x3_2 (ji15)).f1).toList) == ([] : List UInt8) && (((rd_T51 x3_2 (ji15)).f2) == 0 && (!((rd_T51 x3_2 (ji15)).f3) && (((rd_T51 x3_2 (ji15)).f4) == 0))))) = false := Z60))
           (try (have c18b3 : (((rd_T51 x3_2 (ji15)).f0) == 0 && ((((rd_T51 x3_2 (ji15)).f1).toList) == ([] : List UInt8) && (((rd_T51 x3_2 (ji15)).f2) == 0 && (!((rd_T51 x3_2 (ji15)).f3) && (((rd_T51 x3_2 (ji15)).f4) == 0))))) = false := Z60))
           (try (have c18b4 : ¬ (((rd_T51 x3_2 (ji15)).f0) = 0 && ((((rd_T51 x3_2 (ji15)).f1).toList) == ([] : List UInt8) && (((rd_T51 x3_2 (ji15)).f2) == 0 && (!((rd_T51 x3_2 (ji15)).f3) && (((rd_T51 x3_2 (ji15)).f4) == 0))))) := Z60))
           clear c18
           obtain rfl := Option.some.inj H
           obtain ⟨Ao22, co22, eo22⟩ := Kd.R_slice HO_3.out
           subst eo22
           have p631 : 0 ≤ ((ji15) : Int) := of_decide_eq_true Z5
           have q631 : (ji15) < (x3_2.length : Int) := of_decide_eq_true Z5
           obtain ⟨ad631, e631, hx631_0, hx631_1, hx631_2, hx631_3, hx631_4⟩ := at_T51 (Kd.R_reads' HO_3.out).2.2 (ji15) p631 q631
           cases e631
           replace p631 := eq_true p631
           replace q631 := eq_true q631
           go_wp2
           go_ret
           exact ⟨_, by first | rfl | (simp [errW_none, errW_some] <;> rfl) | (simp only [← hji15]; first | rfl | (simp [errW_none, errW_some] <;> rfl)) | (simp [*, errW_none, errW_some] <;> rfl), (Z12 HO_3), Z63⟩
         ·rw [if_neg c17] at H
          exact absurd H (by simp)
        ·rw [if_neg c16] at H
         exact absurd H (by simp)
       ·rw [if_neg c14] at H
        have c14b0 : decide (0 < (x3_2.length : Int)) = false := decide_eq_false c14
        have c14b1 : decide (0 < x3_2.length) = false := decide_eq_false (by omega)
        clear c14
        obtain rfl := Option.some.inj H
        obtain ⟨Ao23, co23, eo23⟩ := Kd.R_slice HO_3.out
        subst eo23
        go_wp2
        go_ret
        exact ⟨_, Z9, (Z12 HO_3), Z63⟩

/-! ### laws_sameCells: function 18 -/
def laws_sameCells.l0 : Nat → List Int → List Int → Int → Option (Bool)
 | 0, _, _, _ => none
 | k + 1, x0, x1, x5 => if x5 < (x0.length : Int) then (if 0 ≤ x5 then (if x5 < (x1.length : Int) then (if (rd x0 x5) = (rd x1 x5) then (laws_sameCells.l0 k x0 x1 (wrap64 (x5 + 1))) else (some false)) else (none)) else (none)) else (some true)
def laws_sameCells.f (k : Nat) (l0 : List Int) (l1 : List Int) : Option (Bool) := if (l0.length : Int) = (l1.length : Int) then (laws_sameCells.l0 k l0 l1 0) else (some false)
theorem laws_sameCells.mono_l : ∀ k, (∀ y0 y1 y2, LeO (laws_sameCells.l0 k y0 y1 y2) (laws_sameCells.l0 (k + 1) y0 y1 y2))
 | 0 => fun _ _ _ r h => by simp [laws_sameCells.l0] at h
 | k + 1 => by
  have ih0 := laws_sameCells.mono_l k
  ·intro y0 y1 y2
   unfold laws_sameCells.l0
   repeat' first
   | (with_reducible exact ih0 _ _ _)
   | (with_reducible exact LeO.refl _)
   | (with_reducible exact LeO.none _)
   | (with_reducible refine LeO.ite ?_ ?_)
   | (with_reducible refine LeO.bind ?_ (fun _ => ?_))
   | exact ih0 _ _ _
   | exact LeO.none _
   | refine LeO.ite ?_ ?_
   | refine LeO.bind ?_ (fun _ => ?_)
theorem laws_sameCells.mono : ∀ a0 a1 k, LeO (laws_sameCells.f k a0 a1) (laws_sameCells.f (k + 1) a0 a1) := by
 intro a0 a1 k
 have ih0 := laws_sameCells.mono_l k
 unfold laws_sameCells.f
 repeat' first
   | (with_reducible exact ih0 _ _ _)
   | (with_reducible exact LeO.refl _)
   | (with_reducible exact LeO.none _)
   | (with_reducible refine LeO.ite ?_ ?_)
   | (with_reducible refine LeO.bind ?_ (fun _ => ?_))
   | exact ih0 _ _ _
   | exact LeO.none _
   | refine LeO.ite ?_ ?_
   | refine LeO.bind ?_ (fun _ => ?_)
set_option maxHeartbeats 8000000 in
set_option maxRecDepth 100000 in
theorem laws_sameCells.calls (k : Nat) (A0 : Option Addr) (c0 : Nat) (l0 : List Int) (A1 : Option Addr) (c1 : Nat) (l1 : List Int) (r : Bool) (w : World) (hr0 : Kd.C (Kd.int .u32) w A0 l0.length l0) (hc0 : l0.length ≤ c0) (hr1 : Kd.C (Kd.int .u32) w A1 l1.length l1) (hc1 : l1.length ≤ c1) (h : laws_sameCells.f k l0 l1 = some r) :
  Calls Try.prog 18 #[.slice A0 l0.length c0, .slice A1 l1.length c1] w fun e w' => e = .returned (.bool r) ∧ Drawn0 w w' := by
 have HR0 := Aside0.mk hr0
 have HC0 := Aside0.mk hc0
 clear hr0 hc0
 have HR1 := Aside0.mk hr1
 have HC1 := Aside0.mk hc1
 clear hr1 hc1
 have H : (if (l0.length : Int) = (l1.length : Int) then (laws_sameCells.l0 k l0 l1 0) else (some false)) = some r := h
 clear h
 by_cases c3 : (l0.length : Int) = (l1.length : Int)
 ·rw [if_pos c3] at H
  have c3b0 : ((l0.length : Int) == (l1.length : Int)) = true := beq_iff_eq.mpr c3
  have c3b1 : ((l0.length : Int) != (l1.length : Int)) = false := bne_eq_false_iff_eq.mpr c3
  have c3b2 : (l0.length == l1.length) = true := Z26
  clear c3
  have H' := Aside0.mk H
  clear H
  go_enter Try.func18, Try.ntmps18
  go_wp2
  repeat (go_quiet (fail); try go_wp2)
  go_loopg [5] k (fun kq v5 w' => ∃ (x5_1 : Int), v5 = .int .i64 x5_1 ∧ Aside0 (laws_sameCells.l0 kq l0 l1 x5_1 = some r) ∧ Aside0 (kq ≤ k) ∧ Drawn0 w w')
  case atStart => exact ⟨(0), Z2, H', ⟨Nat.le_refl _⟩, Z3⟩
  case round =>
   clear H'
   try clear c1
   try clear p2
   try clear c3
   try clear c3b0
   try clear c3b1
   try clear c3b2
   obtain ⟨x5_1, rfl, HA, HK1, ⟨m1, rfl⟩⟩ := hrel
   cases gk with
   | zero => exact absurd HA.out (by simp [laws_sameCells.l0])
   | succ k1 =>
    have H := HA.out
    clear HA
    simp only [laws_sameCells.l0] at H
    by_cases c4 : x5_1 < (l0.length : Int)
    ·rw [if_pos c4] at H
     have c4b0 : decide (x5_1 < (l0.length : Int)) = true := decide_eq_true c4
     clear c4
     by_cases c5 : 0 ≤ x5_1
     ·rw [if_pos c5] at H
      have c5b0 : decide (0 ≤ x5_1) = true := decide_eq_true c5
      clear c5
      by_cases c6 : x5_1 < (l1.length : Int)
      ·rw [if_pos c6] at H
       have c6b0 : decide (x5_1 < (l1.length : Int)) = true := decide_eq_true c6
       clear c6
       by_cases c7 : (rd l0 x5_1) = (rd l1 x5_1)
       ·rw [if_pos c7] at H
        have c7b0 : ((rd l0 x5_1) == (rd l1 x5_1)) = true := beq_iff_eq.mpr c7
        have c7b1 : ((rd l0 x5_1) != (rd l1 x5_1)) = false := bne_eq_false_iff_eq.mpr c7
        clear c7
        have H' := Aside0.mk H
        clear H
        have p635 : 0 ≤ (x5_1 : Int) := of_decide_eq_true Z5
        have q635 : x5_1 < (l0.length : Int) := of_decide_eq_true Z5
        obtain ⟨ad635, e635, hx635_0⟩ := Kd.at_int HR0.out x5_1 p635 q635
        cases e635
        replace p635 := eq_true p635
        replace q635 := eq_true q635
        have p636 : 0 ≤ (x5_1 : Int) := of_decide_eq_true Z5
        have q636 : x5_1 < (l1.length : Int) := of_decide_eq_true Z5
        obtain ⟨ad636, e636, hx636_0⟩ := Kd.at_int HR1.out x5_1 p636 q636
        cases e636
        replace p636 := eq_true p636
        replace q636 := eq_true q636
        go_wp2
        repeat (go_quiet (fail); try go_wp2)
        go_roundg k1
        case measure => have := HK1.out; omega
        case rel => exact ⟨(wrap64 (x5_1 + 1)), Z2, H', ⟨Z6⟩, Z3⟩
       ·rw [if_neg c7] at H
        have c7b0 : ((rd l0 x5_1) == (rd l1 x5_1)) = false := beq_eq_false_iff_ne.mpr c7
        have c7b1 : ((rd l0 x5_1) != (rd l1 x5_1)) = true := bne_iff_ne.mpr c7
        obtain rfl := Option.some.inj H
        have p635 : 0 ≤ (x5_1 : Int) := of_decide_eq_true Z5
        have q635 : x5_1 < (l0.length : Int) := of_decide_eq_true Z5
        obtain ⟨ad635, e635, hx635_0⟩ := Kd.at_int HR0.out x5_1 p635 q635
        cases e635
        replace p635 := eq_true p635
        replace q635 := eq_true q635
        have p636 : 0 ≤ (x5_1 : Int) := of_decide_eq_true Z5
        have q636 : x5_1 < (l1.length : Int) := of_decide_eq_true Z5
        obtain ⟨ad636, e636, hx636_0⟩ := Kd.at_int HR1.out x5_1 p636 q636
        cases e636
        replace p636 := eq_true p636
        replace q636 := eq_true q636
        go_wp2
        repeat (go_quiet (fail); try go_wp2)
        go_ret
        exact ⟨Z2, Z3⟩
      ·rw [if_neg c6] at H
       exact absurd H (by simp)
     ·rw [if_neg c5] at H
      exact absurd H (by simp)
    ·rw [if_neg c4] at H
     have c4b0 : decide (x5_1 < (l0.length : Int)) = false := decide_eq_false c4
     clear c4
     obtain rfl := Option.some.inj H
     go_wp2
     repeat (go_quiet (fail); try go_wp2)
     go_ret
     exact ⟨Z2, Z3⟩
 ·rw [if_neg c3] at H
  have c3b0 : ((l0.length : Int) == (l1.length : Int)) = false := beq_eq_false_iff_ne.mpr c3
  have c3b1 : ((l0.length : Int) != (l1.length : Int)) = true := bne_iff_ne.mpr c3
  have c3b2 : (l0.length == l1.length) = false := Z26
  obtain rfl := Option.some.inj H
  go_enter Try.func18, Try.ntmps18
  go_wp2
  repeat (go_quiet (fail); try go_wp2)
  go_ret
  exact ⟨Z2, Z3⟩

/-! ### laws_padded: function 19 -/
def laws_padded.l0 : Nat → List Int → Option (List Int)
 | 0, _ => none
 | k + 1, x3 => if (x3.length : Int) < 64 then (if x3.length < 35184372088832 then (laws_padded.l0 k (x3 ++ [0])) else (none)) else (some x3)
def laws_padded.f (k : Nat) (l0 : List Int) : Option (List Int) := (some (([] : List Int) : List Int)).bind fun y637 => (if y637.length + l0.length < 35184372088832 then (laws_padded.l0 k (y637 ++ l0)) else (none))
theorem laws_padded.mono_l : ∀ k, (∀ y0, LeO (laws_padded.l0 k y0) (laws_padded.l0 (k + 1) y0))
 | 0 => fun _ r h => by simp [laws_padded.l0] at h
 | k + 1 => by
  have ih0 := laws_padded.mono_l k
  ·intro y0
   unfold laws_padded.l0
   repeat' first
   | (with_reducible exact ih0 _)
   | (with_reducible exact LeO.refl _)
   | (with_reducible exact LeO.none _)
   | (with_reducible refine LeO.ite ?_ ?_)
   | (with_reducible refine LeO.bind ?_ (fun _ => ?_))
   | exact ih0 _
   | exact LeO.none _
   | refine LeO.ite ?_ ?_
   | refine LeO.bind ?_ (fun _ => ?_)
theorem laws_padded.mono : ∀ a0 k, LeO (laws_padded.f k a0) (laws_padded.f (k + 1) a0) := by
 intro a0 k
 have ih0 := laws_padded.mono_l k
 unfold laws_padded.f
 repeat' first
   | (with_reducible exact ih0 _)
   | (with_reducible exact LeO.refl _)
   | (with_reducible exact LeO.none _)
   | (with_reducible refine LeO.ite ?_ ?_)
   | (with_reducible refine LeO.bind ?_ (fun _ => ?_))
   | exact ih0 _
   | exact LeO.none _
   | refine LeO.ite ?_ ?_
   | refine LeO.bind ?_ (fun _ => ?_)
set_option maxHeartbeats 8000000 in
set_option maxRecDepth 100000 in
theorem laws_padded.calls (k : Nat) (A0 : Option Addr) (c0 : Nat) (l0 : List Int) (r : List Int) (w : World) (hr0 : Kd.C (Kd.int .u32) w A0 l0.length l0) (hc0 : l0.length ≤ c0) (h : laws_padded.f k l0 = some r) :
  Calls Try.prog 19 #[.slice A0 l0.length c0] w fun e w' => ∃ v0_ : Value, e = .returned (v0_) ∧ Kd.R (Kd.int .u32) 47 w' w.heap.size (fun _ => True) v0_ r ∧ Below w.heap.size w w' := by
 have HR0 := Aside0.mk hr0
 have HC0 := Aside0.mk hc0
 clear hr0 hc0
 have HB := Z (Below.refl w.heap.size w)
 have H : ((some (([] : List Int) : List Int)).bind fun y637 => (if y637.length + l0.length < 35184372088832 then (laws_padded.l0 k (y637 ++ l0)) else (none))) = some r := h
 clear h
 obtain ⟨y637, hy637⟩ : ∃ y_ : List Int, y_ = (([] : List Int)) := ⟨_, rfl⟩
 replace H : (if y637.length + l0.length < 35184372088832 then (laws_padded.l0 k (y637 ++ l0)) else (none)) = some r := by first | (rw [hy637]; with_reducible exact H) | (have H2_ := (Option.bind_some _ _).symm.trans H; rw [hy637]; with_reducible exact H2_) | (have H2_ := (Option.bind_some _ _).symm.trans H; with_reducible exact H2_) | with_reducible exact H | (rw [hy637]; exact H) | exact H
 have Ny637 := Aside0.mk hy637
 clear hy637
 by_cases c2 : y637.length + l0.length < 35184372088832
 ·rw [if_pos c2] at H
  have LMc2 := Aside0.mk c2
  clear c2
  obtain ⟨y640, hy640⟩ : ∃ y_ : List Int, y_ = (y637 ++ l0) := ⟨_, rfl⟩
  replace H : (laws_padded.l0 k y640) = some r := by first | (rw [hy640]; with_reducible exact H) | (have H2_ := (Option.bind_some _ _).symm.trans H; rw [hy640]; with_reducible exact H2_) | (have H2_ := (Option.bind_some _ _).symm.trans H; with_reducible exact H2_) | with_reducible exact H | (rw [hy640]; exact H) | exact H
  have Ny640 := Aside0.mk hy640
  clear hy640
  have H' := Aside0.mk H
  clear H
  go_enter Try.func19, Try.ntmps19
  go_wp2_with (first | ((with_reducible refine gate_dst (N := 4) rfl ?_); refine Kd.R_lit (Kd.int .u32) _ 47 (by rfl) (N := 4) (by rfl) (xs := ([] : List Int)) (inner := []) (ok := fun _ => True) (okp := fun _ => True) Z7 (Reps.none _ _) (fun _ hk => hk) trivial (Below.refl _ _) (Nat.le_refl _) (by simp) ?_; intro v638 w3 ho4 hb hg_ hnew_; clear hg_ hnew_; (first | rw [← Ny637.out] at ho4 | (simp only [Int.reduceToNat] at ho4; rw [← Ny637.out] at ho4)); have HO639 := Z (Kd.R_lower ho4 (below_size Z63)); replace HB := Z (below_step Z63 hb); clear hb ho4) | ((with_reducible refine gate_builtin (b := .append) (xs := #[.tmp 4, .tmp 5]) rfl ?_); at_builtin; refine Kd.R_append_rows (Kd.int .u32) (w0 := w) w.heap.size rfl (.tmp 4) (.tmp 5) 24 47 (.int .u32 0) 4 rfl Try.underlying24 info47 rfl (by decide) (by omega) v638 y637 l0 _ _ _ (fun _ => True) (fun _ => False) rfl rfl ?aO ?aR (fun _ _ h => h) (fun _ h => h.elim) ?aF ?aB ?aS ?aL ?_; (case aR => exact (Z30 HR0)); (case aB => exact Z63); (case aF => exact (fun _ _ => trivial)); (case aO => exact (Z12 HO639)); (case aS => exact (below_size Z63)); (case aL => have := LMc2.out; omega); intro v641 w5 ho hb hg hat; rw [← Ny640.out] at ho; replace HB := Z (hb); have HO642 := Z (ho); clear HO639; clear ho hb hg hat))
  go_loopg [3] k (fun kq v3 w' => ∃ (x3_1 : List Int), Aside0 (laws_padded.l0 kq x3_1 = some r) ∧ Aside0 (kq ≤ k) ∧ Aside0 (Kd.R (Kd.int .u32) 47 w' w.heap.size (fun _ => True) v3 x3_1) ∧ Aside0 (Below w.heap.size w w'))
  case atStart => exact ⟨(y640), H', ⟨Nat.le_refl _⟩, ⟨(Z12 HO642)⟩, ⟨Z63⟩⟩
  case round =>
   clear H'
   try clear c1
   try clear c2
   try clear p2
   obtain ⟨x3_1, HA, HK1, HO_3, HB⟩ := hrel
   cases gk with
   | zero => exact absurd HA.out (by simp [laws_padded.l0])
   | succ k1 =>
    have H := HA.out
    clear HA
    simp only [laws_padded.l0] at H
    by_cases c6 : (x3_1.length : Int) < 64
    ·rw [if_pos c6] at H
     have c6b0 : decide ((x3_1.length : Int) < 64) = true := decide_eq_true c6
     have c6b1 : decide (x3_1.length < 64) = true := decide_eq_true (by omega)
     clear c6
     by_cases c7 : x3_1.length < 35184372088832
     ·rw [if_pos c7] at H
      have LMc7 := Aside0.mk c7
      clear c7
      obtain ⟨y643, hy643⟩ : ∃ y_ : List Int, y_ = (x3_1 ++ [0]) := ⟨_, rfl⟩
      replace H : (laws_padded.l0 k1 y643) = some r := by first | (rw [hy643]; with_reducible exact H) | (have H2_ := (Option.bind_some _ _).symm.trans H; rw [hy643]; with_reducible exact H2_) | (have H2_ := (Option.bind_some _ _).symm.trans H; with_reducible exact H2_) | with_reducible exact H | (rw [hy643]; exact H) | exact H
      have Ny643 := Aside0.mk hy643
      clear hy643
      have H' := Aside0.mk H
      clear H
      obtain ⟨Ao8, co8, eo8⟩ := Kd.R_slice HO_3.out
      subst eo8
      go_wp2_with (first | ((with_reducible refine gate_builtin (b := .append) (xs := #[.tmp 10, .tmp 11]) rfl ?_); at_builtin; refine Kd.R_append (Kd.int .u32) (w0 := w) w.heap.size rfl (.tmp 10) (.tmp 11) 24 47 (.int .u32 0) 4 rfl Try.underlying24 info47 rfl (by decide) (by omega) (.slice Ao8 x3_1.length co8) x3_1 0 [.int .u32 0] (fun _ => True) (fun _ => False) rfl rfl ?aP (fun _ hk => hk.elim) ?aF ?aO ?aB ?aS ?aL ?_; (case aP => exact rfl); (case aB => exact Z63); (case aF => exact (fun _ _ => trivial)); (case aO => exact (Z12 HO_3)); (case aS => exact (below_size Z63)); (case aL => have := LMc7.out; omega); intro v644 w9 ho hb hg hat; rw [← Ny643.out] at ho; replace HB := Z (hb); have HO645 := Z (ho); clear HO_3; clear ho hb hg hat))
      go_roundg k1
      case measure => have := HK1.out; omega
      case rel => exact ⟨(y643), H', ⟨Z6⟩, ⟨(Z12 HO645)⟩, ⟨Z63⟩⟩
     ·rw [if_neg c7] at H
      exact absurd H (by simp)
    ·rw [if_neg c6] at H
     have c6b0 : decide ((x3_1.length : Int) < 64) = false := decide_eq_false c6
     have c6b1 : decide (x3_1.length < 64) = false := decide_eq_false (by omega)
     clear c6
     obtain rfl := Option.some.inj H
     obtain ⟨Ao10, co10, eo10⟩ := Kd.R_slice HO_3.out
     subst eo10
     go_wp2
     go_ret
     exact ⟨_, Z9, (Z12 HO_3), Z63⟩
 ·rw [if_neg c2] at H
  exact absurd H (by simp)

/-! ### impl_Item: function 61 -/
def impl_Item.l0 : Nat → List (S51) → List (S51) → Int → Int → Option (Bool)
 | 0, _, _, _, _ => none
 | k + 1, x0, x1, x12, x13 => if x13 < x12 then (if 0 ≤ x13 then (if x13 < (x0.length : Int) then (if x13 < (x1.length : Int) then (if (!(((rd_T51 x0 x13).f0) == ((rd_T51 x1 x13).f0)) || (!((((rd_T51 x0 x13).f1).toList) == (((rd_T51 x1 x13).f1).toList)) || (!(((rd_T51 x0 x13).f2) == ((rd_T51 x1 x13).f2)) || (!(((rd_T51 x0 x13).f3) == ((rd_T51 x1 x13).f3)) || (!(((rd_T51 x0 x13).f4) == ((rd_T51 x1 x13).f4))))))) = true then (some false) else (impl_Item.l0 k x0 x1 x12 (wrap64 (x13 + 1)))) else (none)) else (none)) else (none)) else (some true)
def impl_Item.f (k : Nat) (l0 : List (S51)) (l1 : List (S51)) : Option (Bool) := if (l0.length : Int) = (l1.length : Int) then (impl_Item.l0 k l0 l1 (l0.length : Int) 0) else (some false)
theorem impl_Item.mono_l : ∀ k, (∀ y0 y1 y2 y3, LeO (impl_Item.l0 k y0 y1 y2 y3) (impl_Item.l0 (k + 1) y0 y1 y2 y3))
 | 0 => fun _ _ _ _ r h => by simp [impl_Item.l0] at h
 | k + 1 => by
  have ih0 := impl_Item.mono_l k
  ·intro y0 y1 y2 y3
   unfold impl_Item.l0
   repeat' first
   | (with_reducible exact ih0 _ _ _ _)
   | (with_reducible exact LeO.refl _)
   | (with_reducible exact LeO.none _)
   | (with_reducible refine LeO.ite ?_ ?_)
   | (with_reducible refine LeO.bind ?_ (fun _ => ?_))
   | exact ih0 _ _ _ _
   | exact LeO.none _
   | refine LeO.ite ?_ ?_
   | refine LeO.bind ?_ (fun _ => ?_)
theorem impl_Item.mono : ∀ a0 a1 k, LeO (impl_Item.f k a0 a1) (impl_Item.f (k + 1) a0 a1) := by
 intro a0 a1 k
 have ih0 := impl_Item.mono_l k
 unfold impl_Item.f
 repeat' first
   | (with_reducible exact ih0 _ _ _ _)
   | (with_reducible exact LeO.refl _)
   | (with_reducible exact LeO.none _)
   | (with_reducible refine LeO.ite ?_ ?_)
   | (with_reducible refine LeO.bind ?_ (fun _ => ?_))
   | exact ih0 _ _ _ _
   | exact LeO.none _
   | refine LeO.ite ?_ ?_
   | refine LeO.bind ?_ (fun _ => ?_)
set_option maxHeartbeats 8000000 in
set_option maxRecDepth 100000 in
theorem impl_Item.calls (k : Nat) (A0 : Option Addr) (c0 : Nat) (l0 : List (S51)) (A1 : Option Addr) (c1 : Nat) (l1 : List (S51)) (r : Bool) (w : World) (hr0 : Kd.C k51 w A0 l0.length l0) (hc0 : l0.length ≤ c0) (hr1 : Kd.C k51 w A1 l1.length l1) (hc1 : l1.length ≤ c1) (h : impl_Item.f k l0 l1 = some r) :
  Calls Try.prog 61 #[.slice A0 l0.length c0, .slice A1 l1.length c1] w fun e w' => e = .returned (.bool r) ∧ Drawn0 w w' := by
 have hu51 := Try.underlying51
 have HR0 := Aside0.mk hr0
 have HC0 := Aside0.mk hc0
 clear hr0 hc0
 have HR1 := Aside0.mk hr1
 have HC1 := Aside0.mk hc1
 clear hr1 hc1
 have H : (if (l0.length : Int) = (l1.length : Int) then (impl_Item.l0 k l0 l1 (l0.length : Int) 0) else (some false)) = some r := h
 clear h
 by_cases c3 : (l0.length : Int) = (l1.length : Int)
 ·rw [if_pos c3] at H
  have c3b0 : ((l0.length : Int) == (l1.length : Int)) = true := beq_iff_eq.mpr c3
  have c3b1 : ((l0.length : Int) != (l1.length : Int)) = false := bne_eq_false_iff_eq.mpr c3
  have c3b2 : (l0.length == l1.length) = true := Z26
  clear c3
  have H' := Aside0.mk H
  clear H
  go_enter Try.func61, Try.ntmps61
  go_wp2
  repeat (go_quiet (fail); try go_wp2)
  go_loopg [13] k (fun kq v13 w' => ∃ (x13_1 : Int), v13 = .int .i64 x13_1 ∧ Aside0 (impl_Item.l0 kq l0 l1 (l0.length : Int) x13_1 = some r) ∧ Aside0 (kq ≤ k) ∧ Drawn0 w w')
  case atStart => exact ⟨(0), Z2, H', ⟨Nat.le_refl _⟩, Z3⟩
  case round =>
   clear H'
   try clear c1
   try clear p2
   try clear c3
   try clear c3b0
   try clear c3b1
   try clear c3b2
   obtain ⟨x13_1, rfl, HA, HK1, ⟨m1, rfl⟩⟩ := hrel
   cases gk with
   | zero => exact absurd HA.out (by simp [impl_Item.l0])
   | succ k1 =>
    have H := HA.out
    clear HA
    simp only [impl_Item.l0] at H
    by_cases c4 : x13_1 < (l0.length : Int)
    ·rw [if_pos c4] at H
     have c4b0 : decide (x13_1 < (l0.length : Int)) = true := decide_eq_true c4
     clear c4
     by_cases c5 : 0 ≤ x13_1
     ·rw [if_pos c5] at H
      have c5b0 : decide (0 ≤ x13_1) = true := decide_eq_true c5
      clear c5
      by_cases c6 : x13_1 < (l0.length : Int)
      ·rw [if_pos c6] at H
       have c6b0 : decide (x13_1 < (l0.length : Int)) = true := decide_eq_true c6
       clear c6
       by_cases c7 : x13_1 < (l1.length : Int)
       ·rw [if_pos c7] at H
        have c7b0 : decide (x13_1 < (l1.length : Int)) = true := decide_eq_true c7
        clear c7
        by_cases c8 : (!(((rd_T51 l0 x13_1).f0) == ((rd_T51 l1 x13_1).f0)) || (!((((rd_T51 l0 x13_1).f1).toList) == (((rd_T51 l1 x13_1).f1).toList)) || (!(((rd_T51 l0 x13_1).f2) == ((rd_T51 l1 x13_1).f2)) || (!(((rd_T51 l0 x13_1).f3) == ((rd_T51 l1 x13_1).f3)) || (!(((rd_T51 l0 x13_1).f4) == ((rd_T51 l1 x13_1).f4))))))) = true
        ·rw [if_pos c8] at H
         have c8b0 : (!(((rd_T51 l0 x13_1).f0) == ((rd_T51 l1 x13_1).f0)) || (!((((rd_T51 l0 x13_1).f1).toList) == (((rd_T51 l1 x13_1).f1).toList)) || (!(((rd_T51 l0 x13_1).f2) == ((rd_T51 l1 x13_1).f2)) || (!(((rd_T51 l0 x13_1).f3) == ((rd_T51 l1 x13_1).f3)) || (!(((rd_T51 l0 x13_1).f4) == ((rd_T51 l1 x13_1).f4))))))) = true := c8
         clear c8
         obtain rfl := Option.some.inj H
         have p646 : 0 ≤ (x13_1 : Int) := of_decide_eq_true Z5
         have q646 : x13_1 < (l0.length : Int) := of_decide_eq_true Z5
         obtain ⟨ad646, e646, hx646_0, hx646_1, hx646_2, hx646_3, hx646_4⟩ := at_T51 HR0.out x13_1 p646 q646
         cases e646
         replace p646 := eq_true p646
         replace q646 := eq_true q646
         have p647 : 0 ≤ (x13_1 : Int) := of_decide_eq_true Z5
         have q647 : x13_1 < (l1.length : Int) := of_decide_eq_true Z5
         obtain ⟨ad647, e647, hx647_0, hx647_1, hx647_2, hx647_3, hx647_4⟩ := at_T51 HR1.out x13_1 p647 q647
         cases e647
         replace p647 := eq_true p647
         replace q647 := eq_true q647
         go_wp2
         repeat (go_quiet (fail); try go_wp2)
         go_ret
         exact ⟨Z2, Z3⟩
        ·rw [if_neg c8] at H
         have c8b0 : (!(((rd_T51 l0 x13_1).f0) == ((rd_T51 l1 x13_1).f0)) || (!((((rd_T51 l0 x13_1).f1).toList) == (((rd_T51 l1 x13_1).f1).toList)) || (!(((rd_T51 l0 x13_1).f2) == ((rd_T51 l1 x13_1).f2)) || (!(((rd_T51 l0 x13_1).f3) == ((rd_T51 l1 x13_1).f3)) || (!(((rd_T51 l0 x13_1).f4) == ((rd_T51 l1 x13_1).f4))))))) = false := by simpa using c8
         clear c8
         have H' := Aside0.mk H
         clear H
         have p646 : 0 ≤ (x13_1 : Int) := of_decide_eq_true Z5
         have q646 : x13_1 < (l0.length : Int) := of_decide_eq_true Z5
         obtain ⟨ad646, e646, hx646_0, hx646_1, hx646_2, hx646_3, hx646_4⟩ := at_T51 HR0.out x13_1 p646 q646
         cases e646
         replace p646 := eq_true p646
         replace q646 := eq_true q646
         have p647 : 0 ≤ (x13_1 : Int) := of_decide_eq_true Z5
         have q647 : x13_1 < (l1.length : Int) := of_decide_eq_true Z5
         obtain ⟨ad647, e647, hx647_0, hx647_1, hx647_2, hx647_3, hx647_4⟩ := at_T51 HR1.out x13_1 p647 q647
         cases e647
         replace p647 := eq_true p647
         replace q647 := eq_true q647
         go_wp2
         repeat (go_quiet (fail); try go_wp2)
         go_roundg k1
         case measure => have := HK1.out; omega
         case rel => exact ⟨(wrap64 (x13_1 + 1)), Z2, H', ⟨Z6⟩, Z3⟩
       ·rw [if_neg c7] at H
        exact absurd H (by simp)
      ·rw [if_neg c6] at H
       exact absurd H (by simp)
     ·rw [if_neg c5] at H
      exact absurd H (by simp)
    ·rw [if_neg c4] at H
     have c4b0 : decide (x13_1 < (l0.length : Int)) = false := decide_eq_false c4
     clear c4
     obtain rfl := Option.some.inj H
     go_wp2
     repeat (go_quiet (fail); try go_wp2)
     go_ret
     exact ⟨Z2, Z3⟩
 ·rw [if_neg c3] at H
  have c3b0 : ((l0.length : Int) == (l1.length : Int)) = false := beq_eq_false_iff_ne.mpr c3
  have c3b1 : ((l0.length : Int) != (l1.length : Int)) = true := bne_iff_ne.mpr c3
  have c3b2 : (l0.length == l1.length) = false := Z26
  obtain rfl := Option.some.inj H
  go_enter Try.func61, Try.ntmps61
  go_wp2
  repeat (go_quiet (fail); try go_wp2)
  go_ret
  exact ⟨Z2, Z3⟩

/-! ### impl_ListOk: function 20 -/
def impl_ListOk.f (k : Nat) (l0 : List (S51)) : Option (Bool) := (impl_Unparse.f k l0).bind fun bt648 => (if bt648.2 = true then ((impl_ParseCells.f k bt648.1).bind fun t652 => ((impl_Item.f k t652 l0).bind fun t655 => (some t655))) else (some false))
theorem impl_ListOk.mono : ∀ a0 k, LeO (impl_ListOk.f k a0) (impl_ListOk.f (k + 1) a0) := by
 intro a0 k
 unfold impl_ListOk.f
 repeat' first
   | (with_reducible exact impl_Item.mono _ _ _)
   | (with_reducible exact impl_ParseCells.mono _ _)
   | (with_reducible exact impl_Unparse.mono _ _)
   | (with_reducible exact LeO.refl _)
   | (with_reducible exact LeO.none _)
   | (with_reducible refine LeO.ite ?_ ?_)
   | (with_reducible refine LeO.bind ?_ (fun _ => ?_))
   | exact impl_Item.mono _ _ _
   | exact impl_ParseCells.mono _ _
   | exact impl_Unparse.mono _ _
   | exact LeO.none _
   | refine LeO.ite ?_ ?_
   | refine LeO.bind ?_ (fun _ => ?_)
set_option maxHeartbeats 8000000 in
set_option maxRecDepth 100000 in
theorem impl_ListOk.calls (k : Nat) (A0 : Option Addr) (c0 : Nat) (l0 : List (S51)) (r : Bool) (w : World) (hr0 : Kd.C k51 w A0 l0.length l0) (hc0 : l0.length ≤ c0) (h : impl_ListOk.f k l0 = some r) :
  Calls Try.prog 20 #[.slice A0 l0.length c0] w fun e w' => e = .returned (.bool r) ∧ Below w.heap.size w w' := by
 have HR0 := Aside0.mk hr0
 have HC0 := Aside0.mk hc0
 clear hr0 hc0
 have HB := Z (Below.refl w.heap.size w)
 have H : ((impl_Unparse.f k l0).bind fun bt648 => (if bt648.2 = true then ((impl_ParseCells.f k bt648.1).bind fun t652 => ((impl_Item.f k t652 l0).bind fun t655 => (some t655))) else (some false))) = some r := h
 clear h
 replace H := Option.bind_eq_some_iff.mp H
 obtain ⟨⟨t648, t649⟩, A20, H⟩ := H
 replace H : (if t649 = true then ((impl_ParseCells.f k t648).bind fun t652 => ((impl_Item.f k t652 l0).bind fun t655 => (some t655))) else (some false)) = some r := H
 have A2 := Aside0.mk A20
 clear A20
 by_cases c3 : t649 = true
 ·subst c3
  have H1 : ((impl_ParseCells.f k t648).bind fun t652 => ((impl_Item.f k t652 l0).bind fun t655 => (some t655))) = some r := Z11
  clear H
  have H := H1
  clear H1
  replace H := Option.bind_eq_some_iff.mp H
  obtain ⟨t652, A40, H⟩ := H
  replace H : ((impl_Item.f k t652 l0).bind fun t655 => (some t655)) = some r := H
  have A4 := Aside0.mk A40
  clear A40
  replace H := Option.bind_eq_some_iff.mp H
  obtain ⟨t655, A50, H⟩ := H
  replace H : (some t655) = some r := H
  have A5 := Aside0.mk A50
  clear A50
  obtain rfl := Option.some.inj H
  go_enter Try.func20, Try.ntmps20
  go_wp2_with (first | ((with_reducible refine gate_callee (f := 16) rfl ?_); refine goesL_ (some 7) rfl rfl Try.func16 Z0 rfl #[.slice A0 l0.length c0] rfl Z10 ?_; (with_reducible refine (impl_Unparse.calls k _ _ l0 t648 true _ ?side1 ?side2 A2.out).mono ?_); (case side1 => exact (Z61 HR0)); (case side2 => exact HC0.out); rintro e w6 ⟨v650, rfl, ho0, hb⟩; refine ⟨_, rfl, ?_⟩; have HO651 := Z (Kd.R_lower ho0 (below_size Z63)); replace HB := Z (below_step Z63 hb); (try clear hb); (try clear hb2); (try clear hk); (try clear hi); (try clear ho0); obtain ⟨Ao7, co7, eo7⟩ := Kd.R_slice HO651.out; subst eo7) | (go_at_call 15; (with_reducible refine (impl_ParseCells.calls k (fun k_ => some k_ = (.slice Ao7 t648.length co7 : Value).ownBlock) _ _ t648 t652 _ ?side1 A4.out).mono ?_); (case side1 => exact Kd.R_V (Kd.R_tight rfl (HO651.out))); rintro e w8 ⟨v653, rfl, ho0, hb⟩; replace HO651 := Z (Kd.R_below (Z12 HO651) hb); have HO654 := Z (Kd.R_lower (Kd.R_mono (ok' := fun k_ => True) ho0 (fun _ hk_ => trivial)) (below_size Z63)); replace HB := Z (below_step Z63 hb); (try clear hb); (try clear hb2); (try clear hk); (try clear hi); (try clear ho0); obtain ⟨Ao9, co9, eo9⟩ := Kd.R_slice HO654.out; subst eo9) | (go_at_call 61; (with_reducible refine (impl_Item.calls k _ _ t652 _ _ l0 t655 _ ?side1 ?side2 ?side3 ?side4 A5.out).mono ?_); (case side1 => exact (Z17 HO654)); (case side2 => exact (Kd.R_reads' HO654.out).2.1); (case side3 => exact (Z30 HR0)); (case side4 => exact HC0.out); rintro e w' ⟨rfl, ⟨nd, rfl⟩⟩))
  go_ret
  exact ⟨Z9, Z63⟩
 ·replace c3 := Bool.eq_false_iff.mpr c3
  subst c3
  have H1 : (some false) = some r := by rw [if_neg (show ¬ (false = true) by decide)] at H; exact H
  clear H
  have H := H1
  clear H1
  obtain rfl := Option.some.inj H
  go_enter Try.func20, Try.ntmps20
  go_wp2_with (first | ((with_reducible refine gate_callee (f := 16) rfl ?_); refine goesL_ (some 7) rfl rfl Try.func16 Z0 rfl #[.slice A0 l0.length c0] rfl Z10 ?_; (with_reducible refine (impl_Unparse.calls k _ _ l0 t648 false _ ?side1 ?side2 A2.out).mono ?_); (case side1 => exact (Z61 HR0)); (case side2 => exact HC0.out); rintro e w10 ⟨v650, rfl, ho0, hb⟩; refine ⟨_, rfl, ?_⟩; have HO651 := Z (Kd.R_lower ho0 (below_size Z63)); replace HB := Z (below_step Z63 hb); (try clear hb); (try clear hb2); (try clear hk); (try clear hi); (try clear ho0)))
  go_ret
  exact ⟨Z9, Z63⟩

end Go.Proofs.Ytkkiibjnpkjijaa.QFnCells
