/-
Plain functions for the Go functions that a law reaches, each with a proof that the translation's call comes to just that; no conditions beyond those written in each.
-/
import Derived.Test.YtkkiibjnpkjijaaSFnExactListOk
namespace Go.Proofs.Ytkkiibjnpkjijaa.QFnExactListOk
open Go.RowKit Go.Proofs.YtkkiibjnpkjijaaW.PrintWords Go.Proofs.YtkkiibjnpkjijaaW.PrintLast Go.Proofs.YtkkiibjnpkjijaaW.PrintMore
attribute [local go_sem] max2_int min2_int max_two min_two max_three min_three max_four min_four   -- for this text's walks alone
set_option linter.unusedVariables false
set_option linter.unusedSimpArgs false

/-! ### laws_toItem: function 35 -/
def laws_toItem.f (a0_0 : Int) (a0_1 : ByteArray) (a0_2 : Int) (a0_3 : Bool) (a0_4 : Int) : Option (Int × ByteArray × Int × Bool × Int) := some (a0_0, a0_1, a0_2, a0_3, a0_4)
set_option maxHeartbeats 8000000 in
set_option maxRecDepth 100000 in
theorem laws_toItem.calls (a0_0 : Int) (a0_1 : ByteArray) (a0_2 : Int) (a0_3 : Bool) (a0_4 : Int) (r1 : Int) (r2 : ByteArray) (r3 : Int) (r4 : Bool) (r5 : Int) (w : World) (h : laws_toItem.f a0_0 a0_1 a0_2 a0_3 a0_4 = some (r1, r2, r3, r4, r5)) :
  Calls Try.prog 35 #[.agg #[.int .i64 a0_0, .string a0_1, .int .i32 a0_2, .bool a0_3, .int .u32 a0_4]] w fun e w' => e = .returned (.agg #[.int .i64 r1, .string r2, .int .i32 r3, .bool r4, .int .u32 r5]) ∧ Below w.heap.size w w' := by
 have hu49 := Try.underlying49
 have hu51 := Try.underlying51
 have HB := Z (Below.refl w.heap.size w)
 have H : (some (a0_0, a0_1, a0_2, a0_3, a0_4)) = some (r1, r2, r3, r4, r5) := h
 clear h
 simp only [Option.some.injEq, Prod.mk.injEq] at H
 obtain ⟨rfl, rfl, rfl, rfl, rfl⟩ := H
 go_enter Try.func35, Try.ntmps35
 go_wp2_with (first | ((with_reducible refine gate_dst (N := 1) rfl ?_); refine box_event (by rfl) (N := 1) (by rfl) (cs := #[.int .i64 a0_0, .string a0_1, .int .i32 a0_2, .bool a0_3, .int .u32 a0_4]) (t := 49) Z10 ?_; intro gb278 hg w2 hbox hb; have BK278 := Z (hbox); have GW278 := Z ((Z75 : w.heap.size ≤ gb278)); have GE278 := Z ((Z75 : w.heap.size ≤ gb278)); replace HB := Z (below_step Z61 hb); clear hb hbox hg) | ((with_reducible refine gate_dst (N := 2) rfl ?_); refine box_event (by rfl) (N := 2) (by rfl) (cs := #[.int .i64 0, .string (⟨#[]⟩ : ByteArray), .int .i32 0, .bool false, .int .u32 0]) (t := 51) Z10 ?_; intro gb279 hg w3 hbox hb; have BK279 := Z (hbox); have GW279 := Z ((Z75 : w.heap.size ≤ gb279)); have GE279 := Z ((Z75 : w.heap.size ≤ gb279)); replace HB := Z (below_step Z61 hb); have NB278_279 := Z ((Z66 : gb278 ≠ gb279)); have NB279_278 := Z ((Z67 : gb279 ≠ gb278)); replace BK278 := Z (blk_below (g := gb278) (o := .cells #[.int .i64 a0_0, .string a0_1, .int .i32 a0_2, .bool a0_3, .int .u32 a0_4] 49 (0, 0)) (Z15 BK278) hb); clear hb hbox hg) | ((with_reducible refine gate_dst (N := 3) rfl ?_); refine box_event (by rfl) (N := 3) (by rfl) (cs := #[.int .i64 0, .string (⟨#[]⟩ : ByteArray), .int .i32 0, .bool false, .int .u32 0]) (t := 51) Z10 ?_; intro gb280 hg w4 hbox hb; have BK280 := Z (hbox); have GW280 := Z ((Z75 : w.heap.size ≤ gb280)); have GE280 := Z ((Z75 : w.heap.size ≤ gb280)); replace HB := Z (below_step Z61 hb); have NB278_280 := Z ((Z66 : gb278 ≠ gb280)); have NB280_278 := Z ((Z67 : gb280 ≠ gb278)); replace BK278 := Z (blk_below (g := gb278) (o := .cells #[.int .i64 a0_0, .string a0_1, .int .i32 a0_2, .bool a0_3, .int .u32 a0_4] 49 (0, 0)) (Z15 BK278) hb); have NB279_280 := Z ((by rw [hg]; exact Nat.ne_of_lt (blk_lt (g := gb279) (o := .cells #[.int .i64 0, .string (⟨#[]⟩ : ByteArray), .int .i32 0, .bool false, .int .u32 0] 51 (0, 0)) (Z15 BK279)) : gb279 ≠ gb280)); have NB280_279 := Z ((by rw [hg]; exact Nat.ne_of_gt (blk_lt (g := gb279) (o := .cells #[.int .i64 0, .string (⟨#[]⟩ : ByteArray), .int .i32 0, .bool false, .int .u32 0] 51 (0, 0)) (Z15 BK279)) : gb280 ≠ gb279)); replace BK279 := Z (blk_below (g := gb279) (o := .cells #[.int .i64 0, .string (⟨#[]⟩ : ByteArray), .int .i32 0, .bool false, .int .u32 0] 51 (0, 0)) (Z15 BK279) hb); clear hb hbox hg; have hnb5 := NB278_279.out; have hnc5 := NB279_278.out; have hnb6 := NB278_280.out; have hnc6 := NB280_278.out; have hcz7_0 : w4.cell? ⟨gb278, 0, none⟩ = some (.int .i64 a0_0) := (blk_cell BK278.out 0).trans rfl; have hcz7_1 : w4.cell? ⟨gb278, 1, none⟩ = some (.string a0_1) := (blk_cell BK278.out 1).trans rfl; have hcz7_2 : w4.cell? ⟨gb278, 2, none⟩ = some (.int .i32 a0_2) := (blk_cell BK278.out 2).trans rfl; have hcz7_3 : w4.cell? ⟨gb278, 3, none⟩ = some (.bool a0_3) := (blk_cell BK278.out 3).trans rfl; have hcz7_4 : w4.cell? ⟨gb278, 4, none⟩ = some (.int .u32 a0_4) := (blk_cell BK278.out 4).trans rfl; have hfz7_0 := blk_frozen BK278.out 0; have hfz7_1 := blk_frozen BK278.out 1; have hfz7_2 := blk_frozen BK278.out 2; have hfz7_3 := blk_frozen BK278.out 3; have hfz7_4 := blk_frozen BK278.out 4; have hnb8 := NB280_279.out; have hnc8 := NB279_280.out; have hcz9_0 : w4.cell? ⟨gb280, 0, none⟩ = some (.int .i64 0) := (blk_cell BK280.out 0).trans rfl; have hcz9_1 : w4.cell? ⟨gb280, 1, none⟩ = some (.string (⟨#[]⟩ : ByteArray)) := (blk_cell BK280.out 1).trans rfl; have hcz9_2 : w4.cell? ⟨gb280, 2, none⟩ = some (.int .i32 0) := (blk_cell BK280.out 2).trans rfl; have hcz9_3 : w4.cell? ⟨gb280, 3, none⟩ = some (.bool false) := (blk_cell BK280.out 3).trans rfl; have hcz9_4 : w4.cell? ⟨gb280, 4, none⟩ = some (.int .u32 0) := (blk_cell BK280.out 4).trans rfl; have hfz9_0 := blk_frozen BK280.out 0; have hfz9_1 := blk_frozen BK280.out 1; have hfz9_2 := blk_frozen BK280.out 2; have hfz9_3 := blk_frozen BK280.out 3; have hfz9_4 := blk_frozen BK280.out 4; have hcz10_0 : w4.cell? ⟨gb279, 0, none⟩ = some (.int .i64 0) := (blk_cell BK279.out 0).trans rfl; have hcz10_1 : w4.cell? ⟨gb279, 1, none⟩ = some (.string (⟨#[]⟩ : ByteArray)) := (blk_cell BK279.out 1).trans rfl; have hcz10_2 : w4.cell? ⟨gb279, 2, none⟩ = some (.int .i32 0) := (blk_cell BK279.out 2).trans rfl; have hcz10_3 : w4.cell? ⟨gb279, 3, none⟩ = some (.bool false) := (blk_cell BK279.out 3).trans rfl; have hcz10_4 : w4.cell? ⟨gb279, 4, none⟩ = some (.int .u32 0) := (blk_cell BK279.out 4).trans rfl; have hfz10_0 := blk_frozen BK279.out 0; have hfz10_1 := blk_frozen BK279.out 1; have hfz10_2 := blk_frozen BK279.out 2; have hfz10_3 := blk_frozen BK279.out 3; have hfz10_4 := blk_frozen BK279.out 4))
 refine bodyPost_ret (results_cell_row rfl _ _ gb279 51 #[.int .i64 a0_0, .string a0_1, .int .i32 a0_2, .bool a0_3, .int .u32 a0_4] (0, 0) _ rfl (by (with_reducible repeat (first | refine blk_drewN ?_ _ | refine blk_drew ?_ | refine blk_alloc ?_ _)); refine blk_put (cs := #[.int .i64 a0_0, .string a0_1, .int .i32 a0_2, .bool a0_3, .int .u32 0]) ?_ 4 _ rfl; (with_reducible repeat (first | refine blk_drewN ?_ _ | refine blk_drew ?_ | refine blk_alloc ?_ _)); refine blk_put (cs := #[.int .i64 a0_0, .string a0_1, .int .i32 a0_2, .bool false, .int .u32 0]) ?_ 3 _ rfl; (with_reducible repeat (first | refine blk_drewN ?_ _ | refine blk_drew ?_ | refine blk_alloc ?_ _)); refine blk_put (cs := #[.int .i64 a0_0, .string a0_1, .int .i32 0, .bool false, .int .u32 0]) ?_ 2 _ rfl; (with_reducible repeat (first | refine blk_drewN ?_ _ | refine blk_drew ?_ | refine blk_alloc ?_ _)); refine blk_put (cs := #[.int .i64 a0_0, .string (⟨#[]⟩ : ByteArray), .int .i32 0, .bool false, .int .u32 0]) ?_ 1 _ rfl; (with_reducible repeat (first | refine blk_drewN ?_ _ | refine blk_drew ?_ | refine blk_alloc ?_ _)); refine blk_put (cs := #[.int .i64 0, .string (⟨#[]⟩ : ByteArray), .int .i32 0, .bool false, .int .u32 0]) ?_ 0 _ rfl; (with_reducible repeat (first | refine blk_drewN ?_ _ | refine blk_drew ?_ | refine blk_alloc ?_ _)); refine blk_far ?_ NB279_280.out _; (with_reducible repeat (first | refine blk_drewN ?_ _ | refine blk_drew ?_ | refine blk_alloc ?_ _)); refine blk_far ?_ NB279_280.out _; (with_reducible repeat (first | refine blk_drewN ?_ _ | refine blk_drew ?_ | refine blk_alloc ?_ _)); refine blk_far ?_ NB279_280.out _; (with_reducible repeat (first | refine blk_drewN ?_ _ | refine blk_drew ?_ | refine blk_alloc ?_ _)); refine blk_far ?_ NB279_280.out _; (with_reducible repeat (first | refine blk_drewN ?_ _ | refine blk_drew ?_ | refine blk_alloc ?_ _)); refine blk_far ?_ NB279_280.out _; (with_reducible repeat (first | refine blk_drewN ?_ _ | refine blk_drew ?_ | refine blk_alloc ?_ _)); exact BK279.out) Try.underlying51 rfl Z0) rfl ?_
 exact ⟨Z13, Z61⟩

/-! ### laws_toItemS: function 46 -/
def laws_toItemS.l0 : Nat → List (S49) → List (S51) → Int → Option ((List (S51)))
 | 0, _, _, _ => none
 | k + 1, x0, x3, x4 => if x4 < (x0.length : Int) then (if 0 ≤ x4 then ((laws_toItem.f ((rd_T49 x0 x4).f0) ((rd_T49 x0 x4).f1) ((rd_T49 x0 x4).f2) ((rd_T49 x0 x4).f3) ((rd_T49 x0 x4).f4)).bind fun bt285 => (if x4 < (x3.length : Int) then (laws_toItemS.l0 k x0 (x3.set (x4 : Int).toNat (⟨bt285.1, bt285.2.1, bt285.2.2.1, bt285.2.2.2.1, bt285.2.2.2.2⟩ : S51)) (wrap64 (x4 + 1))) else (none))) else (none)) else (some x3)
def laws_toItemS.f (k : Nat) (l0 : List (S49)) : Option ((List (S51))) := if 0 ≤ (l0.length : Int) then (if ((l0.length : Int) : Int).toNat ≤ 7036874417766 then (laws_toItemS.l0 k l0 (List.replicate ((l0.length : Int) : Int).toNat z51) 0) else (none)) else (none)
theorem laws_toItemS.mono_l : ∀ k, (∀ y0 y1 y2, LeO (laws_toItemS.l0 k y0 y1 y2) (laws_toItemS.l0 (k + 1) y0 y1 y2))
 | 0 => fun _ _ _ r h => by simp [laws_toItemS.l0] at h
 | k + 1 => by
  have ih0 := laws_toItemS.mono_l k
  ·intro y0 y1 y2
   unfold laws_toItemS.l0
   repeat' first
   | (with_reducible exact ih0 _ _ _)
   | (with_reducible exact LeO.refl _)
   | (with_reducible exact LeO.none _)
   | (with_reducible refine LeO.ite ?_ ?_)
   | (with_reducible refine LeO.bind ?_ (fun _ => ?_))
   | exact ih0 _ _ _
   | exact LeO.none _
   | refine LeO.ite ?_ ?_
   | refine LeO.bind ?_ (fun _ => ?_)
theorem laws_toItemS.mono : ∀ a0 k, LeO (laws_toItemS.f k a0) (laws_toItemS.f (k + 1) a0) := by
 intro a0 k
 have ih0 := laws_toItemS.mono_l k
 unfold laws_toItemS.f
 repeat' first
   | (with_reducible exact ih0 _ _ _)
   | (with_reducible exact LeO.refl _)
   | (with_reducible exact LeO.none _)
   | (with_reducible refine LeO.ite ?_ ?_)
   | (with_reducible refine LeO.bind ?_ (fun _ => ?_))
   | exact ih0 _ _ _
   | exact LeO.none _
   | refine LeO.ite ?_ ?_
   | refine LeO.bind ?_ (fun _ => ?_)
set_option maxHeartbeats 8000000 in
set_option maxRecDepth 100000 in
theorem laws_toItemS.calls (k : Nat) (A0 : Option Addr) (c0 : Nat) (l0 : List (S49)) (r : List (S51)) (w : World) (hr0 : Kd.C k49 w A0 l0.length l0) (hc0 : l0.length ≤ c0) (h : laws_toItemS.f k l0 = some r) :
  Calls Try.prog 46 #[.slice A0 l0.length c0] w fun e w' => ∃ v0_ : Value, e = .returned (v0_) ∧ Kd.R k51 51 w' w.heap.size (fun _ => True) v0_ r ∧ Below w.heap.size w w' := by
 have hu49 := Try.underlying49
 have hu51 := Try.underlying51
 have HR0 := Aside0.mk hr0
 have HC0 := Aside0.mk hc0
 clear hr0 hc0
 have HB := Z (Below.refl w.heap.size w)
 have H : (if 0 ≤ (l0.length : Int) then (if ((l0.length : Int) : Int).toNat ≤ 7036874417766 then (laws_toItemS.l0 k l0 (List.replicate ((l0.length : Int) : Int).toNat z51) 0) else (none)) else (none)) = some r := h
 clear h
 by_cases c2 : 0 ≤ (l0.length : Int)
 ·rw [if_pos c2] at H
  have c2b0 := eq_true c2
  have c2b1 : decide (0 ≤ (l0.length : Int)) = true := decide_eq_true c2
  clear c2
  by_cases c3 : ((l0.length : Int) : Int).toNat ≤ 7036874417766
  ·rw [if_pos c3] at H
   have c3b0 := eq_true c3
   have c3b1 : decide (((l0.length : Int) : Int).toNat ≤ 7036874417766) = true := decide_eq_true c3
   clear c3
   obtain ⟨y281, hy281⟩ : ∃ y_ : List (S51), y_ = (List.replicate ((l0.length : Int) : Int).toNat z51) := ⟨_, rfl⟩
   replace H : (laws_toItemS.l0 k l0 y281 0) = some r := by first | (rw [hy281]; with_reducible exact H) | (have H2_ := (Option.bind_some _ _).symm.trans H; rw [hy281]; with_reducible exact H2_) | (have H2_ := (Option.bind_some _ _).symm.trans H; with_reducible exact H2_) | with_reducible exact H | (rw [hy281]; exact H) | exact H
   have Ny281 := Aside0.mk hy281
   clear hy281
   have H' := Aside0.mk H
   clear H
   go_enter Try.func46, Try.ntmps46
   go_wp2_with (first | ((with_reducible refine gate_dst (N := 7) rfl ?_); refine Kd.R_make k51 _ 51 rfl (N := 7) rfl 26 _ _ rfl (l0.length : Int) rfl rfl Try.underlying26 (.agg #[(.int .i64 0), (.string ⟨#[]⟩), (.int .i32 0), (.bool false), (.int .u32 0)]) 40 info51 rfl (by decide) (by omega) z51 (ok := fun _ => True) (okp := fun _ => True) (k51_mkM _ _ _ z51 ) (fun _ hk => hk) trivial (of_decide_eq_true Z5) (Nat.le_trans (Nat.mul_le_mul_right _ (of_decide_eq_true Z5 : (l0.length : Int).toNat ≤ 7036874417766)) (by omega)) (Below.refl _ _) (Nat.le_refl _) ?_; intro v282 w4 ho5 hb hg_ hnew_; clear hg_ hnew_; (first | rw [← Ny281.out] at ho5 | (simp only [Int.reduceToNat] at ho5; rw [← Ny281.out] at ho5)); have HO283 := Z (Kd.R_lower ho5 (below_size Z61)); replace HB := Z (below_step Z61 hb); clear hb ho5))
   go_loopg [4] k (fun kq v4 w' => ∃ (x3_1 : List (S51)) (x4_1 : Int), v4 = .int .i64 x4_1 ∧ Aside0 (laws_toItemS.l0 kq l0 x3_1 x4_1 = some r) ∧ Aside0 (kq ≤ k) ∧ Aside0 (Kd.R k51 51 w' w.heap.size (fun _ => True) v282 x3_1) ∧ Aside0 (Below w.heap.size w w'))
   case atStart => exact ⟨(y281), (0), Z2, H', ⟨Nat.le_refl _⟩, ⟨(Z12 HO283)⟩, ⟨Z61⟩⟩
   case round =>
    clear H'
    try clear c2
    try clear c2b0
    try clear c2b1
    try clear p2
    try clear c3
    try clear c3b0
    try clear c3b1
    try clear c4
    obtain ⟨x3_1, x4_1, rfl, HA, HK1, HO_3, HB⟩ := hrel
    cases gk with
    | zero => exact absurd HA.out (by simp [laws_toItemS.l0])
    | succ k1 =>
     have H := HA.out
     clear HA
     simp only [laws_toItemS.l0] at H
     by_cases c6 : x4_1 < (l0.length : Int)
     ·rw [if_pos c6] at H
      have c6b0 : decide (x4_1 < (l0.length : Int)) = true := decide_eq_true c6
      clear c6
      by_cases c7 : 0 ≤ x4_1
      ·rw [if_pos c7] at H
       have c7b0 : decide (0 ≤ x4_1) = true := decide_eq_true c7
       clear c7
       replace H := Option.bind_eq_some_iff.mp H
       obtain ⟨⟨t285, t286, t287, t288, t289⟩, A80, H⟩ := H
       replace H : (if x4_1 < (x3_1.length : Int) then (laws_toItemS.l0 k1 l0 (x3_1.set (x4_1 : Int).toNat (⟨t285, t286, t287, t288, t289⟩ : S51)) (wrap64 (x4_1 + 1))) else (none)) = some r := H
       have A8 := Aside0.mk A80
       clear A80
       by_cases c9 : x4_1 < (x3_1.length : Int)
       ·rw [if_pos c9] at H
        have c9b0 : decide (x4_1 < (x3_1.length : Int)) = true := decide_eq_true c9
        clear c9
        obtain ⟨y290, hy290⟩ : ∃ y_ : List (S51), y_ = (x3_1.set (x4_1 : Int).toNat (⟨t285, t286, t287, t288, t289⟩ : S51)) := ⟨_, rfl⟩
        replace H : (laws_toItemS.l0 k1 l0 y290 (wrap64 (x4_1 + 1))) = some r := by first | (rw [hy290]; with_reducible exact H) | (have H2_ := (Option.bind_some _ _).symm.trans H; rw [hy290]; with_reducible exact H2_) | (have H2_ := (Option.bind_some _ _).symm.trans H; with_reducible exact H2_) | with_reducible exact H | (rw [hy290]; exact H) | exact H
        have Ny290 := Aside0.mk hy290
        clear hy290
        have H' := Aside0.mk H
        clear H
        have p284 : 0 ≤ (x4_1 : Int) := of_decide_eq_true Z5
        have q284 : x4_1 < (l0.length : Int) := of_decide_eq_true Z5
        obtain ⟨ad284, e284, hx284_0, hx284_1, hx284_2, hx284_3, hx284_4⟩ := at_T49 HR0.out x4_1 p284 q284
        cases e284
        replace hx284_0 := (HB.out.cell (World.block_lt_of_cell? w _ hx284_0)).trans hx284_0
        replace hx284_1 := (HB.out.cell (World.block_lt_of_cell? w _ hx284_1)).trans hx284_1
        replace hx284_2 := (HB.out.cell (World.block_lt_of_cell? w _ hx284_2)).trans hx284_2
        replace hx284_3 := (HB.out.cell (World.block_lt_of_cell? w _ hx284_3)).trans hx284_3
        replace hx284_4 := (HB.out.cell (World.block_lt_of_cell? w _ hx284_4)).trans hx284_4
        replace p284 := eq_true p284
        replace q284 := eq_true q284
        go_wp2_with (first | ((with_reducible refine gate_callee (f := 35) rfl ?_); refine goesL_ (some 20) rfl rfl Try.func35 Z0 rfl #[.agg #[.int .i64 ((rd_T49 l0 x4_1).f0), .string ((rd_T49 l0 x4_1).f1), .int .i32 ((rd_T49 l0 x4_1).f2), .bool ((rd_T49 l0 x4_1).f3), .int .u32 ((rd_T49 l0 x4_1).f4)]] rfl Z4 ?_; (with_reducible refine (laws_toItem.calls ((rd_T49 l0 x4_1).f0) ((rd_T49 l0 x4_1).f1) ((rd_T49 l0 x4_1).f2) ((rd_T49 l0 x4_1).f3) ((rd_T49 l0 x4_1).f4) t285 t286 t287 t288 t289 _ A8.out).mono ?_); rintro e w11 ⟨rfl, hb⟩; refine ⟨_, rfl, ?_⟩; replace HO_3 := Z (Kd.R_below (Z12 HO_3) hb); replace HB := Z (below_step Z61 hb); (try clear hb); (try clear hb2); (try clear hk); (try clear hi); have p10 : 0 ≤ (x4_1 : Int) := of_decide_eq_true Z5; have q10 : (x4_1 : Int) < ((x3_1.length : Int) : Int) := of_decide_eq_true Z5; obtain ⟨go10, co10, eo10, gb10, gl10, cl10, HG10⟩ := Kd.R_form HO_3.out (by omega); (first | cases eo10 | (injection eo10 with ea_ en_ ec_; (first | subst ea_ | (injection ea_ with ea_; subst ea_)); subst ec_; clear en_)); have GB10 := Aside0.mk gb10; have GG10 := Aside0.mk HG10; clear gb10 gl10 HG10; obtain ⟨ce10, hcl10, hM10, hcc10, hfr10⟩ := Kd.R_elem HO_3.out z51 (x4_1 : Int) p10 q10; obtain rfl := k51_openM hM10; have hx10_0 : w11.cell? ⟨go10, (x4_1 : Int).toNat * 5, none⟩ = some (.int .i64 ((rd_T51 x3_1 x4_1).f0)) := hcc10 0 _ rfl; have hx10_1 : w11.cell? ⟨go10, (x4_1 : Int).toNat * 5 + 1, none⟩ = some (.string ((rd_T51 x3_1 x4_1).f1)) := hcc10 1 _ rfl; have hx10_2 : w11.cell? ⟨go10, (x4_1 : Int).toNat * 5 + 2, none⟩ = some (.int .i32 ((rd_T51 x3_1 x4_1).f2)) := hcc10 2 _ rfl; have hx10_3 : w11.cell? ⟨go10, (x4_1 : Int).toNat * 5 + 3, none⟩ = some (.bool ((rd_T51 x3_1 x4_1).f3)) := hcc10 3 _ rfl; have hx10_4 : w11.cell? ⟨go10, (x4_1 : Int).toNat * 5 + 4, none⟩ = some (.int .u32 ((rd_T51 x3_1 x4_1).f4)) := hcc10 4 _ rfl; have hf10_0 : w11.frozen? ⟨go10, (x4_1 : Int).toNat * 5, none⟩ = false := hfr10 0; have hf10_1 : w11.frozen? ⟨go10, (x4_1 : Int).toNat * 5 + 1, none⟩ = false := hfr10 1; have hf10_2 : w11.frozen? ⟨go10, (x4_1 : Int).toNat * 5 + 2, none⟩ = false := hfr10 2; have hf10_3 : w11.frozen? ⟨go10, (x4_1 : Int).toNat * 5 + 3, none⟩ = false := hfr10 3; have hf10_4 : w11.frozen? ⟨go10, (x4_1 : Int).toNat * 5 + 4, none⟩ = false := hfr10 4; clear hcl10 hcc10 hfr10 hM10; replace p10 := eq_true p10; replace q10 := eq_true q10; have HX12 := Z (show Kd.R k51 51 w11 w.heap.size (fun _ => True) (.slice (some ⟨go10, 0, none⟩) x3_1.length co10) x3_1 from (Z12 HO_3)); obtain ⟨ce12, hcl12, hM12, hcc12, hfr12⟩ := Kd.R_elem HX12.out z51 (x4_1 : Int) (of_decide_eq_true Z5) (Z68 HO_3); obtain rfl := k51_openM hM12; have HP12 := Kd.R_seg HX12.out (x4_1 : Int) (of_decide_eq_true Z5) (Z68 HO_3) (seg := [.int .i64 t285, .string t286, .int .i32 t287, .bool t288, .int .u32 t289]) (j := 0) hcl12 hcc12 (show 5 ≤ 5 from by decide) (x' := (⟨t285, t286, t287, t288, t289⟩ : S51)) (k51_mkM _ _ _ (⟨t285, t286, t287, t288, t289⟩ : S51) ) (fun _ hk => hk); have hx12_0 := hcc12 0 _ rfl; (try simp only [show (k51).sz = 5 from rfl, Nat.mul_one, Nat.add_zero] at hx12_0); have hf12_0 := hfr12 0; (try simp only [show (k51).sz = 5 from rfl, Nat.mul_one, Nat.add_zero] at hf12_0); have hx12_1 := hcc12 1 _ rfl; (try simp only [show (k51).sz = 5 from rfl, Nat.mul_one, Nat.add_zero] at hx12_1); have hf12_1 := hfr12 1; (try simp only [show (k51).sz = 5 from rfl, Nat.mul_one, Nat.add_zero] at hf12_1); have hx12_2 := hcc12 2 _ rfl; (try simp only [show (k51).sz = 5 from rfl, Nat.mul_one, Nat.add_zero] at hx12_2); have hf12_2 := hfr12 2; (try simp only [show (k51).sz = 5 from rfl, Nat.mul_one, Nat.add_zero] at hf12_2); have hx12_3 := hcc12 3 _ rfl; (try simp only [show (k51).sz = 5 from rfl, Nat.mul_one, Nat.add_zero] at hx12_3); have hf12_3 := hfr12 3; (try simp only [show (k51).sz = 5 from rfl, Nat.mul_one, Nat.add_zero] at hf12_3); have hx12_4 := hcc12 4 _ rfl; (try simp only [show (k51).sz = 5 from rfl, Nat.mul_one, Nat.add_zero] at hx12_4); have hf12_4 := hfr12 4; (try simp only [show (k51).sz = 5 from rfl, Nat.mul_one, Nat.add_zero] at hf12_4); clear hcl12 hcc12 hfr12 hM12) | ((with_reducible refine gate_store (t := 51) (p := 21) rfl ?_); refine store_event (t := 51) (p := 21) (v := ?vo_w13) (w1 := (((((w11.setCell ⟨go10, (x4_1 : Int).toNat * 5, none⟩ (.int .i64 t285)).setCell ⟨go10, (x4_1 : Int).toNat * 5 + 1, none⟩ (.string t286)).setCell ⟨go10, (x4_1 : Int).toNat * 5 + 2, none⟩ (.int .i32 t287)).setCell ⟨go10, (x4_1 : Int).toNat * 5 + 3, none⟩ (.bool t288)).setCell ⟨go10, (x4_1 : Int).toNat * 5 + 4, none⟩ (.int .u32 t289))) (by rfl) (by rfl) (by rfl) Z10 ?_; intro w13 hw; have hg : w11.grownBy w13 (some go10) := (by rw [hw]; exact HP12.2); have hp_ : Kd.R k51 51 w13 w.heap.size (fun _ => True) (.slice (some ⟨go10, 0, none⟩) x3_1.length co10) y290 := (by rw [hw, Ny290.out]; exact HP12.1); clear HP12; replace HO_3 := Z (hp_); replace HB := Z ((by rw [hw]; exact below_set (below_set (below_set (below_set (below_set (HB.out) GB10.out) GB10.out) GB10.out) GB10.out) GB10.out : Below w.heap.size w w13)); clear hg hw hp_))
        go_roundg k1
        case measure => have := HK1.out; omega
        case rel => exact ⟨(y290), (wrap64 (x4_1 + 1)), Z2, H', ⟨Z6⟩, ⟨(Z12 HO_3)⟩, ⟨Z61⟩⟩
       ·rw [if_neg c9] at H
        exact absurd H (by simp)
      ·rw [if_neg c7] at H
       exact absurd H (by simp)
     ·rw [if_neg c6] at H
      have c6b0 : decide (x4_1 < (l0.length : Int)) = false := decide_eq_false c6
      clear c6
      obtain rfl := Option.some.inj H
      go_wp2
      go_ret
      exact ⟨_, Z13, (Z12 HO_3), Z61⟩
  ·rw [if_neg c3] at H
   exact absurd H (by simp)
 ·rw [if_neg c2] at H
  exact absurd H (by simp)

/-! ### laws_eqItem: function 37 -/
def laws_eqItem.f (a0_0 : Int) (a0_1 : ByteArray) (a0_2 : Int) (a0_3 : Bool) (a0_4 : Int) (a1_0 : Int) (a1_1 : ByteArray) (a1_2 : Int) (a1_3 : Bool) (a1_4 : Int) : Option (Bool) := if a0_0 = a1_0 then (if a0_1.toList = a1_1.toList then (if a0_2 = a1_2 then (if (a0_3 != a1_3) = true then (some false) else (if a0_4 = a1_4 then (some true) else (some false))) else (some false)) else (some false)) else (some false)
set_option maxHeartbeats 8000000 in
set_option maxRecDepth 100000 in
theorem laws_eqItem.calls (a0_0 : Int) (a0_1 : ByteArray) (a0_2 : Int) (a0_3 : Bool) (a0_4 : Int) (a1_0 : Int) (a1_1 : ByteArray) (a1_2 : Int) (a1_3 : Bool) (a1_4 : Int) (r : Bool) (w : World) (h : laws_eqItem.f a0_0 a0_1 a0_2 a0_3 a0_4 a1_0 a1_1 a1_2 a1_3 a1_4 = some r) :
  Calls Try.prog 37 #[.agg #[.int .i64 a0_0, .string a0_1, .int .i32 a0_2, .bool a0_3, .int .u32 a0_4], .agg #[.int .i64 a1_0, .string a1_1, .int .i32 a1_2, .bool a1_3, .int .u32 a1_4]] w fun e w' => e = .returned (.bool r) ∧ Below w.heap.size w w' := by
 have hu51 := Try.underlying51
 have HB := Z (Below.refl w.heap.size w)
 have H : (if a0_0 = a1_0 then (if a0_1.toList = a1_1.toList then (if a0_2 = a1_2 then (if (a0_3 != a1_3) = true then (some false) else (if a0_4 = a1_4 then (some true) else (some false))) else (some false)) else (some false)) else (some false)) = some r := h
 clear h
 by_cases c3 : a0_0 = a1_0
 ·rw [if_pos c3] at H
  have c3b0 : (a0_0 == a1_0) = true := beq_iff_eq.mpr c3
  have c3b1 : (a0_0 != a1_0) = false := bne_eq_false_iff_eq.mpr c3
  clear c3
  by_cases c4 : a0_1.toList = a1_1.toList
  ·rw [if_pos c4] at H
   have c4b0 : (a0_1.toList == a1_1.toList) = true := beq_iff_eq.mpr c4
   have c4b1 : (a0_1.toList != a1_1.toList) = false := bne_eq_false_iff_eq.mpr c4
   clear c4
   by_cases c5 : a0_2 = a1_2
   ·rw [if_pos c5] at H
    have c5b0 : (a0_2 == a1_2) = true := beq_iff_eq.mpr c5
    have c5b1 : (a0_2 != a1_2) = false := bne_eq_false_iff_eq.mpr c5
    clear c5
    by_cases c6 : (a0_3 != a1_3) = true
    ·rw [if_pos c6] at H
     have c6b0 : (a0_3 != a1_3) = true := c6
     (try (have c6b1 : decide (a0_3 = a1_3) = false := by simpa using c6))
     (try (have c6b2 : (a0_3 == a1_3) = false := by simpa using c6))
     (try (have c6b3 : ¬ (a0_3 = a1_3) := by simpa using c6))
     clear c6
     obtain rfl := Option.some.inj H
     go_enter Try.func37, Try.ntmps37
     go_wp2_with (first | ((with_reducible refine gate_dst (N := 2) rfl ?_); refine box_event (by rfl) (N := 2) (by rfl) (cs := #[.int .i64 a0_0, .string a0_1, .int .i32 a0_2, .bool a0_3, .int .u32 a0_4]) (t := 51) Z10 ?_; intro gb291 hg w7 hbox hb; have BK291 := Z (hbox); have GW291 := Z ((Z75 : w.heap.size ≤ gb291)); have GE291 := Z ((Z75 : w.heap.size ≤ gb291)); replace HB := Z (below_step Z61 hb); clear hb hbox hg) | ((with_reducible refine gate_dst (N := 3) rfl ?_); refine box_event (by rfl) (N := 3) (by rfl) (cs := #[.int .i64 a1_0, .string a1_1, .int .i32 a1_2, .bool a1_3, .int .u32 a1_4]) (t := 51) Z10 ?_; intro gb292 hg w8 hbox hb; have BK292 := Z (hbox); have GW292 := Z ((Z75 : w.heap.size ≤ gb292)); have GE292 := Z ((Z75 : w.heap.size ≤ gb292)); replace HB := Z (below_step Z61 hb); have NB291_292 := Z ((Z69 : gb291 ≠ gb292)); have NB292_291 := Z ((Z70 : gb292 ≠ gb291)); replace BK291 := Z (blk_below (g := gb291) (o := .cells #[.int .i64 a0_0, .string a0_1, .int .i32 a0_2, .bool a0_3, .int .u32 a0_4] 51 (0, 0)) (Z15 BK291) hb); clear hb hbox hg; have hnb9 := NB291_292.out; have hnc9 := NB292_291.out; have hcz10_0 : w8.cell? ⟨gb291, 0, none⟩ = some (.int .i64 a0_0) := (blk_cell BK291.out 0).trans rfl; have hcz10_1 : w8.cell? ⟨gb291, 1, none⟩ = some (.string a0_1) := (blk_cell BK291.out 1).trans rfl; have hcz10_2 : w8.cell? ⟨gb291, 2, none⟩ = some (.int .i32 a0_2) := (blk_cell BK291.out 2).trans rfl; have hcz10_3 : w8.cell? ⟨gb291, 3, none⟩ = some (.bool a0_3) := (blk_cell BK291.out 3).trans rfl; have hcz10_4 : w8.cell? ⟨gb291, 4, none⟩ = some (.int .u32 a0_4) := (blk_cell BK291.out 4).trans rfl; have hfz10_0 := blk_frozen BK291.out 0; have hfz10_1 := blk_frozen BK291.out 1; have hfz10_2 := blk_frozen BK291.out 2; have hfz10_3 := blk_frozen BK291.out 3; have hfz10_4 := blk_frozen BK291.out 4; have hcz11_0 : w8.cell? ⟨gb292, 0, none⟩ = some (.int .i64 a1_0) := (blk_cell BK292.out 0).trans rfl; have hcz11_1 : w8.cell? ⟨gb292, 1, none⟩ = some (.string a1_1) := (blk_cell BK292.out 1).trans rfl; have hcz11_2 : w8.cell? ⟨gb292, 2, none⟩ = some (.int .i32 a1_2) := (blk_cell BK292.out 2).trans rfl; have hcz11_3 : w8.cell? ⟨gb292, 3, none⟩ = some (.bool a1_3) := (blk_cell BK292.out 3).trans rfl; have hcz11_4 : w8.cell? ⟨gb292, 4, none⟩ = some (.int .u32 a1_4) := (blk_cell BK292.out 4).trans rfl; have hfz11_0 := blk_frozen BK292.out 0; have hfz11_1 := blk_frozen BK292.out 1; have hfz11_2 := blk_frozen BK292.out 2; have hfz11_3 := blk_frozen BK292.out 3; have hfz11_4 := blk_frozen BK292.out 4))
     go_ret
     exact ⟨Z13, Z61⟩
    ·rw [if_neg c6] at H
     have c6b0 : (a0_3 != a1_3) = false := by simpa using c6
     (try (have c6b1 : decide (a0_3 = a1_3) = true := by simpa using c6))
     (try (have c6b2 : (a0_3 == a1_3) = true := by simpa using c6))
     clear c6
     by_cases c12 : a0_4 = a1_4
     ·rw [if_pos c12] at H
      have c12b0 : (a0_4 == a1_4) = true := beq_iff_eq.mpr c12
      have c12b1 : (a0_4 != a1_4) = false := bne_eq_false_iff_eq.mpr c12
      clear c12
      obtain rfl := Option.some.inj H
      go_enter Try.func37, Try.ntmps37
      go_wp2_with (first | ((with_reducible refine gate_dst (N := 2) rfl ?_); refine box_event (by rfl) (N := 2) (by rfl) (cs := #[.int .i64 a0_0, .string a0_1, .int .i32 a0_2, .bool a0_3, .int .u32 a0_4]) (t := 51) Z10 ?_; intro gb291 hg w13 hbox hb; have BK291 := Z (hbox); have GW291 := Z ((Z75 : w.heap.size ≤ gb291)); have GE291 := Z ((Z75 : w.heap.size ≤ gb291)); replace HB := Z (below_step Z61 hb); clear hb hbox hg) | ((with_reducible refine gate_dst (N := 3) rfl ?_); refine box_event (by rfl) (N := 3) (by rfl) (cs := #[.int .i64 a1_0, .string a1_1, .int .i32 a1_2, .bool a1_3, .int .u32 a1_4]) (t := 51) Z10 ?_; intro gb292 hg w14 hbox hb; have BK292 := Z (hbox); have GW292 := Z ((Z75 : w.heap.size ≤ gb292)); have GE292 := Z ((Z75 : w.heap.size ≤ gb292)); replace HB := Z (below_step Z61 hb); have NB291_292 := Z ((Z69 : gb291 ≠ gb292)); have NB292_291 := Z ((Z70 : gb292 ≠ gb291)); replace BK291 := Z (blk_below (g := gb291) (o := .cells #[.int .i64 a0_0, .string a0_1, .int .i32 a0_2, .bool a0_3, .int .u32 a0_4] 51 (0, 0)) (Z15 BK291) hb); clear hb hbox hg; have hnb15 := NB291_292.out; have hnc15 := NB292_291.out; have hcz16_0 : w14.cell? ⟨gb291, 0, none⟩ = some (.int .i64 a0_0) := (blk_cell BK291.out 0).trans rfl; have hcz16_1 : w14.cell? ⟨gb291, 1, none⟩ = some (.string a0_1) := (blk_cell BK291.out 1).trans rfl; have hcz16_2 : w14.cell? ⟨gb291, 2, none⟩ = some (.int .i32 a0_2) := (blk_cell BK291.out 2).trans rfl; have hcz16_3 : w14.cell? ⟨gb291, 3, none⟩ = some (.bool a0_3) := (blk_cell BK291.out 3).trans rfl; have hcz16_4 : w14.cell? ⟨gb291, 4, none⟩ = some (.int .u32 a0_4) := (blk_cell BK291.out 4).trans rfl; have hfz16_0 := blk_frozen BK291.out 0; have hfz16_1 := blk_frozen BK291.out 1; have hfz16_2 := blk_frozen BK291.out 2; have hfz16_3 := blk_frozen BK291.out 3; have hfz16_4 := blk_frozen BK291.out 4; have hcz17_0 : w14.cell? ⟨gb292, 0, none⟩ = some (.int .i64 a1_0) := (blk_cell BK292.out 0).trans rfl; have hcz17_1 : w14.cell? ⟨gb292, 1, none⟩ = some (.string a1_1) := (blk_cell BK292.out 1).trans rfl; have hcz17_2 : w14.cell? ⟨gb292, 2, none⟩ = some (.int .i32 a1_2) := (blk_cell BK292.out 2).trans rfl; have hcz17_3 : w14.cell? ⟨gb292, 3, none⟩ = some (.bool a1_3) := (blk_cell BK292.out 3).trans rfl; have hcz17_4 : w14.cell? ⟨gb292, 4, none⟩ = some (.int .u32 a1_4) := (blk_cell BK292.out 4).trans rfl; have hfz17_0 := blk_frozen BK292.out 0; have hfz17_1 := blk_frozen BK292.out 1; have hfz17_2 := blk_frozen BK292.out 2; have hfz17_3 := blk_frozen BK292.out 3; have hfz17_4 := blk_frozen BK292.out 4))
      go_ret
      exact ⟨Z13, Z61⟩
     ·rw [if_neg c12] at H
      have c12b0 : (a0_4 == a1_4) = false := beq_eq_false_iff_ne.mpr c12
      have c12b1 : (a0_4 != a1_4) = true := bne_iff_ne.mpr c12
      obtain rfl := Option.some.inj H
      go_enter Try.func37, Try.ntmps37
      go_wp2_with (first | ((with_reducible refine gate_dst (N := 2) rfl ?_); refine box_event (by rfl) (N := 2) (by rfl) (cs := #[.int .i64 a0_0, .string a0_1, .int .i32 a0_2, .bool a0_3, .int .u32 a0_4]) (t := 51) Z10 ?_; intro gb291 hg w18 hbox hb; have BK291 := Z (hbox); have GW291 := Z ((Z75 : w.heap.size ≤ gb291)); have GE291 := Z ((Z75 : w.heap.size ≤ gb291)); replace HB := Z (below_step Z61 hb); clear hb hbox hg) | ((with_reducible refine gate_dst (N := 3) rfl ?_); refine box_event (by rfl) (N := 3) (by rfl) (cs := #[.int .i64 a1_0, .string a1_1, .int .i32 a1_2, .bool a1_3, .int .u32 a1_4]) (t := 51) Z10 ?_; intro gb292 hg w19 hbox hb; have BK292 := Z (hbox); have GW292 := Z ((Z75 : w.heap.size ≤ gb292)); have GE292 := Z ((Z75 : w.heap.size ≤ gb292)); replace HB := Z (below_step Z61 hb); have NB291_292 := Z ((Z69 : gb291 ≠ gb292)); have NB292_291 := Z ((Z70 : gb292 ≠ gb291)); replace BK291 := Z (blk_below (g := gb291) (o := .cells #[.int .i64 a0_0, .string a0_1, .int .i32 a0_2, .bool a0_3, .int .u32 a0_4] 51 (0, 0)) (Z15 BK291) hb); clear hb hbox hg; have hnb20 := NB291_292.out; have hnc20 := NB292_291.out; have hcz21_0 : w19.cell? ⟨gb291, 0, none⟩ = some (.int .i64 a0_0) := (blk_cell BK291.out 0).trans rfl; have hcz21_1 : w19.cell? ⟨gb291, 1, none⟩ = some (.string a0_1) := (blk_cell BK291.out 1).trans rfl; have hcz21_2 : w19.cell? ⟨gb291, 2, none⟩ = some (.int .i32 a0_2) := (blk_cell BK291.out 2).trans rfl; have hcz21_3 : w19.cell? ⟨gb291, 3, none⟩ = some (.bool a0_3) := (blk_cell BK291.out 3).trans rfl; have hcz21_4 : w19.cell? ⟨gb291, 4, none⟩ = some (.int .u32 a0_4) := (blk_cell BK291.out 4).trans rfl; have hfz21_0 := blk_frozen BK291.out 0; have hfz21_1 := blk_frozen BK291.out 1; have hfz21_2 := blk_frozen BK291.out 2; have hfz21_3 := blk_frozen BK291.out 3; have hfz21_4 := blk_frozen BK291.out 4; have hcz22_0 : w19.cell? ⟨gb292, 0, none⟩ = some (.int .i64 a1_0) := (blk_cell BK292.out 0).trans rfl; have hcz22_1 : w19.cell? ⟨gb292, 1, none⟩ = some (.string a1_1) := (blk_cell BK292.out 1).trans rfl; have hcz22_2 : w19.cell? ⟨gb292, 2, none⟩ = some (.int .i32 a1_2) := (blk_cell BK292.out 2).trans rfl; have hcz22_3 : w19.cell? ⟨gb292, 3, none⟩ = some (.bool a1_3) := (blk_cell BK292.out 3).trans rfl; have hcz22_4 : w19.cell? ⟨gb292, 4, none⟩ = some (.int .u32 a1_4) := (blk_cell BK292.out 4).trans rfl; have hfz22_0 := blk_frozen BK292.out 0; have hfz22_1 := blk_frozen BK292.out 1; have hfz22_2 := blk_frozen BK292.out 2; have hfz22_3 := blk_frozen BK292.out 3; have hfz22_4 := blk_frozen BK292.out 4))
      go_ret
      exact ⟨Z13, Z61⟩
   ·rw [if_neg c5] at H
    have c5b0 : (a0_2 == a1_2) = false := beq_eq_false_iff_ne.mpr c5
    have c5b1 : (a0_2 != a1_2) = true := bne_iff_ne.mpr c5
    obtain rfl := Option.some.inj H
    go_enter Try.func37, Try.ntmps37
    go_wp2_with (first | ((with_reducible refine gate_dst (N := 2) rfl ?_); refine box_event (by rfl) (N := 2) (by rfl) (cs := #[.int .i64 a0_0, .string a0_1, .int .i32 a0_2, .bool a0_3, .int .u32 a0_4]) (t := 51) Z10 ?_; intro gb291 hg w23 hbox hb; have BK291 := Z (hbox); have GW291 := Z ((Z75 : w.heap.size ≤ gb291)); have GE291 := Z ((Z75 : w.heap.size ≤ gb291)); replace HB := Z (below_step Z61 hb); clear hb hbox hg) | ((with_reducible refine gate_dst (N := 3) rfl ?_); refine box_event (by rfl) (N := 3) (by rfl) (cs := #[.int .i64 a1_0, .string a1_1, .int .i32 a1_2, .bool a1_3, .int .u32 a1_4]) (t := 51) Z10 ?_; intro gb292 hg w24 hbox hb; have BK292 := Z (hbox); have GW292 := Z ((Z75 : w.heap.size ≤ gb292)); have GE292 := Z ((Z75 : w.heap.size ≤ gb292)); replace HB := Z (below_step Z61 hb); have NB291_292 := Z ((Z69 : gb291 ≠ gb292)); have NB292_291 := Z ((Z70 : gb292 ≠ gb291)); replace BK291 := Z (blk_below (g := gb291) (o := .cells #[.int .i64 a0_0, .string a0_1, .int .i32 a0_2, .bool a0_3, .int .u32 a0_4] 51 (0, 0)) (Z15 BK291) hb); clear hb hbox hg; have hnb25 := NB291_292.out; have hnc25 := NB292_291.out; have hcz26_0 : w24.cell? ⟨gb291, 0, none⟩ = some (.int .i64 a0_0) := (blk_cell BK291.out 0).trans rfl; have hcz26_1 : w24.cell? ⟨gb291, 1, none⟩ = some (.string a0_1) := (blk_cell BK291.out 1).trans rfl; have hcz26_2 : w24.cell? ⟨gb291, 2, none⟩ = some (.int .i32 a0_2) := (blk_cell BK291.out 2).trans rfl; have hcz26_3 : w24.cell? ⟨gb291, 3, none⟩ = some (.bool a0_3) := (blk_cell BK291.out 3).trans rfl; have hcz26_4 : w24.cell? ⟨gb291, 4, none⟩ = some (.int .u32 a0_4) := (blk_cell BK291.out 4).trans rfl; have hfz26_0 := blk_frozen BK291.out 0; have hfz26_1 := blk_frozen BK291.out 1; have hfz26_2 := blk_frozen BK291.out 2; have hfz26_3 := blk_frozen BK291.out 3; have hfz26_4 := blk_frozen BK291.out 4; have hcz27_0 : w24.cell? ⟨gb292, 0, none⟩ = some (.int .i64 a1_0) := (blk_cell BK292.out 0).trans rfl; have hcz27_1 : w24.cell? ⟨gb292, 1, none⟩ = some (.string a1_1) := (blk_cell BK292.out 1).trans rfl; have hcz27_2 : w24.cell? ⟨gb292, 2, none⟩ = some (.int .i32 a1_2) := (blk_cell BK292.out 2).trans rfl; have hcz27_3 : w24.cell? ⟨gb292, 3, none⟩ = some (.bool a1_3) := (blk_cell BK292.out 3).trans rfl; have hcz27_4 : w24.cell? ⟨gb292, 4, none⟩ = some (.int .u32 a1_4) := (blk_cell BK292.out 4).trans rfl; have hfz27_0 := blk_frozen BK292.out 0; have hfz27_1 := blk_frozen BK292.out 1; have hfz27_2 := blk_frozen BK292.out 2; have hfz27_3 := blk_frozen BK292.out 3; have hfz27_4 := blk_frozen BK292.out 4))
    go_ret
    exact ⟨Z13, Z61⟩
  ·rw [if_neg c4] at H
   have c4b0 : (a0_1.toList == a1_1.toList) = false := beq_eq_false_iff_ne.mpr c4
   have c4b1 : (a0_1.toList != a1_1.toList) = true := bne_iff_ne.mpr c4
   obtain rfl := Option.some.inj H
   go_enter Try.func37, Try.ntmps37
   go_wp2_with (first | ((with_reducible refine gate_dst (N := 2) rfl ?_); refine box_event (by rfl) (N := 2) (by rfl) (cs := #[.int .i64 a0_0, .string a0_1, .int .i32 a0_2, .bool a0_3, .int .u32 a0_4]) (t := 51) Z10 ?_; intro gb291 hg w28 hbox hb; have BK291 := Z (hbox); have GW291 := Z ((Z75 : w.heap.size ≤ gb291)); have GE291 := Z ((Z75 : w.heap.size ≤ gb291)); replace HB := Z (below_step Z61 hb); clear hb hbox hg) | ((with_reducible refine gate_dst (N := 3) rfl ?_); refine box_event (by rfl) (N := 3) (by rfl) (cs := #[.int .i64 a1_0, .string a1_1, .int .i32 a1_2, .bool a1_3, .int .u32 a1_4]) (t := 51) Z10 ?_; intro gb292 hg w29 hbox hb; have BK292 := Z (hbox); have GW292 := Z ((Z75 : w.heap.size ≤ gb292)); have GE292 := Z ((Z75 : w.heap.size ≤ gb292)); replace HB := Z (below_step Z61 hb); have NB291_292 := Z ((Z69 : gb291 ≠ gb292)); have NB292_291 := Z ((Z70 : gb292 ≠ gb291)); replace BK291 := Z (blk_below (g := gb291) (o := .cells #[.int .i64 a0_0, .string a0_1, .int .i32 a0_2, .bool a0_3, .int .u32 a0_4] 51 (0, 0)) (Z15 BK291) hb); clear hb hbox hg; have hnb30 := NB291_292.out; have hnc30 := NB292_291.out; have hcz31_0 : w29.cell? ⟨gb291, 0, none⟩ = some (.int .i64 a0_0) := (blk_cell BK291.out 0).trans rfl; have hcz31_1 : w29.cell? ⟨gb291, 1, none⟩ = some (.string a0_1) := (blk_cell BK291.out 1).trans rfl; have hcz31_2 : w29.cell? ⟨gb291, 2, none⟩ = some (.int .i32 a0_2) := (blk_cell BK291.out 2).trans rfl; have hcz31_3 : w29.cell? ⟨gb291, 3, none⟩ = some (.bool a0_3) := (blk_cell BK291.out 3).trans rfl; have hcz31_4 : w29.cell? ⟨gb291, 4, none⟩ = some (.int .u32 a0_4) := (blk_cell BK291.out 4).trans rfl; have hfz31_0 := blk_frozen BK291.out 0; have hfz31_1 := blk_frozen BK291.out 1; have hfz31_2 := blk_frozen BK291.out 2; have hfz31_3 := blk_frozen BK291.out 3; have hfz31_4 := blk_frozen BK291.out 4; have hcz32_0 : w29.cell? ⟨gb292, 0, none⟩ = some (.int .i64 a1_0) := (blk_cell BK292.out 0).trans rfl; have hcz32_1 : w29.cell? ⟨gb292, 1, none⟩ = some (.string a1_1) := (blk_cell BK292.out 1).trans rfl; have hcz32_2 : w29.cell? ⟨gb292, 2, none⟩ = some (.int .i32 a1_2) := (blk_cell BK292.out 2).trans rfl; have hcz32_3 : w29.cell? ⟨gb292, 3, none⟩ = some (.bool a1_3) := (blk_cell BK292.out 3).trans rfl; have hcz32_4 : w29.cell? ⟨gb292, 4, none⟩ = some (.int .u32 a1_4) := (blk_cell BK292.out 4).trans rfl; have hfz32_0 := blk_frozen BK292.out 0; have hfz32_1 := blk_frozen BK292.out 1; have hfz32_2 := blk_frozen BK292.out 2; have hfz32_3 := blk_frozen BK292.out 3; have hfz32_4 := blk_frozen BK292.out 4))
   go_ret
   exact ⟨Z13, Z61⟩
 ·rw [if_neg c3] at H
  have c3b0 : (a0_0 == a1_0) = false := beq_eq_false_iff_ne.mpr c3
  have c3b1 : (a0_0 != a1_0) = true := bne_iff_ne.mpr c3
  obtain rfl := Option.some.inj H
  go_enter Try.func37, Try.ntmps37
  go_wp2_with (first | ((with_reducible refine gate_dst (N := 2) rfl ?_); refine box_event (by rfl) (N := 2) (by rfl) (cs := #[.int .i64 a0_0, .string a0_1, .int .i32 a0_2, .bool a0_3, .int .u32 a0_4]) (t := 51) Z10 ?_; intro gb291 hg w33 hbox hb; have BK291 := Z (hbox); have GW291 := Z ((Z75 : w.heap.size ≤ gb291)); have GE291 := Z ((Z75 : w.heap.size ≤ gb291)); replace HB := Z (below_step Z61 hb); clear hb hbox hg) | ((with_reducible refine gate_dst (N := 3) rfl ?_); refine box_event (by rfl) (N := 3) (by rfl) (cs := #[.int .i64 a1_0, .string a1_1, .int .i32 a1_2, .bool a1_3, .int .u32 a1_4]) (t := 51) Z10 ?_; intro gb292 hg w34 hbox hb; have BK292 := Z (hbox); have GW292 := Z ((Z75 : w.heap.size ≤ gb292)); have GE292 := Z ((Z75 : w.heap.size ≤ gb292)); replace HB := Z (below_step Z61 hb); have NB291_292 := Z ((Z69 : gb291 ≠ gb292)); have NB292_291 := Z ((Z70 : gb292 ≠ gb291)); replace BK291 := Z (blk_below (g := gb291) (o := .cells #[.int .i64 a0_0, .string a0_1, .int .i32 a0_2, .bool a0_3, .int .u32 a0_4] 51 (0, 0)) (Z15 BK291) hb); clear hb hbox hg; have hnb35 := NB291_292.out; have hnc35 := NB292_291.out; have hcz36_0 : w34.cell? ⟨gb291, 0, none⟩ = some (.int .i64 a0_0) := (blk_cell BK291.out 0).trans rfl; have hcz36_1 : w34.cell? ⟨gb291, 1, none⟩ = some (.string a0_1) := (blk_cell BK291.out 1).trans rfl; have hcz36_2 : w34.cell? ⟨gb291, 2, none⟩ = some (.int .i32 a0_2) := (blk_cell BK291.out 2).trans rfl; have hcz36_3 : w34.cell? ⟨gb291, 3, none⟩ = some (.bool a0_3) := (blk_cell BK291.out 3).trans rfl; have hcz36_4 : w34.cell? ⟨gb291, 4, none⟩ = some (.int .u32 a0_4) := (blk_cell BK291.out 4).trans rfl; have hfz36_0 := blk_frozen BK291.out 0; have hfz36_1 := blk_frozen BK291.out 1; have hfz36_2 := blk_frozen BK291.out 2; have hfz36_3 := blk_frozen BK291.out 3; have hfz36_4 := blk_frozen BK291.out 4; have hcz37_0 : w34.cell? ⟨gb292, 0, none⟩ = some (.int .i64 a1_0) := (blk_cell BK292.out 0).trans rfl; have hcz37_1 : w34.cell? ⟨gb292, 1, none⟩ = some (.string a1_1) := (blk_cell BK292.out 1).trans rfl; have hcz37_2 : w34.cell? ⟨gb292, 2, none⟩ = some (.int .i32 a1_2) := (blk_cell BK292.out 2).trans rfl; have hcz37_3 : w34.cell? ⟨gb292, 3, none⟩ = some (.bool a1_3) := (blk_cell BK292.out 3).trans rfl; have hcz37_4 : w34.cell? ⟨gb292, 4, none⟩ = some (.int .u32 a1_4) := (blk_cell BK292.out 4).trans rfl; have hfz37_0 := blk_frozen BK292.out 0; have hfz37_1 := blk_frozen BK292.out 1; have hfz37_2 := blk_frozen BK292.out 2; have hfz37_3 := blk_frozen BK292.out 3; have hfz37_4 := blk_frozen BK292.out 4))
  go_ret
  exact ⟨Z13, Z61⟩

/-! ### laws_eqItemS: function 48 -/
def laws_eqItemS.l0 : Nat → List (S51) → List (S51) → Int → Option (Bool)
 | 0, _, _, _ => none
 | k + 1, x0, x1, x5 => if x5 < (x0.length : Int) then (if 0 ≤ x5 then (if x5 < (x1.length : Int) then ((laws_eqItem.f ((rd_T51 x0 x5).f0) ((rd_T51 x0 x5).f1) ((rd_T51 x0 x5).f2) ((rd_T51 x0 x5).f3) ((rd_T51 x0 x5).f4) ((rd_T51 x1 x5).f0) ((rd_T51 x1 x5).f1) ((rd_T51 x1 x5).f2) ((rd_T51 x1 x5).f3) ((rd_T51 x1 x5).f4)).bind fun t295 => (if t295 = true then (laws_eqItemS.l0 k x0 x1 (wrap64 (x5 + 1))) else (some false))) else (none)) else (none)) else (some true)
def laws_eqItemS.f (k : Nat) (l0 : List (S51)) (l1 : List (S51)) : Option (Bool) := if (l0.length : Int) = (l1.length : Int) then (laws_eqItemS.l0 k l0 l1 0) else (some false)
theorem laws_eqItemS.mono_l : ∀ k, (∀ y0 y1 y2, LeO (laws_eqItemS.l0 k y0 y1 y2) (laws_eqItemS.l0 (k + 1) y0 y1 y2))
 | 0 => fun _ _ _ r h => by simp [laws_eqItemS.l0] at h
 | k + 1 => by
  have ih0 := laws_eqItemS.mono_l k
  ·intro y0 y1 y2
   unfold laws_eqItemS.l0
   repeat' first
   | (with_reducible exact ih0 _ _ _)
   | (with_reducible exact LeO.refl _)
   | (with_reducible exact LeO.none _)
   | (with_reducible refine LeO.ite ?_ ?_)
   | (with_reducible refine LeO.bind ?_ (fun _ => ?_))
   | exact ih0 _ _ _
   | exact LeO.none _
   | refine LeO.ite ?_ ?_
   | refine LeO.bind ?_ (fun _ => ?_)
theorem laws_eqItemS.mono : ∀ a0 a1 k, LeO (laws_eqItemS.f k a0 a1) (laws_eqItemS.f (k + 1) a0 a1) := by
 intro a0 a1 k
 have ih0 := laws_eqItemS.mono_l k
 unfold laws_eqItemS.f
 repeat' first
   | (with_reducible exact ih0 _ _ _)
   | (with_reducible exact LeO.refl _)
   | (with_reducible exact LeO.none _)
   | (with_reducible refine LeO.ite ?_ ?_)
   | (with_reducible refine LeO.bind ?_ (fun _ => ?_))
   | exact ih0 _ _ _
   | exact LeO.none _
   | refine LeO.ite ?_ ?_
   | refine LeO.bind ?_ (fun _ => ?_)
def laws_eqItemS.T6 : Bool × List (List Nat × List Nat) := (true, [([], []), ([], []), ([0, 1], [0, 1]), ([2], [2]), ([], []), ([], []), ([4, 5], [4, 5]), ([6], [6]), ([3, 7], [3, 7]), ([8], [8])])
def laws_eqItemS.B6 : List Nat := [0, 0, 3, 7, 0, 0, 48, 112, 255, 511]
theorem laws_eqItemS.tab6 : rtab .any (opsOf Try.f48 6) = laws_eqItemS.T6 := Z0
theorem laws_eqItemS.bits6 : waitsOk laws_eqItemS.T6.2 laws_eqItemS.B6 = true := Z0
set_option maxHeartbeats 8000000 in
set_option maxRecDepth 100000 in
theorem laws_eqItemS.calls (k : Nat) (A0 : Option Addr) (c0 : Nat) (l0 : List (S51)) (A1 : Option Addr) (c1 : Nat) (l1 : List (S51)) (r : Bool) (w : World) (hr0 : Kd.C k51 w A0 l0.length l0) (hc0 : l0.length ≤ c0) (hr1 : Kd.C k51 w A1 l1.length l1) (hc1 : l1.length ≤ c1) (h : laws_eqItemS.f k l0 l1 = some r) :
  Calls Try.prog 48 #[.slice A0 l0.length c0, .slice A1 l1.length c1] w fun e w' => e = .returned (.bool r) ∧ Below w.heap.size w w' := by
 have hu51 := Try.underlying51
 have HR0 := Aside0.mk hr0
 have HC0 := Aside0.mk hc0
 clear hr0 hc0
 have HR1 := Aside0.mk hr1
 have HC1 := Aside0.mk hc1
 clear hr1 hc1
 have HB := Z (Below.refl w.heap.size w)
 have H : (if (l0.length : Int) = (l1.length : Int) then (laws_eqItemS.l0 k l0 l1 0) else (some false)) = some r := h
 clear h
 by_cases c3 : (l0.length : Int) = (l1.length : Int)
 ·rw [if_pos c3] at H
  have c3b0 : ((l0.length : Int) == (l1.length : Int)) = true := beq_iff_eq.mpr c3
  have c3b1 : ((l0.length : Int) != (l1.length : Int)) = false := bne_eq_false_iff_eq.mpr c3
  have c3b2 : (l0.length == l1.length) = true := Z22
  clear c3
  have H' := Aside0.mk H
  clear H
  go_enter Try.func48, Try.ntmps48
  go_wp2
  go_loopg [5] k (fun kq v5 w' => ∃ (x5_1 : Int), v5 = .int .i64 x5_1 ∧ Aside0 (laws_eqItemS.l0 kq l0 l1 x5_1 = some r) ∧ Aside0 (kq ≤ k) ∧ Aside0 (Below w.heap.size w w'))
  case atStart => exact ⟨(0), Z2, H', ⟨Nat.le_refl _⟩, ⟨Z61⟩⟩
  case round =>
   clear H'
   try clear c1
   try clear p2
   try clear c3
   try clear c3b0
   try clear c3b1
   try clear c3b2
   obtain ⟨x5_1, rfl, HA, HK1, HB⟩ := hrel
   cases gk with
   | zero => exact absurd HA.out (by simp [laws_eqItemS.l0])
   | succ k1 =>
    have H := HA.out
    clear HA
    simp only [laws_eqItemS.l0] at H
    by_cases c4 : x5_1 < (l0.length : Int)
    ·rw [if_pos c4] at H
     have c4b0 : decide (x5_1 < (l0.length : Int)) = true := decide_eq_true c4
     clear c4
     by_cases c5 : 0 ≤ x5_1
     ·rw [if_pos c5] at H
      have c5b0 : decide (0 ≤ x5_1) = true := decide_eq_true c5
      clear c5
      by_cases c6 : x5_1 < (l1.length : Int)
      ·rw [if_pos c6] at H
       have c6b0 : decide (x5_1 < (l1.length : Int)) = true := decide_eq_true c6
       clear c6
       replace H := Option.bind_eq_some_iff.mp H
       obtain ⟨t295, A70, H⟩ := H
       replace H : (if t295 = true then (laws_eqItemS.l0 k1 l0 l1 (wrap64 (x5_1 + 1))) else (some false)) = some r := H
       have A7 := Aside0.mk A70
       clear A70
       by_cases c8 : t295 = true
       ·subst c8
        have H1 : (laws_eqItemS.l0 k1 l0 l1 (wrap64 (x5_1 + 1))) = some r := Z7
        clear H
        have H := H1
        clear H1
        have H' := Aside0.mk H
        clear H
        try go_wp2
        have n0_ := Z (below_drew1 HB.out)
        clear HB
        have HB := n0_
        clear n0_
        have p293 : 0 ≤ (x5_1 : Int) := of_decide_eq_true Z5
        have q293 : x5_1 < (l0.length : Int) := of_decide_eq_true Z5
        obtain ⟨ad293, e293, hx293_0, hx293_1, hx293_2, hx293_3, hx293_4⟩ := at_T51 HR0.out x5_1 p293 q293
        have hw293_4 := hx293_4
        have hw293_3 := hx293_3
        have hw293_2 := hx293_2
        have hw293_1 := hx293_1
        have hw293_0 := hx293_0
        cases e293
        replace hx293_0 := (HB.out.cell (World.block_lt_of_cell? w _ hx293_0)).trans hx293_0
        replace hx293_1 := (HB.out.cell (World.block_lt_of_cell? w _ hx293_1)).trans hx293_1
        replace hx293_2 := (HB.out.cell (World.block_lt_of_cell? w _ hx293_2)).trans hx293_2
        replace hx293_3 := (HB.out.cell (World.block_lt_of_cell? w _ hx293_3)).trans hx293_3
        replace hx293_4 := (HB.out.cell (World.block_lt_of_cell? w _ hx293_4)).trans hx293_4
        replace p293 := eq_true p293
        replace q293 := eq_true q293
        have p294 : 0 ≤ (x5_1 : Int) := of_decide_eq_true Z5
        have q294 : x5_1 < (l1.length : Int) := of_decide_eq_true Z5
        obtain ⟨ad294, e294, hx294_0, hx294_1, hx294_2, hx294_3, hx294_4⟩ := at_T51 HR1.out x5_1 p294 q294
        have hw294_4 := hx294_4
        have hw294_3 := hx294_3
        have hw294_2 := hx294_2
        have hw294_1 := hx294_1
        have hw294_0 := hx294_0
        cases e294
        replace hx294_0 := (HB.out.cell (World.block_lt_of_cell? w _ hx294_0)).trans hx294_0
        replace hx294_1 := (HB.out.cell (World.block_lt_of_cell? w _ hx294_1)).trans hx294_1
        replace hx294_2 := (HB.out.cell (World.block_lt_of_cell? w _ hx294_2)).trans hx294_2
        replace hx294_3 := (HB.out.cell (World.block_lt_of_cell? w _ hx294_3)).trans hx294_3
        replace hx294_4 := (HB.out.cell (World.block_lt_of_cell? w _ hx294_4)).trans hx294_4
        replace p294 := eq_true p294
        replace q294 := eq_true q294
        refine start_ (n := 10) (S := fun w' => w'.cell? (ad293.add ((x5_1).toNat * 5)) = some (.int .i64 ((rd_T51 l0 x5_1).f0)) ∧ w'.cell? ⟨(ad293.add ((x5_1).toNat * 5)).block, (ad293.add ((x5_1).toNat * 5)).off + 1, none⟩ = some (.string ((rd_T51 l0 x5_1).f1)) ∧ w'.cell? ⟨(ad293.add ((x5_1).toNat * 5)).block, (ad293.add ((x5_1).toNat * 5)).off + 2, none⟩ = some (.int .i32 ((rd_T51 l0 x5_1).f2)) ∧ w'.cell? ⟨(ad293.add ((x5_1).toNat * 5)).block, (ad293.add ((x5_1).toNat * 5)).off + 3, none⟩ = some (.bool ((rd_T51 l0 x5_1).f3)) ∧ w'.cell? ⟨(ad293.add ((x5_1).toNat * 5)).block, (ad293.add ((x5_1).toNat * 5)).off + 4, none⟩ = some (.int .u32 ((rd_T51 l0 x5_1).f4)) ∧ w'.cell? (ad294.add ((x5_1).toNat * 5)) = some (.int .i64 ((rd_T51 l1 x5_1).f0)) ∧ w'.cell? ⟨(ad294.add ((x5_1).toNat * 5)).block, (ad294.add ((x5_1).toNat * 5)).off + 1, none⟩ = some (.string ((rd_T51 l1 x5_1).f1)) ∧ w'.cell? ⟨(ad294.add ((x5_1).toNat * 5)).block, (ad294.add ((x5_1).toNat * 5)).off + 2, none⟩ = some (.int .i32 ((rd_T51 l1 x5_1).f2)) ∧ w'.cell? ⟨(ad294.add ((x5_1).toNat * 5)).block, (ad294.add ((x5_1).toNat * 5)).off + 3, none⟩ = some (.bool ((rd_T51 l1 x5_1).f3)) ∧ w'.cell? ⟨(ad294.add ((x5_1).toNat * 5)).block, (ad294.add ((x5_1).toNat * 5)).off + 4, none⟩ = some (.int .u32 ((rd_T51 l1 x5_1).f4))) (ds := []) #[false, false, false, false, false, false, false, false, false, false] Z0 rfl rfl ⟨((HB.out.cell (World.block_lt_of_cell? w _ hw293_0)).trans hw293_0), ((HB.out.cell (World.block_lt_of_cell? w _ hw293_1)).trans hw293_1), ((HB.out.cell (World.block_lt_of_cell? w _ hw293_2)).trans hw293_2), ((HB.out.cell (World.block_lt_of_cell? w _ hw293_3)).trans hw293_3), ((HB.out.cell (World.block_lt_of_cell? w _ hw293_4)).trans hw293_4), ((HB.out.cell (World.block_lt_of_cell? w _ hw294_0)).trans hw294_0), ((HB.out.cell (World.block_lt_of_cell? w _ hw294_1)).trans hw294_1), ((HB.out.cell (World.block_lt_of_cell? w _ hw294_2)).trans hw294_2), ((HB.out.cell (World.block_lt_of_cell? w _ hw294_3)).trans hw294_3), ((HB.out.cell (World.block_lt_of_cell? w _ hw294_4)).trans hw294_4)⟩ (fun hHeld => ?_); refine with_tabW laws_eqItemS.tab6 laws_eqItemS.bits6 (fun HT_ HW_ => ?_)
        generalize wr.drew = w9 at HB hx293_0 hx293_1 hx293_2 hx293_3 hx293_4 hx294_0 hx294_1 hx294_2 hx294_3 hx294_4 hHeld ⊢
        refine pure_ (i := 0) (N := some 17) (v := ?_) (a' := ?_) #[true, false, false, false, false, false, false, false, false, false] rfl rfl (any_of HT_.out Z0) (fun _ _ _ h => h) (Or.inl ⟨by rfl, ?_⟩) ?_ ?_
        rotate_left
        ·intro w'
         go_simp
         with_reducible rfl
        rotate_left
        ·simp only [Act.put, List.setIfInBounds_toArray, List.set_cons_zero, List.set_cons_succ, i64_w, i32_w]
         rfl
        refine pure_ (i := 1) (N := some 18) (v := ?_) (a' := ?_) #[true, true, false, false, false, false, false, false, false, false] rfl rfl (any_of HT_.out Z0) (fun _ _ _ h => h) (Or.inl ⟨by rfl, ?_⟩) ?_ ?_
        rotate_left
        ·intro w'
         go_simp
         with_reducible rfl
        rotate_left
        ·simp only [Act.put, List.setIfInBounds_toArray, List.set_cons_zero, List.set_cons_succ, i64_w, i32_w]
         rfl
        refine pure_ (i := 2) (N := some 19) (v := ?_) (a' := ?_) #[true, true, true, false, false, false, false, false, false, false] rfl rfl (any_of HT_.out Z0) (fun _ _ _ h => h) (Or.inl ⟨by rfl, ?_⟩) ?_ ?_
        rotate_left
        ·intro w'
         go_simp
         with_reducible rfl
        rotate_left
        ·simp only [Act.put, List.setIfInBounds_toArray, List.set_cons_zero, List.set_cons_succ, i64_w, i32_w]
         rfl
        refine pure_ (i := 4) (N := some 21) (v := ?_) (a' := ?_) #[true, true, true, false, true, false, false, false, false, false] rfl rfl (any_of HT_.out Z0) (fun _ _ _ h => h) (Or.inl ⟨by rfl, ?_⟩) ?_ ?_
        rotate_left
        ·intro w'
         go_simp
         with_reducible rfl
        rotate_left
        ·simp only [Act.put, List.setIfInBounds_toArray, List.set_cons_zero, List.set_cons_succ, i64_w, i32_w]
         rfl
        refine pure_ (i := 5) (N := some 22) (v := ?_) (a' := ?_) #[true, true, true, false, true, true, false, false, false, false] rfl rfl (any_of HT_.out Z0) (fun _ _ _ h => h) (Or.inl ⟨by rfl, ?_⟩) ?_ ?_
        rotate_left
        ·intro w'
         go_simp
         with_reducible rfl
        rotate_left
        ·simp only [Act.put, List.setIfInBounds_toArray, List.set_cons_zero, List.set_cons_succ, i64_w, i32_w]
         rfl
        refine pure_ (i := 6) (N := some 23) (v := ?_) (a' := ?_) #[true, true, true, false, true, true, true, false, false, false] rfl rfl (any_of HT_.out Z0) (fun _ _ _ h => h) (Or.inl ⟨by rfl, ?_⟩) ?_ ?_
        rotate_left
        ·intro w'
         go_simp
         with_reducible rfl
        rotate_left
        ·simp only [Act.put, List.setIfInBounds_toArray, List.set_cons_zero, List.set_cons_succ, i64_w, i32_w]
         rfl
        refine take_ (i := 3) (N := some 20) (v := ?_) (a' := ?_) #[true, true, true, true, true, true, true, false, false, false] rfl rfl (take_ofW HT_.out HW_.out Z0) (fun _ _ _ h => h) (Or.inl ⟨by rfl, ?_⟩) hHeld ?_ ?_
        rotate_left
        ·rintro w' ⟨s0, s1, s2, s3, s4, s5, s6, s7, s8, s9⟩
         go_simp
         with_reducible rfl
        rotate_left
        ·simp only [Act.put, List.setIfInBounds_toArray, List.set_cons_zero, List.set_cons_succ, i64_w, i32_w]
         rfl
        refine take_ (i := 7) (N := some 24) (v := ?_) (a' := ?_) #[true, true, true, true, true, true, true, true, false, false] rfl rfl (take_ofW HT_.out HW_.out Z0) (fun _ _ _ h => h) (Or.inl ⟨by rfl, ?_⟩) hHeld ?_ ?_
        rotate_left
        ·rintro w' ⟨s0, s1, s2, s3, s4, s5, s6, s7, s8, s9⟩
         go_simp
         with_reducible rfl
        rotate_left
        ·simp only [Act.put, List.setIfInBounds_toArray, List.set_cons_zero, List.set_cons_succ, i64_w, i32_w]
         rfl
        refine one_ (i := 8) (N := some 25) #[true, true, true, true, true, true, true, true, true, false] rfl rfl (one_of HT_.out Z0) (by decide) (fun K hK => ?_)
        refine goes_ Try.func37 Z0 rfl #[.agg #[.int .i64 ((rd_T51 l0 x5_1).f0), .string ((rd_T51 l0 x5_1).f1), .int .i32 ((rd_T51 l0 x5_1).f2), .bool ((rd_T51 l0 x5_1).f3), .int .u32 ((rd_T51 l0 x5_1).f4)], .agg #[.int .i64 ((rd_T51 l1 x5_1).f0), .string ((rd_T51 l1 x5_1).f1), .int .i32 ((rd_T51 l1 x5_1).f2), .bool ((rd_T51 l1 x5_1).f3), .int .u32 ((rd_T51 l1 x5_1).f4)]] (by rfl) rfl rfl Z4 ?_
        with_reducible refine (laws_eqItem.calls ((rd_T51 l0 x5_1).f0) ((rd_T51 l0 x5_1).f1) ((rd_T51 l0 x5_1).f2) ((rd_T51 l0 x5_1).f3) ((rd_T51 l0 x5_1).f4) ((rd_T51 l1 x5_1).f0) ((rd_T51 l1 x5_1).f1) ((rd_T51 l1 x5_1).f2) ((rd_T51 l1 x5_1).f3) ((rd_T51 l1 x5_1).f4) true _ A7.out).mono ?_
        rintro e w10 ⟨rfl, hb⟩
        refine ⟨_, rfl, ?_⟩
        have n0_ := Z (below_step Z61 hb)
        clear HB
        have HB := n0_
        clear n0_
        (try clear hb)
        (try clear hb2)
        (try clear hk)
        (try clear hi)
        refine hK.out _ _ ⟨((HB.out.cell (World.block_lt_of_cell? w _ hw293_0)).trans hw293_0), ((HB.out.cell (World.block_lt_of_cell? w _ hw293_1)).trans hw293_1), ((HB.out.cell (World.block_lt_of_cell? w _ hw293_2)).trans hw293_2), ((HB.out.cell (World.block_lt_of_cell? w _ hw293_3)).trans hw293_3), ((HB.out.cell (World.block_lt_of_cell? w _ hw293_4)).trans hw293_4), ((HB.out.cell (World.block_lt_of_cell? w _ hw294_0)).trans hw294_0), ((HB.out.cell (World.block_lt_of_cell? w _ hw294_1)).trans hw294_1), ((HB.out.cell (World.block_lt_of_cell? w _ hw294_2)).trans hw294_2), ((HB.out.cell (World.block_lt_of_cell? w _ hw294_3)).trans hw294_3), ((HB.out.cell (World.block_lt_of_cell? w _ hw294_4)).trans hw294_4)⟩ (fun hHeld => ?_)
        clear hK K
        refine norm_ (a' := ?_) ?_ ?_
        rotate_left
        ·show Act.put _ (some 25) _ = _
         simp only [Act.put, List.setIfInBounds_toArray, List.set_cons_zero, List.set_cons_succ, i64_w, i32_w]
         rfl
        refine pure_ (i := 9) (N := some 26) (v := ?_) (a' := ?_) #[true, true, true, true, true, true, true, true, true, true] rfl rfl (any_of HT_.out Z0) (fun _ _ _ h => h) (Or.inl ⟨by rfl, ?_⟩) ?_ ?_
        rotate_left
        ·intro w'
         go_simp
         with_reducible rfl
        rotate_left
        ·simp only [Act.put, List.setIfInBounds_toArray, List.set_cons_zero, List.set_cons_succ, i64_w, i32_w]
         rfl
        refine done_ (done_of HT_.out Z0) ?_
        try go_wp2
        go_roundg k1
        case measure => have := HK1.out; omega
        case rel => exact ⟨(wrap64 (x5_1 + 1)), Z2, H', ⟨Z6⟩, ⟨Z61⟩⟩
       ·replace c8 := Bool.eq_false_iff.mpr c8
        subst c8
        have H1 : (some false) = some r := by rw [if_neg (show ¬ (false = true) by decide)] at H; exact H
        clear H
        have H := H1
        clear H1
        obtain rfl := Option.some.inj H
        try go_wp2
        have n0_ := Z (below_drew1 HB.out)
        clear HB
        have HB := n0_
        clear n0_
        have p293 : 0 ≤ (x5_1 : Int) := of_decide_eq_true Z5
        have q293 : x5_1 < (l0.length : Int) := of_decide_eq_true Z5
        obtain ⟨ad293, e293, hx293_0, hx293_1, hx293_2, hx293_3, hx293_4⟩ := at_T51 HR0.out x5_1 p293 q293
        have hw293_4 := hx293_4
        have hw293_3 := hx293_3
        have hw293_2 := hx293_2
        have hw293_1 := hx293_1
        have hw293_0 := hx293_0
        cases e293
        replace hx293_0 := (HB.out.cell (World.block_lt_of_cell? w _ hx293_0)).trans hx293_0
        replace hx293_1 := (HB.out.cell (World.block_lt_of_cell? w _ hx293_1)).trans hx293_1
        replace hx293_2 := (HB.out.cell (World.block_lt_of_cell? w _ hx293_2)).trans hx293_2
        replace hx293_3 := (HB.out.cell (World.block_lt_of_cell? w _ hx293_3)).trans hx293_3
        replace hx293_4 := (HB.out.cell (World.block_lt_of_cell? w _ hx293_4)).trans hx293_4
        replace p293 := eq_true p293
        replace q293 := eq_true q293
        have p294 : 0 ≤ (x5_1 : Int) := of_decide_eq_true Z5
        have q294 : x5_1 < (l1.length : Int) := of_decide_eq_true Z5
        obtain ⟨ad294, e294, hx294_0, hx294_1, hx294_2, hx294_3, hx294_4⟩ := at_T51 HR1.out x5_1 p294 q294
        have hw294_4 := hx294_4
        have hw294_3 := hx294_3
        have hw294_2 := hx294_2
        have hw294_1 := hx294_1
        have hw294_0 := hx294_0
        cases e294
        replace hx294_0 := (HB.out.cell (World.block_lt_of_cell? w _ hx294_0)).trans hx294_0
        replace hx294_1 := (HB.out.cell (World.block_lt_of_cell? w _ hx294_1)).trans hx294_1
        replace hx294_2 := (HB.out.cell (World.block_lt_of_cell? w _ hx294_2)).trans hx294_2
        replace hx294_3 := (HB.out.cell (World.block_lt_of_cell? w _ hx294_3)).trans hx294_3
        replace hx294_4 := (HB.out.cell (World.block_lt_of_cell? w _ hx294_4)).trans hx294_4
        replace p294 := eq_true p294
        replace q294 := eq_true q294
        refine start_ (n := 10) (S := fun w' => w'.cell? (ad293.add ((x5_1).toNat * 5)) = some (.int .i64 ((rd_T51 l0 x5_1).f0)) ∧ w'.cell? ⟨(ad293.add ((x5_1).toNat * 5)).block, (ad293.add ((x5_1).toNat * 5)).off + 1, none⟩ = some (.string ((rd_T51 l0 x5_1).f1)) ∧ w'.cell? ⟨(ad293.add ((x5_1).toNat * 5)).block, (ad293.add ((x5_1).toNat * 5)).off + 2, none⟩ = some (.int .i32 ((rd_T51 l0 x5_1).f2)) ∧ w'.cell? ⟨(ad293.add ((x5_1).toNat * 5)).block, (ad293.add ((x5_1).toNat * 5)).off + 3, none⟩ = some (.bool ((rd_T51 l0 x5_1).f3)) ∧ w'.cell? ⟨(ad293.add ((x5_1).toNat * 5)).block, (ad293.add ((x5_1).toNat * 5)).off + 4, none⟩ = some (.int .u32 ((rd_T51 l0 x5_1).f4)) ∧ w'.cell? (ad294.add ((x5_1).toNat * 5)) = some (.int .i64 ((rd_T51 l1 x5_1).f0)) ∧ w'.cell? ⟨(ad294.add ((x5_1).toNat * 5)).block, (ad294.add ((x5_1).toNat * 5)).off + 1, none⟩ = some (.string ((rd_T51 l1 x5_1).f1)) ∧ w'.cell? ⟨(ad294.add ((x5_1).toNat * 5)).block, (ad294.add ((x5_1).toNat * 5)).off + 2, none⟩ = some (.int .i32 ((rd_T51 l1 x5_1).f2)) ∧ w'.cell? ⟨(ad294.add ((x5_1).toNat * 5)).block, (ad294.add ((x5_1).toNat * 5)).off + 3, none⟩ = some (.bool ((rd_T51 l1 x5_1).f3)) ∧ w'.cell? ⟨(ad294.add ((x5_1).toNat * 5)).block, (ad294.add ((x5_1).toNat * 5)).off + 4, none⟩ = some (.int .u32 ((rd_T51 l1 x5_1).f4))) (ds := []) #[false, false, false, false, false, false, false, false, false, false] Z0 rfl rfl ⟨((HB.out.cell (World.block_lt_of_cell? w _ hw293_0)).trans hw293_0), ((HB.out.cell (World.block_lt_of_cell? w _ hw293_1)).trans hw293_1), ((HB.out.cell (World.block_lt_of_cell? w _ hw293_2)).trans hw293_2), ((HB.out.cell (World.block_lt_of_cell? w _ hw293_3)).trans hw293_3), ((HB.out.cell (World.block_lt_of_cell? w _ hw293_4)).trans hw293_4), ((HB.out.cell (World.block_lt_of_cell? w _ hw294_0)).trans hw294_0), ((HB.out.cell (World.block_lt_of_cell? w _ hw294_1)).trans hw294_1), ((HB.out.cell (World.block_lt_of_cell? w _ hw294_2)).trans hw294_2), ((HB.out.cell (World.block_lt_of_cell? w _ hw294_3)).trans hw294_3), ((HB.out.cell (World.block_lt_of_cell? w _ hw294_4)).trans hw294_4)⟩ (fun hHeld => ?_); refine with_tabW laws_eqItemS.tab6 laws_eqItemS.bits6 (fun HT_ HW_ => ?_)
        generalize wr.drew = w11 at HB hx293_0 hx293_1 hx293_2 hx293_3 hx293_4 hx294_0 hx294_1 hx294_2 hx294_3 hx294_4 hHeld ⊢
        refine pure_ (i := 0) (N := some 17) (v := ?_) (a' := ?_) #[true, false, false, false, false, false, false, false, false, false] rfl rfl (any_of HT_.out Z0) (fun _ _ _ h => h) (Or.inl ⟨by rfl, ?_⟩) ?_ ?_
        rotate_left
        ·intro w'
         go_simp
         with_reducible rfl
        rotate_left
        ·simp only [Act.put, List.setIfInBounds_toArray, List.set_cons_zero, List.set_cons_succ, i64_w, i32_w]
         rfl
        refine pure_ (i := 1) (N := some 18) (v := ?_) (a' := ?_) #[true, true, false, false, false, false, false, false, false, false] rfl rfl (any_of HT_.out Z0) (fun _ _ _ h => h) (Or.inl ⟨by rfl, ?_⟩) ?_ ?_
        rotate_left
        ·intro w'
         go_simp
         with_reducible rfl
        rotate_left
        ·simp only [Act.put, List.setIfInBounds_toArray, List.set_cons_zero, List.set_cons_succ, i64_w, i32_w]
         rfl
        refine pure_ (i := 2) (N := some 19) (v := ?_) (a' := ?_) #[true, true, true, false, false, false, false, false, false, false] rfl rfl (any_of HT_.out Z0) (fun _ _ _ h => h) (Or.inl ⟨by rfl, ?_⟩) ?_ ?_
        rotate_left
        ·intro w'
         go_simp
         with_reducible rfl
        rotate_left
        ·simp only [Act.put, List.setIfInBounds_toArray, List.set_cons_zero, List.set_cons_succ, i64_w, i32_w]
         rfl
        refine pure_ (i := 4) (N := some 21) (v := ?_) (a' := ?_) #[true, true, true, false, true, false, false, false, false, false] rfl rfl (any_of HT_.out Z0) (fun _ _ _ h => h) (Or.inl ⟨by rfl, ?_⟩) ?_ ?_
        rotate_left
        ·intro w'
         go_simp
         with_reducible rfl
        rotate_left
        ·simp only [Act.put, List.setIfInBounds_toArray, List.set_cons_zero, List.set_cons_succ, i64_w, i32_w]
         rfl
        refine pure_ (i := 5) (N := some 22) (v := ?_) (a' := ?_) #[true, true, true, false, true, true, false, false, false, false] rfl rfl (any_of HT_.out Z0) (fun _ _ _ h => h) (Or.inl ⟨by rfl, ?_⟩) ?_ ?_
        rotate_left
        ·intro w'
         go_simp
         with_reducible rfl
        rotate_left
        ·simp only [Act.put, List.setIfInBounds_toArray, List.set_cons_zero, List.set_cons_succ, i64_w, i32_w]
         rfl
        refine pure_ (i := 6) (N := some 23) (v := ?_) (a' := ?_) #[true, true, true, false, true, true, true, false, false, false] rfl rfl (any_of HT_.out Z0) (fun _ _ _ h => h) (Or.inl ⟨by rfl, ?_⟩) ?_ ?_
        rotate_left
        ·intro w'
         go_simp
         with_reducible rfl
        rotate_left
        ·simp only [Act.put, List.setIfInBounds_toArray, List.set_cons_zero, List.set_cons_succ, i64_w, i32_w]
         rfl
        refine take_ (i := 3) (N := some 20) (v := ?_) (a' := ?_) #[true, true, true, true, true, true, true, false, false, false] rfl rfl (take_ofW HT_.out HW_.out Z0) (fun _ _ _ h => h) (Or.inl ⟨by rfl, ?_⟩) hHeld ?_ ?_
        rotate_left
        ·rintro w' ⟨s0, s1, s2, s3, s4, s5, s6, s7, s8, s9⟩
         go_simp
         with_reducible rfl
        rotate_left
        ·simp only [Act.put, List.setIfInBounds_toArray, List.set_cons_zero, List.set_cons_succ, i64_w, i32_w]
         rfl
        refine take_ (i := 7) (N := some 24) (v := ?_) (a' := ?_) #[true, true, true, true, true, true, true, true, false, false] rfl rfl (take_ofW HT_.out HW_.out Z0) (fun _ _ _ h => h) (Or.inl ⟨by rfl, ?_⟩) hHeld ?_ ?_
        rotate_left
        ·rintro w' ⟨s0, s1, s2, s3, s4, s5, s6, s7, s8, s9⟩
         go_simp
         with_reducible rfl
        rotate_left
        ·simp only [Act.put, List.setIfInBounds_toArray, List.set_cons_zero, List.set_cons_succ, i64_w, i32_w]
         rfl
        refine one_ (i := 8) (N := some 25) #[true, true, true, true, true, true, true, true, true, false] rfl rfl (one_of HT_.out Z0) (by decide) (fun K hK => ?_)
        refine goes_ Try.func37 Z0 rfl #[.agg #[.int .i64 ((rd_T51 l0 x5_1).f0), .string ((rd_T51 l0 x5_1).f1), .int .i32 ((rd_T51 l0 x5_1).f2), .bool ((rd_T51 l0 x5_1).f3), .int .u32 ((rd_T51 l0 x5_1).f4)], .agg #[.int .i64 ((rd_T51 l1 x5_1).f0), .string ((rd_T51 l1 x5_1).f1), .int .i32 ((rd_T51 l1 x5_1).f2), .bool ((rd_T51 l1 x5_1).f3), .int .u32 ((rd_T51 l1 x5_1).f4)]] (by rfl) rfl rfl Z4 ?_
        with_reducible refine (laws_eqItem.calls ((rd_T51 l0 x5_1).f0) ((rd_T51 l0 x5_1).f1) ((rd_T51 l0 x5_1).f2) ((rd_T51 l0 x5_1).f3) ((rd_T51 l0 x5_1).f4) ((rd_T51 l1 x5_1).f0) ((rd_T51 l1 x5_1).f1) ((rd_T51 l1 x5_1).f2) ((rd_T51 l1 x5_1).f3) ((rd_T51 l1 x5_1).f4) false _ A7.out).mono ?_
        rintro e w12 ⟨rfl, hb⟩
        refine ⟨_, rfl, ?_⟩
        have n0_ := Z (below_step Z61 hb)
        clear HB
        have HB := n0_
        clear n0_
        (try clear hb)
        (try clear hb2)
        (try clear hk)
        (try clear hi)
        refine hK.out _ _ ⟨((HB.out.cell (World.block_lt_of_cell? w _ hw293_0)).trans hw293_0), ((HB.out.cell (World.block_lt_of_cell? w _ hw293_1)).trans hw293_1), ((HB.out.cell (World.block_lt_of_cell? w _ hw293_2)).trans hw293_2), ((HB.out.cell (World.block_lt_of_cell? w _ hw293_3)).trans hw293_3), ((HB.out.cell (World.block_lt_of_cell? w _ hw293_4)).trans hw293_4), ((HB.out.cell (World.block_lt_of_cell? w _ hw294_0)).trans hw294_0), ((HB.out.cell (World.block_lt_of_cell? w _ hw294_1)).trans hw294_1), ((HB.out.cell (World.block_lt_of_cell? w _ hw294_2)).trans hw294_2), ((HB.out.cell (World.block_lt_of_cell? w _ hw294_3)).trans hw294_3), ((HB.out.cell (World.block_lt_of_cell? w _ hw294_4)).trans hw294_4)⟩ (fun hHeld => ?_)
        clear hK K
        refine norm_ (a' := ?_) ?_ ?_
        rotate_left
        ·show Act.put _ (some 25) _ = _
         simp only [Act.put, List.setIfInBounds_toArray, List.set_cons_zero, List.set_cons_succ, i64_w, i32_w]
         rfl
        refine pure_ (i := 9) (N := some 26) (v := ?_) (a' := ?_) #[true, true, true, true, true, true, true, true, true, true] rfl rfl (any_of HT_.out Z0) (fun _ _ _ h => h) (Or.inl ⟨by rfl, ?_⟩) ?_ ?_
        rotate_left
        ·intro w'
         go_simp
         with_reducible rfl
        rotate_left
        ·simp only [Act.put, List.setIfInBounds_toArray, List.set_cons_zero, List.set_cons_succ, i64_w, i32_w]
         rfl
        refine done_ (done_of HT_.out Z0) ?_
        try go_wp2
        go_ret
        exact ⟨Z13, Z61⟩
      ·rw [if_neg c6] at H
       exact absurd H (by simp)
     ·rw [if_neg c5] at H
      exact absurd H (by simp)
    ·rw [if_neg c4] at H
     have c4b0 : decide (x5_1 < (l0.length : Int)) = false := decide_eq_false c4
     clear c4
     obtain rfl := Option.some.inj H
     go_wp2
     go_ret
     exact ⟨Z13, Z61⟩
 ·rw [if_neg c3] at H
  have c3b0 : ((l0.length : Int) == (l1.length : Int)) = false := beq_eq_false_iff_ne.mpr c3
  have c3b1 : ((l0.length : Int) != (l1.length : Int)) = true := bne_iff_ne.mpr c3
  have c3b2 : (l0.length == l1.length) = false := Z22
  obtain rfl := Option.some.inj H
  go_enter Try.func48, Try.ntmps48
  go_wp2
  go_ret
  exact ⟨Z13, Z61⟩

/-! ### spec_l04Tag: function 110 -/
def spec_l04Tag.f (a0 : Int) : Option (Int) := if a0 = 1 then (some 1) else (if a0 = 2 then (some 3) else (if a0 = 3 then (some 4) else (if a0 = 4 then (some 9) else (if a0 = 5 then (some 10) else (if a0 = 6 then (some 11) else (some 0))))))
set_option maxHeartbeats 8000000 in
set_option maxRecDepth 100000 in
theorem spec_l04Tag.calls (a0 : Int) (r : Int) (w : World) (h : spec_l04Tag.f a0 = some r) :
  Calls Try.prog 110 #[.int .i64 a0] w fun e w' => e = .returned (.int .u32 r) ∧ Drawn0 w w' := by
 have H : (if a0 = 1 then (some 1) else (if a0 = 2 then (some 3) else (if a0 = 3 then (some 4) else (if a0 = 4 then (some 9) else (if a0 = 5 then (some 10) else (if a0 = 6 then (some 11) else (some 0))))))) = some r := h
 clear h
 by_cases c2 : a0 = 1
 ·rw [if_pos c2] at H
  have c2b0 : (a0 == 1) = true := beq_iff_eq.mpr c2
  have c2b1 : (a0 != 1) = false := bne_eq_false_iff_eq.mpr c2
  clear c2
  obtain rfl := Option.some.inj H
  go_enter Try.func110, Try.ntmps110
  go_wp2
  go_ret
  exact ⟨Z2, Z3⟩
 ·rw [if_neg c2] at H
  have c2b0 : (a0 == 1) = false := beq_eq_false_iff_ne.mpr c2
  have c2b1 : (a0 != 1) = true := bne_iff_ne.mpr c2
  by_cases c3 : a0 = 2
  ·rw [if_pos c3] at H
   have c3b0 : (a0 == 2) = true := beq_iff_eq.mpr c3
   have c3b1 : (a0 != 2) = false := bne_eq_false_iff_eq.mpr c3
   clear c3
   obtain rfl := Option.some.inj H
   go_enter Try.func110, Try.ntmps110
   go_wp2
   go_ret
   exact ⟨Z2, Z3⟩
  ·rw [if_neg c3] at H
   have c3b0 : (a0 == 2) = false := beq_eq_false_iff_ne.mpr c3
   have c3b1 : (a0 != 2) = true := bne_iff_ne.mpr c3
   by_cases c4 : a0 = 3
   ·rw [if_pos c4] at H
    have c4b0 : (a0 == 3) = true := beq_iff_eq.mpr c4
    have c4b1 : (a0 != 3) = false := bne_eq_false_iff_eq.mpr c4
    clear c4
    obtain rfl := Option.some.inj H
    go_enter Try.func110, Try.ntmps110
    go_wp2
    go_ret
    exact ⟨Z2, Z3⟩
   ·rw [if_neg c4] at H
    have c4b0 : (a0 == 3) = false := beq_eq_false_iff_ne.mpr c4
    have c4b1 : (a0 != 3) = true := bne_iff_ne.mpr c4
    by_cases c5 : a0 = 4
    ·rw [if_pos c5] at H
     have c5b0 : (a0 == 4) = true := beq_iff_eq.mpr c5
     have c5b1 : (a0 != 4) = false := bne_eq_false_iff_eq.mpr c5
     clear c5
     obtain rfl := Option.some.inj H
     go_enter Try.func110, Try.ntmps110
     go_wp2
     go_ret
     exact ⟨Z2, Z3⟩
    ·rw [if_neg c5] at H
     have c5b0 : (a0 == 4) = false := beq_eq_false_iff_ne.mpr c5
     have c5b1 : (a0 != 4) = true := bne_iff_ne.mpr c5
     by_cases c6 : a0 = 5
     ·rw [if_pos c6] at H
      have c6b0 : (a0 == 5) = true := beq_iff_eq.mpr c6
      have c6b1 : (a0 != 5) = false := bne_eq_false_iff_eq.mpr c6
      clear c6
      obtain rfl := Option.some.inj H
      go_enter Try.func110, Try.ntmps110
      go_wp2
      go_ret
      exact ⟨Z2, Z3⟩
     ·rw [if_neg c6] at H
      have c6b0 : (a0 == 5) = false := beq_eq_false_iff_ne.mpr c6
      have c6b1 : (a0 != 5) = true := bne_iff_ne.mpr c6
      by_cases c7 : a0 = 6
      ·rw [if_pos c7] at H
       have c7b0 : (a0 == 6) = true := beq_iff_eq.mpr c7
       have c7b1 : (a0 != 6) = false := bne_eq_false_iff_eq.mpr c7
       clear c7
       obtain rfl := Option.some.inj H
       go_enter Try.func110, Try.ntmps110
       go_wp2
       go_ret
       exact ⟨Z2, Z3⟩
      ·rw [if_neg c7] at H
       have c7b0 : (a0 == 6) = false := beq_eq_false_iff_ne.mpr c7
       have c7b1 : (a0 != 6) = true := bne_iff_ne.mpr c7
       obtain rfl := Option.some.inj H
       go_enter Try.func110, Try.ntmps110
       go_wp2
       go_ret
       exact ⟨Z2, Z3⟩

/-! ### spec_l04Kind: function 93 -/
def spec_l04Kind.l0 : Nat → Int → Int → Option (Int)
 | 0, _, _ => none
 | k + 1, x0, x3 => if x3 ≤ 6 then ((spec_l04Tag.f x3).bind fun t296 => (if t296 = x0 then (some x3) else (spec_l04Kind.l0 k x0 (wrap64 (x3 + 1))))) else (some (-1))
def spec_l04Kind.f (k : Nat) (a0 : Int) : Option (Int) := spec_l04Kind.l0 k a0 1
theorem spec_l04Kind.mono_l : ∀ k, (∀ y0 y1, LeO (spec_l04Kind.l0 k y0 y1) (spec_l04Kind.l0 (k + 1) y0 y1))
 | 0 => fun _ _ r h => by simp [spec_l04Kind.l0] at h
 | k + 1 => by
  have ih0 := spec_l04Kind.mono_l k
  ·intro y0 y1
   unfold spec_l04Kind.l0
   repeat' first
   | (with_reducible exact ih0 _ _)
   | (with_reducible exact LeO.refl _)
   | (with_reducible exact LeO.none _)
   | (with_reducible refine LeO.ite ?_ ?_)
   | (with_reducible refine LeO.bind ?_ (fun _ => ?_))
   | exact ih0 _ _
   | exact LeO.none _
   | refine LeO.ite ?_ ?_
   | refine LeO.bind ?_ (fun _ => ?_)
theorem spec_l04Kind.mono : ∀ a0 k, LeO (spec_l04Kind.f k a0) (spec_l04Kind.f (k + 1) a0) := by
 intro a0 k
 have ih0 := spec_l04Kind.mono_l k
 unfold spec_l04Kind.f
 repeat' first
   | (with_reducible exact ih0 _ _)
   | (with_reducible exact LeO.refl _)
   | (with_reducible exact LeO.none _)
   | (with_reducible refine LeO.ite ?_ ?_)
   | (with_reducible refine LeO.bind ?_ (fun _ => ?_))
   | exact ih0 _ _
   | exact LeO.none _
   | refine LeO.ite ?_ ?_
   | refine LeO.bind ?_ (fun _ => ?_)
set_option maxHeartbeats 8000000 in
set_option maxRecDepth 100000 in
theorem spec_l04Kind.calls (k : Nat) (a0 : Int) (r : Int) (w : World) (h : spec_l04Kind.f k a0 = some r) :
  Calls Try.prog 93 #[.int .u32 a0] w fun e w' => e = .returned (.int .i64 r) ∧ Drawn0 w w' := by
 have H : (spec_l04Kind.l0 k a0 1) = some r := h
 clear h
 have H' := Aside0.mk H
 clear H
 go_enter Try.func93, Try.ntmps93
 go_wp2
 go_loopg [3] k (fun kq v3 w' => ∃ (x3_1 : Int), v3 = .int .i64 x3_1 ∧ Aside0 (spec_l04Kind.l0 kq a0 x3_1 = some r) ∧ Aside0 (kq ≤ k) ∧ Drawn0 w w')
 case atStart => exact ⟨(1), Z2, H', ⟨Nat.le_refl _⟩, Z3⟩
 case round =>
  clear H'
  obtain ⟨x3_1, rfl, HA, HK1, ⟨m1, rfl⟩⟩ := hrel
  cases gk with
  | zero => exact absurd HA.out (by simp [spec_l04Kind.l0])
  | succ k1 =>
   have H := HA.out
   clear HA
   simp only [spec_l04Kind.l0] at H
   by_cases c2 : x3_1 ≤ 6
   ·rw [if_pos c2] at H
    have c2b0 : decide (x3_1 ≤ 6) = true := decide_eq_true c2
    clear c2
    replace H := Option.bind_eq_some_iff.mp H
    obtain ⟨t296, A30, H⟩ := H
    replace H : (if t296 = a0 then (some x3_1) else (spec_l04Kind.l0 k1 a0 (wrap64 (x3_1 + 1)))) = some r := H
    have A3 := Aside0.mk A30
    clear A30
    by_cases c4 : t296 = a0
    ·rw [if_pos c4] at H
     have c4b0 : (t296 == a0) = true := beq_iff_eq.mpr c4
     have c4b1 : (t296 != a0) = false := bne_eq_false_iff_eq.mpr c4
     clear c4
     obtain rfl := Option.some.inj H
     go_wp2_with (first | ((with_reducible refine gate_callee (f := 110) rfl ?_); refine goesL_ (some 9) rfl rfl Try.func110 Z0 rfl #[.int .i64 x3_1] rfl Z4 ?_; (with_reducible refine (spec_l04Tag.calls x3_1 t296 _ A3.out).mono ?_); rintro e w' ⟨rfl, ⟨nd, rfl⟩⟩; refine ⟨_, rfl, ?_⟩))
     go_ret
     exact ⟨Z2, Z3⟩
    ·rw [if_neg c4] at H
     have c4b0 : (t296 == a0) = false := beq_eq_false_iff_ne.mpr c4
     have c4b1 : (t296 != a0) = true := bne_iff_ne.mpr c4
     have H' := Aside0.mk H
     clear H
     go_wp2_with (first | ((with_reducible refine gate_callee (f := 110) rfl ?_); refine goesL_ (some 9) rfl rfl Try.func110 Z0 rfl #[.int .i64 x3_1] rfl Z4 ?_; (with_reducible refine (spec_l04Tag.calls x3_1 t296 _ A3.out).mono ?_); rintro e w' ⟨rfl, ⟨nd, rfl⟩⟩; refine ⟨_, rfl, ?_⟩))
     go_roundg k1
     case measure => have := HK1.out; omega
     case rel => exact ⟨(wrap64 (x3_1 + 1)), Z2, H', ⟨Z6⟩, Z3⟩
   ·rw [if_neg c2] at H
    have c2b0 : decide (x3_1 ≤ 6) = false := decide_eq_false c2
    clear c2
    obtain rfl := Option.some.inj H
    go_wp2
    go_ret
    exact ⟨Z2, Z3⟩

/-! ### spec_l01In: function 68 -/
def spec_l01In.f (a0 : Int) (a1 : Int) (a2 : Int) : Option (Bool) := if a0 ≥ a1 then (some (decide (a0 ≤ a2))) else (some false)
set_option maxHeartbeats 8000000 in
set_option maxRecDepth 100000 in
theorem spec_l01In.calls (a0 : Int) (a1 : Int) (a2 : Int) (r : Bool) (w : World) (h : spec_l01In.f a0 a1 a2 = some r) :
  Calls Try.prog 68 #[.int .i64 a0, .int .i64 a1, .int .i64 a2] w fun e w' => e = .returned (.bool r) ∧ Drawn0 w w' := by
 have H : (if a0 ≥ a1 then (some (decide (a0 ≤ a2))) else (some false)) = some r := h
 clear h
 by_cases c4 : a0 ≥ a1
 ·rw [if_pos c4] at H
  have c4b0 : decide (a1 ≤ a0) = true := decide_eq_true c4
  clear c4
  obtain rfl := Option.some.inj H
  go_enter Try.func68, Try.ntmps68
  go_wp2
  go_ret
  exact ⟨Z2, Z3⟩
 ·rw [if_neg c4] at H
  have c4b0 : decide (a1 ≤ a0) = false := decide_eq_false c4
  clear c4
  obtain rfl := Option.some.inj H
  go_enter Try.func68, Try.ntmps68
  go_wp2
  go_ret
  exact ⟨Z2, Z3⟩

end Go.Proofs.Ytkkiibjnpkjijaa.QFnExactListOk
