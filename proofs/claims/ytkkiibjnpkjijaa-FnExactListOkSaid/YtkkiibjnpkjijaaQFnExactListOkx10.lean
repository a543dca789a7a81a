/-
Plain functions for the Go functions that a law reaches, each with a proof that the translation's call comes to just that; no conditions beyond those written in each.
-/
import Derived.Test.YtkkiibjnpkjijaaSFnExactListOk
import Derived.Test.YtkkiibjnpkjijaaQFnExactListOkx9
namespace Go.Proofs.Ytkkiibjnpkjijaa.QFnExactListOk
open Go.RowKit Go.Proofs.YtkkiibjnpkjijaaW.PrintWords Go.Proofs.YtkkiibjnpkjijaaW.PrintLast Go.Proofs.YtkkiibjnpkjijaaW.PrintMore
attribute [local go_sem] max2_int min2_int max_two min_two max_three min_three max_four min_four   -- for this text's walks alone
set_option linter.unusedVariables false
set_option linter.unusedSimpArgs false

/-! ### spec_l04Name: function 94 -/
def spec_l04Name.l0 : Nat → List Int → Int → List Int → Int → Option (Int × ByteArray × Int × Bool × Int × Int)
 | 0, _, _, _, _ => none
 | k + 1, x0, x2, x8, x9 => if x9 < (x0.length : Int) then (if 0 ≤ x9 then (if (Int.tmod (rd x0 x9) 16) = 0 then (if (rd x0 x9) = 0 then ((spec_Unpack.f k x8).bind fun bt346 => (if bt346.2 = true then (some (x2, bt346.1, 0, false, 0, (x8.length : Int))) else (some (0, (⟨#[]⟩ : ByteArray), 0, false, 0, 0)))) else (if x8.length < 35184372088832 then (spec_l04Name.l0 k x0 x2 (x8 ++ [(Int.tdiv (rd x0 x9) 16) % 4294967296]) (wrap64 (x9 + 1))) else (none))) else ((spec_Unpack.f k x8).bind fun bt352 => (if bt352.2 = true then (some (x2, bt352.1, 0, false, 0, (x8.length : Int))) else (some (0, (⟨#[]⟩ : ByteArray), 0, false, 0, 0))))) else (none)) else ((spec_Unpack.f k x8).bind fun bt354 => (if bt354.2 = true then (some (x2, bt354.1, 0, false, 0, (x8.length : Int))) else (some (0, (⟨#[]⟩ : ByteArray), 0, false, 0, 0))))
def spec_l04Name.f (k : Nat) (l0 : List Int) (a1 : Int) (a2 : Int) : Option (Int × ByteArray × Int × Bool × Int × Int) := if 0 ≤ a1 then (if a1 < (l0.length : Int) then (spec_l04Name.l0 k l0 a2 (([(Int.tdiv (rd l0 a1) 16) % 4294967296] : List Int)) (wrap64 (a1 + 1))) else (none)) else (none)
theorem spec_l04Name.mono_l : ∀ k, (∀ y0 y1 y2 y3, LeO (spec_l04Name.l0 k y0 y1 y2 y3) (spec_l04Name.l0 (k + 1) y0 y1 y2 y3))
 | 0 => fun _ _ _ _ r h => by simp [spec_l04Name.l0] at h
 | k + 1 => by
  have ih0 := spec_l04Name.mono_l k
  ·intro y0 y1 y2 y3
   unfold spec_l04Name.l0
   repeat' first
   | (with_reducible exact ih0 _ _ _ _)
   | (with_reducible exact spec_Unpack.mono _ _)
   | (with_reducible exact LeO.refl _)
   | (with_reducible exact LeO.none _)
   | (with_reducible refine LeO.ite ?_ ?_)
   | (with_reducible refine LeO.bind ?_ (fun _ => ?_))
   | exact ih0 _ _ _ _
   | exact spec_Unpack.mono _ _
   | exact LeO.none _
   | refine LeO.ite ?_ ?_
   | refine LeO.bind ?_ (fun _ => ?_)
theorem spec_l04Name.mono : ∀ a0 a1 a2 k, LeO (spec_l04Name.f k a0 a1 a2) (spec_l04Name.f (k + 1) a0 a1 a2) := by
 intro a0 a1 a2 k
 have ih0 := spec_l04Name.mono_l k
 unfold spec_l04Name.f
 repeat' first
   | (with_reducible exact ih0 _ _ _ _)
   | (with_reducible exact spec_Unpack.mono _ _)
   | (with_reducible exact LeO.refl _)
   | (with_reducible exact LeO.none _)
   | (with_reducible refine LeO.ite ?_ ?_)
   | (with_reducible refine LeO.bind ?_ (fun _ => ?_))
   | exact ih0 _ _ _ _
   | exact spec_Unpack.mono _ _
   | exact LeO.none _
   | refine LeO.ite ?_ ?_
   | refine LeO.bind ?_ (fun _ => ?_)
set_option maxHeartbeats 8000000 in
set_option maxRecDepth 100000 in
theorem spec_l04Name.calls (k : Nat) (A0 : Option Addr) (c0 : Nat) (l0 : List Int) (a1 : Int) (a2 : Int) (r1 : Int) (r2 : ByteArray) (r3 : Int) (r4 : Bool) (r5 : Int) (r6 : Int) (w : World) (hr0 : Kd.C (Kd.int .u32) w A0 l0.length l0) (hc0 : l0.length ≤ c0) (h : spec_l04Name.f k l0 a1 a2 = some (r1, r2, r3, r4, r5, r6)) :
  Calls Try.prog 94 #[.slice A0 l0.length c0, .int .i64 a1, .int .i64 a2] w fun e w' => e = .returned (.tuple #[.agg #[.int .i64 r1, .string r2, .int .i32 r3, .bool r4, .int .u32 r5], .int .i64 r6]) ∧ Below w.heap.size w w' := by
 have hu51 := Try.underlying51
 have HR0 := Aside0.mk hr0
 have HC0 := Aside0.mk hc0
 clear hr0 hc0
 have HB := Z (Below.refl w.heap.size w)
 have H : (if 0 ≤ a1 then (if a1 < (l0.length : Int) then (spec_l04Name.l0 k l0 a2 (([(Int.tdiv (rd l0 a1) 16) % 4294967296] : List Int)) (wrap64 (a1 + 1))) else (none)) else (none)) = some (r1, r2, r3, r4, r5, r6) := h
 clear h
 by_cases c4 : 0 ≤ a1
 ·rw [if_pos c4] at H
  have c4b0 : decide (0 ≤ a1) = true := decide_eq_true c4
  clear c4
  by_cases c5 : a1 < (l0.length : Int)
  ·rw [if_pos c5] at H
   have c5b0 : decide (a1 < (l0.length : Int)) = true := decide_eq_true c5
   clear c5
   obtain ⟨y341, hy341⟩ : ∃ y_ : List Int, y_ = (([(Int.tdiv (rd l0 a1) 16) % 4294967296] : List Int)) := ⟨_, rfl⟩
   replace H : (spec_l04Name.l0 k l0 a2 y341 (wrap64 (a1 + 1))) = some (r1, r2, r3, r4, r5, r6) := by first | (rw [hy341]; with_reducible exact H) | (have H2_ := (Option.bind_some _ _).symm.trans H; rw [hy341]; with_reducible exact H2_) | (have H2_ := (Option.bind_some _ _).symm.trans H; with_reducible exact H2_) | with_reducible exact H | (rw [hy341]; exact H) | exact H
   have Ny341 := Aside0.mk hy341
   clear hy341
   have H' := Aside0.mk H
   clear H
   go_enter Try.func94, Try.ntmps94
   go_wp2_with (first | ((with_reducible refine gate_dst (N := 6) rfl ?_); refine box_event (by rfl) (N := 6) (by rfl) (cs := #[.int .i64 0, .string (⟨#[]⟩ : ByteArray), .int .i32 0, .bool false, .int .u32 0]) (t := 51) Z10 ?_; intro gb339 hg w6 hbox hb; have BK339 := Z (hbox); have GW339 := Z ((Z75 : w.heap.size ≤ gb339)); have GE339 := Z ((Z75 : w.heap.size ≤ gb339)); replace HB := Z (below_step Z61 hb); clear hb hbox hg; have p340 : 0 ≤ (a1 : Int) := of_decide_eq_true Z5; have q340 : a1 < (l0.length : Int) := of_decide_eq_true Z5; obtain ⟨ad340, e340, hx340_0⟩ := Kd.at_int HR0.out a1 p340 q340; cases e340; replace hx340_0 := (HB.out.cell (World.block_lt_of_cell? w _ hx340_0)).trans hx340_0; replace p340 := eq_true p340; replace q340 := eq_true q340) | ((with_reducible refine gate_dst (N := 17) rfl ?_); refine Kd.R_lit (Kd.int .u32) _ 47 (by rfl) (N := 17) (by rfl) (xs := ([(Int.tdiv (rd l0 a1) 16) % 4294967296] : List Int)) (inner := [.int .u32 ((Int.tdiv (rd l0 a1) 16) % 4294967296)]) (ok := fun _ => True) (okp := fun _ => True) Z10 (Reps.one (show Kd.M (Kd.int .u32) _ _ _ ((Int.tdiv (rd l0 a1) 16) % 4294967296) [.int .u32 ((Int.tdiv (rd l0 a1) 16) % 4294967296)] from rfl) (Reps.none _ _)) (fun _ hk => hk) trivial (Below.refl _ _) (Nat.le_refl _) (by simp) ?_; intro v342 w7 ho8 hb hg_ hnew_; clear hg_ hnew_; (first | rw [← Ny341.out] at ho8 | (simp only [Int.reduceToNat] at ho8; rw [← Ny341.out] at ho8)); have HO343 := Z (Kd.R_lower ho8 (below_size Z61)); replace BK339 := Z (blk_below (g := gb339) (o := .cells #[.int .i64 0, .string (⟨#[]⟩ : ByteArray), .int .i32 0, .bool false, .int .u32 0] 51 (0, 0)) (Z15 BK339) hb); replace HB := Z (below_step Z61 hb); clear hb ho8))
   go_loopg [8, 9] k (fun kq v8 v9 w' => ∃ (x8_1 : List Int) (x9_1 : Int), v9 = .int .i64 x9_1 ∧ Aside0 (spec_l04Name.l0 kq l0 a2 x8_1 x9_1 = some (r1, r2, r3, r4, r5, r6)) ∧ Aside0 (kq ≤ k) ∧ Aside0 (Kd.R (Kd.int .u32) 47 w' w.heap.size (fun _ => True) v8 x8_1) ∧ Aside0 (w'.heap[gb339]? = some (.cells #[.int .i64 0, .string (⟨#[]⟩ : ByteArray), .int .i32 0, .bool false, .int .u32 0] 51 (0, 0))) ∧ Aside0 (Below w.heap.size w w'))
   case atStart => exact ⟨(y341), (wrap64 (a1 + 1)), Z2, H', ⟨Nat.le_refl _⟩, ⟨(Z12 HO343)⟩, ⟨(Z15 BK339)⟩, ⟨Z61⟩⟩
   case round =>
    clear H'
    try clear p2
    try clear p3
    try clear q3
    try clear hx3
    try clear c4
    try clear c4b0
    try clear c5
    try clear c5b0
    try clear p6
    try clear hx340_0
    try clear p340
    try clear q340
    obtain ⟨x8_1, x9_1, rfl, HA, HK1, HO_8, BK339, HB⟩ := hrel
    cases gk with
    | zero => exact absurd HA.out (by simp [spec_l04Name.l0])
    | succ k1 =>
     have H := HA.out
     clear HA
     simp only [spec_l04Name.l0] at H
     by_cases c9 : x9_1 < (l0.length : Int)
     ·rw [if_pos c9] at H
      have c9b0 : decide (x9_1 < (l0.length : Int)) = true := decide_eq_true c9
      clear c9
      by_cases c10 : 0 ≤ x9_1
      ·rw [if_pos c10] at H
       have c10b0 : decide (0 ≤ x9_1) = true := decide_eq_true c10
       clear c10
       by_cases c11 : (Int.tmod (rd l0 x9_1) 16) = 0
       ·rw [if_pos c11] at H
        have c11b0 : ((Int.tmod (rd l0 x9_1) 16) == 0) = true := beq_iff_eq.mpr c11
        have c11b1 : ((Int.tmod (rd l0 x9_1) 16) != 0) = false := bne_eq_false_iff_eq.mpr c11
        clear c11
        by_cases c12 : (rd l0 x9_1) = 0
        ·rw [if_pos c12] at H
         have c12b0 : ((rd l0 x9_1) == 0) = true := beq_iff_eq.mpr c12
         have c12b1 : ((rd l0 x9_1) != 0) = false := bne_eq_false_iff_eq.mpr c12
         clear c12
         replace H := Option.bind_eq_some_iff.mp H
         obtain ⟨⟨t346, t347⟩, A130, H⟩ := H
         replace H : (if t347 = true then (some (a2, t346, 0, false, 0, (x8_1.length : Int))) else (some (0, (⟨#[]⟩ : ByteArray), 0, false, 0, 0))) = some (r1, r2, r3, r4, r5, r6) := H
         have A13 := Aside0.mk A130
         clear A130
         by_cases c14 : t347 = true
         ·subst c14
          have H1 : (some (a2, t346, 0, false, 0, (x8_1.length : Int))) = some (r1, r2, r3, r4, r5, r6) := Z7
          clear H
          have H := H1
          clear H1
          simp only [Option.some.injEq, Prod.mk.injEq] at H
          obtain ⟨rfl, rfl, rfl, rfl, rfl, rfl⟩ := H
          have p344 : 0 ≤ (x9_1 : Int) := of_decide_eq_true Z5
          have q344 : x9_1 < (l0.length : Int) := of_decide_eq_true Z5
          obtain ⟨ad344, e344, hx344_0⟩ := Kd.at_int HR0.out x9_1 p344 q344
          obtain rfl : ad340 = ad344 := (by injection e344)
          replace hx344_0 := (HB.out.cell (World.block_lt_of_cell? w _ hx344_0)).trans hx344_0
          replace p344 := eq_true p344
          replace q344 := eq_true q344
          have p345 : 0 ≤ (x9_1 : Int) := of_decide_eq_true Z5
          have q345 : x9_1 < (l0.length : Int) := of_decide_eq_true Z5
          obtain ⟨ad345, e345, hx345_0⟩ := Kd.at_int HR0.out x9_1 p345 q345
          obtain rfl : ad340 = ad345 := (by injection e345)
          replace hx345_0 := (HB.out.cell (World.block_lt_of_cell? w _ hx345_0)).trans hx345_0
          replace p345 := eq_true p345
          replace q345 := eq_true q345
          obtain ⟨Ao15, co15, eo15⟩ := Kd.R_slice HO_8.out
          subst eo15
          go_wp2_with (first | ((with_reducible refine gate_callee (f := 115) rfl ?_); refine goesL_ (some 51) rfl rfl Try.func115 Z0 rfl #[.slice Ao15 x8_1.length co15] rfl Z4 ?_; (with_reducible refine (spec_Unpack.calls k1 _ _ x8_1 t346 true _ ?side1 ?side2 A13.out).mono ?_); (case side1 => exact (Z26 HO_8)); (case side2 => exact (Kd.R_reads' HO_8.out).2.1); rintro e w16 ⟨rfl, hb⟩; refine ⟨_, rfl, ?_⟩; replace HO_8 := Z (Kd.R_below (Z12 HO_8) hb); replace BK339 := Z (blk_below (g := gb339) (o := .cells #[.int .i64 0, .string (⟨#[]⟩ : ByteArray), .int .i32 0, .bool false, .int .u32 0] 51 (0, 0)) (Z15 BK339) hb); replace HB := Z (below_step Z61 hb); (try clear hb); (try clear hb2); (try clear hk); (try clear hi); have hcz17_0 : w16.cell? ⟨gb339, 0, none⟩ = some (.int .i64 0) := (blk_cell BK339.out 0).trans rfl; have hcz17_1 : w16.cell? ⟨gb339, 1, none⟩ = some (.string (⟨#[]⟩ : ByteArray)) := (blk_cell BK339.out 1).trans rfl; have hcz17_2 : w16.cell? ⟨gb339, 2, none⟩ = some (.int .i32 0) := (blk_cell BK339.out 2).trans rfl; have hcz17_3 : w16.cell? ⟨gb339, 3, none⟩ = some (.bool false) := (blk_cell BK339.out 3).trans rfl; have hcz17_4 : w16.cell? ⟨gb339, 4, none⟩ = some (.int .u32 0) := (blk_cell BK339.out 4).trans rfl; have hfz17_0 := blk_frozen BK339.out 0; have hfz17_1 := blk_frozen BK339.out 1; have hfz17_2 := blk_frozen BK339.out 2; have hfz17_3 := blk_frozen BK339.out 3; have hfz17_4 := blk_frozen BK339.out 4))
          refine bodyPost_ret (results_ct rfl _ _ gb339 51 #[.int .i64 a2, .string t346, .int .i32 0, .bool false, .int .u32 0] (0, 0) _ rfl (by (with_reducible repeat (first | refine blk_drewN ?_ _ | refine blk_drew ?_ | refine blk_alloc ?_ _)); refine blk_put (cs := #[.int .i64 a2, .string t346, .int .i32 0, .bool false, .int .u32 0]) ?_ 4 _ rfl; (with_reducible repeat (first | refine blk_drewN ?_ _ | refine blk_drew ?_ | refine blk_alloc ?_ _)); refine blk_put (cs := #[.int .i64 a2, .string t346, .int .i32 0, .bool false, .int .u32 0]) ?_ 3 _ rfl; (with_reducible repeat (first | refine blk_drewN ?_ _ | refine blk_drew ?_ | refine blk_alloc ?_ _)); refine blk_put (cs := #[.int .i64 a2, .string t346, .int .i32 0, .bool false, .int .u32 0]) ?_ 2 _ rfl; (with_reducible repeat (first | refine blk_drewN ?_ _ | refine blk_drew ?_ | refine blk_alloc ?_ _)); refine blk_put (cs := #[.int .i64 a2, .string (⟨#[]⟩ : ByteArray), .int .i32 0, .bool false, .int .u32 0]) ?_ 1 _ rfl; (with_reducible repeat (first | refine blk_drewN ?_ _ | refine blk_drew ?_ | refine blk_alloc ?_ _)); refine blk_put (cs := #[.int .i64 0, .string (⟨#[]⟩ : ByteArray), .int .i32 0, .bool false, .int .u32 0]) ?_ 0 _ rfl; (with_reducible repeat (first | refine blk_drewN ?_ _ | refine blk_drew ?_ | refine blk_alloc ?_ _)); exact BK339.out) Try.underlying51 rfl Z0) rfl ?_
          exact ⟨Z13, Z61⟩
         ·replace c14 := Bool.eq_false_iff.mpr c14
          subst c14
          have H1 : (some (0, (⟨#[]⟩ : ByteArray), 0, false, 0, 0)) = some (r1, r2, r3, r4, r5, r6) := by rw [if_neg (show ¬ (false = true) by decide)] at H; exact H
          clear H
          have H := H1
          clear H1
          simp only [Option.some.injEq, Prod.mk.injEq] at H
          obtain ⟨rfl, rfl, rfl, rfl, rfl, rfl⟩ := H
          have p344 : 0 ≤ (x9_1 : Int) := of_decide_eq_true Z5
          have q344 : x9_1 < (l0.length : Int) := of_decide_eq_true Z5
          obtain ⟨ad344, e344, hx344_0⟩ := Kd.at_int HR0.out x9_1 p344 q344
          obtain rfl : ad340 = ad344 := (by injection e344)
          replace hx344_0 := (HB.out.cell (World.block_lt_of_cell? w _ hx344_0)).trans hx344_0
          replace p344 := eq_true p344
          replace q344 := eq_true q344
          have p345 : 0 ≤ (x9_1 : Int) := of_decide_eq_true Z5
          have q345 : x9_1 < (l0.length : Int) := of_decide_eq_true Z5
          obtain ⟨ad345, e345, hx345_0⟩ := Kd.at_int HR0.out x9_1 p345 q345
          obtain rfl : ad340 = ad345 := (by injection e345)
          replace hx345_0 := (HB.out.cell (World.block_lt_of_cell? w _ hx345_0)).trans hx345_0
          replace p345 := eq_true p345
          replace q345 := eq_true q345
          obtain ⟨Ao18, co18, eo18⟩ := Kd.R_slice HO_8.out
          subst eo18
          go_wp2_with (first | ((with_reducible refine gate_callee (f := 115) rfl ?_); refine goesL_ (some 51) rfl rfl Try.func115 Z0 rfl #[.slice Ao18 x8_1.length co18] rfl Z4 ?_; (with_reducible refine (spec_Unpack.calls k1 _ _ x8_1 t346 false _ ?side1 ?side2 A13.out).mono ?_); (case side1 => exact (Z26 HO_8)); (case side2 => exact (Kd.R_reads' HO_8.out).2.1); rintro e w19 ⟨rfl, hb⟩; refine ⟨_, rfl, ?_⟩; replace HO_8 := Z (Kd.R_below (Z12 HO_8) hb); replace BK339 := Z (blk_below (g := gb339) (o := .cells #[.int .i64 0, .string (⟨#[]⟩ : ByteArray), .int .i32 0, .bool false, .int .u32 0] 51 (0, 0)) (Z15 BK339) hb); replace HB := Z (below_step Z61 hb); (try clear hb); (try clear hb2); (try clear hk); (try clear hi); have hcz20_0 : w19.cell? ⟨gb339, 0, none⟩ = some (.int .i64 0) := (blk_cell BK339.out 0).trans rfl; have hcz20_1 : w19.cell? ⟨gb339, 1, none⟩ = some (.string (⟨#[]⟩ : ByteArray)) := (blk_cell BK339.out 1).trans rfl; have hcz20_2 : w19.cell? ⟨gb339, 2, none⟩ = some (.int .i32 0) := (blk_cell BK339.out 2).trans rfl; have hcz20_3 : w19.cell? ⟨gb339, 3, none⟩ = some (.bool false) := (blk_cell BK339.out 3).trans rfl; have hcz20_4 : w19.cell? ⟨gb339, 4, none⟩ = some (.int .u32 0) := (blk_cell BK339.out 4).trans rfl; have hfz20_0 := blk_frozen BK339.out 0; have hfz20_1 := blk_frozen BK339.out 1; have hfz20_2 := blk_frozen BK339.out 2; have hfz20_3 := blk_frozen BK339.out 3; have hfz20_4 := blk_frozen BK339.out 4))
          refine bodyPost_ret (results_ct rfl _ _ gb339 51 #[.int .i64 0, .string (⟨#[]⟩ : ByteArray), .int .i32 0, .bool false, .int .u32 0] (0, 0) _ rfl (Z29 BK339) Try.underlying51 rfl Z0) rfl ?_
          exact ⟨Z13, Z61⟩
        ·rw [if_neg c12] at H
         have c12b0 : ((rd l0 x9_1) == 0) = false := beq_eq_false_iff_ne.mpr c12
         have c12b1 : ((rd l0 x9_1) != 0) = true := bne_iff_ne.mpr c12
         by_cases c21 : x8_1.length < 35184372088832
         ·rw [if_pos c21] at H
          have LMc21 := Aside0.mk c21
          clear c21
          obtain ⟨y349, hy349⟩ : ∃ y_ : List Int, y_ = (x8_1 ++ [(Int.tdiv (rd l0 x9_1) 16) % 4294967296]) := ⟨_, rfl⟩
          replace H : (spec_l04Name.l0 k1 l0 a2 y349 (wrap64 (x9_1 + 1))) = some (r1, r2, r3, r4, r5, r6) := by first | (rw [hy349]; with_reducible exact H) | (have H2_ := (Option.bind_some _ _).symm.trans H; rw [hy349]; with_reducible exact H2_) | (have H2_ := (Option.bind_some _ _).symm.trans H; with_reducible exact H2_) | with_reducible exact H | (rw [hy349]; exact H) | exact H
          have Ny349 := Aside0.mk hy349
          clear hy349
          have H' := Aside0.mk H
          clear H
          have p344 : 0 ≤ (x9_1 : Int) := of_decide_eq_true Z5
          have q344 : x9_1 < (l0.length : Int) := of_decide_eq_true Z5
          obtain ⟨ad344, e344, hx344_0⟩ := Kd.at_int HR0.out x9_1 p344 q344
          obtain rfl : ad340 = ad344 := (by injection e344)
          replace hx344_0 := (HB.out.cell (World.block_lt_of_cell? w _ hx344_0)).trans hx344_0
          replace p344 := eq_true p344
          replace q344 := eq_true q344
          have p345 : 0 ≤ (x9_1 : Int) := of_decide_eq_true Z5
          have q345 : x9_1 < (l0.length : Int) := of_decide_eq_true Z5
          obtain ⟨ad345, e345, hx345_0⟩ := Kd.at_int HR0.out x9_1 p345 q345
          obtain rfl : ad340 = ad345 := (by injection e345)
          replace hx345_0 := (HB.out.cell (World.block_lt_of_cell? w _ hx345_0)).trans hx345_0
          replace p345 := eq_true p345
          replace q345 := eq_true q345
          have p348 : 0 ≤ (x9_1 : Int) := of_decide_eq_true Z5
          have q348 : x9_1 < (l0.length : Int) := of_decide_eq_true Z5
          obtain ⟨ad348, e348, hx348_0⟩ := Kd.at_int HR0.out x9_1 p348 q348
          obtain rfl : ad340 = ad348 := (by injection e348)
          replace hx348_0 := (HB.out.cell (World.block_lt_of_cell? w _ hx348_0)).trans hx348_0
          replace p348 := eq_true p348
          replace q348 := eq_true q348
          go_wp2_with (first | ((with_reducible refine gate_builtin (b := .append) (xs := #[.tmp 41, .tmp 47]) rfl ?_); at_builtin; refine Kd.R_append (Kd.int .u32) (w0 := w) w.heap.size rfl (.tmp 41) (.tmp 47) 24 47 (.int .u32 0) 4 rfl Try.underlying24 info47 rfl (by decide) (by omega) u8 x8_1 ((Int.tdiv (rd l0 x9_1) 16) % 4294967296) [.int .u32 ((Int.tdiv (rd l0 x9_1) 16) % 4294967296)] (fun _ => True) (fun _ => False) rfl rfl ?aP (fun _ hk => hk.elim) ?aF ?aO ?aB ?aS ?aL ?_; (case aP => exact rfl); (case aB => exact Z61); (case aF => exact (fun _ _ => trivial)); (case aO => exact (Z12 HO_8)); (case aS => exact (below_size Z61)); (case aL => have := LMc21.out; omega); intro v350 w22 ho hb hg hat; rw [← Ny349.out] at ho; replace BK339 := Z (blk_grown (g := gb339) (o := .cells #[.int .i64 0, .string (⟨#[]⟩ : ByteArray), .int .i32 0, .bool false, .int .u32 0] 51 (0, 0)) (Z15 BK339) hg (Kd.R_ne HO_8.out BK339.out (by decide))); replace HB := Z (hb); have HO351 := Z (ho); clear HO_8; clear ho hb hg hat))
          go_roundg k1
          case measure => have := HK1.out; omega
          case rel => exact ⟨(y349), (wrap64 (x9_1 + 1)), Z2, H', ⟨Z6⟩, ⟨(Z12 HO351)⟩, ⟨(Z15 BK339)⟩, ⟨Z61⟩⟩
         ·rw [if_neg c21] at H
          exact absurd H (by simp)
       ·rw [if_neg c11] at H
        have c11b0 : ((Int.tmod (rd l0 x9_1) 16) == 0) = false := beq_eq_false_iff_ne.mpr c11
        have c11b1 : ((Int.tmod (rd l0 x9_1) 16) != 0) = true := bne_iff_ne.mpr c11
        replace H := Option.bind_eq_some_iff.mp H
        obtain ⟨⟨t352, t353⟩, A230, H⟩ := H
        replace H : (if t353 = true then (some (a2, t352, 0, false, 0, (x8_1.length : Int))) else (some (0, (⟨#[]⟩ : ByteArray), 0, false, 0, 0))) = some (r1, r2, r3, r4, r5, r6) := H
        have A23 := Aside0.mk A230
        clear A230
        by_cases c24 : t353 = true
        ·subst c24
         have H1 : (some (a2, t352, 0, false, 0, (x8_1.length : Int))) = some (r1, r2, r3, r4, r5, r6) := Z7
         clear H
         have H := H1
         clear H1
         simp only [Option.some.injEq, Prod.mk.injEq] at H
         obtain ⟨rfl, rfl, rfl, rfl, rfl, rfl⟩ := H
         have p344 : 0 ≤ (x9_1 : Int) := of_decide_eq_true Z5
         have q344 : x9_1 < (l0.length : Int) := of_decide_eq_true Z5
         obtain ⟨ad344, e344, hx344_0⟩ := Kd.at_int HR0.out x9_1 p344 q344
         obtain rfl : ad340 = ad344 := (by injection e344)
         replace hx344_0 := (HB.out.cell (World.block_lt_of_cell? w _ hx344_0)).trans hx344_0
         replace p344 := eq_true p344
         replace q344 := eq_true q344
         obtain ⟨Ao25, co25, eo25⟩ := Kd.R_slice HO_8.out
         subst eo25
         go_wp2_with (first | ((with_reducible refine gate_callee (f := 115) rfl ?_); refine goesL_ (some 51) rfl rfl Try.func115 Z0 rfl #[.slice Ao25 x8_1.length co25] rfl Z4 ?_; (with_reducible refine (spec_Unpack.calls k1 _ _ x8_1 t352 true _ ?side1 ?side2 A23.out).mono ?_); (case side1 => exact (Z26 HO_8)); (case side2 => exact (Kd.R_reads' HO_8.out).2.1); rintro e w26 ⟨rfl, hb⟩; refine ⟨_, rfl, ?_⟩; replace HO_8 := Z (Kd.R_below (Z12 HO_8) hb); replace BK339 := Z (blk_below (g := gb339) (o := .cells #[.int .i64 0, .string (⟨#[]⟩ : ByteArray), .int .i32 0, .bool false, .int .u32 0] 51 (0, 0)) (Z15 BK339) hb); replace HB := Z (below_step Z61 hb); (try clear hb); (try clear hb2); (try clear hk); (try clear hi); have hcz27_0 : w26.cell? ⟨gb339, 0, none⟩ = some (.int .i64 0) := (blk_cell BK339.out 0).trans rfl; have hcz27_1 : w26.cell? ⟨gb339, 1, none⟩ = some (.string (⟨#[]⟩ : ByteArray)) := (blk_cell BK339.out 1).trans rfl; have hcz27_2 : w26.cell? ⟨gb339, 2, none⟩ = some (.int .i32 0) := (blk_cell BK339.out 2).trans rfl; have hcz27_3 : w26.cell? ⟨gb339, 3, none⟩ = some (.bool false) := (blk_cell BK339.out 3).trans rfl; have hcz27_4 : w26.cell? ⟨gb339, 4, none⟩ = some (.int .u32 0) := (blk_cell BK339.out 4).trans rfl; have hfz27_0 := blk_frozen BK339.out 0; have hfz27_1 := blk_frozen BK339.out 1; have hfz27_2 := blk_frozen BK339.out 2; have hfz27_3 := blk_frozen BK339.out 3; have hfz27_4 := blk_frozen BK339.out 4))
         refine bodyPost_ret (results_ct rfl _ _ gb339 51 #[.int .i64 a2, .string t352, .int .i32 0, .bool false, .int .u32 0] (0, 0) _ rfl (by (with_reducible repeat (first | refine blk_drewN ?_ _ | refine blk_drew ?_ | refine blk_alloc ?_ _)); refine blk_put (cs := #[.int .i64 a2, .string t352, .int .i32 0, .bool false, .int .u32 0]) ?_ 4 _ rfl; (with_reducible repeat (first | refine blk_drewN ?_ _ | refine blk_drew ?_ | refine blk_alloc ?_ _)); refine blk_put (cs := #[.int .i64 a2, .string t352, .int .i32 0, .bool false, .int .u32 0]) ?_ 3 _ rfl; (with_reducible repeat (first | refine blk_drewN ?_ _ | refine blk_drew ?_ | refine blk_alloc ?_ _)); refine blk_put (cs := #[.int .i64 a2, .string t352, .int .i32 0, .bool false, .int .u32 0]) ?_ 2 _ rfl; (with_reducible repeat (first | refine blk_drewN ?_ _ | refine blk_drew ?_ | refine blk_alloc ?_ _)); refine blk_put (cs := #[.int .i64 a2, .string (⟨#[]⟩ : ByteArray), .int .i32 0, .bool false, .int .u32 0]) ?_ 1 _ rfl; (with_reducible repeat (first | refine blk_drewN ?_ _ | refine blk_drew ?_ | refine blk_alloc ?_ _)); refine blk_put (cs := #[.int .i64 0, .string (⟨#[]⟩ : ByteArray), .int .i32 0, .bool false, .int .u32 0]) ?_ 0 _ rfl; (with_reducible repeat (first | refine blk_drewN ?_ _ | refine blk_drew ?_ | refine blk_alloc ?_ _)); exact BK339.out) Try.underlying51 rfl Z0) rfl ?_
         exact ⟨Z13, Z61⟩
        ·replace c24 := Bool.eq_false_iff.mpr c24
         subst c24
         have H1 : (some (0, (⟨#[]⟩ : ByteArray), 0, false, 0, 0)) = some (r1, r2, r3, r4, r5, r6) := by rw [if_neg (show ¬ (false = true) by decide)] at H; exact H
         clear H
         have H := H1
         clear H1
         simp only [Option.some.injEq, Prod.mk.injEq] at H
         obtain ⟨rfl, rfl, rfl, rfl, rfl, rfl⟩ := H
         have p344 : 0 ≤ (x9_1 : Int) := of_decide_eq_true Z5
         have q344 : x9_1 < (l0.length : Int) := of_decide_eq_true Z5
         obtain ⟨ad344, e344, hx344_0⟩ := Kd.at_int HR0.out x9_1 p344 q344
         obtain rfl : ad340 = ad344 := (by injection e344)
         replace hx344_0 := (HB.out.cell (World.block_lt_of_cell? w _ hx344_0)).trans hx344_0
         replace p344 := eq_true p344
         replace q344 := eq_true q344
         obtain ⟨Ao28, co28, eo28⟩ := Kd.R_slice HO_8.out
         subst eo28
         go_wp2_with (first | ((with_reducible refine gate_callee (f := 115) rfl ?_); refine goesL_ (some 51) rfl rfl Try.func115 Z0 rfl #[.slice Ao28 x8_1.length co28] rfl Z4 ?_; (with_reducible refine (spec_Unpack.calls k1 _ _ x8_1 t352 false _ ?side1 ?side2 A23.out).mono ?_); (case side1 => exact (Z26 HO_8)); (case side2 => exact (Kd.R_reads' HO_8.out).2.1); rintro e w29 ⟨rfl, hb⟩; refine ⟨_, rfl, ?_⟩; replace HO_8 := Z (Kd.R_below (Z12 HO_8) hb); replace BK339 := Z (blk_below (g := gb339) (o := .cells #[.int .i64 0, .string (⟨#[]⟩ : ByteArray), .int .i32 0, .bool false, .int .u32 0] 51 (0, 0)) (Z15 BK339) hb); replace HB := Z (below_step Z61 hb); (try clear hb); (try clear hb2); (try clear hk); (try clear hi); have hcz30_0 : w29.cell? ⟨gb339, 0, none⟩ = some (.int .i64 0) := (blk_cell BK339.out 0).trans rfl; have hcz30_1 : w29.cell? ⟨gb339, 1, none⟩ = some (.string (⟨#[]⟩ : ByteArray)) := (blk_cell BK339.out 1).trans rfl; have hcz30_2 : w29.cell? ⟨gb339, 2, none⟩ = some (.int .i32 0) := (blk_cell BK339.out 2).trans rfl; have hcz30_3 : w29.cell? ⟨gb339, 3, none⟩ = some (.bool false) := (blk_cell BK339.out 3).trans rfl; have hcz30_4 : w29.cell? ⟨gb339, 4, none⟩ = some (.int .u32 0) := (blk_cell BK339.out 4).trans rfl; have hfz30_0 := blk_frozen BK339.out 0; have hfz30_1 := blk_frozen BK339.out 1; have hfz30_2 := blk_frozen BK339.out 2; have hfz30_3 := blk_frozen BK339.out 3; have hfz30_4 := blk_frozen BK339.out 4))
         refine bodyPost_ret (results_ct rfl _ _ gb339 51 #[.int .i64 0, .string (⟨#[]⟩ : ByteArray), .int .i32 0, .bool false, .int .u32 0] (0, 0) _ rfl (Z29 BK339) Try.underlying51 rfl Z0) rfl ?_
         exact ⟨Z13, Z61⟩
      ·rw [if_neg c10] at H
       exact absurd H (by simp)
     ·rw [if_neg c9] at H
      have c9b0 : decide (x9_1 < (l0.length : Int)) = false := decide_eq_false c9
      clear c9
      replace H := Option.bind_eq_some_iff.mp H
      obtain ⟨⟨t354, t355⟩, A310, H⟩ := H
      replace H : (if t355 = true then (some (a2, t354, 0, false, 0, (x8_1.length : Int))) else (some (0, (⟨#[]⟩ : ByteArray), 0, false, 0, 0))) = some (r1, r2, r3, r4, r5, r6) := H
      have A31 := Aside0.mk A310
      clear A310
      by_cases c32 : t355 = true
      ·subst c32
       have H1 : (some (a2, t354, 0, false, 0, (x8_1.length : Int))) = some (r1, r2, r3, r4, r5, r6) := Z7
       clear H
       have H := H1
       clear H1
       simp only [Option.some.injEq, Prod.mk.injEq] at H
       obtain ⟨rfl, rfl, rfl, rfl, rfl, rfl⟩ := H
       obtain ⟨Ao33, co33, eo33⟩ := Kd.R_slice HO_8.out
       subst eo33
       go_wp2_with (first | ((with_reducible refine gate_callee (f := 115) rfl ?_); refine goesL_ (some 51) rfl rfl Try.func115 Z0 rfl #[.slice Ao33 x8_1.length co33] rfl Z4 ?_; (with_reducible refine (spec_Unpack.calls k1 _ _ x8_1 t354 true _ ?side1 ?side2 A31.out).mono ?_); (case side1 => exact (Z26 HO_8)); (case side2 => exact (Kd.R_reads' HO_8.out).2.1); rintro e w34 ⟨rfl, hb⟩; refine ⟨_, rfl, ?_⟩; replace HO_8 := Z (Kd.R_below (Z12 HO_8) hb); replace BK339 := Z (blk_below (g := gb339) (o := .cells #[.int .i64 0, .string (⟨#[]⟩ : ByteArray), .int .i32 0, .bool false, .int .u32 0] 51 (0, 0)) (Z15 BK339) hb); replace HB := Z (below_step Z61 hb); (try clear hb); (try clear hb2); (try clear hk); (try clear hi); have hcz35_0 : w34.cell? ⟨gb339, 0, none⟩ = some (.int .i64 0) := (blk_cell BK339.out 0).trans rfl; have hcz35_1 : w34.cell? ⟨gb339, 1, none⟩ = some (.string (⟨#[]⟩ : ByteArray)) := (blk_cell BK339.out 1).trans rfl; have hcz35_2 : w34.cell? ⟨gb339, 2, none⟩ = some (.int .i32 0) := (blk_cell BK339.out 2).trans rfl; have hcz35_3 : w34.cell? ⟨gb339, 3, none⟩ = some (.bool false) := (blk_cell BK339.out 3).trans rfl; have hcz35_4 : w34.cell? ⟨gb339, 4, none⟩ = some (.int .u32 0) := (blk_cell BK339.out 4).trans rfl; have hfz35_0 := blk_frozen BK339.out 0; have hfz35_1 := blk_frozen BK339.out 1; have hfz35_2 := blk_frozen BK339.out 2; have hfz35_3 := blk_frozen BK339.out 3; have hfz35_4 := blk_frozen BK339.out 4))
       refine bodyPost_ret (results_ct rfl _ _ gb339 51 #[.int .i64 a2, .string t354, .int .i32 0, .bool false, .int .u32 0] (0, 0) _ rfl (by (with_reducible repeat (first | refine blk_drewN ?_ _ | refine blk_drew ?_ | refine blk_alloc ?_ _)); refine blk_put (cs := #[.int .i64 a2, .string t354, .int .i32 0, .bool false, .int .u32 0]) ?_ 4 _ rfl; (with_reducible repeat (first | refine blk_drewN ?_ _ | refine blk_drew ?_ | refine blk_alloc ?_ _)); refine blk_put (cs := #[.int .i64 a2, .string t354, .int .i32 0, .bool false, .int .u32 0]) ?_ 3 _ rfl; (with_reducible repeat (first | refine blk_drewN ?_ _ | refine blk_drew ?_ | refine blk_alloc ?_ _)); refine blk_put (cs := #[.int .i64 a2, .string t354, .int .i32 0, .bool false, .int .u32 0]) ?_ 2 _ rfl; (with_reducible repeat (first | refine blk_drewN ?_ _ | refine blk_drew ?_ | refine blk_alloc ?_ _)); refine blk_put (cs := #[.int .i64 a2, .string (⟨#[]⟩ : ByteArray), .int .i32 0, .bool false, .int .u32 0]) ?_ 1 _ rfl; (with_reducible repeat (first | refine blk_drewN ?_ _ | refine blk_drew ?_ | refine blk_alloc ?_ _)); refine blk_put (cs := #[.int .i64 0, .string (⟨#[]⟩ : ByteArray), .int .i32 0, .bool false, .int .u32 0]) ?_ 0 _ rfl; (with_reducible repeat (first | refine blk_drewN ?_ _ | refine blk_drew ?_ | refine blk_alloc ?_ _)); exact BK339.out) Try.underlying51 rfl Z0) rfl ?_
       exact ⟨Z13, Z61⟩
      ·replace c32 := Bool.eq_false_iff.mpr c32
       subst c32
       have H1 : (some (0, (⟨#[]⟩ : ByteArray), 0, false, 0, 0)) = some (r1, r2, r3, r4, r5, r6) := by rw [if_neg (show ¬ (false = true) by decide)] at H; exact H
       clear H
       have H := H1
       clear H1
       simp only [Option.some.injEq, Prod.mk.injEq] at H
       obtain ⟨rfl, rfl, rfl, rfl, rfl, rfl⟩ := H
       obtain ⟨Ao36, co36, eo36⟩ := Kd.R_slice HO_8.out
       subst eo36
       go_wp2_with (first | ((with_reducible refine gate_callee (f := 115) rfl ?_); refine goesL_ (some 51) rfl rfl Try.func115 Z0 rfl #[.slice Ao36 x8_1.length co36] rfl Z4 ?_; (with_reducible refine (spec_Unpack.calls k1 _ _ x8_1 t354 false _ ?side1 ?side2 A31.out).mono ?_); (case side1 => exact (Z26 HO_8)); (case side2 => exact (Kd.R_reads' HO_8.out).2.1); rintro e w37 ⟨rfl, hb⟩; refine ⟨_, rfl, ?_⟩; replace HO_8 := Z (Kd.R_below (Z12 HO_8) hb); replace BK339 := Z (blk_below (g := gb339) (o := .cells #[.int .i64 0, .string (⟨#[]⟩ : ByteArray), .int .i32 0, .bool false, .int .u32 0] 51 (0, 0)) (Z15 BK339) hb); replace HB := Z (below_step Z61 hb); (try clear hb); (try clear hb2); (try clear hk); (try clear hi); have hcz38_0 : w37.cell? ⟨gb339, 0, none⟩ = some (.int .i64 0) := (blk_cell BK339.out 0).trans rfl; have hcz38_1 : w37.cell? ⟨gb339, 1, none⟩ = some (.string (⟨#[]⟩ : ByteArray)) := (blk_cell BK339.out 1).trans rfl; have hcz38_2 : w37.cell? ⟨gb339, 2, none⟩ = some (.int .i32 0) := (blk_cell BK339.out 2).trans rfl; have hcz38_3 : w37.cell? ⟨gb339, 3, none⟩ = some (.bool false) := (blk_cell BK339.out 3).trans rfl; have hcz38_4 : w37.cell? ⟨gb339, 4, none⟩ = some (.int .u32 0) := (blk_cell BK339.out 4).trans rfl; have hfz38_0 := blk_frozen BK339.out 0; have hfz38_1 := blk_frozen BK339.out 1; have hfz38_2 := blk_frozen BK339.out 2; have hfz38_3 := blk_frozen BK339.out 3; have hfz38_4 := blk_frozen BK339.out 4))
       refine bodyPost_ret (results_ct rfl _ _ gb339 51 #[.int .i64 0, .string (⟨#[]⟩ : ByteArray), .int .i32 0, .bool false, .int .u32 0] (0, 0) _ rfl (Z29 BK339) Try.underlying51 rfl Z0) rfl ?_
       exact ⟨Z13, Z61⟩
  ·rw [if_neg c5] at H
   exact absurd H (by simp)
 ·rw [if_neg c4] at H
  exact absurd H (by simp)

/-! ### spec_l04Num: function 108 -/
def spec_l04Num.f (a0 : Int) (a1 : Bool) (a2 : Int) (a3 : Int) : Option (List Int) := if a1 = true then (if a0 ≥ (-67108864) then (if a0 ≤ 67108863 then (some (([((((((a0) % 4294967296) * 32) % 4294967296) + 16) + a2) % 4294967296] : List Int))) else (some (([(16 + a3) % 4294967296, (a0) % 4294967296] : List Int)))) else (some (([(16 + a3) % 4294967296, (a0) % 4294967296] : List Int)))) else (if a0 ≥ (-67108864) then (if a0 ≤ 67108863 then (some (([((((((a0) % 4294967296) * 32) % 4294967296) + 0) + a2) % 4294967296] : List Int))) else (some (([(0 + a3) % 4294967296, (a0) % 4294967296] : List Int)))) else (some (([(0 + a3) % 4294967296, (a0) % 4294967296] : List Int))))
set_option maxHeartbeats 8000000 in
set_option maxRecDepth 100000 in
theorem spec_l04Num.calls (a0 : Int) (a1 : Bool) (a2 : Int) (a3 : Int) (r : List Int) (w : World) (h : spec_l04Num.f a0 a1 a2 a3 = some r) :
  Calls Try.prog 108 #[.int .i32 a0, .bool a1, .int .u32 a2, .int .u32 a3] w fun e w' => ∃ v0_ : Value, e = .returned (v0_) ∧ Kd.R (Kd.int .u32) 47 w' w.heap.size (fun _ => True) v0_ r ∧ Below w.heap.size w w' := by
 have HB := Z (Below.refl w.heap.size w)
 have H : (if a1 = true then (if a0 ≥ (-67108864) then (if a0 ≤ 67108863 then (some (([((((((a0) % 4294967296) * 32) % 4294967296) + 16) + a2) % 4294967296] : List Int))) else (some (([(16 + a3) % 4294967296, (a0) % 4294967296] : List Int)))) else (some (([(16 + a3) % 4294967296, (a0) % 4294967296] : List Int)))) else (if a0 ≥ (-67108864) then (if a0 ≤ 67108863 then (some (([((((((a0) % 4294967296) * 32) % 4294967296) + 0) + a2) % 4294967296] : List Int))) else (some (([(0 + a3) % 4294967296, (a0) % 4294967296] : List Int)))) else (some (([(0 + a3) % 4294967296, (a0) % 4294967296] : List Int))))) = some r := h
 clear h
 by_cases c5 : a1 = true
 ·subst c5
  have H1 : (if a0 ≥ (-67108864) then (if a0 ≤ 67108863 then (some (([((((((a0) % 4294967296) * 32) % 4294967296) + 16) + a2) % 4294967296] : List Int))) else (some (([(16 + a3) % 4294967296, (a0) % 4294967296] : List Int)))) else (some (([(16 + a3) % 4294967296, (a0) % 4294967296] : List Int)))) = some r := Z7
  clear H
  have H := H1
  clear H1
  by_cases c6 : a0 ≥ (-67108864)
  ·rw [if_pos c6] at H
   have c6b0 : decide ((-67108864) ≤ a0) = true := decide_eq_true c6
   clear c6
   by_cases c7 : a0 ≤ 67108863
   ·rw [if_pos c7] at H
    have c7b0 : decide (a0 ≤ 67108863) = true := decide_eq_true c7
    clear c7
    obtain ⟨y356, hy356⟩ : ∃ y_ : List Int, y_ = (([((((((a0) % 4294967296) * 32) % 4294967296) + 16) + a2) % 4294967296] : List Int)) := ⟨_, rfl⟩
    replace H : (some y356) = some r := by first | (rw [hy356]; with_reducible exact H) | (have H2_ := (Option.bind_some _ _).symm.trans H; rw [hy356]; with_reducible exact H2_) | (have H2_ := (Option.bind_some _ _).symm.trans H; with_reducible exact H2_) | with_reducible exact H | (rw [hy356]; exact H) | exact H
    have Ny356 := Aside0.mk hy356
    clear hy356
    obtain rfl := Option.some.inj H
    go_enter Try.func108, Try.ntmps108
    go_wp2_with (first | ((with_reducible refine gate_dst (N := 24) rfl ?_); refine Kd.R_lit (Kd.int .u32) _ 47 (by rfl) (N := 24) (by rfl) (xs := ([((((((a0) % 4294967296) * 32) % 4294967296) + 16) + a2) % 4294967296] : List Int)) (inner := [.int .u32 (((((((a0) % 4294967296) * 32) % 4294967296) + 16) + a2) % 4294967296)]) (ok := fun _ => True) (okp := fun _ => True) Z10 (Reps.one (show Kd.M (Kd.int .u32) _ _ _ (((((((a0) % 4294967296) * 32) % 4294967296) + 16) + a2) % 4294967296) [.int .u32 (((((((a0) % 4294967296) * 32) % 4294967296) + 16) + a2) % 4294967296)] from rfl) (Reps.none _ _)) (fun _ hk => hk) trivial (Below.refl _ _) (Nat.le_refl _) (by simp) ?_; intro v357 w8 ho9 hb hg_ hnew_; clear hg_ hnew_; (first | rw [← Ny356.out] at ho9 | (simp only [Int.reduceToNat] at ho9; rw [← Ny356.out] at ho9)); have HO358 := Z (Kd.R_lower ho9 (below_size Z61)); replace HB := Z (below_step Z61 hb); clear hb ho9))
    go_ret
    exact ⟨_, Z13, (Z12 HO358), Z61⟩
   ·rw [if_neg c7] at H
    have c7b0 : decide (a0 ≤ 67108863) = false := decide_eq_false c7
    clear c7
    obtain ⟨y359, hy359⟩ : ∃ y_ : List Int, y_ = (([(16 + a3) % 4294967296, (a0) % 4294967296] : List Int)) := ⟨_, rfl⟩
    replace H : (some y359) = some r := by first | (rw [hy359]; with_reducible exact H) | (have H2_ := (Option.bind_some _ _).symm.trans H; rw [hy359]; with_reducible exact H2_) | (have H2_ := (Option.bind_some _ _).symm.trans H; with_reducible exact H2_) | with_reducible exact H | (rw [hy359]; exact H) | exact H
    have Ny359 := Aside0.mk hy359
    clear hy359
    obtain rfl := Option.some.inj H
    go_enter Try.func108, Try.ntmps108
    go_wp2_with (first | ((with_reducible refine gate_dst (N := 30) rfl ?_); refine Kd.R_lit (Kd.int .u32) _ 47 (by rfl) (N := 30) (by rfl) (xs := ([(16 + a3) % 4294967296, (a0) % 4294967296] : List Int)) (inner := [.int .u32 ((16 + a3) % 4294967296), .int .u32 ((a0) % 4294967296)]) (ok := fun _ => True) (okp := fun _ => True) Z10 (Reps.one (show Kd.M (Kd.int .u32) _ _ _ ((16 + a3) % 4294967296) [.int .u32 ((16 + a3) % 4294967296)] from rfl) (Reps.one (show Kd.M (Kd.int .u32) _ _ _ ((a0) % 4294967296) [.int .u32 ((a0) % 4294967296)] from rfl) (Reps.none _ _))) (fun _ hk => hk) trivial (Below.refl _ _) (Nat.le_refl _) (by simp) ?_; intro v360 w10 ho11 hb hg_ hnew_; clear hg_ hnew_; (first | rw [← Ny359.out] at ho11 | (simp only [Int.reduceToNat] at ho11; rw [← Ny359.out] at ho11)); have HO361 := Z (Kd.R_lower ho11 (below_size Z61)); replace HB := Z (below_step Z61 hb); clear hb ho11))
    go_ret
    exact ⟨_, Z13, (Z12 HO361), Z61⟩
  ·rw [if_neg c6] at H
   have c6b0 : decide ((-67108864) ≤ a0) = false := decide_eq_false c6
   clear c6
   obtain ⟨y362, hy362⟩ : ∃ y_ : List Int, y_ = (([(16 + a3) % 4294967296, (a0) % 4294967296] : List Int)) := ⟨_, rfl⟩
   replace H : (some y362) = some r := by first | (rw [hy362]; with_reducible exact H) | (have H2_ := (Option.bind_some _ _).symm.trans H; rw [hy362]; with_reducible exact H2_) | (have H2_ := (Option.bind_some _ _).symm.trans H; with_reducible exact H2_) | with_reducible exact H | (rw [hy362]; exact H) | exact H
   have Ny362 := Aside0.mk hy362
   clear hy362
   obtain rfl := Option.some.inj H
   go_enter Try.func108, Try.ntmps108
   go_wp2_with (first | ((with_reducible refine gate_dst (N := 30) rfl ?_); refine Kd.R_lit (Kd.int .u32) _ 47 (by rfl) (N := 30) (by rfl) (xs := ([(16 + a3) % 4294967296, (a0) % 4294967296] : List Int)) (inner := [.int .u32 ((16 + a3) % 4294967296), .int .u32 ((a0) % 4294967296)]) (ok := fun _ => True) (okp := fun _ => True) Z10 (Reps.one (show Kd.M (Kd.int .u32) _ _ _ ((16 + a3) % 4294967296) [.int .u32 ((16 + a3) % 4294967296)] from rfl) (Reps.one (show Kd.M (Kd.int .u32) _ _ _ ((a0) % 4294967296) [.int .u32 ((a0) % 4294967296)] from rfl) (Reps.none _ _))) (fun _ hk => hk) trivial (Below.refl _ _) (Nat.le_refl _) (by simp) ?_; intro v363 w12 ho13 hb hg_ hnew_; clear hg_ hnew_; (first | rw [← Ny362.out] at ho13 | (simp only [Int.reduceToNat] at ho13; rw [← Ny362.out] at ho13)); have HO364 := Z (Kd.R_lower ho13 (below_size Z61)); replace HB := Z (below_step Z61 hb); clear hb ho13))
   go_ret
   exact ⟨_, Z13, (Z12 HO364), Z61⟩
 ·replace c5 := Bool.eq_false_iff.mpr c5
  subst c5
  have H1 : (if a0 ≥ (-67108864) then (if a0 ≤ 67108863 then (some (([((((((a0) % 4294967296) * 32) % 4294967296) + 0) + a2) % 4294967296] : List Int))) else (some (([(0 + a3) % 4294967296, (a0) % 4294967296] : List Int)))) else (some (([(0 + a3) % 4294967296, (a0) % 4294967296] : List Int)))) = some r := by rw [if_neg (show ¬ (false = true) by decide)] at H; exact H
  clear H
  have H := H1
  clear H1
  by_cases c14 : a0 ≥ (-67108864)
  ·rw [if_pos c14] at H
   have c14b0 : decide ((-67108864) ≤ a0) = true := decide_eq_true c14
   clear c14
   by_cases c15 : a0 ≤ 67108863
   ·rw [if_pos c15] at H
    have c15b0 : decide (a0 ≤ 67108863) = true := decide_eq_true c15
    clear c15
    obtain ⟨y365, hy365⟩ : ∃ y_ : List Int, y_ = (([((((((a0) % 4294967296) * 32) % 4294967296) + 0) + a2) % 4294967296] : List Int)) := ⟨_, rfl⟩
    replace H : (some y365) = some r := by first | (rw [hy365]; with_reducible exact H) | (have H2_ := (Option.bind_some _ _).symm.trans H; rw [hy365]; with_reducible exact H2_) | (have H2_ := (Option.bind_some _ _).symm.trans H; with_reducible exact H2_) | with_reducible exact H | (rw [hy365]; exact H) | exact H
    have Ny365 := Aside0.mk hy365
    clear hy365
    obtain rfl := Option.some.inj H
    go_enter Try.func108, Try.ntmps108
    go_wp2_with (first | ((with_reducible refine gate_dst (N := 24) rfl ?_); refine Kd.R_lit (Kd.int .u32) _ 47 (by rfl) (N := 24) (by rfl) (xs := ([((((((a0) % 4294967296) * 32) % 4294967296) + 0) + a2) % 4294967296] : List Int)) (inner := [.int .u32 (((((((a0) % 4294967296) * 32) % 4294967296) + 0) + a2) % 4294967296)]) (ok := fun _ => True) (okp := fun _ => True) Z10 (Reps.one (show Kd.M (Kd.int .u32) _ _ _ (((((((a0) % 4294967296) * 32) % 4294967296) + 0) + a2) % 4294967296) [.int .u32 (((((((a0) % 4294967296) * 32) % 4294967296) + 0) + a2) % 4294967296)] from rfl) (Reps.none _ _)) (fun _ hk => hk) trivial (Below.refl _ _) (Nat.le_refl _) (by simp) ?_; intro v366 w16 ho17 hb hg_ hnew_; clear hg_ hnew_; (first | rw [← Ny365.out] at ho17 | (simp only [Int.reduceToNat] at ho17; rw [← Ny365.out] at ho17)); have HO367 := Z (Kd.R_lower ho17 (below_size Z61)); replace HB := Z (below_step Z61 hb); clear hb ho17))
    go_ret
    exact ⟨_, Z13, (Z12 HO367), Z61⟩
   ·rw [if_neg c15] at H
    have c15b0 : decide (a0 ≤ 67108863) = false := decide_eq_false c15
    clear c15
    obtain ⟨y368, hy368⟩ : ∃ y_ : List Int, y_ = (([(0 + a3) % 4294967296, (a0) % 4294967296] : List Int)) := ⟨_, rfl⟩
    replace H : (some y368) = some r := by first | (rw [hy368]; with_reducible exact H) | (have H2_ := (Option.bind_some _ _).symm.trans H; rw [hy368]; with_reducible exact H2_) | (have H2_ := (Option.bind_some _ _).symm.trans H; with_reducible exact H2_) | with_reducible exact H | (rw [hy368]; exact H) | exact H
    have Ny368 := Aside0.mk hy368
    clear hy368
    obtain rfl := Option.some.inj H
    go_enter Try.func108, Try.ntmps108
    go_wp2_with (first | ((with_reducible refine gate_dst (N := 30) rfl ?_); refine Kd.R_lit (Kd.int .u32) _ 47 (by rfl) (N := 30) (by rfl) (xs := ([(0 + a3) % 4294967296, (a0) % 4294967296] : List Int)) (inner := [.int .u32 ((0 + a3) % 4294967296), .int .u32 ((a0) % 4294967296)]) (ok := fun _ => True) (okp := fun _ => True) Z10 (Reps.one (show Kd.M (Kd.int .u32) _ _ _ ((0 + a3) % 4294967296) [.int .u32 ((0 + a3) % 4294967296)] from rfl) (Reps.one (show Kd.M (Kd.int .u32) _ _ _ ((a0) % 4294967296) [.int .u32 ((a0) % 4294967296)] from rfl) (Reps.none _ _))) (fun _ hk => hk) trivial (Below.refl _ _) (Nat.le_refl _) (by simp) ?_; intro v369 w18 ho19 hb hg_ hnew_; clear hg_ hnew_; (first | rw [← Ny368.out] at ho19 | (simp only [Int.reduceToNat] at ho19; rw [← Ny368.out] at ho19)); have HO370 := Z (Kd.R_lower ho19 (below_size Z61)); replace HB := Z (below_step Z61 hb); clear hb ho19))
    go_ret
    exact ⟨_, Z13, (Z12 HO370), Z61⟩
  ·rw [if_neg c14] at H
   have c14b0 : decide ((-67108864) ≤ a0) = false := decide_eq_false c14
   clear c14
   obtain ⟨y371, hy371⟩ : ∃ y_ : List Int, y_ = (([(0 + a3) % 4294967296, (a0) % 4294967296] : List Int)) := ⟨_, rfl⟩
   replace H : (some y371) = some r := by first | (rw [hy371]; with_reducible exact H) | (have H2_ := (Option.bind_some _ _).symm.trans H; rw [hy371]; with_reducible exact H2_) | (have H2_ := (Option.bind_some _ _).symm.trans H; with_reducible exact H2_) | with_reducible exact H | (rw [hy371]; exact H) | exact H
   have Ny371 := Aside0.mk hy371
   clear hy371
   obtain rfl := Option.some.inj H
   go_enter Try.func108, Try.ntmps108
   go_wp2_with (first | ((with_reducible refine gate_dst (N := 30) rfl ?_); refine Kd.R_lit (Kd.int .u32) _ 47 (by rfl) (N := 30) (by rfl) (xs := ([(0 + a3) % 4294967296, (a0) % 4294967296] : List Int)) (inner := [.int .u32 ((0 + a3) % 4294967296), .int .u32 ((a0) % 4294967296)]) (ok := fun _ => True) (okp := fun _ => True) Z10 (Reps.one (show Kd.M (Kd.int .u32) _ _ _ ((0 + a3) % 4294967296) [.int .u32 ((0 + a3) % 4294967296)] from rfl) (Reps.one (show Kd.M (Kd.int .u32) _ _ _ ((a0) % 4294967296) [.int .u32 ((a0) % 4294967296)] from rfl) (Reps.none _ _))) (fun _ hk => hk) trivial (Below.refl _ _) (Nat.le_refl _) (by simp) ?_; intro v372 w20 ho21 hb hg_ hnew_; clear hg_ hnew_; (first | rw [← Ny371.out] at ho21 | (simp only [Int.reduceToNat] at ho21; rw [← Ny371.out] at ho21)); have HO373 := Z (Kd.R_lower ho21 (below_size Z61)); replace HB := Z (below_step Z61 hb); clear hb ho21))
   go_ret
   exact ⟨_, Z13, (Z12 HO373), Z61⟩

/-! ### spec_l04Word: function 109 -/
def spec_l04Word.l0 : Nat → Int → List Int → Int → Option (List Int)
 | 0, _, _, _ => none
 | k + 1, x0, x5, x6 => if x6 < (x5.length : Int) then (if 0 ≤ x6 then ((some (x5.set (x6 : Int).toNat (((rd x5 x6) * 16) % 4294967296) : List Int)).bind fun y378 => (if x6 = 0 then (spec_l04Word.l0 k x0 (y378.set (x6 : Int).toNat (((rd y378 x6) + x0) % 4294967296)) (wrap64 (x6 + 1))) else (spec_l04Word.l0 k x0 y378 (wrap64 (x6 + 1))))) else (none)) else (some x5)
def spec_l04Word.f (k : Nat) (a0 : Int) (a1 : ByteArray) : Option (List Int) := (spec_Pack.f k a1).bind fun t374 => (spec_l04Word.l0 k a0 t374 0)
theorem spec_l04Word.mono_l : ∀ k, (∀ y0 y1 y2, LeO (spec_l04Word.l0 k y0 y1 y2) (spec_l04Word.l0 (k + 1) y0 y1 y2))
 | 0 => fun _ _ _ r h => by simp [spec_l04Word.l0] at h
 | k + 1 => by
  have ih0 := spec_l04Word.mono_l k
  ·intro y0 y1 y2
   unfold spec_l04Word.l0
   repeat' first
   | (with_reducible exact ih0 _ _ _)
   | (with_reducible exact spec_Pack.mono _ _)
   | (with_reducible exact LeO.refl _)
   | (with_reducible exact LeO.none _)
   | (with_reducible refine LeO.ite ?_ ?_)
   | (with_reducible refine LeO.bind ?_ (fun _ => ?_))
   | exact ih0 _ _ _
   | exact spec_Pack.mono _ _
   | exact LeO.none _
   | refine LeO.ite ?_ ?_
   | refine LeO.bind ?_ (fun _ => ?_)
theorem spec_l04Word.mono : ∀ a0 a1 k, LeO (spec_l04Word.f k a0 a1) (spec_l04Word.f (k + 1) a0 a1) := by
 intro a0 a1 k
 have ih0 := spec_l04Word.mono_l k
 unfold spec_l04Word.f
 repeat' first
   | (with_reducible exact ih0 _ _ _)
   | (with_reducible exact spec_Pack.mono _ _)
   | (with_reducible exact LeO.refl _)
   | (with_reducible exact LeO.none _)
   | (with_reducible refine LeO.ite ?_ ?_)
   | (with_reducible refine LeO.bind ?_ (fun _ => ?_))
   | exact ih0 _ _ _
   | exact spec_Pack.mono _ _
   | exact LeO.none _
   | refine LeO.ite ?_ ?_
   | refine LeO.bind ?_ (fun _ => ?_)
set_option maxHeartbeats 8000000 in
set_option maxRecDepth 100000 in
theorem spec_l04Word.calls (k : Nat) (a0 : Int) (a1 : ByteArray) (r : List Int) (w : World) (h : spec_l04Word.f k a0 a1 = some r) :
  Calls Try.prog 109 #[.int .u32 a0, .string a1] w fun e w' => ∃ v0_ : Value, e = .returned (v0_) ∧ Kd.R (Kd.int .u32) 47 w' w.heap.size (fun _ => True) v0_ r ∧ Below w.heap.size w w' := by
 have HB := Z (Below.refl w.heap.size w)
 have H : ((spec_Pack.f k a1).bind fun t374 => (spec_l04Word.l0 k a0 t374 0)) = some r := h
 clear h
 replace H := Option.bind_eq_some_iff.mp H
 obtain ⟨t374, A30, H⟩ := H
 replace H : (spec_l04Word.l0 k a0 t374 0) = some r := H
 have A3 := Aside0.mk A30
 clear A30
 have H' := Aside0.mk H
 clear H
 go_enter Try.func109, Try.ntmps109
 go_wp2_with (first | ((with_reducible refine gate_callee (f := 116) rfl ?_); refine goesL_ (some 8) rfl rfl Try.func116 Z0 rfl #[.string a1] rfl Z4 ?_; (with_reducible refine (spec_Pack.calls k a1 t374 _ A3.out).mono ?_); rintro e w4 ⟨v375, rfl, ho0, hb⟩; refine ⟨_, rfl, ?_⟩; have HO376 := Z (Kd.R_lower ho0 (below_size Z61)); replace HB := Z (below_step Z61 hb); (try clear hb); (try clear hb2); (try clear hk); (try clear hi); (try clear ho0)))
 go_loopg [6] k (fun kq v6 w' => ∃ (x5_1 : List Int) (x6_1 : Int), v6 = .int .i64 x6_1 ∧ Aside0 (spec_l04Word.l0 kq a0 x5_1 x6_1 = some r) ∧ Aside0 (kq ≤ k) ∧ Aside0 (Kd.R (Kd.int .u32) 47 w' w.heap.size (fun _ => True) v375 x5_1) ∧ Aside0 (Below w.heap.size w w'))
 case atStart => exact ⟨(t374), (0), Z2, H', ⟨Nat.le_refl _⟩, ⟨(Z12 HO376)⟩, ⟨Z61⟩⟩
 case round =>
  clear H'
  try clear c1
  try clear p2
  obtain ⟨x5_1, x6_1, rfl, HA, HK1, HO_5, HB⟩ := hrel
  cases gk with
  | zero => exact absurd HA.out (by simp [spec_l04Word.l0])
  | succ k1 =>
   have H := HA.out
   clear HA
   simp only [spec_l04Word.l0] at H
   by_cases c5 : x6_1 < (x5_1.length : Int)
   ·rw [if_pos c5] at H
    have c5b0 : decide (x6_1 < (x5_1.length : Int)) = true := decide_eq_true c5
    clear c5
    by_cases c6 : 0 ≤ x6_1
    ·rw [if_pos c6] at H
     have c6b0 : decide (0 ≤ x6_1) = true := decide_eq_true c6
     clear c6
     obtain ⟨y378, hy378⟩ : ∃ y_ : List Int, y_ = (x5_1.set (x6_1 : Int).toNat (((rd x5_1 x6_1) * 16) % 4294967296)) := ⟨_, rfl⟩
     replace H : (if x6_1 = 0 then (spec_l04Word.l0 k1 a0 (y378.set (x6_1 : Int).toNat (((rd y378 x6_1) + a0) % 4294967296)) (wrap64 (x6_1 + 1))) else (spec_l04Word.l0 k1 a0 y378 (wrap64 (x6_1 + 1)))) = some r := by first | (rw [hy378]; with_reducible exact H) | (have H2_ := (Option.bind_some _ _).symm.trans H; rw [hy378]; with_reducible exact H2_) | (have H2_ := (Option.bind_some _ _).symm.trans H; with_reducible exact H2_) | with_reducible exact H | (rw [hy378]; exact H) | exact H
     have Ny378 := Aside0.mk hy378
     clear hy378
     by_cases c8 : x6_1 = 0
     ·rw [if_pos c8] at H
      have c8b0 : (x6_1 == 0) = true := beq_iff_eq.mpr c8
      have c8b1 : (x6_1 != 0) = false := bne_eq_false_iff_eq.mpr c8
      clear c8
      obtain ⟨y380, hy380⟩ : ∃ y_ : List Int, y_ = (y378.set (x6_1 : Int).toNat (((rd y378 x6_1) + a0) % 4294967296)) := ⟨_, rfl⟩
      replace H : (spec_l04Word.l0 k1 a0 y380 (wrap64 (x6_1 + 1))) = some r := by first | (rw [hy380]; with_reducible exact H) | (have H2_ := (Option.bind_some _ _).symm.trans H; rw [hy380]; with_reducible exact H2_) | (have H2_ := (Option.bind_some _ _).symm.trans H; with_reducible exact H2_) | with_reducible exact H | (rw [hy380]; exact H) | exact H
      have Ny380 := Aside0.mk hy380
      clear hy380
      have H' := Aside0.mk H
      clear H
      obtain ⟨Ao10, co10, eo10⟩ := Kd.R_slice HO_5.out
      subst eo10
      have p377 : 0 ≤ (x6_1 : Int) := of_decide_eq_true Z5
      have q377 : x6_1 < (x5_1.length : Int) := of_decide_eq_true Z5
      obtain ⟨ad377, e377, hx377_0⟩ := Kd.at_int (Kd.R_reads' HO_5.out).2.2 x6_1 p377 q377
      cases e377
      replace p377 := eq_true p377
      replace q377 := eq_true q377
      have p7 : 0 ≤ (x6_1 : Int) := of_decide_eq_true Z5
      have q7 : (x6_1 : Int) < ((x5_1.length : Int) : Int) := of_decide_eq_true Z5
      obtain ⟨go7, co7, eo7, gb7, gl7, cl7, HG7⟩ := Kd.R_form HO_5.out (by omega)
      (first | cases eo7 | (injection eo7 with ea_ en_ ec_; (first | subst ea_ | (injection ea_ with ea_; subst ea_)); subst ec_; clear en_))
      have GB7 := Aside0.mk gb7
      have GG7 := Aside0.mk HG7
      clear gb7 gl7 HG7
      (first | simp only [add_plain] at hx377_0 | skip)
      obtain ⟨hx7_0, hf7_0⟩ := Kd.R_celln 0 HO_5.out (x6_1 : Int) p7 q7
      replace p7 := eq_true p7
      replace q7 := eq_true q7
      have HP11 := Kd.R_putg HO_5.out (x6_1 : Int) (((rd x5_1 x6_1) * 16) % 4294967296)
      go_wp2_with (first | ((with_reducible refine gate_store (t := 47) (p := 22) rfl ?_); refine store_event (t := 47) (p := 22) (v := ?vo_w12) (w1 := (wr.setCell ⟨go7, (x6_1 : Int).toNat, none⟩ (.int .u32 (((rd x5_1 x6_1) * 16) % 4294967296)))) (by rfl) (by rfl) (by rfl) Z10 ?_; intro w12 hw; have hg : wr.grownBy w12 (some go7) := (by rw [hw]; exact HP11.2); have hp_ : Kd.R (Kd.int .u32) 47 w12 w.heap.size (fun _ => True) (.slice (some ⟨go7, 0, none⟩) x5_1.length co10) y378 := (by rw [hw, Ny378.out]; exact HP11.1); clear HP11; replace HO_5 := Z (hp_); replace HB := Z ((by rw [hw]; exact below_set (HB.out) GB7.out : Below w.heap.size w w12)); clear hg hw hp_; have p379 : 0 ≤ (x6_1 : Int) := of_decide_eq_true Z5; have q379 : x6_1 < (y378.length : Int) := (by have h_ : (x6_1 : Int) < ((x5_1.length : Int) : Int) := of_decide_eq_true Z5; first | (have e_ := (Kd.R_reads' HO_5.out).1; omega) | simpa only [Ny378.out, List.length_set] using h_); have ql379 : ((x6_1 : Int) < ((x5_1.length : Int) : Int)) = True := eq_true (of_decide_eq_true Z5); obtain ⟨ad379, e379, hx379_0⟩ := Kd.at_int (Kd.R_reads' HO_5.out).2.2 x6_1 p379 q379; obtain rfl : (⟨go7, 0, none⟩ : Addr) = ad379 := (by injection e379); (first | simp only [add_plain] at hx379_0 | simp only [add_at] at hx379_0 | simp only [Addr.add, Nat.zero_add] at hx379_0 | skip); replace p379 := eq_true p379; replace q379 := eq_true q379; have p9 : 0 ≤ (x6_1 : Int) := of_decide_eq_true Z5; have q9 : (x6_1 : Int) < ((x5_1.length : Int) : Int) := of_decide_eq_true Z5; obtain ⟨hx9_0, hf9_0⟩ := Kd.R_celln 0 HO_5.out (x6_1 : Int) p9 q9; replace p9 := eq_true p9; replace q9 := eq_true q9; obtain ⟨hy13_, hz13_⟩ := Kd.R_celln 0 HO_5.out (x6_1 : Int) (of_decide_eq_true Z5) (of_decide_eq_true Z5); have HP13 := Kd.R_putg HO_5.out (x6_1 : Int) (((rd y378 x6_1) + a0) % 4294967296)) | ((with_reducible refine gate_store (t := 47) (p := 33) rfl ?_); refine store_event (t := 47) (p := 33) (v := ?vo_w14) (w1 := (w12.setCell ⟨go7, (x6_1 : Int).toNat, none⟩ (.int .u32 (((rd y378 x6_1) + a0) % 4294967296)))) (by rfl) (by rfl) (by rfl) Z10 ?_; intro w14 hw; have hg : w12.grownBy w14 (some go7) := (by rw [hw]; exact HP13.2); have hp_ : Kd.R (Kd.int .u32) 47 w14 w.heap.size (fun _ => True) (.slice (some ⟨go7, 0, none⟩) x5_1.length co10) y380 := (by rw [hw, Ny380.out]; exact HP13.1); clear HP13; replace HO_5 := Z (hp_); replace HB := Z ((by rw [hw]; exact below_set (HB.out) GB7.out : Below w.heap.size w w14)); clear hg hw hp_))
      go_roundg k1
      case measure => have := HK1.out; omega
      case rel => exact ⟨(y380), (wrap64 (x6_1 + 1)), Z2, H', ⟨Z6⟩, ⟨(Z12 HO_5)⟩, ⟨Z61⟩⟩
     ·rw [if_neg c8] at H
      have c8b0 : (x6_1 == 0) = false := beq_eq_false_iff_ne.mpr c8
      have c8b1 : (x6_1 != 0) = true := bne_iff_ne.mpr c8
      have H' := Aside0.mk H
      clear H
      obtain ⟨Ao15, co15, eo15⟩ := Kd.R_slice HO_5.out
      subst eo15
      have p377 : 0 ≤ (x6_1 : Int) := of_decide_eq_true Z5
      have q377 : x6_1 < (x5_1.length : Int) := of_decide_eq_true Z5
      obtain ⟨ad377, e377, hx377_0⟩ := Kd.at_int (Kd.R_reads' HO_5.out).2.2 x6_1 p377 q377
      cases e377
      replace p377 := eq_true p377
      replace q377 := eq_true q377
      have p7 : 0 ≤ (x6_1 : Int) := of_decide_eq_true Z5
      have q7 : (x6_1 : Int) < ((x5_1.length : Int) : Int) := of_decide_eq_true Z5
      obtain ⟨go7, co7, eo7, gb7, gl7, cl7, HG7⟩ := Kd.R_form HO_5.out (by omega)
      (first | cases eo7 | (injection eo7 with ea_ en_ ec_; (first | subst ea_ | (injection ea_ with ea_; subst ea_)); subst ec_; clear en_))
      have GB7 := Aside0.mk gb7
      have GG7 := Aside0.mk HG7
      clear gb7 gl7 HG7
      (first | simp only [add_plain] at hx377_0 | skip)
      obtain ⟨hx7_0, hf7_0⟩ := Kd.R_celln 0 HO_5.out (x6_1 : Int) p7 q7
      replace p7 := eq_true p7
      replace q7 := eq_true q7
      have HP16 := Kd.R_putg HO_5.out (x6_1 : Int) (((rd x5_1 x6_1) * 16) % 4294967296)
      go_wp2_with (first | ((with_reducible refine gate_store (t := 47) (p := 22) rfl ?_); refine store_event (t := 47) (p := 22) (v := ?vo_w17) (w1 := (wr.setCell ⟨go7, (x6_1 : Int).toNat, none⟩ (.int .u32 (((rd x5_1 x6_1) * 16) % 4294967296)))) (by rfl) (by rfl) (by rfl) Z10 ?_; intro w17 hw; have hg : wr.grownBy w17 (some go7) := (by rw [hw]; exact HP16.2); have hp_ : Kd.R (Kd.int .u32) 47 w17 w.heap.size (fun _ => True) (.slice (some ⟨go7, 0, none⟩) x5_1.length co15) y378 := (by rw [hw, Ny378.out]; exact HP16.1); clear HP16; replace HO_5 := Z (hp_); replace HB := Z ((by rw [hw]; exact below_set (HB.out) GB7.out : Below w.heap.size w w17)); clear hg hw hp_))
      go_roundg k1
      case measure => have := HK1.out; omega
      case rel => exact ⟨(y378), (wrap64 (x6_1 + 1)), Z2, H', ⟨Z6⟩, ⟨(Z12 HO_5)⟩, ⟨Z61⟩⟩
    ·rw [if_neg c6] at H
     exact absurd H (by simp)
   ·rw [if_neg c5] at H
    have c5b0 : decide (x6_1 < (x5_1.length : Int)) = false := decide_eq_false c5
    clear c5
    obtain rfl := Option.some.inj H
    obtain ⟨Ao18, co18, eo18⟩ := Kd.R_slice HO_5.out
    subst eo18
    go_wp2
    go_ret
    exact ⟨_, Z13, (Z12 HO_5), Z61⟩

end Go.Proofs.Ytkkiibjnpkjijaa.QFnExactListOk
