/-
Plain functions for the Go functions that a law reaches, each with a proof that the translation's call comes to just that; no conditions beyond those written in each.
-/
import Derived.Test.YtkkiibjnpkjijaaSFnExactItemsOf
import Derived.Test.YtkkiibjnpkjijaaQFnExactItemsOfx6
namespace Go.Proofs.Ytkkiibjnpkjijaa.QFnExactItemsOf
open Go.RowKit Go.Proofs.YtkkiibjnpkjijaaW.PrintWords Go.Proofs.YtkkiibjnpkjijaaW.PrintLast Go.Proofs.YtkkiibjnpkjijaaW.PrintMore
attribute [local go_sem] max2_int min2_int max_two min_two max_three min_three max_four min_four   -- for this text's walks alone
set_option linter.unusedVariables false
set_option linter.unusedSimpArgs false

/-! ### spec_l04Name: function 94 -/
def spec_l04Name.l0 : Nat → List Int → Int → List Int → Int → Option (Int × ByteArray × Int × Bool × Int × Int)
 | 0, _, _, _, _ => none
 | k + 1, x0, x2, x8, x9 => if x9 < (x0.length : Int) then (if 0 ≤ x9 then (if (Int.tmod (rd x0 x9) 16) = 0 then (if (rd x0 x9) = 0 then ((spec_Unpack.f k x8).bind fun bt193 => (if bt193.2 = true then (some (x2, bt193.1, 0, false, 0, (x8.length : Int))) else (some (0, (⟨#[]⟩ : ByteArray), 0, false, 0, 0)))) else (if x8.length < 35184372088832 then (spec_l04Name.l0 k x0 x2 (x8 ++ [(Int.tdiv (rd x0 x9) 16) % 4294967296]) (wrap64 (x9 + 1))) else (none))) else ((spec_Unpack.f k x8).bind fun bt199 => (if bt199.2 = true then (some (x2, bt199.1, 0, false, 0, (x8.length : Int))) else (some (0, (⟨#[]⟩ : ByteArray), 0, false, 0, 0))))) else (none)) else ((spec_Unpack.f k x8).bind fun bt201 => (if bt201.2 = true then (some (x2, bt201.1, 0, false, 0, (x8.length : Int))) else (some (0, (⟨#[]⟩ : ByteArray), 0, false, 0, 0))))
def spec_l04Name.f (k : Nat) (l0 : List Int) (a1 : Int) (a2 : Int) : Option (Int × ByteArray × Int × Bool × Int × Int) := if 0 ≤ a1 then (if a1 < (l0.length : Int) then (spec_l04Name.l0 k l0 a2 (([(Int.tdiv (rd l0 a1) 16) % 4294967296] : List Int)) (wrap64 (a1 + 1))) else (none)) else (none)
theorem spec_l04Name.mono_l : ∀ k, (∀ y0 y1 y2 y3, LeO (spec_l04Name.l0 k y0 y1 y2 y3) (spec_l04Name.l0 (k + 1) y0 y1 y2 y3))
 | 0 => fun _ _ _ _ r h => by simp [spec_l04Name.l0] at h
 | k + 1 => by
  have ih0 := spec_l04Name.mono_l k
  ·intro y0 y1 y2 y3
   unfold spec_l04Name.l0
   repeat' first
   | (with_reducible exact ih0 _ _ _ _)
   | (with_reducible exact spec_Unpack.mono _ _)
   | (with_reducible exact LeO.refl _)
   | (with_reducible exact LeO.none _)
   | (with_reducible refine LeO.ite ?_ ?_)
   | (with_reducible refine LeO.bind ?_ (fun _ => ?_))
   | exact ih0 _ _ _ _
   | exact spec_Unpack.mono _ _
   | exact LeO.none _
   | refine LeO.ite ?_ ?_
   | refine LeO.bind ?_ (fun _ => ?_)
theorem spec_l04Name.mono : ∀ a0 a1 a2 k, LeO (spec_l04Name.f k a0 a1 a2) (spec_l04Name.f (k + 1) a0 a1 a2) := by
 intro a0 a1 a2 k
 have ih0 := spec_l04Name.mono_l k
 unfold spec_l04Name.f
 repeat' first
   | (with_reducible exact ih0 _ _ _ _)
   | (with_reducible exact spec_Unpack.mono _ _)
   | (with_reducible exact LeO.refl _)
   | (with_reducible exact LeO.none _)
   | (with_reducible refine LeO.ite ?_ ?_)
   | (with_reducible refine LeO.bind ?_ (fun _ => ?_))
   | exact ih0 _ _ _ _
   | exact spec_Unpack.mono _ _
   | exact LeO.none _
   | refine LeO.ite ?_ ?_
   | refine LeO.bind ?_ (fun _ => ?_)
set_option maxHeartbeats 8000000 in
set_option maxRecDepth 100000 in
theorem spec_l04Name.calls (k : Nat) (A0 : Option Addr) (c0 : Nat) (l0 : List Int) (a1 : Int) (a2 : Int) (r1 : Int) (r2 : ByteArray) (r3 : Int) (r4 : Bool) (r5 : Int) (r6 : Int) (w : World) (hr0 : Kd.C (Kd.int .u32) w A0 l0.length l0) (hc0 : l0.length ≤ c0) (h : spec_l04Name.f k l0 a1 a2 = some (r1, r2, r3, r4, r5, r6)) :
  Calls Try.prog 94 #[.slice A0 l0.length c0, .int .i64 a1, .int .i64 a2] w fun e w' => e = .returned (.tuple #[.agg #[.int .i64 r1, .string r2, .int .i32 r3, .bool r4, .int .u32 r5], .int .i64 r6]) ∧ Below w.heap.size w w' := by
 have hu51 := Try.underlying51
 have HR0 := Aside0.mk hr0
 have HC0 := Aside0.mk hc0
 clear hr0 hc0
 have HB := Z (Below.refl w.heap.size w)
 have H : (if 0 ≤ a1 then (if a1 < (l0.length : Int) then (spec_l04Name.l0 k l0 a2 (([(Int.tdiv (rd l0 a1) 16) % 4294967296] : List Int)) (wrap64 (a1 + 1))) else (none)) else (none)) = some (r1, r2, r3, r4, r5, r6) := h
 clear h
 by_cases c4 : 0 ≤ a1
 ·rw [if_pos c4] at H
  have c4b0 : decide (0 ≤ a1) = true := decide_eq_true c4
  clear c4
  by_cases c5 : a1 < (l0.length : Int)
  ·rw [if_pos c5] at H
   have c5b0 : decide (a1 < (l0.length : Int)) = true := decide_eq_true c5
   clear c5
   obtain ⟨y188, hy188⟩ : ∃ y_ : List Int, y_ = (([(Int.tdiv (rd l0 a1) 16) % 4294967296] : List Int)) := ⟨_, rfl⟩
   replace H : (spec_l04Name.l0 k l0 a2 y188 (wrap64 (a1 + 1))) = some (r1, r2, r3, r4, r5, r6) := by first | (rw [hy188]; with_reducible exact H) | (have H2_ := (Option.bind_some _ _).symm.trans H; rw [hy188]; with_reducible exact H2_) | (have H2_ := (Option.bind_some _ _).symm.trans H; with_reducible exact H2_) | with_reducible exact H | (rw [hy188]; exact H) | exact H
   have Ny188 := Aside0.mk hy188
   clear hy188
   have H' := Aside0.mk H
   clear H
   go_enter Try.func94, Try.ntmps94
   go_wp2_with (first | ((with_reducible refine gate_dst (N := 6) rfl ?_); refine box_event (by rfl) (N := 6) (by rfl) (cs := #[.int .i64 0, .string (⟨#[]⟩ : ByteArray), .int .i32 0, .bool false, .int .u32 0]) (t := 51) Z8 ?_; intro gb186 hg w6 hbox hb; have BK186 := Z (hbox); have GW186 := Z ((Z85 : w.heap.size ≤ gb186)); have GE186 := Z ((Z85 : w.heap.size ≤ gb186)); replace HB := Z (below_step Z68 hb); clear hb hbox hg; have p187 : 0 ≤ (a1 : Int) := of_decide_eq_true Z5; have q187 : a1 < (l0.length : Int) := of_decide_eq_true Z5; obtain ⟨ad187, e187, hx187_0⟩ := Kd.at_int HR0.out a1 p187 q187; cases e187; replace hx187_0 := (HB.out.cell (World.block_lt_of_cell? w _ hx187_0)).trans hx187_0; replace p187 := eq_true p187; replace q187 := eq_true q187) | ((with_reducible refine gate_dst (N := 17) rfl ?_); refine Kd.R_lit (Kd.int .u32) _ 47 (by rfl) (N := 17) (by rfl) (xs := ([(Int.tdiv (rd l0 a1) 16) % 4294967296] : List Int)) (inner := [.int .u32 ((Int.tdiv (rd l0 a1) 16) % 4294967296)]) (ok := fun _ => True) (okp := fun _ => True) Z8 (Reps.one (show Kd.M (Kd.int .u32) _ _ _ ((Int.tdiv (rd l0 a1) 16) % 4294967296) [.int .u32 ((Int.tdiv (rd l0 a1) 16) % 4294967296)] from rfl) (Reps.none _ _)) (fun _ hk => hk) trivial (Below.refl _ _) (Nat.le_refl _) (by simp) ?_; intro v189 w7 ho8 hb hg_ hnew_; clear hg_ hnew_; (first | rw [← Ny188.out] at ho8 | (simp only [Int.reduceToNat] at ho8; rw [← Ny188.out] at ho8)); have HO190 := Z (Kd.R_lower ho8 (below_size Z68)); replace BK186 := Z (blk_below (g := gb186) (o := .cells #[.int .i64 0, .string (⟨#[]⟩ : ByteArray), .int .i32 0, .bool false, .int .u32 0] 51 (0, 0)) (Z10 BK186) hb); replace HB := Z (below_step Z68 hb); clear hb ho8))
   go_loopg [8, 9] k (fun kq v8 v9 w' => ∃ (x8_1 : List Int) (x9_1 : Int), v9 = .int .i64 x9_1 ∧ Aside0 (spec_l04Name.l0 kq l0 a2 x8_1 x9_1 = some (r1, r2, r3, r4, r5, r6)) ∧ Aside0 (kq ≤ k) ∧ Aside0 (Kd.R (Kd.int .u32) 47 w' w.heap.size (fun _ => True) v8 x8_1) ∧ Aside0 (w'.heap[gb186]? = some (.cells #[.int .i64 0, .string (⟨#[]⟩ : ByteArray), .int .i32 0, .bool false, .int .u32 0] 51 (0, 0))) ∧ Aside0 (Below w.heap.size w w'))
   case atStart => exact ⟨(y188), (wrap64 (a1 + 1)), Z3, H', ⟨Nat.le_refl _⟩, ⟨(Z14 HO190)⟩, ⟨(Z10 BK186)⟩, ⟨Z68⟩⟩
   case round =>
    clear H'
    try clear p1
    try clear q1
    try clear hx1
    try clear p2
    try clear c4
    try clear c4b0
    try clear c5
    try clear c5b0
    try clear p6
    try clear hx187_0
    try clear p187
    try clear q187
    obtain ⟨x8_1, x9_1, rfl, HA, HK1, HO_8, BK186, HB⟩ := hrel
    cases gk with
    | zero => exact absurd HA.out (by simp [spec_l04Name.l0])
    | succ k1 =>
     have H := HA.out
     clear HA
     simp only [spec_l04Name.l0] at H
     by_cases c9 : x9_1 < (l0.length : Int)
     ·rw [if_pos c9] at H
      have c9b0 : decide (x9_1 < (l0.length : Int)) = true := decide_eq_true c9
      clear c9
      by_cases c10 : 0 ≤ x9_1
      ·rw [if_pos c10] at H
       have c10b0 : decide (0 ≤ x9_1) = true := decide_eq_true c10
       clear c10
       by_cases c11 : (Int.tmod (rd l0 x9_1) 16) = 0
       ·rw [if_pos c11] at H
        have c11b0 : ((Int.tmod (rd l0 x9_1) 16) == 0) = true := beq_iff_eq.mpr c11
        have c11b1 : ((Int.tmod (rd l0 x9_1) 16) != 0) = false := bne_eq_false_iff_eq.mpr c11
        clear c11
        by_cases c12 : (rd l0 x9_1) = 0
        ·rw [if_pos c12] at H
         have c12b0 : ((rd l0 x9_1) == 0) = true := beq_iff_eq.mpr c12
         have c12b1 : ((rd l0 x9_1) != 0) = false := bne_eq_false_iff_eq.mpr c12
         clear c12
         replace H := Option.bind_eq_some_iff.mp H
         obtain ⟨⟨t193, t194⟩, A130, H⟩ := H
         replace H : (if t194 = true then (some (a2, t193, 0, false, 0, (x8_1.length : Int))) else (some (0, (⟨#[]⟩ : ByteArray), 0, false, 0, 0))) = some (r1, r2, r3, r4, r5, r6) := H
         have A13 := Aside0.mk A130
         clear A130
         by_cases c14 : t194 = true
         ·subst c14
          have H1 : (some (a2, t193, 0, false, 0, (x8_1.length : Int))) = some (r1, r2, r3, r4, r5, r6) := Z7
          clear H
          have H := H1
          clear H1
          simp only [Option.some.injEq, Prod.mk.injEq] at H
          obtain ⟨rfl, rfl, rfl, rfl, rfl, rfl⟩ := H
          have p191 : 0 ≤ (x9_1 : Int) := of_decide_eq_true Z5
          have q191 : x9_1 < (l0.length : Int) := of_decide_eq_true Z5
          obtain ⟨ad191, e191, hx191_0⟩ := Kd.at_int HR0.out x9_1 p191 q191
          obtain rfl : ad187 = ad191 := (by injection e191)
          replace hx191_0 := (HB.out.cell (World.block_lt_of_cell? w _ hx191_0)).trans hx191_0
          replace p191 := eq_true p191
          replace q191 := eq_true q191
          have p192 : 0 ≤ (x9_1 : Int) := of_decide_eq_true Z5
          have q192 : x9_1 < (l0.length : Int) := of_decide_eq_true Z5
          obtain ⟨ad192, e192, hx192_0⟩ := Kd.at_int HR0.out x9_1 p192 q192
          obtain rfl : ad187 = ad192 := (by injection e192)
          replace hx192_0 := (HB.out.cell (World.block_lt_of_cell? w _ hx192_0)).trans hx192_0
          replace p192 := eq_true p192
          replace q192 := eq_true q192
          obtain ⟨Ao15, co15, eo15⟩ := Kd.R_slice HO_8.out
          subst eo15
          go_wp2_with (first | ((with_reducible refine gate_callee (f := 115) rfl ?_); refine goesL_ (some 51) rfl rfl Try.func115 Z0 rfl #[.slice Ao15 x8_1.length co15] rfl Z11 ?_; (with_reducible refine (spec_Unpack.calls k1 _ _ x8_1 t193 true _ ?side1 ?side2 A13.out).mono ?_); (case side1 => exact (Z22 HO_8)); (case side2 => exact (Kd.R_reads' HO_8.out).2.1); rintro e w16 ⟨rfl, hb⟩; refine ⟨_, rfl, ?_⟩; replace HO_8 := Z (Kd.R_below (Z14 HO_8) hb); replace BK186 := Z (blk_below (g := gb186) (o := .cells #[.int .i64 0, .string (⟨#[]⟩ : ByteArray), .int .i32 0, .bool false, .int .u32 0] 51 (0, 0)) (Z10 BK186) hb); replace HB := Z (below_step Z68 hb); (try clear hb); (try clear hb2); (try clear hk); (try clear hi); have hcz17_0 : w16.cell? ⟨gb186, 0, none⟩ = some (.int .i64 0) := (blk_cell BK186.out 0).trans rfl; have hcz17_1 : w16.cell? ⟨gb186, 1, none⟩ = some (.string (⟨#[]⟩ : ByteArray)) := (blk_cell BK186.out 1).trans rfl; have hcz17_2 : w16.cell? ⟨gb186, 2, none⟩ = some (.int .i32 0) := (blk_cell BK186.out 2).trans rfl; have hcz17_3 : w16.cell? ⟨gb186, 3, none⟩ = some (.bool false) := (blk_cell BK186.out 3).trans rfl; have hcz17_4 : w16.cell? ⟨gb186, 4, none⟩ = some (.int .u32 0) := (blk_cell BK186.out 4).trans rfl; have hfz17_0 := blk_frozen BK186.out 0; have hfz17_1 := blk_frozen BK186.out 1; have hfz17_2 := blk_frozen BK186.out 2; have hfz17_3 := blk_frozen BK186.out 3; have hfz17_4 := blk_frozen BK186.out 4))
          refine bodyPost_ret (results_ct rfl _ _ gb186 51 #[.int .i64 a2, .string t193, .int .i32 0, .bool false, .int .u32 0] (0, 0) _ rfl (by (with_reducible repeat (first | refine blk_drewN ?_ _ | refine blk_drew ?_ | refine blk_alloc ?_ _)); refine blk_put (cs := #[.int .i64 a2, .string t193, .int .i32 0, .bool false, .int .u32 0]) ?_ 4 _ rfl; (with_reducible repeat (first | refine blk_drewN ?_ _ | refine blk_drew ?_ | refine blk_alloc ?_ _)); refine blk_put (cs := #[.int .i64 a2, .string t193, .int .i32 0, .bool false, .int .u32 0]) ?_ 3 _ rfl; (with_reducible repeat (first | refine blk_drewN ?_ _ | refine blk_drew ?_ | refine blk_alloc ?_ _)); refine blk_put (cs := #[.int .i64 a2, .string t193, .int .i32 0, .bool false, .int .u32 0]) ?_ 2 _ rfl; (with_reducible repeat (first | refine blk_drewN ?_ _ | refine blk_drew ?_ | refine blk_alloc ?_ _)); refine blk_put (cs := #[.int .i64 a2, .string (⟨#[]⟩ : ByteArray), .int .i32 0, .bool false, .int .u32 0]) ?_ 1 _ rfl; (with_reducible repeat (first | refine blk_drewN ?_ _ | refine blk_drew ?_ | refine blk_alloc ?_ _)); refine blk_put (cs := #[.int .i64 0, .string (⟨#[]⟩ : ByteArray), .int .i32 0, .bool false, .int .u32 0]) ?_ 0 _ rfl; (with_reducible repeat (first | refine blk_drewN ?_ _ | refine blk_drew ?_ | refine blk_alloc ?_ _)); exact BK186.out) Try.underlying51 rfl Z0) rfl ?_
          exact ⟨Z13, Z68⟩
         ·replace c14 := Bool.eq_false_iff.mpr c14
          subst c14
          have H1 : (some (0, (⟨#[]⟩ : ByteArray), 0, false, 0, 0)) = some (r1, r2, r3, r4, r5, r6) := by rw [if_neg (show ¬ (false = true) by decide)] at H; exact H
          clear H
          have H := H1
          clear H1
          simp only [Option.some.injEq, Prod.mk.injEq] at H
          obtain ⟨rfl, rfl, rfl, rfl, rfl, rfl⟩ := H
          have p191 : 0 ≤ (x9_1 : Int) := of_decide_eq_true Z5
          have q191 : x9_1 < (l0.length : Int) := of_decide_eq_true Z5
          obtain ⟨ad191, e191, hx191_0⟩ := Kd.at_int HR0.out x9_1 p191 q191
          obtain rfl : ad187 = ad191 := (by injection e191)
          replace hx191_0 := (HB.out.cell (World.block_lt_of_cell? w _ hx191_0)).trans hx191_0
          replace p191 := eq_true p191
          replace q191 := eq_true q191
          have p192 : 0 ≤ (x9_1 : Int) := of_decide_eq_true Z5
          have q192 : x9_1 < (l0.length : Int) := of_decide_eq_true Z5
          obtain ⟨ad192, e192, hx192_0⟩ := Kd.at_int HR0.out x9_1 p192 q192
          obtain rfl : ad187 = ad192 := (by injection e192)
          replace hx192_0 := (HB.out.cell (World.block_lt_of_cell? w _ hx192_0)).trans hx192_0
          replace p192 := eq_true p192
          replace q192 := eq_true q192
          obtain ⟨Ao18, co18, eo18⟩ := Kd.R_slice HO_8.out
          subst eo18
          go_wp2_with (first | ((with_reducible refine gate_callee (f := 115) rfl ?_); refine goesL_ (some 51) rfl rfl Try.func115 Z0 rfl #[.slice Ao18 x8_1.length co18] rfl Z11 ?_; (with_reducible refine (spec_Unpack.calls k1 _ _ x8_1 t193 false _ ?side1 ?side2 A13.out).mono ?_); (case side1 => exact (Z22 HO_8)); (case side2 => exact (Kd.R_reads' HO_8.out).2.1); rintro e w19 ⟨rfl, hb⟩; refine ⟨_, rfl, ?_⟩; replace HO_8 := Z (Kd.R_below (Z14 HO_8) hb); replace BK186 := Z (blk_below (g := gb186) (o := .cells #[.int .i64 0, .string (⟨#[]⟩ : ByteArray), .int .i32 0, .bool false, .int .u32 0] 51 (0, 0)) (Z10 BK186) hb); replace HB := Z (below_step Z68 hb); (try clear hb); (try clear hb2); (try clear hk); (try clear hi); have hcz20_0 : w19.cell? ⟨gb186, 0, none⟩ = some (.int .i64 0) := (blk_cell BK186.out 0).trans rfl; have hcz20_1 : w19.cell? ⟨gb186, 1, none⟩ = some (.string (⟨#[]⟩ : ByteArray)) := (blk_cell BK186.out 1).trans rfl; have hcz20_2 : w19.cell? ⟨gb186, 2, none⟩ = some (.int .i32 0) := (blk_cell BK186.out 2).trans rfl; have hcz20_3 : w19.cell? ⟨gb186, 3, none⟩ = some (.bool false) := (blk_cell BK186.out 3).trans rfl; have hcz20_4 : w19.cell? ⟨gb186, 4, none⟩ = some (.int .u32 0) := (blk_cell BK186.out 4).trans rfl; have hfz20_0 := blk_frozen BK186.out 0; have hfz20_1 := blk_frozen BK186.out 1; have hfz20_2 := blk_frozen BK186.out 2; have hfz20_3 := blk_frozen BK186.out 3; have hfz20_4 := blk_frozen BK186.out 4))
          refine bodyPost_ret (results_ct rfl _ _ gb186 51 #[.int .i64 0, .string (⟨#[]⟩ : ByteArray), .int .i32 0, .bool false, .int .u32 0] (0, 0) _ rfl (Z23 BK186) Try.underlying51 rfl Z0) rfl ?_
          exact ⟨Z13, Z68⟩
        ·rw [if_neg c12] at H
         have c12b0 : ((rd l0 x9_1) == 0) = false := beq_eq_false_iff_ne.mpr c12
         have c12b1 : ((rd l0 x9_1) != 0) = true := bne_iff_ne.mpr c12
         by_cases c21 : x8_1.length < 35184372088832
         ·rw [if_pos c21] at H
          have LMc21 := Aside0.mk c21
          clear c21
          obtain ⟨y196, hy196⟩ : ∃ y_ : List Int, y_ = (x8_1 ++ [(Int.tdiv (rd l0 x9_1) 16) % 4294967296]) := ⟨_, rfl⟩
          replace H : (spec_l04Name.l0 k1 l0 a2 y196 (wrap64 (x9_1 + 1))) = some (r1, r2, r3, r4, r5, r6) := by first | (rw [hy196]; with_reducible exact H) | (have H2_ := (Option.bind_some _ _).symm.trans H; rw [hy196]; with_reducible exact H2_) | (have H2_ := (Option.bind_some _ _).symm.trans H; with_reducible exact H2_) | with_reducible exact H | (rw [hy196]; exact H) | exact H
          have Ny196 := Aside0.mk hy196
          clear hy196
          have H' := Aside0.mk H
          clear H
          have p191 : 0 ≤ (x9_1 : Int) := of_decide_eq_true Z5
          have q191 : x9_1 < (l0.length : Int) := of_decide_eq_true Z5
          obtain ⟨ad191, e191, hx191_0⟩ := Kd.at_int HR0.out x9_1 p191 q191
          obtain rfl : ad187 = ad191 := (by injection e191)
          replace hx191_0 := (HB.out.cell (World.block_lt_of_cell? w _ hx191_0)).trans hx191_0
          replace p191 := eq_true p191
          replace q191 := eq_true q191
          have p192 : 0 ≤ (x9_1 : Int) := of_decide_eq_true Z5
          have q192 : x9_1 < (l0.length : Int) := of_decide_eq_true Z5
          obtain ⟨ad192, e192, hx192_0⟩ := Kd.at_int HR0.out x9_1 p192 q192
          obtain rfl : ad187 = ad192 := (by injection e192)
          replace hx192_0 := (HB.out.cell (World.block_lt_of_cell? w _ hx192_0)).trans hx192_0
          replace p192 := eq_true p192
          replace q192 := eq_true q192
          have p195 : 0 ≤ (x9_1 : Int) := of_decide_eq_true Z5
          have q195 : x9_1 < (l0.length : Int) := of_decide_eq_true Z5
          obtain ⟨ad195, e195, hx195_0⟩ := Kd.at_int HR0.out x9_1 p195 q195
          obtain rfl : ad187 = ad195 := (by injection e195)
          replace hx195_0 := (HB.out.cell (World.block_lt_of_cell? w _ hx195_0)).trans hx195_0
          replace p195 := eq_true p195
          replace q195 := eq_true q195
          go_wp2_with (first | ((with_reducible refine gate_builtin (b := .append) (xs := #[.tmp 41, .tmp 47]) rfl ?_); at_builtin; refine Kd.R_append (Kd.int .u32) (w0 := w) w.heap.size rfl (.tmp 41) (.tmp 47) 24 47 (.int .u32 0) 4 rfl Try.underlying24 info47 rfl (by decide) (by omega) u8 x8_1 ((Int.tdiv (rd l0 x9_1) 16) % 4294967296) [.int .u32 ((Int.tdiv (rd l0 x9_1) 16) % 4294967296)] (fun _ => True) (fun _ => False) rfl rfl ?aP (fun _ hk => hk.elim) ?aF ?aO ?aB ?aS ?aL ?_; (case aP => exact rfl); (case aB => exact Z68); (case aF => exact (fun _ _ => trivial)); (case aO => exact (Z14 HO_8)); (case aS => exact (below_size Z68)); (case aL => have := LMc21.out; omega); intro v197 w22 ho hb hg hat; rw [← Ny196.out] at ho; replace BK186 := Z (blk_grown (g := gb186) (o := .cells #[.int .i64 0, .string (⟨#[]⟩ : ByteArray), .int .i32 0, .bool false, .int .u32 0] 51 (0, 0)) (Z10 BK186) hg (Kd.R_ne HO_8.out BK186.out (by decide))); replace HB := Z (hb); have HO198 := Z (ho); clear HO_8; clear ho hb hg hat))
          go_roundg k1
          case measure => have := HK1.out; omega
          case rel => exact ⟨(y196), (wrap64 (x9_1 + 1)), Z3, H', ⟨Z6⟩, ⟨(Z14 HO198)⟩, ⟨(Z10 BK186)⟩, ⟨Z68⟩⟩
         ·rw [if_neg c21] at H
          exact absurd H (by simp)
       ·rw [if_neg c11] at H
        have c11b0 : ((Int.tmod (rd l0 x9_1) 16) == 0) = false := beq_eq_false_iff_ne.mpr c11
        have c11b1 : ((Int.tmod (rd l0 x9_1) 16) != 0) = true := bne_iff_ne.mpr c11
        replace H := Option.bind_eq_some_iff.mp H
        obtain ⟨⟨t199, t200⟩, A230, H⟩ := H
        replace H : (if t200 = true then (some (a2, t199, 0, false, 0, (x8_1.length : Int))) else (some (0, (⟨#[]⟩ : ByteArray), 0, false, 0, 0))) = some (r1, r2, r3, r4, r5, r6) := H
        have A23 := Aside0.mk A230
        clear A230
        by_cases c24 : t200 = true
        ·subst c24
         have H1 : (some (a2, t199, 0, false, 0, (x8_1.length : Int))) = some (r1, r2, r3, r4, r5, r6) := Z7
         clear H
         have H := H1
         clear H1
         simp only [Option.some.injEq, Prod.mk.injEq] at H
         obtain ⟨rfl, rfl, rfl, rfl, rfl, rfl⟩ := H
         have p191 : 0 ≤ (x9_1 : Int) := of_decide_eq_true Z5
         have q191 : x9_1 < (l0.length : Int) := of_decide_eq_true Z5
         obtain ⟨ad191, e191, hx191_0⟩ := Kd.at_int HR0.out x9_1 p191 q191
         obtain rfl : ad187 = ad191 := (by injection e191)
         replace hx191_0 := (HB.out.cell (World.block_lt_of_cell? w _ hx191_0)).trans hx191_0
         replace p191 := eq_true p191
         replace q191 := eq_true q191
         obtain ⟨Ao25, co25, eo25⟩ := Kd.R_slice HO_8.out
         subst eo25
         go_wp2_with (first | ((with_reducible refine gate_callee (f := 115) rfl ?_); refine goesL_ (some 51) rfl rfl Try.func115 Z0 rfl #[.slice Ao25 x8_1.length co25] rfl Z11 ?_; (with_reducible refine (spec_Unpack.calls k1 _ _ x8_1 t199 true _ ?side1 ?side2 A23.out).mono ?_); (case side1 => exact (Z22 HO_8)); (case side2 => exact (Kd.R_reads' HO_8.out).2.1); rintro e w26 ⟨rfl, hb⟩; refine ⟨_, rfl, ?_⟩; replace HO_8 := Z (Kd.R_below (Z14 HO_8) hb); replace BK186 := Z (blk_below (g := gb186) (o := .cells #[.int .i64 0, .string (⟨#[]⟩ : ByteArray), .int .i32 0, .bool false, .int .u32 0] 51 (0, 0)) (Z10 BK186) hb); replace HB := Z (below_step Z68 hb); (try clear hb); (try clear hb2); (try clear hk); (try clear hi); have hcz27_0 : w26.cell? ⟨gb186, 0, none⟩ = some (.int .i64 0) := (blk_cell BK186.out 0).trans rfl; have hcz27_1 : w26.cell? ⟨gb186, 1, none⟩ = some (.string (⟨#[]⟩ : ByteArray)) := (blk_cell BK186.out 1).trans rfl; have hcz27_2 : w26.cell? ⟨gb186, 2, none⟩ = some (.int .i32 0) := (blk_cell BK186.out 2).trans rfl; have hcz27_3 : w26.cell? ⟨gb186, 3, none⟩ = some (.bool false) := (blk_cell BK186.out 3).trans rfl; have hcz27_4 : w26.cell? ⟨gb186, 4, none⟩ = some (.int .u32 0) := (blk_cell BK186.out 4).trans rfl; have hfz27_0 := blk_frozen BK186.out 0; have hfz27_1 := blk_frozen BK186.out 1; have hfz27_2 := blk_frozen BK186.out 2; have hfz27_3 := blk_frozen BK186.out 3; have hfz27_4 := blk_frozen BK186.out 4))
         refine bodyPost_ret (results_ct rfl _ _ gb186 51 #[.int .i64 a2, .string t199, .int .i32 0, .bool false, .int .u32 0] (0, 0) _ rfl (by (with_reducible repeat (first | refine blk_drewN ?_ _ | refine blk_drew ?_ | refine blk_alloc ?_ _)); refine blk_put (cs := #[.int .i64 a2, .string t199, .int .i32 0, .bool false, .int .u32 0]) ?_ 4 _ rfl; (with_reducible repeat (first | refine blk_drewN ?_ _ | refine blk_drew ?_ | refine blk_alloc ?_ _)); refine blk_put (cs := #[.int .i64 a2, .string t199, .int .i32 0, .bool false, .int .u32 0]) ?_ 3 _ rfl; (with_reducible repeat (first | refine blk_drewN ?_ _ | refine blk_drew ?_ | refine blk_alloc ?_ _)); refine blk_put (cs := #[.int .i64 a2, .string t199, .int .i32 0, .bool false, .int .u32 0]) ?_ 2 _ rfl; (with_reducible repeat (first | refine blk_drewN ?_ _ | refine blk_drew ?_ | refine blk_alloc ?_ _)); refine blk_put (cs := #[.int .i64 a2, .string (⟨#[]⟩ : ByteArray), .int .i32 0, .bool false, .int .u32 0]) ?_ 1 _ rfl; (with_reducible repeat (first | refine blk_drewN ?_ _ | refine blk_drew ?_ | refine blk_alloc ?_ _)); refine blk_put (cs := #[.int .i64 0, .string (⟨#[]⟩ : ByteArray), .int .i32 0, .bool false, .int .u32 0]) ?_ 0 _ rfl; (with_reducible repeat (first | refine blk_drewN ?_ _ | refine blk_drew ?_ | refine blk_alloc ?_ _)); exact BK186.out) Try.underlying51 rfl Z0) rfl ?_
         exact ⟨Z13, Z68⟩
        ·replace c24 := Bool.eq_false_iff.mpr c24
         subst c24
         have H1 : (some (0, (⟨#[]⟩ : ByteArray), 0, false, 0, 0)) = some (r1, r2, r3, r4, r5, r6) := by rw [if_neg (show ¬ (false = true) by decide)] at H; exact H
         clear H
         have H := H1
         clear H1
         simp only [Option.some.injEq, Prod.mk.injEq] at H
         obtain ⟨rfl, rfl, rfl, rfl, rfl, rfl⟩ := H
         have p191 : 0 ≤ (x9_1 : Int) := of_decide_eq_true Z5
         have q191 : x9_1 < (l0.length : Int) := of_decide_eq_true Z5
         obtain ⟨ad191, e191, hx191_0⟩ := Kd.at_int HR0.out x9_1 p191 q191
         obtain rfl : ad187 = ad191 := (by injection e191)
         replace hx191_0 := (HB.out.cell (World.block_lt_of_cell? w _ hx191_0)).trans hx191_0
         replace p191 := eq_true p191
         replace q191 := eq_true q191
         obtain ⟨Ao28, co28, eo28⟩ := Kd.R_slice HO_8.out
         subst eo28
         go_wp2_with (first | ((with_reducible refine gate_callee (f := 115) rfl ?_); refine goesL_ (some 51) rfl rfl Try.func115 Z0 rfl #[.slice Ao28 x8_1.length co28] rfl Z11 ?_; (with_reducible refine (spec_Unpack.calls k1 _ _ x8_1 t199 false _ ?side1 ?side2 A23.out).mono ?_); (case side1 => exact (Z22 HO_8)); (case side2 => exact (Kd.R_reads' HO_8.out).2.1); rintro e w29 ⟨rfl, hb⟩; refine ⟨_, rfl, ?_⟩; replace HO_8 := Z (Kd.R_below (Z14 HO_8) hb); replace BK186 := Z (blk_below (g := gb186) (o := .cells #[.int .i64 0, .string (⟨#[]⟩ : ByteArray), .int .i32 0, .bool false, .int .u32 0] 51 (0, 0)) (Z10 BK186) hb); replace HB := Z (below_step Z68 hb); (try clear hb); (try clear hb2); (try clear hk); (try clear hi); have hcz30_0 : w29.cell? ⟨gb186, 0, none⟩ = some (.int .i64 0) := (blk_cell BK186.out 0).trans rfl; have hcz30_1 : w29.cell? ⟨gb186, 1, none⟩ = some (.string (⟨#[]⟩ : ByteArray)) := (blk_cell BK186.out 1).trans rfl; have hcz30_2 : w29.cell? ⟨gb186, 2, none⟩ = some (.int .i32 0) := (blk_cell BK186.out 2).trans rfl; have hcz30_3 : w29.cell? ⟨gb186, 3, none⟩ = some (.bool false) := (blk_cell BK186.out 3).trans rfl; have hcz30_4 : w29.cell? ⟨gb186, 4, none⟩ = some (.int .u32 0) := (blk_cell BK186.out 4).trans rfl; have hfz30_0 := blk_frozen BK186.out 0; have hfz30_1 := blk_frozen BK186.out 1; have hfz30_2 := blk_frozen BK186.out 2; have hfz30_3 := blk_frozen BK186.out 3; have hfz30_4 := blk_frozen BK186.out 4))
         refine bodyPost_ret (results_ct rfl _ _ gb186 51 #[.int .i64 0, .string (⟨#[]⟩ : ByteArray), .int .i32 0, .bool false, .int .u32 0] (0, 0) _ rfl (Z23 BK186) Try.underlying51 rfl Z0) rfl ?_
         exact ⟨Z13, Z68⟩
      ·rw [if_neg c10] at H
       exact absurd H (by simp)
     ·rw [if_neg c9] at H
      have c9b0 : decide (x9_1 < (l0.length : Int)) = false := decide_eq_false c9
      clear c9
      replace H := Option.bind_eq_some_iff.mp H
      obtain ⟨⟨t201, t202⟩, A310, H⟩ := H
      replace H : (if t202 = true then (some (a2, t201, 0, false, 0, (x8_1.length : Int))) else (some (0, (⟨#[]⟩ : ByteArray), 0, false, 0, 0))) = some (r1, r2, r3, r4, r5, r6) := H
      have A31 := Aside0.mk A310
      clear A310
      by_cases c32 : t202 = true
      ·subst c32
       have H1 : (some (a2, t201, 0, false, 0, (x8_1.length : Int))) = some (r1, r2, r3, r4, r5, r6) := Z7
       clear H
       have H := H1
       clear H1
       simp only [Option.some.injEq, Prod.mk.injEq] at H
       obtain ⟨rfl, rfl, rfl, rfl, rfl, rfl⟩ := H
       obtain ⟨Ao33, co33, eo33⟩ := Kd.R_slice HO_8.out
       subst eo33
       go_wp2_with (first | ((with_reducible refine gate_callee (f := 115) rfl ?_); refine goesL_ (some 51) rfl rfl Try.func115 Z0 rfl #[.slice Ao33 x8_1.length co33] rfl Z11 ?_; (with_reducible refine (spec_Unpack.calls k1 _ _ x8_1 t201 true _ ?side1 ?side2 A31.out).mono ?_); (case side1 => exact (Z22 HO_8)); (case side2 => exact (Kd.R_reads' HO_8.out).2.1); rintro e w34 ⟨rfl, hb⟩; refine ⟨_, rfl, ?_⟩; replace HO_8 := Z (Kd.R_below (Z14 HO_8) hb); replace BK186 := Z (blk_below (g := gb186) (o := .cells #[.int .i64 0, .string (⟨#[]⟩ : ByteArray), .int .i32 0, .bool false, .int .u32 0] 51 (0, 0)) (Z10 BK186) hb); replace HB := Z (below_step Z68 hb); (try clear hb); (try clear hb2); (try clear hk); (try clear hi); have hcz35_0 : w34.cell? ⟨gb186, 0, none⟩ = some (.int .i64 0) := (blk_cell BK186.out 0).trans rfl; have hcz35_1 : w34.cell? ⟨gb186, 1, none⟩ = some (.string (⟨#[]⟩ : ByteArray)) := (blk_cell BK186.out 1).trans rfl; have hcz35_2 : w34.cell? ⟨gb186, 2, none⟩ = some (.int .i32 0) := (blk_cell BK186.out 2).trans rfl; have hcz35_3 : w34.cell? ⟨gb186, 3, none⟩ = some (.bool false) := (blk_cell BK186.out 3).trans rfl; have hcz35_4 : w34.cell? ⟨gb186, 4, none⟩ = some (.int .u32 0) := (blk_cell BK186.out 4).trans rfl; have hfz35_0 := blk_frozen BK186.out 0; have hfz35_1 := blk_frozen BK186.out 1; have hfz35_2 := blk_frozen BK186.out 2; have hfz35_3 := blk_frozen BK186.out 3; have hfz35_4 := blk_frozen BK186.out 4))
       refine bodyPost_ret (results_ct rfl _ _ gb186 51 #[.int .i64 a2, .string t201, .int .i32 0, .bool false, .int .u32 0] (0, 0) _ rfl (by (with_reducible repeat (first | refine blk_drewN ?_ _ | refine blk_drew ?_ | refine blk_alloc ?_ _)); refine blk_put (cs := #[.int .i64 a2, .string t201, .int .i32 0, .bool false, .int .u32 0]) ?_ 4 _ rfl; (with_reducible repeat (first | refine blk_drewN ?_ _ | refine blk_drew ?_ | refine blk_alloc ?_ _)); refine blk_put (cs := #[.int .i64 a2, .string t201, .int .i32 0, .bool false, .int .u32 0]) ?_ 3 _ rfl; (with_reducible repeat (first | refine blk_drewN ?_ _ | refine blk_drew ?_ | refine blk_alloc ?_ _)); refine blk_put (cs := #[.int .i64 a2, .string t201, .int .i32 0, .bool false, .int .u32 0]) ?_ 2 _ rfl; (with_reducible repeat (first | refine blk_drewN ?_ _ | refine blk_drew ?_ | refine blk_alloc ?_ _)); refine blk_put (cs := #[.int .i64 a2, .string (⟨#[]⟩ : ByteArray), .int .i32 0, .bool false, .int .u32 0]) ?_ 1 _ rfl; (with_reducible repeat (first | refine blk_drewN ?_ _ | refine blk_drew ?_ | refine blk_alloc ?_ _)); refine blk_put (cs := #[.int .i64 0, .string (⟨#[]⟩ : ByteArray), .int .i32 0, .bool false, .int .u32 0]) ?_ 0 _ rfl; (with_reducible repeat (first | refine blk_drewN ?_ _ | refine blk_drew ?_ | refine blk_alloc ?_ _)); exact BK186.out) Try.underlying51 rfl Z0) rfl ?_
       exact ⟨Z13, Z68⟩
      ·replace c32 := Bool.eq_false_iff.mpr c32
       subst c32
       have H1 : (some (0, (⟨#[]⟩ : ByteArray), 0, false, 0, 0)) = some (r1, r2, r3, r4, r5, r6) := by rw [if_neg (show ¬ (false = true) by decide)] at H; exact H
       clear H
       have H := H1
       clear H1
       simp only [Option.some.injEq, Prod.mk.injEq] at H
       obtain ⟨rfl, rfl, rfl, rfl, rfl, rfl⟩ := H
       obtain ⟨Ao36, co36, eo36⟩ := Kd.R_slice HO_8.out
       subst eo36
       go_wp2_with (first | ((with_reducible refine gate_callee (f := 115) rfl ?_); refine goesL_ (some 51) rfl rfl Try.func115 Z0 rfl #[.slice Ao36 x8_1.length co36] rfl Z11 ?_; (with_reducible refine (spec_Unpack.calls k1 _ _ x8_1 t201 false _ ?side1 ?side2 A31.out).mono ?_); (case side1 => exact (Z22 HO_8)); (case side2 => exact (Kd.R_reads' HO_8.out).2.1); rintro e w37 ⟨rfl, hb⟩; refine ⟨_, rfl, ?_⟩; replace HO_8 := Z (Kd.R_below (Z14 HO_8) hb); replace BK186 := Z (blk_below (g := gb186) (o := .cells #[.int .i64 0, .string (⟨#[]⟩ : ByteArray), .int .i32 0, .bool false, .int .u32 0] 51 (0, 0)) (Z10 BK186) hb); replace HB := Z (below_step Z68 hb); (try clear hb); (try clear hb2); (try clear hk); (try clear hi); have hcz38_0 : w37.cell? ⟨gb186, 0, none⟩ = some (.int .i64 0) := (blk_cell BK186.out 0).trans rfl; have hcz38_1 : w37.cell? ⟨gb186, 1, none⟩ = some (.string (⟨#[]⟩ : ByteArray)) := (blk_cell BK186.out 1).trans rfl; have hcz38_2 : w37.cell? ⟨gb186, 2, none⟩ = some (.int .i32 0) := (blk_cell BK186.out 2).trans rfl; have hcz38_3 : w37.cell? ⟨gb186, 3, none⟩ = some (.bool false) := (blk_cell BK186.out 3).trans rfl; have hcz38_4 : w37.cell? ⟨gb186, 4, none⟩ = some (.int .u32 0) := (blk_cell BK186.out 4).trans rfl; have hfz38_0 := blk_frozen BK186.out 0; have hfz38_1 := blk_frozen BK186.out 1; have hfz38_2 := blk_frozen BK186.out 2; have hfz38_3 := blk_frozen BK186.out 3; have hfz38_4 := blk_frozen BK186.out 4))
       refine bodyPost_ret (results_ct rfl _ _ gb186 51 #[.int .i64 0, .string (⟨#[]⟩ : ByteArray), .int .i32 0, .bool false, .int .u32 0] (0, 0) _ rfl (Z23 BK186) Try.underlying51 rfl Z0) rfl ?_
       exact ⟨Z13, Z68⟩
  ·rw [if_neg c5] at H
   exact absurd H (by simp)
 ·rw [if_neg c4] at H
  exact absurd H (by simp)

/-! ### spec_l04Num: function 108 -/
def spec_l04Num.f (a0 : Int) (a1 : Bool) (a2 : Int) (a3 : Int) : Option (List Int) := if a1 = true then (if a0 ≥ (-67108864) then (if a0 ≤ 67108863 then (some (([((((((a0) % 4294967296) * 32) % 4294967296) + 16) + a2) % 4294967296] : List Int))) else (some (([(16 + a3) % 4294967296, (a0) % 4294967296] : List Int)))) else (some (([(16 + a3) % 4294967296, (a0) % 4294967296] : List Int)))) else (if a0 ≥ (-67108864) then (if a0 ≤ 67108863 then (some (([((((((a0) % 4294967296) * 32) % 4294967296) + 0) + a2) % 4294967296] : List Int))) else (some (([(0 + a3) % 4294967296, (a0) % 4294967296] : List Int)))) else (some (([(0 + a3) % 4294967296, (a0) % 4294967296] : List Int))))
set_option maxHeartbeats 8000000 in
set_option maxRecDepth 100000 in
theorem spec_l04Num.calls (a0 : Int) (a1 : Bool) (a2 : Int) (a3 : Int) (r : List Int) (w : World) (h : spec_l04Num.f a0 a1 a2 a3 = some r) :
  Calls Try.prog 108 #[.int .i32 a0, .bool a1, .int .u32 a2, .int .u32 a3] w fun e w' => ∃ v0_ : Value, e = .returned (v0_) ∧ Kd.R (Kd.int .u32) 47 w' w.heap.size (fun _ => True) v0_ r ∧ Below w.heap.size w w' := by
 have HB := Z (Below.refl w.heap.size w)
 have H : (if a1 = true then (if a0 ≥ (-67108864) then (if a0 ≤ 67108863 then (some (([((((((a0) % 4294967296) * 32) % 4294967296) + 16) + a2) % 4294967296] : List Int))) else (some (([(16 + a3) % 4294967296, (a0) % 4294967296] : List Int)))) else (some (([(16 + a3) % 4294967296, (a0) % 4294967296] : List Int)))) else (if a0 ≥ (-67108864) then (if a0 ≤ 67108863 then (some (([((((((a0) % 4294967296) * 32) % 4294967296) + 0) + a2) % 4294967296] : List Int))) else (some (([(0 + a3) % 4294967296, (a0) % 4294967296] : List Int)))) else (some (([(0 + a3) % 4294967296, (a0) % 4294967296] : List Int))))) = some r := h
 clear h
 by_cases c5 : a1 = true
 ·subst c5
  have H1 : (if a0 ≥ (-67108864) then (if a0 ≤ 67108863 then (some (([((((((a0) % 4294967296) * 32) % 4294967296) + 16) + a2) % 4294967296] : List Int))) else (some (([(16 + a3) % 4294967296, (a0) % 4294967296] : List Int)))) else (some (([(16 + a3) % 4294967296, (a0) % 4294967296] : List Int)))) = some r := Z7
  clear H
  have H := H1
  clear H1
  by_cases c6 : a0 ≥ (-67108864)
  ·rw [if_pos c6] at H
   have c6b0 : decide ((-67108864) ≤ a0) = true := decide_eq_true c6
   clear c6
   by_cases c7 : a0 ≤ 67108863
   ·rw [if_pos c7] at H
    have c7b0 : decide (a0 ≤ 67108863) = true := decide_eq_true c7
    clear c7
    obtain ⟨y203, hy203⟩ : ∃ y_ : List Int, y_ = (([((((((a0) % 4294967296) * 32) % 4294967296) + 16) + a2) % 4294967296] : List Int)) := ⟨_, rfl⟩
    replace H : (some y203) = some r := by first | (rw [hy203]; with_reducible exact H) | (have H2_ := (Option.bind_some _ _).symm.trans H; rw [hy203]; with_reducible exact H2_) | (have H2_ := (Option.bind_some _ _).symm.trans H; with_reducible exact H2_) | with_reducible exact H | (rw [hy203]; exact H) | exact H
    have Ny203 := Aside0.mk hy203
    clear hy203
    obtain rfl := Option.some.inj H
    go_enter Try.func108, Try.ntmps108
    go_wp2_with (first | ((with_reducible refine gate_dst (N := 24) rfl ?_); refine Kd.R_lit (Kd.int .u32) _ 47 (by rfl) (N := 24) (by rfl) (xs := ([((((((a0) % 4294967296) * 32) % 4294967296) + 16) + a2) % 4294967296] : List Int)) (inner := [.int .u32 (((((((a0) % 4294967296) * 32) % 4294967296) + 16) + a2) % 4294967296)]) (ok := fun _ => True) (okp := fun _ => True) Z8 (Reps.one (show Kd.M (Kd.int .u32) _ _ _ (((((((a0) % 4294967296) * 32) % 4294967296) + 16) + a2) % 4294967296) [.int .u32 (((((((a0) % 4294967296) * 32) % 4294967296) + 16) + a2) % 4294967296)] from rfl) (Reps.none _ _)) (fun _ hk => hk) trivial (Below.refl _ _) (Nat.le_refl _) (by simp) ?_; intro v204 w8 ho9 hb hg_ hnew_; clear hg_ hnew_; (first | rw [← Ny203.out] at ho9 | (simp only [Int.reduceToNat] at ho9; rw [← Ny203.out] at ho9)); have HO205 := Z (Kd.R_lower ho9 (below_size Z68)); replace HB := Z (below_step Z68 hb); clear hb ho9))
    go_ret
    exact ⟨_, Z13, (Z14 HO205), Z68⟩
   ·rw [if_neg c7] at H
    have c7b0 : decide (a0 ≤ 67108863) = false := decide_eq_false c7
    clear c7
    obtain ⟨y206, hy206⟩ : ∃ y_ : List Int, y_ = (([(16 + a3) % 4294967296, (a0) % 4294967296] : List Int)) := ⟨_, rfl⟩
    replace H : (some y206) = some r := by first | (rw [hy206]; with_reducible exact H) | (have H2_ := (Option.bind_some _ _).symm.trans H; rw [hy206]; with_reducible exact H2_) | (have H2_ := (Option.bind_some _ _).symm.trans H; with_reducible exact H2_) | with_reducible exact H | (rw [hy206]; exact H) | exact H
    have Ny206 := Aside0.mk hy206
    clear hy206
    obtain rfl := Option.some.inj H
    go_enter Try.func108, Try.ntmps108
    go_wp2_with (first | ((with_reducible refine gate_dst (N := 30) rfl ?_); refine Kd.R_lit (Kd.int .u32) _ 47 (by rfl) (N := 30) (by rfl) (xs := ([(16 + a3) % 4294967296, (a0) % 4294967296] : List Int)) (inner := [.int .u32 ((16 + a3) % 4294967296), .int .u32 ((a0) % 4294967296)]) (ok := fun _ => True) (okp := fun _ => True) Z8 (Reps.one (show Kd.M (Kd.int .u32) _ _ _ ((16 + a3) % 4294967296) [.int .u32 ((16 + a3) % 4294967296)] from rfl) (Reps.one (show Kd.M (Kd.int .u32) _ _ _ ((a0) % 4294967296) [.int .u32 ((a0) % 4294967296)] from rfl) (Reps.none _ _))) (fun _ hk => hk) trivial (Below.refl _ _) (Nat.le_refl _) (by simp) ?_; intro v207 w10 ho11 hb hg_ hnew_; clear hg_ hnew_; (first | rw [← Ny206.out] at ho11 | (simp only [Int.reduceToNat] at ho11; rw [← Ny206.out] at ho11)); have HO208 := Z (Kd.R_lower ho11 (below_size Z68)); replace HB := Z (below_step Z68 hb); clear hb ho11))
    go_ret
    exact ⟨_, Z13, (Z14 HO208), Z68⟩
  ·rw [if_neg c6] at H
   have c6b0 : decide ((-67108864) ≤ a0) = false := decide_eq_false c6
   clear c6
   obtain ⟨y209, hy209⟩ : ∃ y_ : List Int, y_ = (([(16 + a3) % 4294967296, (a0) % 4294967296] : List Int)) := ⟨_, rfl⟩
   replace H : (some y209) = some r := by first | (rw [hy209]; with_reducible exact H) | (have H2_ := (Option.bind_some _ _).symm.trans H; rw [hy209]; with_reducible exact H2_) | (have H2_ := (Option.bind_some _ _).symm.trans H; with_reducible exact H2_) | with_reducible exact H | (rw [hy209]; exact H) | exact H
   have Ny209 := Aside0.mk hy209
   clear hy209
   obtain rfl := Option.some.inj H
   go_enter Try.func108, Try.ntmps108
   go_wp2_with (first | ((with_reducible refine gate_dst (N := 30) rfl ?_); refine Kd.R_lit (Kd.int .u32) _ 47 (by rfl) (N := 30) (by rfl) (xs := ([(16 + a3) % 4294967296, (a0) % 4294967296] : List Int)) (inner := [.int .u32 ((16 + a3) % 4294967296), .int .u32 ((a0) % 4294967296)]) (ok := fun _ => True) (okp := fun _ => True) Z8 (Reps.one (show Kd.M (Kd.int .u32) _ _ _ ((16 + a3) % 4294967296) [.int .u32 ((16 + a3) % 4294967296)] from rfl) (Reps.one (show Kd.M (Kd.int .u32) _ _ _ ((a0) % 4294967296) [.int .u32 ((a0) % 4294967296)] from rfl) (Reps.none _ _))) (fun _ hk => hk) trivial (Below.refl _ _) (Nat.le_refl _) (by simp) ?_; intro v210 w12 ho13 hb hg_ hnew_; clear hg_ hnew_; (first | rw [← Ny209.out] at ho13 | (simp only [Int.reduceToNat] at ho13; rw [← Ny209.out] at ho13)); have HO211 := Z (Kd.R_lower ho13 (below_size Z68)); replace HB := Z (below_step Z68 hb); clear hb ho13))
   go_ret
   exact ⟨_, Z13, (Z14 HO211), Z68⟩
 ·replace c5 := Bool.eq_false_iff.mpr c5
  subst c5
  have H1 : (if a0 ≥ (-67108864) then (if a0 ≤ 67108863 then (some (([((((((a0) % 4294967296) * 32) % 4294967296) + 0) + a2) % 4294967296] : List Int))) else (some (([(0 + a3) % 4294967296, (a0) % 4294967296] : List Int)))) else (some (([(0 + a3) % 4294967296, (a0) % 4294967296] : List Int)))) = some r := by rw [if_neg (show ¬ (false = true) by decide)] at H; exact H
  clear H
  have H := H1
  clear H1
  by_cases c14 : a0 ≥ (-67108864)
  ·rw [if_pos c14] at H
   have c14b0 : decide ((-67108864) ≤ a0) = true := decide_eq_true c14
   clear c14
   by_cases c15 : a0 ≤ 67108863
   ·rw [if_pos c15] at H
    have c15b0 : decide (a0 ≤ 67108863) = true := decide_eq_true c15
    clear c15
    obtain ⟨y212, hy212⟩ : ∃ y_ : List Int, y_ = (([((((((a0) % 4294967296) * 32) % 4294967296) + 0) + a2) % 4294967296] : List Int)) := ⟨_, rfl⟩
    replace H : (some y212) = some r := by first | (rw [hy212]; with_reducible exact H) | (have H2_ := (Option.bind_some _ _).symm.trans H; rw [hy212]; with_reducible exact H2_) | (have H2_ := (Option.bind_some _ _).symm.trans H; with_reducible exact H2_) | with_reducible exact H | (rw [hy212]; exact H) | exact H
    have Ny212 := Aside0.mk hy212
    clear hy212
    obtain rfl := Option.some.inj H
    go_enter Try.func108, Try.ntmps108
    go_wp2_with (first | ((with_reducible refine gate_dst (N := 24) rfl ?_); refine Kd.R_lit (Kd.int .u32) _ 47 (by rfl) (N := 24) (by rfl) (xs := ([((((((a0) % 4294967296) * 32) % 4294967296) + 0) + a2) % 4294967296] : List Int)) (inner := [.int .u32 (((((((a0) % 4294967296) * 32) % 4294967296) + 0) + a2) % 4294967296)]) (ok := fun _ => True) (okp := fun _ => True) Z8 (Reps.one (show Kd.M (Kd.int .u32) _ _ _ (((((((a0) % 4294967296) * 32) % 4294967296) + 0) + a2) % 4294967296) [.int .u32 (((((((a0) % 4294967296) * 32) % 4294967296) + 0) + a2) % 4294967296)] from rfl) (Reps.none _ _)) (fun _ hk => hk) trivial (Below.refl _ _) (Nat.le_refl _) (by simp) ?_; intro v213 w16 ho17 hb hg_ hnew_; clear hg_ hnew_; (first | rw [← Ny212.out] at ho17 | (simp only [Int.reduceToNat] at ho17; rw [← Ny212.out] at ho17)); have HO214 := Z (Kd.R_lower ho17 (below_size Z68)); replace HB := Z (below_step Z68 hb); clear hb ho17))
    go_ret
    exact ⟨_, Z13, (Z14 HO214), Z68⟩
   ·rw [if_neg c15] at H
    have c15b0 : decide (a0 ≤ 67108863) = false := decide_eq_false c15
    clear c15
    obtain ⟨y215, hy215⟩ : ∃ y_ : List Int, y_ = (([(0 + a3) % 4294967296, (a0) % 4294967296] : List Int)) := ⟨_, rfl⟩
    replace H : (some y215) = some r := by first | (rw [hy215]; with_reducible exact H) | (have H2_ := (Option.bind_some _ _).symm.trans H; rw [hy215]; with_reducible exact H2_) | (have H2_ := (Option.bind_some _ _).symm.trans H; with_reducible exact H2_) | with_reducible exact H | (rw [hy215]; exact H) | exact H
    have Ny215 := Aside0.mk hy215
    clear hy215
    obtain rfl := Option.some.inj H
    go_enter Try.func108, Try.ntmps108
    go_wp2_with (first | ((with_reducible refine gate_dst (N := 30) rfl ?_); refine Kd.R_lit (Kd.int .u32) _ 47 (by rfl) (N := 30) (by rfl) (xs := ([(0 + a3) % 4294967296, (a0) % 4294967296] : List Int)) (inner := [.int .u32 ((0 + a3) % 4294967296), .int .u32 ((a0) % 4294967296)]) (ok := fun _ => True) (okp := fun _ => True) Z8 (Reps.one (show Kd.M (Kd.int .u32) _ _ _ ((0 + a3) % 4294967296) [.int .u32 ((0 + a3) % 4294967296)] from rfl) (Reps.one (show Kd.M (Kd.int .u32) _ _ _ ((a0) % 4294967296) [.int .u32 ((a0) % 4294967296)] from rfl) (Reps.none _ _))) (fun _ hk => hk) trivial (Below.refl _ _) (Nat.le_refl _) (by simp) ?_; intro v216 w18 ho19 hb hg_ hnew_; clear hg_ hnew_; (first | rw [← Ny215.out] at ho19 | (simp only [Int.reduceToNat] at ho19; rw [← Ny215.out] at ho19)); have HO217 := Z (Kd.R_lower ho19 (below_size Z68)); replace HB := Z (below_step Z68 hb); clear hb ho19))
    go_ret
    exact ⟨_, Z13, (Z14 HO217), Z68⟩
  ·rw [if_neg c14] at H
   have c14b0 : decide ((-67108864) ≤ a0) = false := decide_eq_false c14
   clear c14
   obtain ⟨y218, hy218⟩ : ∃ y_ : List Int, y_ = (([(0 + a3) % 4294967296, (a0) % 4294967296] : List Int)) := ⟨_, rfl⟩
   replace H : (some y218) = some r := by first | (rw [hy218]; with_reducible exact H) | (have H2_ := (Option.bind_some _ _).symm.trans H; rw [hy218]; with_reducible exact H2_) | (have H2_ := (Option.bind_some _ _).symm.trans H; with_reducible exact H2_) | with_reducible exact H | (rw [hy218]; exact H) | exact H
   have Ny218 := Aside0.mk hy218
   clear hy218
   obtain rfl := Option.some.inj H
   go_enter Try.func108, Try.ntmps108
   go_wp2_with (first | ((with_reducible refine gate_dst (N := 30) rfl ?_); refine Kd.R_lit (Kd.int .u32) _ 47 (by rfl) (N := 30) (by rfl) (xs := ([(0 + a3) % 4294967296, (a0) % 4294967296] : List Int)) (inner := [.int .u32 ((0 + a3) % 4294967296), .int .u32 ((a0) % 4294967296)]) (ok := fun _ => True) (okp := fun _ => True) Z8 (Reps.one (show Kd.M (Kd.int .u32) _ _ _ ((0 + a3) % 4294967296) [.int .u32 ((0 + a3) % 4294967296)] from rfl) (Reps.one (show Kd.M (Kd.int .u32) _ _ _ ((a0) % 4294967296) [.int .u32 ((a0) % 4294967296)] from rfl) (Reps.none _ _))) (fun _ hk => hk) trivial (Below.refl _ _) (Nat.le_refl _) (by simp) ?_; intro v219 w20 ho21 hb hg_ hnew_; clear hg_ hnew_; (first | rw [← Ny218.out] at ho21 | (simp only [Int.reduceToNat] at ho21; rw [← Ny218.out] at ho21)); have HO220 := Z (Kd.R_lower ho21 (below_size Z68)); replace HB := Z (below_step Z68 hb); clear hb ho21))
   go_ret
   exact ⟨_, Z13, (Z14 HO220), Z68⟩

/-! ### spec_l04Word: function 109 -/
def spec_l04Word.l0 : Nat → Int → List Int → Int → Option (List Int)
 | 0, _, _, _ => none
 | k + 1, x0, x5, x6 => if x6 < (x5.length : Int) then (if 0 ≤ x6 then ((some (x5.set (x6 : Int).toNat (((rd x5 x6) * 16) % 4294967296) : List Int)).bind fun y225 => (if x6 = 0 then (spec_l04Word.l0 k x0 (y225.set (x6 : Int).toNat (((rd y225 x6) + x0) % 4294967296)) (wrap64 (x6 + 1))) else (spec_l04Word.l0 k x0 y225 (wrap64 (x6 + 1))))) else (none)) else (some x5)
def spec_l04Word.f (k : Nat) (a0 : Int) (a1 : ByteArray) : Option (List Int) := (spec_Pack.f k a1).bind fun t221 => (spec_l04Word.l0 k a0 t221 0)
theorem spec_l04Word.mono_l : ∀ k, (∀ y0 y1 y2, LeO (spec_l04Word.l0 k y0 y1 y2) (spec_l04Word.l0 (k + 1) y0 y1 y2))
 | 0 => fun _ _ _ r h => by simp [spec_l04Word.l0] at h
 | k + 1 => by
  have ih0 := spec_l04Word.mono_l k
  ·intro y0 y1 y2
   unfold spec_l04Word.l0
   repeat' first
   | (with_reducible exact ih0 _ _ _)
   | (with_reducible exact spec_Pack.mono _ _)
   | (with_reducible exact LeO.refl _)
   | (with_reducible exact LeO.none _)
   | (with_reducible refine LeO.ite ?_ ?_)
   | (with_reducible refine LeO.bind ?_ (fun _ => ?_))
   | exact ih0 _ _ _
   | exact spec_Pack.mono _ _
   | exact LeO.none _
   | refine LeO.ite ?_ ?_
   | refine LeO.bind ?_ (fun _ => ?_)
theorem spec_l04Word.mono : ∀ a0 a1 k, LeO (spec_l04Word.f k a0 a1) (spec_l04Word.f (k + 1) a0 a1) := by
 intro a0 a1 k
 have ih0 := spec_l04Word.mono_l k
 unfold spec_l04Word.f
 repeat' first
   | (with_reducible exact ih0 _ _ _)
   | (with_reducible exact spec_Pack.mono _ _)
   | (with_reducible exact LeO.refl _)
   | (with_reducible exact LeO.none _)
   | (with_reducible refine LeO.ite ?_ ?_)
   | (with_reducible refine LeO.bind ?_ (fun _ => ?_))
   | exact ih0 _ _ _
   | exact spec_Pack.mono _ _
   | exact LeO.none _
   | refine LeO.ite ?_ ?_
   | refine LeO.bind ?_ (fun _ => ?_)
set_option maxHeartbeats 8000000 in
set_option maxRecDepth 100000 in
theorem spec_l04Word.calls (k : Nat) (a0 : Int) (a1 : ByteArray) (r : List Int) (w : World) (h : spec_l04Word.f k a0 a1 = some r) :
  Calls Try.prog 109 #[.int .u32 a0, .string a1] w fun e w' => ∃ v0_ : Value, e = .returned (v0_) ∧ Kd.R (Kd.int .u32) 47 w' w.heap.size (fun _ => True) v0_ r ∧ Below w.heap.size w w' := by
 have HB := Z (Below.refl w.heap.size w)
 have H : ((spec_Pack.f k a1).bind fun t221 => (spec_l04Word.l0 k a0 t221 0)) = some r := h
 clear h
 replace H := Option.bind_eq_some_iff.mp H
 obtain ⟨t221, A30, H⟩ := H
 replace H : (spec_l04Word.l0 k a0 t221 0) = some r := H
 have A3 := Aside0.mk A30
 clear A30
 have H' := Aside0.mk H
 clear H
 go_enter Try.func109, Try.ntmps109
 go_wp2_with (first | ((with_reducible refine gate_callee (f := 116) rfl ?_); refine goesL_ (some 8) rfl rfl Try.func116 Z0 rfl #[.string a1] rfl Z11 ?_; (with_reducible refine (spec_Pack.calls k a1 t221 _ A3.out).mono ?_); rintro e w4 ⟨v222, rfl, ho0, hb⟩; refine ⟨_, rfl, ?_⟩; have HO223 := Z (Kd.R_lower ho0 (below_size Z68)); replace HB := Z (below_step Z68 hb); (try clear hb); (try clear hb2); (try clear hk); (try clear hi); (try clear ho0)))
 go_loopg [6] k (fun kq v6 w' => ∃ (x5_1 : List Int) (x6_1 : Int), v6 = .int .i64 x6_1 ∧ Aside0 (spec_l04Word.l0 kq a0 x5_1 x6_1 = some r) ∧ Aside0 (kq ≤ k) ∧ Aside0 (Kd.R (Kd.int .u32) 47 w' w.heap.size (fun _ => True) v222 x5_1) ∧ Aside0 (Below w.heap.size w w'))
 case atStart => exact ⟨(t221), (0), Z3, H', ⟨Nat.le_refl _⟩, ⟨(Z14 HO223)⟩, ⟨Z68⟩⟩
 case round =>
  clear H'
  try clear c1
  try clear p2
  obtain ⟨x5_1, x6_1, rfl, HA, HK1, HO_5, HB⟩ := hrel
  cases gk with
  | zero => exact absurd HA.out (by simp [spec_l04Word.l0])
  | succ k1 =>
   have H := HA.out
   clear HA
   simp only [spec_l04Word.l0] at H
   by_cases c5 : x6_1 < (x5_1.length : Int)
   ·rw [if_pos c5] at H
    have c5b0 : decide (x6_1 < (x5_1.length : Int)) = true := decide_eq_true c5
    clear c5
    by_cases c6 : 0 ≤ x6_1
    ·rw [if_pos c6] at H
     have c6b0 : decide (0 ≤ x6_1) = true := decide_eq_true c6
     clear c6
     obtain ⟨y225, hy225⟩ : ∃ y_ : List Int, y_ = (x5_1.set (x6_1 : Int).toNat (((rd x5_1 x6_1) * 16) % 4294967296)) := ⟨_, rfl⟩
     replace H : (if x6_1 = 0 then (spec_l04Word.l0 k1 a0 (y225.set (x6_1 : Int).toNat (((rd y225 x6_1) + a0) % 4294967296)) (wrap64 (x6_1 + 1))) else (spec_l04Word.l0 k1 a0 y225 (wrap64 (x6_1 + 1)))) = some r := by first | (rw [hy225]; with_reducible exact H) | (have H2_ := (Option.bind_some _ _).symm.trans H; rw [hy225]; with_reducible exact H2_) | (have H2_ := (Option.bind_some _ _).symm.trans H; with_reducible exact H2_) | with_reducible exact H | (rw [hy225]; exact H) | exact H
     have Ny225 := Aside0.mk hy225
     clear hy225
     by_cases c8 : x6_1 = 0
     ·rw [if_pos c8] at H
      have c8b0 : (x6_1 == 0) = true := beq_iff_eq.mpr c8
      have c8b1 : (x6_1 != 0) = false := bne_eq_false_iff_eq.mpr c8
      clear c8
      obtain ⟨y227, hy227⟩ : ∃ y_ : List Int, y_ = (y225.set (x6_1 : Int).toNat (((rd y225 x6_1) + a0) % 4294967296)) := ⟨_, rfl⟩
      replace H : (spec_l04Word.l0 k1 a0 y227 (wrap64 (x6_1 + 1))) = some r := by first | (rw [hy227]; with_reducible exact H) | (have H2_ := (Option.bind_some _ _).symm.trans H; rw [hy227]; with_reducible exact H2_) | (have H2_ := (Option.bind_some _ _).symm.trans H; with_reducible exact H2_) | with_reducible exact H | (rw [hy227]; exact H) | exact H
      have Ny227 := Aside0.mk hy227
      clear hy227
      have H' := Aside0.mk H
      clear H
      obtain ⟨Ao10, co10, eo10⟩ := Kd.R_slice HO_5.out
      subst eo10
      have p224 : 0 ≤ (x6_1 : Int) := of_decide_eq_true Z5
      have q224 : x6_1 < (x5_1.length : Int) := of_decide_eq_true Z5
      obtain ⟨ad224, e224, hx224_0⟩ := Kd.at_int (Kd.R_reads' HO_5.out).2.2 x6_1 p224 q224
      cases e224
      replace p224 := eq_true p224
      replace q224 := eq_true q224
      have p7 : 0 ≤ (x6_1 : Int) := of_decide_eq_true Z5
      have q7 : (x6_1 : Int) < ((x5_1.length : Int) : Int) := of_decide_eq_true Z5
      obtain ⟨go7, co7, eo7, gb7, gl7, cl7, HG7⟩ := Kd.R_form HO_5.out (by omega)
      (first | cases eo7 | (injection eo7 with ea_ en_ ec_; (first | subst ea_ | (injection ea_ with ea_; subst ea_)); subst ec_; clear en_))
      have GB7 := Aside0.mk gb7
      have GG7 := Aside0.mk HG7
      clear gb7 gl7 HG7
      (first | simp only [add_plain] at hx224_0 | skip)
      obtain ⟨hx7_0, hf7_0⟩ := Kd.R_celln 0 HO_5.out (x6_1 : Int) p7 q7
      replace p7 := eq_true p7
      replace q7 := eq_true q7
      have HP11 := Kd.R_putg HO_5.out (x6_1 : Int) (((rd x5_1 x6_1) * 16) % 4294967296)
      go_wp2_with (first | ((with_reducible refine gate_store (t := 47) (p := 22) rfl ?_); refine store_event (t := 47) (p := 22) (v := ?vo_w12) (w1 := (wr.setCell ⟨go7, (x6_1 : Int).toNat, none⟩ (.int .u32 (((rd x5_1 x6_1) * 16) % 4294967296)))) (by rfl) (by rfl) (by rfl) Z8 ?_; intro w12 hw; have hg : wr.grownBy w12 (some go7) := (by rw [hw]; exact HP11.2); have hp_ : Kd.R (Kd.int .u32) 47 w12 w.heap.size (fun _ => True) (.slice (some ⟨go7, 0, none⟩) x5_1.length co10) y225 := (by rw [hw, Ny225.out]; exact HP11.1); clear HP11; replace HO_5 := Z (hp_); replace HB := Z ((by rw [hw]; exact below_set (HB.out) GB7.out : Below w.heap.size w w12)); clear hg hw hp_; have p226 : 0 ≤ (x6_1 : Int) := of_decide_eq_true Z5; have q226 : x6_1 < (y225.length : Int) := (by have h_ : (x6_1 : Int) < ((x5_1.length : Int) : Int) := of_decide_eq_true Z5; first | (have e_ := (Kd.R_reads' HO_5.out).1; omega) | simpa only [Ny225.out, List.length_set] using h_); have ql226 : ((x6_1 : Int) < ((x5_1.length : Int) : Int)) = True := eq_true (of_decide_eq_true Z5); obtain ⟨ad226, e226, hx226_0⟩ := Kd.at_int (Kd.R_reads' HO_5.out).2.2 x6_1 p226 q226; obtain rfl : (⟨go7, 0, none⟩ : Addr) = ad226 := (by injection e226); (first | simp only [add_plain] at hx226_0 | simp only [add_at] at hx226_0 | simp only [Addr.add, Nat.zero_add] at hx226_0 | skip); replace p226 := eq_true p226; replace q226 := eq_true q226; have p9 : 0 ≤ (x6_1 : Int) := of_decide_eq_true Z5; have q9 : (x6_1 : Int) < ((x5_1.length : Int) : Int) := of_decide_eq_true Z5; obtain ⟨hx9_0, hf9_0⟩ := Kd.R_celln 0 HO_5.out (x6_1 : Int) p9 q9; replace p9 := eq_true p9; replace q9 := eq_true q9; obtain ⟨hy13_, hz13_⟩ := Kd.R_celln 0 HO_5.out (x6_1 : Int) (of_decide_eq_true Z5) (of_decide_eq_true Z5); have HP13 := Kd.R_putg HO_5.out (x6_1 : Int) (((rd y225 x6_1) + a0) % 4294967296)) | ((with_reducible refine gate_store (t := 47) (p := 33) rfl ?_); refine store_event (t := 47) (p := 33) (v := ?vo_w14) (w1 := (w12.setCell ⟨go7, (x6_1 : Int).toNat, none⟩ (.int .u32 (((rd y225 x6_1) + a0) % 4294967296)))) (by rfl) (by rfl) (by rfl) Z8 ?_; intro w14 hw; have hg : w12.grownBy w14 (some go7) := (by rw [hw]; exact HP13.2); have hp_ : Kd.R (Kd.int .u32) 47 w14 w.heap.size (fun _ => True) (.slice (some ⟨go7, 0, none⟩) x5_1.length co10) y227 := (by rw [hw, Ny227.out]; exact HP13.1); clear HP13; replace HO_5 := Z (hp_); replace HB := Z ((by rw [hw]; exact below_set (HB.out) GB7.out : Below w.heap.size w w14)); clear hg hw hp_))
      go_roundg k1
      case measure => have := HK1.out; omega
      case rel => exact ⟨(y227), (wrap64 (x6_1 + 1)), Z3, H', ⟨Z6⟩, ⟨(Z14 HO_5)⟩, ⟨Z68⟩⟩
     ·rw [if_neg c8] at H
      have c8b0 : (x6_1 == 0) = false := beq_eq_false_iff_ne.mpr c8
      have c8b1 : (x6_1 != 0) = true := bne_iff_ne.mpr c8
      have H' := Aside0.mk H
      clear H
      obtain ⟨Ao15, co15, eo15⟩ := Kd.R_slice HO_5.out
      subst eo15
      have p224 : 0 ≤ (x6_1 : Int) := of_decide_eq_true Z5
      have q224 : x6_1 < (x5_1.length : Int) := of_decide_eq_true Z5
      obtain ⟨ad224, e224, hx224_0⟩ := Kd.at_int (Kd.R_reads' HO_5.out).2.2 x6_1 p224 q224
      cases e224
      replace p224 := eq_true p224
      replace q224 := eq_true q224
      have p7 : 0 ≤ (x6_1 : Int) := of_decide_eq_true Z5
      have q7 : (x6_1 : Int) < ((x5_1.length : Int) : Int) := of_decide_eq_true Z5
      obtain ⟨go7, co7, eo7, gb7, gl7, cl7, HG7⟩ := Kd.R_form HO_5.out (by omega)
      (first | cases eo7 | (injection eo7 with ea_ en_ ec_; (first | subst ea_ | (injection ea_ with ea_; subst ea_)); subst ec_; clear en_))
      have GB7 := Aside0.mk gb7
      have GG7 := Aside0.mk HG7
      clear gb7 gl7 HG7
      (first | simp only [add_plain] at hx224_0 | skip)
      obtain ⟨hx7_0, hf7_0⟩ := Kd.R_celln 0 HO_5.out (x6_1 : Int) p7 q7
      replace p7 := eq_true p7
      replace q7 := eq_true q7
      have HP16 := Kd.R_putg HO_5.out (x6_1 : Int) (((rd x5_1 x6_1) * 16) % 4294967296)
      go_wp2_with (first | ((with_reducible refine gate_store (t := 47) (p := 22) rfl ?_); refine store_event (t := 47) (p := 22) (v := ?vo_w17) (w1 := (wr.setCell ⟨go7, (x6_1 : Int).toNat, none⟩ (.int .u32 (((rd x5_1 x6_1) * 16) % 4294967296)))) (by rfl) (by rfl) (by rfl) Z8 ?_; intro w17 hw; have hg : wr.grownBy w17 (some go7) := (by rw [hw]; exact HP16.2); have hp_ : Kd.R (Kd.int .u32) 47 w17 w.heap.size (fun _ => True) (.slice (some ⟨go7, 0, none⟩) x5_1.length co15) y225 := (by rw [hw, Ny225.out]; exact HP16.1); clear HP16; replace HO_5 := Z (hp_); replace HB := Z ((by rw [hw]; exact below_set (HB.out) GB7.out : Below w.heap.size w w17)); clear hg hw hp_))
      go_roundg k1
      case measure => have := HK1.out; omega
      case rel => exact ⟨(y225), (wrap64 (x6_1 + 1)), Z3, H', ⟨Z6⟩, ⟨(Z14 HO_5)⟩, ⟨Z68⟩⟩
    ·rw [if_neg c6] at H
     exact absurd H (by simp)
   ·rw [if_neg c5] at H
    have c5b0 : decide (x6_1 < (x5_1.length : Int)) = false := decide_eq_false c5
    clear c5
    obtain rfl := Option.some.inj H
    obtain ⟨Ao18, co18, eo18⟩ := Kd.R_slice HO_5.out
    subst eo18
    go_wp2
    go_ret
    exact ⟨_, Z13, (Z14 HO_5), Z68⟩

end Go.Proofs.Ytkkiibjnpkjijaa.QFnExactItemsOf
