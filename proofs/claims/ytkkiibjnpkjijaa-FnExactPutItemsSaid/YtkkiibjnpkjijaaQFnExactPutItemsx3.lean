/-
Plain functions for the Go functions that a law reaches, each with a proof that the translation's call comes to just that; no conditions beyond those written in each.
-/
import Derived.Test.YtkkiibjnpkjijaaSFnExactPutItems
import Derived.Test.YtkkiibjnpkjijaaQFnExactPutItemsx2
namespace Go.Proofs.Ytkkiibjnpkjijaa.QFnExactPutItems
open Go.RowKit Go.Proofs.YtkkiibjnpkjijaaW.PrintWords Go.Proofs.YtkkiibjnpkjijaaW.PrintLast Go.Proofs.YtkkiibjnpkjijaaW.PrintMore
attribute [local go_sem] max2_int min2_int max_two min_two max_three min_three max_four min_four   -- for this text's walks alone
set_option linter.unusedVariables false
set_option linter.unusedSimpArgs false

/-! ### laws_szItemS: function 44 -/
def laws_szItemS.l0 : Nat → List (S49) → Int → Int → Option (Int)
 | 0, _, _, _ => none
 | k + 1, x0, x1, x5 => if x5 < (x0.length : Int) then (if 0 ≤ x5 then ((laws_szItem.f ((rd_T49 x0 x5).f0) ((rd_T49 x0 x5).f1) ((rd_T49 x0 x5).f2) ((rd_T49 x0 x5).f3) ((rd_T49 x0 x5).f4) x1).bind fun t128 => (if t128 < 0 then (some (-1)) else (laws_szItemS.l0 k x0 t128 (wrap64 (x5 + 1))))) else (none)) else (some x1)
def laws_szItemS.f (k : Nat) (l0 : List (S49)) (a1 : Int) : Option (Int) := if (wrap64 (a1 - (l0.length : Int))) < 0 then (some (-1)) else (laws_szItemS.l0 k l0 (wrap64 (a1 - (l0.length : Int))) 0)
theorem laws_szItemS.mono_l : ∀ k, (∀ y0 y1 y2, LeO (laws_szItemS.l0 k y0 y1 y2) (laws_szItemS.l0 (k + 1) y0 y1 y2))
 | 0 => fun _ _ _ r h => by simp [laws_szItemS.l0] at h
 | k + 1 => by
  have ih0 := laws_szItemS.mono_l k
  ·intro y0 y1 y2
   unfold laws_szItemS.l0
   repeat' first
   | (with_reducible exact ih0 _ _ _)
   | (with_reducible exact LeO.refl _)
   | (with_reducible exact LeO.none _)
   | (with_reducible refine LeO.ite ?_ ?_)
   | (with_reducible refine LeO.bind ?_ (fun _ => ?_))
   | exact ih0 _ _ _
   | exact LeO.none _
   | refine LeO.ite ?_ ?_
   | refine LeO.bind ?_ (fun _ => ?_)
theorem laws_szItemS.mono : ∀ a0 a1 k, LeO (laws_szItemS.f k a0 a1) (laws_szItemS.f (k + 1) a0 a1) := by
 intro a0 a1 k
 have ih0 := laws_szItemS.mono_l k
 unfold laws_szItemS.f
 repeat' first
   | (with_reducible exact ih0 _ _ _)
   | (with_reducible exact LeO.refl _)
   | (with_reducible exact LeO.none _)
   | (with_reducible refine LeO.ite ?_ ?_)
   | (with_reducible refine LeO.bind ?_ (fun _ => ?_))
   | exact ih0 _ _ _
   | exact LeO.none _
   | refine LeO.ite ?_ ?_
   | refine LeO.bind ?_ (fun _ => ?_)
set_option maxHeartbeats 8000000 in
set_option maxRecDepth 100000 in
theorem laws_szItemS.calls (k : Nat) (A0 : Option Addr) (c0 : Nat) (l0 : List (S49)) (a1 : Int) (r : Int) (w : World) (hr0 : Kd.C k49 w A0 l0.length l0) (hc0 : l0.length ≤ c0) (h : laws_szItemS.f k l0 a1 = some r) :
  Calls Try.prog 44 #[.slice A0 l0.length c0, .int .i64 a1] w fun e w' => e = .returned (.int .i64 r) ∧ Below w.heap.size w w' := by
 have hu49 := Try.underlying49
 have HR0 := Aside0.mk hr0
 have HC0 := Aside0.mk hc0
 clear hr0 hc0
 have HB := Z (Below.refl w.heap.size w)
 have H : (if (wrap64 (a1 - (l0.length : Int))) < 0 then (some (-1)) else (laws_szItemS.l0 k l0 (wrap64 (a1 - (l0.length : Int))) 0)) = some r := h
 clear h
 by_cases c3 : (wrap64 (a1 - (l0.length : Int))) < 0
 ·rw [if_pos c3] at H
  have c3b0 : decide ((wrap64 (a1 - (l0.length : Int))) < 0) = true := decide_eq_true c3
  clear c3
  obtain rfl := Option.some.inj H
  go_enter Try.func44, Try.ntmps44
  go_wp2
  go_ret
  exact ⟨Z13, Z42⟩
 ·rw [if_neg c3] at H
  have c3b0 : decide ((wrap64 (a1 - (l0.length : Int))) < 0) = false := decide_eq_false c3
  clear c3
  have H' := Aside0.mk H
  clear H
  go_enter Try.func44, Try.ntmps44
  go_wp2
  go_loopg [1, 5] k (fun kq v1 v5 w' => ∃ (x1_1 : Int) (x5_1 : Int), v1 = .int .i64 x1_1 ∧ v5 = .int .i64 x5_1 ∧ Aside0 (laws_szItemS.l0 kq l0 x1_1 x5_1 = some r) ∧ Aside0 (kq ≤ k) ∧ Aside0 (Below w.heap.size w w'))
  case atStart => exact ⟨(wrap64 (a1 - (l0.length : Int))), (0), Z3, Z3, H', ⟨Nat.le_refl _⟩, ⟨Z42⟩⟩
  case round =>
   clear H'
   try clear p2
   try clear c3
   try clear c3b0
   obtain ⟨x1_1, x5_1, rfl, rfl, HA, HK1, HB⟩ := hrel
   cases gk with
   | zero => exact absurd HA.out (by simp [laws_szItemS.l0])
   | succ k1 =>
    have H := HA.out
    clear HA
    simp only [laws_szItemS.l0] at H
    by_cases c4 : x5_1 < (l0.length : Int)
    ·rw [if_pos c4] at H
     have c4b0 : decide (x5_1 < (l0.length : Int)) = true := decide_eq_true c4
     clear c4
     by_cases c5 : 0 ≤ x5_1
     ·rw [if_pos c5] at H
      have c5b0 : decide (0 ≤ x5_1) = true := decide_eq_true c5
      clear c5
      replace H := Option.bind_eq_some_iff.mp H
      obtain ⟨t128, A60, H⟩ := H
      replace H : (if t128 < 0 then (some (-1)) else (laws_szItemS.l0 k1 l0 t128 (wrap64 (x5_1 + 1)))) = some r := H
      have A6 := Aside0.mk A60
      clear A60
      by_cases c7 : t128 < 0
      ·rw [if_pos c7] at H
       have c7b0 : decide (t128 < 0) = true := decide_eq_true c7
       clear c7
       obtain rfl := Option.some.inj H
       have p127 : 0 ≤ (x5_1 : Int) := of_decide_eq_true Z5
       have q127 : x5_1 < (l0.length : Int) := of_decide_eq_true Z5
       obtain ⟨ad127, e127, hx127_0, hx127_1, hx127_2, hx127_3, hx127_4⟩ := at_T49 HR0.out x5_1 p127 q127
       cases e127
       replace hx127_0 := (HB.out.cell (World.block_lt_of_cell? w _ hx127_0)).trans hx127_0
       replace hx127_1 := (HB.out.cell (World.block_lt_of_cell? w _ hx127_1)).trans hx127_1
       replace hx127_2 := (HB.out.cell (World.block_lt_of_cell? w _ hx127_2)).trans hx127_2
       replace hx127_3 := (HB.out.cell (World.block_lt_of_cell? w _ hx127_3)).trans hx127_3
       replace hx127_4 := (HB.out.cell (World.block_lt_of_cell? w _ hx127_4)).trans hx127_4
       replace p127 := eq_true p127
       replace q127 := eq_true q127
       go_wp2_with (first | ((with_reducible refine gate_callee (f := 33) rfl ?_); refine goesL_ (some 23) rfl rfl Try.func33 Z0 rfl #[.agg #[.int .i64 ((rd_T49 l0 x5_1).f0), .string ((rd_T49 l0 x5_1).f1), .int .i32 ((rd_T49 l0 x5_1).f2), .bool ((rd_T49 l0 x5_1).f3), .int .u32 ((rd_T49 l0 x5_1).f4)], .int .i64 x1_1] rfl Z11 ?_; (with_reducible refine (laws_szItem.calls ((rd_T49 l0 x5_1).f0) ((rd_T49 l0 x5_1).f1) ((rd_T49 l0 x5_1).f2) ((rd_T49 l0 x5_1).f3) ((rd_T49 l0 x5_1).f4) x1_1 t128 _ A6.out).mono ?_); rintro e w8 ⟨rfl, hb⟩; refine ⟨_, rfl, ?_⟩; replace HB := Z (below_step Z42 hb); (try clear hb); (try clear hb2); (try clear hk); (try clear hi)))
       go_ret
       exact ⟨Z13, Z42⟩
      ·rw [if_neg c7] at H
       have c7b0 : decide (t128 < 0) = false := decide_eq_false c7
       clear c7
       have H' := Aside0.mk H
       clear H
       have p127 : 0 ≤ (x5_1 : Int) := of_decide_eq_true Z5
       have q127 : x5_1 < (l0.length : Int) := of_decide_eq_true Z5
       obtain ⟨ad127, e127, hx127_0, hx127_1, hx127_2, hx127_3, hx127_4⟩ := at_T49 HR0.out x5_1 p127 q127
       cases e127
       replace hx127_0 := (HB.out.cell (World.block_lt_of_cell? w _ hx127_0)).trans hx127_0
       replace hx127_1 := (HB.out.cell (World.block_lt_of_cell? w _ hx127_1)).trans hx127_1
       replace hx127_2 := (HB.out.cell (World.block_lt_of_cell? w _ hx127_2)).trans hx127_2
       replace hx127_3 := (HB.out.cell (World.block_lt_of_cell? w _ hx127_3)).trans hx127_3
       replace hx127_4 := (HB.out.cell (World.block_lt_of_cell? w _ hx127_4)).trans hx127_4
       replace p127 := eq_true p127
       replace q127 := eq_true q127
       go_wp2_with (first | ((with_reducible refine gate_callee (f := 33) rfl ?_); refine goesL_ (some 23) rfl rfl Try.func33 Z0 rfl #[.agg #[.int .i64 ((rd_T49 l0 x5_1).f0), .string ((rd_T49 l0 x5_1).f1), .int .i32 ((rd_T49 l0 x5_1).f2), .bool ((rd_T49 l0 x5_1).f3), .int .u32 ((rd_T49 l0 x5_1).f4)], .int .i64 x1_1] rfl Z11 ?_; (with_reducible refine (laws_szItem.calls ((rd_T49 l0 x5_1).f0) ((rd_T49 l0 x5_1).f1) ((rd_T49 l0 x5_1).f2) ((rd_T49 l0 x5_1).f3) ((rd_T49 l0 x5_1).f4) x1_1 t128 _ A6.out).mono ?_); rintro e w9 ⟨rfl, hb⟩; refine ⟨_, rfl, ?_⟩; replace HB := Z (below_step Z42 hb); (try clear hb); (try clear hb2); (try clear hk); (try clear hi)))
       go_roundg k1
       case measure => have := HK1.out; omega
       case rel => exact ⟨(t128), (wrap64 (x5_1 + 1)), Z3, Z3, H', ⟨Z6⟩, ⟨Z42⟩⟩
     ·rw [if_neg c5] at H
      exact absurd H (by simp)
    ·rw [if_neg c4] at H
     have c4b0 : decide (x5_1 < (l0.length : Int)) = false := decide_eq_false c4
     clear c4
     obtain rfl := Option.some.inj H
     go_wp2
     go_ret
     exact ⟨Z13, Z42⟩

/-! ### spec_StoreOk: function 104 -/
def spec_StoreOk.f (l0_0 : List Int) : Option (Bool) := if ((l0_0.length : Int) % 64) = 0 then (some (decide ((l0_0.length : Int) ≤ 768))) else (some false)
set_option maxHeartbeats 8000000 in
set_option maxRecDepth 100000 in
theorem spec_StoreOk.calls (A0_0 : Option Addr) (c0_0 : Nat) (l0_0 : List Int) (r : Bool) (w : World) (hr0_0 : Kd.C (Kd.int .u32) w A0_0 l0_0.length l0_0) (hc0_0 : l0_0.length ≤ c0_0) (h : spec_StoreOk.f l0_0 = some r) :
  Calls Try.prog 104 #[.agg #[.slice A0_0 l0_0.length c0_0]] w fun e w' => e = .returned (.bool r) ∧ Below w.heap.size w w' := by
 have hu34 := Try.underlying34
 have HR0_0 := Aside0.mk hr0_0
 have HC0_0 := Aside0.mk hc0_0
 clear hr0_0 hc0_0
 have HB := Z (Below.refl w.heap.size w)
 have H : (if ((l0_0.length : Int) % 64) = 0 then (some (decide ((l0_0.length : Int) ≤ 768))) else (some false)) = some r := h
 clear h
 by_cases c2 : ((l0_0.length : Int) % 64) = 0
 ·rw [if_pos c2] at H
  have c2b0 : (((l0_0.length : Int) % 64) == 0) = true := beq_iff_eq.mpr c2
  have c2b1 : (((l0_0.length : Int) % 64) != 0) = false := bne_eq_false_iff_eq.mpr c2
  clear c2
  obtain rfl := Option.some.inj H
  go_enter Try.func104, Try.ntmps104
  go_wp2_with (first | ((with_reducible refine gate_dst (N := 1) rfl ?_); (try (refine gate_guard (by rfl) ?_; dsimp only)); refine box_event (by rfl) (N := 1) (by rfl) (cs := #[.slice A0_0 l0_0.length c0_0]) (t := 34) Z8 ?_; intro gb129 hg w3 hbox hb; have BK129 := Z (hbox); have GW129 := Z ((Z63 : w.heap.size ≤ gb129)); have GE129 := Z ((Z63 : w.heap.size ≤ gb129)); replace HB := Z (below_step Z42 hb); clear hb hbox hg; have hcz4_0 : w3.cell? ⟨gb129, 0, none⟩ = some (.slice A0_0 l0_0.length c0_0) := (blk_cell BK129.out 0).trans rfl; have hfz4_0 := blk_frozen BK129.out 0))
  go_ret
  exact ⟨Z13, Z42⟩
 ·rw [if_neg c2] at H
  have c2b0 : (((l0_0.length : Int) % 64) == 0) = false := beq_eq_false_iff_ne.mpr c2
  have c2b1 : (((l0_0.length : Int) % 64) != 0) = true := bne_iff_ne.mpr c2
  obtain rfl := Option.some.inj H
  go_enter Try.func104, Try.ntmps104
  go_wp2_with (first | ((with_reducible refine gate_dst (N := 1) rfl ?_); (try (refine gate_guard (by rfl) ?_; dsimp only)); refine box_event (by rfl) (N := 1) (by rfl) (cs := #[.slice A0_0 l0_0.length c0_0]) (t := 34) Z8 ?_; intro gb129 hg w5 hbox hb; have BK129 := Z (hbox); have GW129 := Z ((Z63 : w.heap.size ≤ gb129)); have GE129 := Z ((Z63 : w.heap.size ≤ gb129)); replace HB := Z (below_step Z42 hb); clear hb hbox hg; have hcz6_0 : w5.cell? ⟨gb129, 0, none⟩ = some (.slice A0_0 l0_0.length c0_0) := (blk_cell BK129.out 0).trans rfl; have hfz6_0 := blk_frozen BK129.out 0))
  go_ret
  exact ⟨Z13, Z42⟩

/-! ### spec_l05Has: function 76 -/
def spec_l05Has.f (l0_0 : List Int) (a1 : Int) : Option (Bool) := (spec_StoreOk.f l0_0).bind fun t131 => (if t131 = true then (if a1 ≥ 0 then (some (decide (a1 < (wrap64 ((l0_0.length : Int) / 64))))) else (some false)) else (some false))
set_option maxHeartbeats 8000000 in
set_option maxRecDepth 100000 in
theorem spec_l05Has.calls (A0_0 : Option Addr) (c0_0 : Nat) (l0_0 : List Int) (a1 : Int) (r : Bool) (w : World) (hr0_0 : Kd.C (Kd.int .u32) w A0_0 l0_0.length l0_0) (hc0_0 : l0_0.length ≤ c0_0) (h : spec_l05Has.f l0_0 a1 = some r) :
  Calls Try.prog 76 #[.agg #[.slice A0_0 l0_0.length c0_0], .int .i64 a1] w fun e w' => e = .returned (.bool r) ∧ Below w.heap.size w w' := by
 have hu34 := Try.underlying34
 have HR0_0 := Aside0.mk hr0_0
 have HC0_0 := Aside0.mk hc0_0
 clear hr0_0 hc0_0
 have HB := Z (Below.refl w.heap.size w)
 have H : ((spec_StoreOk.f l0_0).bind fun t131 => (if t131 = true then (if a1 ≥ 0 then (some (decide (a1 < (wrap64 ((l0_0.length : Int) / 64))))) else (some false)) else (some false))) = some r := h
 clear h
 replace H := Option.bind_eq_some_iff.mp H
 obtain ⟨t131, A30, H⟩ := H
 replace H : (if t131 = true then (if a1 ≥ 0 then (some (decide (a1 < (wrap64 ((l0_0.length : Int) / 64))))) else (some false)) else (some false)) = some r := H
 have A3 := Aside0.mk A30
 clear A30
 by_cases c4 : t131 = true
 ·subst c4
  have H1 : (if a1 ≥ 0 then (some (decide (a1 < (wrap64 ((l0_0.length : Int) / 64))))) else (some false)) = some r := Z7
  clear H
  have H := H1
  clear H1
  by_cases c5 : a1 ≥ 0
  ·rw [if_pos c5] at H
   have c5b0 : decide (0 ≤ a1) = true := decide_eq_true c5
   clear c5
   obtain rfl := Option.some.inj H
   go_enter Try.func76, Try.ntmps76
   go_wp2_with (first | ((with_reducible refine gate_dst (N := 2) rfl ?_); (try (refine gate_guard (by rfl) ?_; dsimp only)); refine box_event (by rfl) (N := 2) (by rfl) (cs := #[.slice A0_0 l0_0.length c0_0]) (t := 34) Z8 ?_; intro gb130 hg w6 hbox hb; have BK130 := Z (hbox); have GW130 := Z ((Z63 : w.heap.size ≤ gb130)); have GE130 := Z ((Z63 : w.heap.size ≤ gb130)); replace HB := Z (below_step Z42 hb); clear hb hbox hg; have hcz7_0 : w6.cell? ⟨gb130, 0, none⟩ = some (.slice A0_0 l0_0.length c0_0) := (blk_cell BK130.out 0).trans rfl; have hfz7_0 := blk_frozen BK130.out 0) | ((with_reducible refine gate_callee (f := 104) rfl ?_); refine goesL_ (some 6) rfl rfl Try.func104 Z0 rfl #[.agg #[.slice A0_0 l0_0.length c0_0]] rfl Z11 ?_; (with_reducible refine (spec_StoreOk.calls _ _ l0_0 true _ ?side1 ?side2 A3.out).mono ?_); (case side1 => exact (Z12 HR0_0)); (case side2 => exact HC0_0.out); rintro e w8 ⟨rfl, hb⟩; refine ⟨_, rfl, ?_⟩; replace BK130 := Z (blk_below (g := gb130) (o := .cells #[.slice A0_0 l0_0.length c0_0] 34 (0, 0)) (Z10 BK130) hb); replace HB := Z (below_step Z42 hb); (try clear hb); (try clear hb2); (try clear hk); (try clear hi); have hcz9_0 : w8.cell? ⟨gb130, 0, none⟩ = some (.slice A0_0 l0_0.length c0_0) := (blk_cell BK130.out 0).trans rfl; have hfz9_0 := blk_frozen BK130.out 0))
   go_ret
   exact ⟨Z13, Z42⟩
  ·rw [if_neg c5] at H
   have c5b0 : decide (0 ≤ a1) = false := decide_eq_false c5
   clear c5
   obtain rfl := Option.some.inj H
   go_enter Try.func76, Try.ntmps76
   go_wp2_with (first | ((with_reducible refine gate_dst (N := 2) rfl ?_); (try (refine gate_guard (by rfl) ?_; dsimp only)); refine box_event (by rfl) (N := 2) (by rfl) (cs := #[.slice A0_0 l0_0.length c0_0]) (t := 34) Z8 ?_; intro gb130 hg w10 hbox hb; have BK130 := Z (hbox); have GW130 := Z ((Z63 : w.heap.size ≤ gb130)); have GE130 := Z ((Z63 : w.heap.size ≤ gb130)); replace HB := Z (below_step Z42 hb); clear hb hbox hg; have hcz11_0 : w10.cell? ⟨gb130, 0, none⟩ = some (.slice A0_0 l0_0.length c0_0) := (blk_cell BK130.out 0).trans rfl; have hfz11_0 := blk_frozen BK130.out 0) | ((with_reducible refine gate_callee (f := 104) rfl ?_); refine goesL_ (some 6) rfl rfl Try.func104 Z0 rfl #[.agg #[.slice A0_0 l0_0.length c0_0]] rfl Z11 ?_; (with_reducible refine (spec_StoreOk.calls _ _ l0_0 true _ ?side1 ?side2 A3.out).mono ?_); (case side1 => exact (Z12 HR0_0)); (case side2 => exact HC0_0.out); rintro e w12 ⟨rfl, hb⟩; refine ⟨_, rfl, ?_⟩; replace BK130 := Z (blk_below (g := gb130) (o := .cells #[.slice A0_0 l0_0.length c0_0] 34 (0, 0)) (Z10 BK130) hb); replace HB := Z (below_step Z42 hb); (try clear hb); (try clear hb2); (try clear hk); (try clear hi)))
   go_ret
   exact ⟨Z13, Z42⟩
 ·replace c4 := Bool.eq_false_iff.mpr c4
  subst c4
  have H1 : (some false) = some r := by rw [if_neg (show ¬ (false = true) by decide)] at H; exact H
  clear H
  have H := H1
  clear H1
  obtain rfl := Option.some.inj H
  go_enter Try.func76, Try.ntmps76
  go_wp2_with (first | ((with_reducible refine gate_dst (N := 2) rfl ?_); (try (refine gate_guard (by rfl) ?_; dsimp only)); refine box_event (by rfl) (N := 2) (by rfl) (cs := #[.slice A0_0 l0_0.length c0_0]) (t := 34) Z8 ?_; intro gb130 hg w13 hbox hb; have BK130 := Z (hbox); have GW130 := Z ((Z63 : w.heap.size ≤ gb130)); have GE130 := Z ((Z63 : w.heap.size ≤ gb130)); replace HB := Z (below_step Z42 hb); clear hb hbox hg; have hcz14_0 : w13.cell? ⟨gb130, 0, none⟩ = some (.slice A0_0 l0_0.length c0_0) := (blk_cell BK130.out 0).trans rfl; have hfz14_0 := blk_frozen BK130.out 0) | ((with_reducible refine gate_callee (f := 104) rfl ?_); refine goesL_ (some 6) rfl rfl Try.func104 Z0 rfl #[.agg #[.slice A0_0 l0_0.length c0_0]] rfl Z11 ?_; (with_reducible refine (spec_StoreOk.calls _ _ l0_0 false _ ?side1 ?side2 A3.out).mono ?_); (case side1 => exact (Z12 HR0_0)); (case side2 => exact HC0_0.out); rintro e w15 ⟨rfl, hb⟩; refine ⟨_, rfl, ?_⟩; replace BK130 := Z (blk_below (g := gb130) (o := .cells #[.slice A0_0 l0_0.length c0_0] 34 (0, 0)) (Z10 BK130) hb); replace HB := Z (below_step Z42 hb); (try clear hb); (try clear hb2); (try clear hk); (try clear hi)))
  go_ret
  exact ⟨Z13, Z42⟩

/-! ### spec_PutBlock: function 40 -/
mutual
def spec_PutBlock.j0 : Nat → Int → List Int → Bool → List Int → Option (List Int × Bool)
 | 0, _, _, _, _ => none
 | k + 1, x1, x2, x18, x133000 => if x18 = true then (some (([] : List Int), false)) else ((some (([] : List Int) : List Int)).bind fun y135 => (if y135.length + x133000.length < 35184372088832 then (spec_PutBlock.l0 k x1 x2 (y135 ++ x133000) 0) else (none)))
def spec_PutBlock.l0 : Nat → Int → List Int → List Int → Int → Option (List Int × Bool)
 | 0, _, _, _, _ => none
 | k + 1, x1, x2, x8, x9 => if x9 < 64 then (if 0 ≤ (wrap64 ((wrap64 (x1 * 64)) + x9)) then (if (wrap64 ((wrap64 (x1 * 64)) + x9)) < (x8.length : Int) then ((some (x8.set ((wrap64 ((wrap64 (x1 * 64)) + x9)) : Int).toNat 0 : List Int)).bind fun y141 => (if x9 < (x2.length : Int) then (if 0 ≤ x9 then (spec_PutBlock.l0 k x1 x2 (y141.set ((wrap64 ((wrap64 (x1 * 64)) + x9)) : Int).toNat (rd x2 x9)) (wrap64 (x9 + 1))) else (none)) else (spec_PutBlock.l0 k x1 x2 y141 (wrap64 (x9 + 1))))) else (none)) else (none)) else (some (x8, true))
end
def spec_PutBlock.f (k : Nat) (l0_0 : List Int) (a1 : Int) (l2 : List Int) : Option (List Int × Bool) := (spec_l05Has.f l0_0 a1).bind fun t134 => (if t134 = true then (spec_PutBlock.j0 k a1 l2 (decide ((l2.length : Int) > 64)) l0_0) else (spec_PutBlock.j0 k a1 l2 true l0_0))
theorem spec_PutBlock.mono_l : ∀ k, (∀ y0 y1 y2 y3, LeO (spec_PutBlock.j0 k y0 y1 y2 y3) (spec_PutBlock.j0 (k + 1) y0 y1 y2 y3)) ∧ (∀ y0 y1 y2 y3, LeO (spec_PutBlock.l0 k y0 y1 y2 y3) (spec_PutBlock.l0 (k + 1) y0 y1 y2 y3))
 | 0 => ⟨fun _ _ _ _ r h => by simp [spec_PutBlock.j0] at h, fun _ _ _ _ r h => by simp [spec_PutBlock.l0] at h⟩
 | k + 1 => by
  obtain ⟨ih0, ih1⟩ := spec_PutBlock.mono_l k
  refine ⟨?_, ?_⟩
  ·intro y0 y1 y2 y3
   unfold spec_PutBlock.j0
   repeat' first
   | (with_reducible exact ih0 _ _ _ _)
   | (with_reducible exact ih1 _ _ _ _)
   | (with_reducible exact LeO.refl _)
   | (with_reducible exact LeO.none _)
   | (with_reducible refine LeO.ite ?_ ?_)
   | (with_reducible refine LeO.bind ?_ (fun _ => ?_))
   | exact ih0 _ _ _ _
   | exact ih1 _ _ _ _
   | exact LeO.none _
   | refine LeO.ite ?_ ?_
   | refine LeO.bind ?_ (fun _ => ?_)
  ·intro y0 y1 y2 y3
   unfold spec_PutBlock.l0
   repeat' first
   | (with_reducible exact ih0 _ _ _ _)
   | (with_reducible exact ih1 _ _ _ _)
   | (with_reducible exact LeO.refl _)
   | (with_reducible exact LeO.none _)
   | (with_reducible refine LeO.ite ?_ ?_)
   | (with_reducible refine LeO.bind ?_ (fun _ => ?_))
   | exact ih0 _ _ _ _
   | exact ih1 _ _ _ _
   | exact LeO.none _
   | refine LeO.ite ?_ ?_
   | refine LeO.bind ?_ (fun _ => ?_)
theorem spec_PutBlock.mono : ∀ a0 a1 a2 k, LeO (spec_PutBlock.f k a0 a1 a2) (spec_PutBlock.f (k + 1) a0 a1 a2) := by
 intro a0 a1 a2 k
 obtain ⟨ih0, ih1⟩ := spec_PutBlock.mono_l k
 unfold spec_PutBlock.f
 repeat' first
   | (with_reducible exact ih0 _ _ _ _)
   | (with_reducible exact ih1 _ _ _ _)
   | (with_reducible exact LeO.refl _)
   | (with_reducible exact LeO.none _)
   | (with_reducible refine LeO.ite ?_ ?_)
   | (with_reducible refine LeO.bind ?_ (fun _ => ?_))
   | exact ih0 _ _ _ _
   | exact ih1 _ _ _ _
   | exact LeO.none _
   | refine LeO.ite ?_ ?_
   | refine LeO.bind ?_ (fun _ => ?_)
set_option maxHeartbeats 8000000 in
set_option maxRecDepth 100000 in
theorem spec_PutBlock.calls (k : Nat) (A0_0 : Option Addr) (c0_0 : Nat) (l0_0 : List Int) (a1 : Int) (A2 : Option Addr) (c2 : Nat) (l2 : List Int) (r1 : List Int) (r2 : Bool) (w : World) (hr0_0 : Kd.C (Kd.int .u32) w A0_0 l0_0.length l0_0) (hc0_0 : l0_0.length ≤ c0_0) (hr2 : Kd.C (Kd.int .u32) w A2 l2.length l2) (hc2 : l2.length ≤ c2) (h : spec_PutBlock.f k l0_0 a1 l2 = some (r1, r2)) :
  Calls Try.prog 40 #[.agg #[.slice A0_0 l0_0.length c0_0], .int .i64 a1, .slice A2 l2.length c2] w fun e w' => ∃ v0_ : Value, e = .returned (.tuple #[.agg #[v0_], .bool r2]) ∧ Kd.R (Kd.int .u32) 47 w' w.heap.size (fun _ => True) v0_ r1 ∧ Below w.heap.size w w' := by
 have hu34 := Try.underlying34
 have HR0_0 := Aside0.mk hr0_0
 have HC0_0 := Aside0.mk hc0_0
 clear hr0_0 hc0_0
 have HR2 := Aside0.mk hr2
 have HC2 := Aside0.mk hc2
 clear hr2 hc2
 have HB := Z (Below.refl w.heap.size w)
 have H : ((spec_l05Has.f l0_0 a1).bind fun t134 => (if t134 = true then (spec_PutBlock.j0 k a1 l2 (decide ((l2.length : Int) > 64)) l0_0) else (spec_PutBlock.j0 k a1 l2 true l0_0))) = some (r1, r2) := h
 clear h
 have HC4 := Aside0.mk H
 clear H
 go_enter Try.func40, Try.ntmps40
 go_upto_region 1 with (first | ((with_reducible refine gate_dst (N := 3) rfl ?_); (try (refine gate_guard (by rfl) ?_; dsimp only)); refine box_event (by rfl) (N := 3) (by rfl) (cs := #[.slice A0_0 l0_0.length c0_0]) (t := 34) Z8 ?_; intro gb132 hg w5 hbox hb; have BK132 := Z (hbox); have GW132 := Z ((Z63 : w.heap.size ≤ gb132)); have GE132 := Z ((Z63 : w.heap.size ≤ gb132)); replace HB := Z (below_step Z42 hb); clear hb hbox hg) | ((with_reducible refine gate_dst (N := 6) rfl ?_); (try (refine gate_guard (by rfl) ?_; dsimp only)); refine box_event (by rfl) (N := 6) (by rfl) (cs := #[.slice none 0 0]) (t := 34) Z8 ?_; intro gb133 hg w6 hbox hb; have BK133 := Z (hbox); have GW133 := Z ((Z63 : w.heap.size ≤ gb133)); have GE133 := Z ((Z63 : w.heap.size ≤ gb133)); replace HB := Z (below_step Z42 hb); have NB132_133 := Z ((by rw [hg]; exact Nat.ne_of_lt (blk_lt (g := gb132) (o := .cells #[.slice A0_0 l0_0.length c0_0] 34 (0, 0)) (Z10 BK132)) : gb132 ≠ gb133)); have NB133_132 := Z ((by rw [hg]; exact Nat.ne_of_gt (blk_lt (g := gb132) (o := .cells #[.slice A0_0 l0_0.length c0_0] 34 (0, 0)) (Z10 BK132)) : gb133 ≠ gb132)); replace BK132 := Z (blk_below (g := gb132) (o := .cells #[.slice A0_0 l0_0.length c0_0] 34 (0, 0)) (Z10 BK132) hb); clear hb hbox hg))
 (try simp only [Act.put, List.setIfInBounds_toArray, List.set_cons_zero, List.set_cons_succ])
 go_cut [18] (fun v18 wc => ∃ (kq : Nat) (x18_3 : Bool), v18 = .bool x18_3 ∧ Aside0 (spec_PutBlock.j0 kq a1 l2 x18_3 l0_0 = some (r1, r2)) ∧ Aside0 (kq ≤ k) ∧ Aside0 (wc.heap[gb132]? = some (.cells #[(.slice A0_0 l0_0.length c0_0)] 34 (0, 0))) ∧ Aside0 (wc.heap[gb133]? = some (.cells #[(.slice none 0 0)] 34 (0, 0))) ∧ Aside0 (Below w.heap.size w wc))
 case first =>
  have H := HC4.out
  clear HC4
  replace H := Option.bind_eq_some_iff.mp H
  obtain ⟨t134, A70, H⟩ := H
  replace H : (if t134 = true then (spec_PutBlock.j0 k a1 l2 (decide ((l2.length : Int) > 64)) l0_0) else (spec_PutBlock.j0 k a1 l2 true l0_0)) = some (r1, r2) := H
  have A7 := Aside0.mk A70
  clear A70
  by_cases c8 : t134 = true
  ·subst c8
   have H1 : (spec_PutBlock.j0 k a1 l2 (decide ((l2.length : Int) > 64)) l0_0) = some (r1, r2) := Z7
   clear H
   have H := H1
   clear H1
   have H' := Aside0.mk H
   clear H
   have hnb9 := NB132_133.out
   have hnc9 := NB133_132.out
   have hcz10_0 : w6.cell? ⟨gb132, 0, none⟩ = some (.slice A0_0 l0_0.length c0_0) := (blk_cell BK132.out 0).trans rfl
   have hfz10_0 := blk_frozen BK132.out 0
   go_wp2_with (first | ((with_reducible refine gate_callee (f := 76) rfl ?_); refine goesL_ (some 12) rfl rfl Try.func76 Z0 rfl #[.agg #[.slice A0_0 l0_0.length c0_0], .int .i64 a1] rfl Z11 ?_; (with_reducible refine (spec_l05Has.calls _ _ l0_0 a1 true _ ?side1 ?side2 A7.out).mono ?_); (case side1 => exact (Z12 HR0_0)); (case side2 => exact HC0_0.out); rintro e w11 ⟨rfl, hb⟩; refine ⟨_, rfl, ?_⟩; replace BK132 := Z (blk_below (g := gb132) (o := .cells #[.slice A0_0 l0_0.length c0_0] 34 (0, 0)) (Z10 BK132) hb); replace BK133 := Z (blk_below (g := gb133) (o := .cells #[.slice none 0 0] 34 (0, 0)) (Z10 BK133) hb); replace HB := Z (below_step Z42 hb); (try clear hb); (try clear hb2); (try clear hk); (try clear hi)))
   go_meet
   case rel => exact ⟨_, (decide ((l2.length : Int) > 64)), Z3, H', ⟨Z17⟩, ⟨(Z10 BK132)⟩, ⟨(Z10 BK133)⟩, ⟨Z42⟩⟩
  ·replace c8 := Bool.eq_false_iff.mpr c8
   subst c8
   have H1 : (spec_PutBlock.j0 k a1 l2 true l0_0) = some (r1, r2) := by rw [if_neg (show ¬ (false = true) by decide)] at H; exact H
   clear H
   have H := H1
   clear H1
   have H' := Aside0.mk H
   clear H
   have hnb12 := NB132_133.out
   have hnc12 := NB133_132.out
   have hcz13_0 : w6.cell? ⟨gb132, 0, none⟩ = some (.slice A0_0 l0_0.length c0_0) := (blk_cell BK132.out 0).trans rfl
   have hfz13_0 := blk_frozen BK132.out 0
   go_wp2_with (first | ((with_reducible refine gate_callee (f := 76) rfl ?_); refine goesL_ (some 12) rfl rfl Try.func76 Z0 rfl #[.agg #[.slice A0_0 l0_0.length c0_0], .int .i64 a1] rfl Z11 ?_; (with_reducible refine (spec_l05Has.calls _ _ l0_0 a1 false _ ?side1 ?side2 A7.out).mono ?_); (case side1 => exact (Z12 HR0_0)); (case side2 => exact HC0_0.out); rintro e w14 ⟨rfl, hb⟩; refine ⟨_, rfl, ?_⟩; replace BK132 := Z (blk_below (g := gb132) (o := .cells #[.slice A0_0 l0_0.length c0_0] 34 (0, 0)) (Z10 BK132) hb); replace BK133 := Z (blk_below (g := gb133) (o := .cells #[.slice none 0 0] 34 (0, 0)) (Z10 BK133) hb); replace HB := Z (below_step Z42 hb); (try clear hb); (try clear hb2); (try clear hk); (try clear hi)))
   go_meet
   case rel => exact ⟨_, (true), Z3, H', ⟨Z17⟩, ⟨(Z10 BK132)⟩, ⟨(Z10 BK133)⟩, ⟨Z42⟩⟩
 case rest =>
  clear HC4
  try clear c1
  try clear c2
  try clear p2
  try clear c4
  try clear c7
  try clear c8
  try clear c9
  try clear c12
  try clear hcz10_0
  try clear hcz13_0
  try clear hfz10_0
  try clear hfz13_0
  obtain ⟨kq, x18_3, rfl, HA, HJ3, BK132, BK133, HB⟩ := hcut
  cases kq with
  | zero => exact absurd HA.out (by simp [spec_PutBlock.j0])
  | succ kj3 =>
   have H := HA.out
   clear HA
   simp only [spec_PutBlock.j0] at H
   by_cases c15 : x18_3 = true
   ·subst c15
    have H1 : (some (([] : List Int), false)) = some (r1, r2) := Z7
    clear H
    have H := H1
    clear H1
    simp only [Option.some.injEq, Prod.mk.injEq] at H
    obtain ⟨rfl, rfl⟩ := H
    have hnb16 := NB133_132.out
    have hnc16 := NB132_133.out
    have hcz17_0 : wc.cell? ⟨gb133, 0, none⟩ = some (.slice none 0 0) := (blk_cell BK133.out 0).trans rfl
    have hfz17_0 := blk_frozen BK133.out 0
    go_wp2
    refine bodyPost_ret (results_ct rfl _ _ gb133 34 #[.slice none 0 0] (0, 0) _ rfl (Z18 BK133) Try.underlying34 rfl Z0) rfl ?_
    exact ⟨_, Z13, Z19, Z42⟩
   ·replace c15 := Bool.eq_false_iff.mpr c15
    subst c15
    have H1 : ((some (([] : List Int) : List Int)).bind fun y135 => (if y135.length + l0_0.length < 35184372088832 then (spec_PutBlock.l0 kj3 a1 l2 (y135 ++ l0_0) 0) else (none))) = some (r1, r2) := by rw [if_neg (show ¬ (false = true) by decide)] at H; exact H
    clear H
    have H := H1
    clear H1
    obtain ⟨y135, hy135⟩ : ∃ y_ : List Int, y_ = (([] : List Int)) := ⟨_, rfl⟩
    replace H : (if y135.length + l0_0.length < 35184372088832 then (spec_PutBlock.l0 kj3 a1 l2 (y135 ++ l0_0) 0) else (none)) = some (r1, r2) := by first | (rw [hy135]; with_reducible exact H) | (have H2_ := (Option.bind_some _ _).symm.trans H; rw [hy135]; with_reducible exact H2_) | (have H2_ := (Option.bind_some _ _).symm.trans H; with_reducible exact H2_) | with_reducible exact H | (rw [hy135]; exact H) | exact H
    have Ny135 := Aside0.mk hy135
    clear hy135
    by_cases c18 : y135.length + l0_0.length < 35184372088832
    ·rw [if_pos c18] at H
     have LMc18 := Aside0.mk c18
     clear c18
     obtain ⟨y138, hy138⟩ : ∃ y_ : List Int, y_ = (y135 ++ l0_0) := ⟨_, rfl⟩
     replace H : (spec_PutBlock.l0 kj3 a1 l2 y138 0) = some (r1, r2) := by first | (rw [hy138]; with_reducible exact H) | (have H2_ := (Option.bind_some _ _).symm.trans H; rw [hy138]; with_reducible exact H2_) | (have H2_ := (Option.bind_some _ _).symm.trans H; with_reducible exact H2_) | with_reducible exact H | (rw [hy138]; exact H) | exact H
     have Ny138 := Aside0.mk hy138
     clear hy138
     have H' := Aside0.mk H
     clear H
     go_wp2_with (first | ((with_reducible refine gate_dst (N := 20) rfl ?_); (try (refine gate_guard (by rfl) ?_; dsimp only)); refine Kd.R_lit (Kd.int .u32) _ 47 (by rfl) (N := 20) (by rfl) (xs := ([] : List Int)) (inner := []) (ok := fun _ => True) (okp := fun _ => True) Z8 (Reps.none _ _) (fun _ hk => hk) trivial (Below.refl _ _) (Nat.le_refl _) (by simp) ?_; intro v136 w19 ho20 hb hg_ hnew_; clear hg_ hnew_; (first | rw [← Ny135.out] at ho20 | (simp only [Int.reduceToNat] at ho20; rw [← Ny135.out] at ho20)); have HO137 := Z (Kd.R_lower ho20 (below_size Z42)); replace BK132 := Z (blk_below (g := gb132) (o := .cells #[.slice A0_0 l0_0.length c0_0] 34 (0, 0)) (Z10 BK132) hb); replace BK133 := Z (blk_below (g := gb133) (o := .cells #[.slice none 0 0] 34 (0, 0)) (Z10 BK133) hb); replace HB := Z (below_step Z42 hb); clear hb ho20; have hnb21 := NB132_133.out; have hnc21 := NB133_132.out; have hcz22_0 : w19.cell? ⟨gb132, 0, none⟩ = some (.slice A0_0 l0_0.length c0_0) := (blk_cell BK132.out 0).trans rfl; have hfz22_0 := blk_frozen BK132.out 0) | ((with_reducible refine gate_builtin (b := .append) (xs := #[.tmp 20, .tmp 22]) rfl ?_); (try (refine gate_guard (by rfl) ?_; dsimp only)); at_builtin; refine Kd.R_append_rows (Kd.int .u32) (w0 := w) w.heap.size rfl (.tmp 20) (.tmp 22) 24 47 (.int .u32 0) 4 rfl Try.underlying24 info47 rfl (by decide) (by omega) v136 y135 l0_0 _ _ _ (fun _ => True) (fun _ => False) rfl rfl ?aO ?aR (fun _ _ h => h) (fun _ h => h.elim) ?aF ?aB ?aS ?aL ?_; (case aR => exact (Z12 HR0_0)); (case aB => exact Z42); (case aF => exact (fun _ _ => trivial)); (case aO => exact (Z14 HO137)); (case aS => exact (below_size Z42)); (case aL => have := LMc18.out; omega); intro v139 w23 ho hb hg hat; rw [← Ny138.out] at ho; replace BK132 := Z (blk_grown (g := gb132) (o := .cells #[.slice A0_0 l0_0.length c0_0] 34 (0, 0)) (Z10 BK132) hg (Kd.R_ne HO137.out BK132.out (by decide))); replace BK133 := Z (blk_grown (g := gb133) (o := .cells #[.slice none 0 0] 34 (0, 0)) (Z10 BK133) hg (Kd.R_ne HO137.out BK133.out (by decide))); replace HB := Z (hb); have HO140 := Z (ho); clear HO137; clear ho hb hg hat))
     go_loopg [9] kj3 (fun kq v9 w' => ∃ (x8_2 : List Int) (x9_2 : Int), v9 = .int .i64 x9_2 ∧ Aside0 (spec_PutBlock.l0 kq a1 l2 x8_2 x9_2 = some (r1, r2)) ∧ Aside0 (kq ≤ kj3) ∧ Aside0 (Kd.R (Kd.int .u32) 47 w' w.heap.size (fun _ => True) v139 x8_2) ∧ Aside0 (w'.heap[gb132]? = some (.cells #[(.slice A0_0 l0_0.length c0_0)] 34 (0, 0))) ∧ Aside0 (w'.heap[gb133]? = some (.cells #[(.slice none 0 0)] 34 (0, 0))) ∧ Aside0 (Below w.heap.size w w'))
     case atStart => exact ⟨(y138), (0), Z3, H', ⟨Nat.le_refl _⟩, ⟨(Z14 HO140)⟩, ⟨(Z10 BK132)⟩, ⟨(Z10 BK133)⟩, ⟨Z42⟩⟩
     case round =>
      clear H'
      try clear c1
      try clear c2
      try clear p2
      try clear c4
      try clear c7
      try clear c8
      try clear c9
      try clear c12
      try clear c15
      try clear c16
      try clear c18
      try clear c21
      try clear hcz10_0
      try clear hcz13_0
      try clear hcz17_0
      try clear hcz22_0
      try clear hfz10_0
      try clear hfz13_0
      try clear hfz17_0
      try clear hfz22_0
      try clear p2
      obtain ⟨x8_2, x9_2, rfl, HA, HK2, HO_8, BK132, BK133, HB⟩ := hrel
      cases gk with
      | zero => exact absurd HA.out (by simp [spec_PutBlock.l0])
      | succ k2 =>
       have H := HA.out
       clear HA
       simp only [spec_PutBlock.l0] at H
       by_cases c24 : x9_2 < 64
       ·rw [if_pos c24] at H
        have c24b0 : decide (x9_2 < 64) = true := decide_eq_true c24
        clear c24
        obtain ⟨ji25, hji25⟩ : ∃ j_ : Int, (wrap64 ((wrap64 (a1 * 64)) + x9_2)) = j_ := ⟨_, rfl⟩
        replace H : (if 0 ≤ (ji25) then (if (ji25) < (x8_2.length : Int) then ((some (x8_2.set ((ji25) : Int).toNat 0 : List Int)).bind fun y141 => (if x9_2 < (l2.length : Int) then (if 0 ≤ x9_2 then (spec_PutBlock.l0 k2 a1 l2 (y141.set ((ji25) : Int).toNat (rd l2 x9_2)) (wrap64 (x9_2 + 1))) else (none)) else (spec_PutBlock.l0 k2 a1 l2 y141 (wrap64 (x9_2 + 1))))) else (none)) else (none)) = some (r1, r2) := by first | (rw [hji25] at H; exact H) | (simp only [hji25] at H ⊢; exact H)
        have hji25w : (IntKind.i64.wrap ((wrap64 (a1 * 64)) + x9_2)) = ji25 := (i64_w _).trans hji25
        by_cases c26 : 0 ≤ (ji25)
        ·rw [if_pos c26] at H
         have c26b0 : decide (0 ≤ (ji25)) = true := decide_eq_true c26
         clear c26
         by_cases c27 : (ji25) < (x8_2.length : Int)
         ·rw [if_pos c27] at H
          have c27b0 : decide ((ji25) < (x8_2.length : Int)) = true := decide_eq_true c27
          clear c27
          obtain ⟨y141, hy141⟩ : ∃ y_ : List Int, y_ = (x8_2.set ((ji25) : Int).toNat 0) := ⟨_, rfl⟩
          replace H : (if x9_2 < (l2.length : Int) then (if 0 ≤ x9_2 then (spec_PutBlock.l0 k2 a1 l2 (y141.set ((ji25) : Int).toNat (rd l2 x9_2)) (wrap64 (x9_2 + 1))) else (none)) else (spec_PutBlock.l0 k2 a1 l2 y141 (wrap64 (x9_2 + 1)))) = some (r1, r2) := by first | (rw [hy141]; with_reducible exact H) | (have H2_ := (Option.bind_some _ _).symm.trans H; rw [hy141]; with_reducible exact H2_) | (have H2_ := (Option.bind_some _ _).symm.trans H; with_reducible exact H2_) | with_reducible exact H | (rw [hy141]; exact H) | exact H
          have Ny141 := Aside0.mk hy141
          clear hy141
          by_cases c29 : x9_2 < (l2.length : Int)
          ·rw [if_pos c29] at H
           have c29b0 : decide (x9_2 < (l2.length : Int)) = true := decide_eq_true c29
           clear c29
           by_cases c30 : 0 ≤ x9_2
           ·rw [if_pos c30] at H
            have c30b0 : decide (0 ≤ x9_2) = true := decide_eq_true c30
            clear c30
            obtain ⟨y143, hy143⟩ : ∃ y_ : List Int, y_ = (y141.set ((ji25) : Int).toNat (rd l2 x9_2)) := ⟨_, rfl⟩
            replace H : (spec_PutBlock.l0 k2 a1 l2 y143 (wrap64 (x9_2 + 1))) = some (r1, r2) := by first | (rw [hy143]; with_reducible exact H) | (have H2_ := (Option.bind_some _ _).symm.trans H; rw [hy143]; with_reducible exact H2_) | (have H2_ := (Option.bind_some _ _).symm.trans H; with_reducible exact H2_) | with_reducible exact H | (rw [hy143]; exact H) | exact H
            have Ny143 := Aside0.mk hy143
            clear hy143
            have H' := Aside0.mk H
            clear H
            have p28 : 0 ≤ ((ji25) : Int) := of_decide_eq_true Z5
            have q28 : ((ji25) : Int) < ((x8_2.length : Int) : Int) := of_decide_eq_true Z5
            obtain ⟨go28, co28, eo28, gb28, gl28, cl28, HG28⟩ := Kd.R_form HO_8.out (by omega)
            (first | cases eo28 | (injection eo28 with ea_ en_ ec_; (first | subst ea_ | (injection ea_ with ea_; subst ea_)); subst ec_; clear en_))
            have GB28 := Aside0.mk gb28
            have GG28 := Aside0.mk HG28
            clear gb28 gl28 HG28
            obtain ⟨hx28_0, hf28_0⟩ := Kd.R_celln 0 HO_8.out ((ji25) : Int) p28 q28
            replace p28 := eq_true p28
            replace q28 := eq_true q28
            have HP32 := Kd.R_putg HO_8.out ((ji25) : Int) 0
            go_wp2_with (first | ((with_reducible refine gate_store (t := 47) (p := 33) rfl ?_); refine store_event (t := 47) (p := 33) (v := ?vo_w33) (w1 := (wr.setCell ⟨go28, ((ji25) : Int).toNat, none⟩ (.int .u32 0))) (by rfl) (by rfl) (by rfl) Z8 ?_; intro w33 hw; have hg : wr.grownBy w33 (some go28) := (by rw [hw]; exact HP32.2); have hp_ : Kd.R (Kd.int .u32) 47 w33 w.heap.size (fun _ => True) (.slice (some ⟨go28, 0, none⟩) x8_2.length co28) y141 := (by rw [hw, Ny141.out]; exact HP32.1); clear HP32; replace BK132 := Z (blk_grown (g := gb132) (o := .cells #[.slice A0_0 l0_0.length c0_0] 34 (0, 0)) (Z10 BK132) hg (Kd.R_ne HO_8.out BK132.out (by decide))); replace BK133 := Z (blk_grown (g := gb133) (o := .cells #[.slice none 0 0] 34 (0, 0)) (Z10 BK133) hg (Kd.R_ne HO_8.out BK133.out (by decide))); replace HO_8 := Z (hp_); replace HB := Z ((by rw [hw]; exact below_set (HB.out) GB28.out : Below w.heap.size w w33)); clear hg hw hp_; have p142 : 0 ≤ (x9_2 : Int) := of_decide_eq_true Z5; have q142 : x9_2 < (l2.length : Int) := of_decide_eq_true Z5; obtain ⟨ad142, e142, hx142_0⟩ := Kd.at_int HR2.out x9_2 p142 q142; cases e142; replace hx142_0 := (HB.out.cell (World.block_lt_of_cell? w _ hx142_0)).trans hx142_0; replace p142 := eq_true p142; replace q142 := eq_true q142; have p31 : 0 ≤ ((ji25) : Int) := of_decide_eq_true Z5; have q31 : ((ji25) : Int) < ((x8_2.length : Int) : Int) := of_decide_eq_true Z5; obtain ⟨hx31_0, hf31_0⟩ := Kd.R_celln 0 HO_8.out ((ji25) : Int) p31 q31; replace p31 := eq_true p31; replace q31 := eq_true q31; obtain ⟨hy34_, hz34_⟩ := Kd.R_celln 0 HO_8.out ((ji25) : Int) (of_decide_eq_true Z5) (of_decide_eq_true Z5); have HP34 := Kd.R_putg HO_8.out ((ji25) : Int) (rd l2 x9_2)) | ((with_reducible refine gate_store (t := 47) (p := 47) rfl ?_); refine store_event (t := 47) (p := 47) (v := ?vo_w35) (w1 := (w33.setCell ⟨go28, ((ji25) : Int).toNat, none⟩ (.int .u32 (rd l2 x9_2)))) (by rfl) (by rfl) (by rfl) Z8 ?_; intro w35 hw; have hg : w33.grownBy w35 (some go28) := (by rw [hw]; exact HP34.2); have hp_ : Kd.R (Kd.int .u32) 47 w35 w.heap.size (fun _ => True) (.slice (some ⟨go28, 0, none⟩) x8_2.length co28) y143 := (by rw [hw, Ny143.out]; exact HP34.1); clear HP34; replace BK132 := Z (blk_grown (g := gb132) (o := .cells #[.slice A0_0 l0_0.length c0_0] 34 (0, 0)) (Z10 BK132) hg (Kd.R_ne HO_8.out BK132.out (by decide))); replace BK133 := Z (blk_grown (g := gb133) (o := .cells #[.slice none 0 0] 34 (0, 0)) (Z10 BK133) hg (Kd.R_ne HO_8.out BK133.out (by decide))); replace HO_8 := Z (hp_); replace HB := Z ((by rw [hw]; exact below_set (HB.out) GB28.out : Below w.heap.size w w35)); clear hg hw hp_))
            go_roundg k2
            case measure => have := HJ3.out; have := HK2.out; omega
            case rel => exact ⟨(y143), (wrap64 (x9_2 + 1)), Z3, H', ⟨by have := HJ3.out; have := HK2.out; omega⟩, ⟨(Z14 HO_8)⟩, ⟨(Z10 BK132)⟩, ⟨(Z10 BK133)⟩, ⟨Z42⟩⟩
           ·rw [if_neg c30] at H
            exact absurd H (by simp)
          ·rw [if_neg c29] at H
           have c29b0 : decide (x9_2 < (l2.length : Int)) = false := decide_eq_false c29
           clear c29
           have H' := Aside0.mk H
           clear H
           have p28 : 0 ≤ ((ji25) : Int) := of_decide_eq_true Z5
           have q28 : ((ji25) : Int) < ((x8_2.length : Int) : Int) := of_decide_eq_true Z5
           obtain ⟨go28, co28, eo28, gb28, gl28, cl28, HG28⟩ := Kd.R_form HO_8.out (by omega)
           (first | cases eo28 | (injection eo28 with ea_ en_ ec_; (first | subst ea_ | (injection ea_ with ea_; subst ea_)); subst ec_; clear en_))
           have GB28 := Aside0.mk gb28
           have GG28 := Aside0.mk HG28
           clear gb28 gl28 HG28
           obtain ⟨hx28_0, hf28_0⟩ := Kd.R_celln 0 HO_8.out ((ji25) : Int) p28 q28
           replace p28 := eq_true p28
           replace q28 := eq_true q28
           have HP36 := Kd.R_putg HO_8.out ((ji25) : Int) 0
           go_wp2_with (first | ((with_reducible refine gate_store (t := 47) (p := 33) rfl ?_); refine store_event (t := 47) (p := 33) (v := ?vo_w37) (w1 := (wr.setCell ⟨go28, ((ji25) : Int).toNat, none⟩ (.int .u32 0))) (by rfl) (by rfl) (by rfl) Z8 ?_; intro w37 hw; have hg : wr.grownBy w37 (some go28) := (by rw [hw]; exact HP36.2); have hp_ : Kd.R (Kd.int .u32) 47 w37 w.heap.size (fun _ => True) (.slice (some ⟨go28, 0, none⟩) x8_2.length co28) y141 := (by rw [hw, Ny141.out]; exact HP36.1); clear HP36; replace BK132 := Z (blk_grown (g := gb132) (o := .cells #[.slice A0_0 l0_0.length c0_0] 34 (0, 0)) (Z10 BK132) hg (Kd.R_ne HO_8.out BK132.out (by decide))); replace BK133 := Z (blk_grown (g := gb133) (o := .cells #[.slice none 0 0] 34 (0, 0)) (Z10 BK133) hg (Kd.R_ne HO_8.out BK133.out (by decide))); replace HO_8 := Z (hp_); replace HB := Z ((by rw [hw]; exact below_set (HB.out) GB28.out : Below w.heap.size w w37)); clear hg hw hp_))
           go_roundg k2
           case measure => have := HJ3.out; have := HK2.out; omega
           case rel => exact ⟨(y141), (wrap64 (x9_2 + 1)), Z3, H', ⟨by have := HJ3.out; have := HK2.out; omega⟩, ⟨(Z14 HO_8)⟩, ⟨(Z10 BK132)⟩, ⟨(Z10 BK133)⟩, ⟨Z42⟩⟩
         ·rw [if_neg c27] at H
          exact absurd H (by simp)
        ·rw [if_neg c26] at H
         exact absurd H (by simp)
       ·rw [if_neg c24] at H
        have c24b0 : decide (x9_2 < 64) = false := decide_eq_false c24
        clear c24
        simp only [Option.some.injEq, Prod.mk.injEq] at H
        obtain ⟨rfl, rfl⟩ := H
        obtain ⟨Ao38, co38, eo38⟩ := Kd.R_slice HO_8.out
        subst eo38
        have hnb39 := NB133_132.out
        have hnc39 := NB132_133.out
        have hcz40_0 : wr.cell? ⟨gb133, 0, none⟩ = some (.slice none 0 0) := (blk_cell BK133.out 0).trans rfl
        have hfz40_0 := blk_frozen BK133.out 0
        go_wp2
        refine bodyPost_ret (results_ct rfl _ _ gb133 34 #[.slice Ao38 x8_2.length co38] (0, 0) _ rfl (Z18 BK133) Try.underlying34 rfl Z0) rfl ?_
        exact ⟨_, Z13, by (with_reducible repeat (first | apply Kd.R_alloc | apply Kd.R_drewN | apply Kd.R_drew)); exact Kd.R_mono (Kd.R_far (p := ⟨gb133, 0, none⟩) (Kd.R_types HO_8.out BK133.out (by decide)) (fun _ hk => hk.2) (.slice Ao38 x8_2.length co38)) (fun _ hk => trivial), Z42⟩
    ·rw [if_neg c18] at H
     exact absurd H (by simp)

/-! ### spec_l04Num: function 108 -/
def spec_l04Num.f (a0 : Int) (a1 : Bool) (a2 : Int) (a3 : Int) : Option (List Int) := if a1 = true then (if a0 ≥ (-67108864) then (if a0 ≤ 67108863 then (some (([((((((a0) % 4294967296) * 32) % 4294967296) + 16) + a2) % 4294967296] : List Int))) else (some (([(16 + a3) % 4294967296, (a0) % 4294967296] : List Int)))) else (some (([(16 + a3) % 4294967296, (a0) % 4294967296] : List Int)))) else (if a0 ≥ (-67108864) then (if a0 ≤ 67108863 then (some (([((((((a0) % 4294967296) * 32) % 4294967296) + 0) + a2) % 4294967296] : List Int))) else (some (([(0 + a3) % 4294967296, (a0) % 4294967296] : List Int)))) else (some (([(0 + a3) % 4294967296, (a0) % 4294967296] : List Int))))
set_option maxHeartbeats 8000000 in
set_option maxRecDepth 100000 in
theorem spec_l04Num.calls (a0 : Int) (a1 : Bool) (a2 : Int) (a3 : Int) (r : List Int) (w : World) (h : spec_l04Num.f a0 a1 a2 a3 = some r) :
  Calls Try.prog 108 #[.int .i32 a0, .bool a1, .int .u32 a2, .int .u32 a3] w fun e w' => ∃ v0_ : Value, e = .returned (v0_) ∧ Kd.R (Kd.int .u32) 47 w' w.heap.size (fun _ => True) v0_ r ∧ Below w.heap.size w w' := by
 have HB := Z (Below.refl w.heap.size w)
 have H : (if a1 = true then (if a0 ≥ (-67108864) then (if a0 ≤ 67108863 then (some (([((((((a0) % 4294967296) * 32) % 4294967296) + 16) + a2) % 4294967296] : List Int))) else (some (([(16 + a3) % 4294967296, (a0) % 4294967296] : List Int)))) else (some (([(16 + a3) % 4294967296, (a0) % 4294967296] : List Int)))) else (if a0 ≥ (-67108864) then (if a0 ≤ 67108863 then (some (([((((((a0) % 4294967296) * 32) % 4294967296) + 0) + a2) % 4294967296] : List Int))) else (some (([(0 + a3) % 4294967296, (a0) % 4294967296] : List Int)))) else (some (([(0 + a3) % 4294967296, (a0) % 4294967296] : List Int))))) = some r := h
 clear h
 by_cases c5 : a1 = true
 ·subst c5
  have H1 : (if a0 ≥ (-67108864) then (if a0 ≤ 67108863 then (some (([((((((a0) % 4294967296) * 32) % 4294967296) + 16) + a2) % 4294967296] : List Int))) else (some (([(16 + a3) % 4294967296, (a0) % 4294967296] : List Int)))) else (some (([(16 + a3) % 4294967296, (a0) % 4294967296] : List Int)))) = some r := Z7
  clear H
  have H := H1
  clear H1
  by_cases c6 : a0 ≥ (-67108864)
  ·rw [if_pos c6] at H
   have c6b0 : decide ((-67108864) ≤ a0) = true := decide_eq_true c6
   clear c6
   by_cases c7 : a0 ≤ 67108863
   ·rw [if_pos c7] at H
    have c7b0 : decide (a0 ≤ 67108863) = true := decide_eq_true c7
    clear c7
    obtain ⟨y144, hy144⟩ : ∃ y_ : List Int, y_ = (([((((((a0) % 4294967296) * 32) % 4294967296) + 16) + a2) % 4294967296] : List Int)) := ⟨_, rfl⟩
    replace H : (some y144) = some r := by first | (rw [hy144]; with_reducible exact H) | (have H2_ := (Option.bind_some _ _).symm.trans H; rw [hy144]; with_reducible exact H2_) | (have H2_ := (Option.bind_some _ _).symm.trans H; with_reducible exact H2_) | with_reducible exact H | (rw [hy144]; exact H) | exact H
    have Ny144 := Aside0.mk hy144
    clear hy144
    obtain rfl := Option.some.inj H
    go_enter Try.func108, Try.ntmps108
    go_wp2_with (first | ((with_reducible refine gate_dst (N := 24) rfl ?_); refine Kd.R_lit (Kd.int .u32) _ 47 (by rfl) (N := 24) (by rfl) (xs := ([((((((a0) % 4294967296) * 32) % 4294967296) + 16) + a2) % 4294967296] : List Int)) (inner := [.int .u32 (((((((a0) % 4294967296) * 32) % 4294967296) + 16) + a2) % 4294967296)]) (ok := fun _ => True) (okp := fun _ => True) Z8 (Reps.one (show Kd.M (Kd.int .u32) _ _ _ (((((((a0) % 4294967296) * 32) % 4294967296) + 16) + a2) % 4294967296) [.int .u32 (((((((a0) % 4294967296) * 32) % 4294967296) + 16) + a2) % 4294967296)] from rfl) (Reps.none _ _)) (fun _ hk => hk) trivial (Below.refl _ _) (Nat.le_refl _) (by simp) ?_; intro v145 w8 ho9 hb hg_ hnew_; clear hg_ hnew_; (first | rw [← Ny144.out] at ho9 | (simp only [Int.reduceToNat] at ho9; rw [← Ny144.out] at ho9)); have HO146 := Z (Kd.R_lower ho9 (below_size Z42)); replace HB := Z (below_step Z42 hb); clear hb ho9))
    go_ret
    exact ⟨_, Z13, (Z14 HO146), Z42⟩
   ·rw [if_neg c7] at H
    have c7b0 : decide (a0 ≤ 67108863) = false := decide_eq_false c7
    clear c7
    obtain ⟨y147, hy147⟩ : ∃ y_ : List Int, y_ = (([(16 + a3) % 4294967296, (a0) % 4294967296] : List Int)) := ⟨_, rfl⟩
    replace H : (some y147) = some r := by first | (rw [hy147]; with_reducible exact H) | (have H2_ := (Option.bind_some _ _).symm.trans H; rw [hy147]; with_reducible exact H2_) | (have H2_ := (Option.bind_some _ _).symm.trans H; with_reducible exact H2_) | with_reducible exact H | (rw [hy147]; exact H) | exact H
    have Ny147 := Aside0.mk hy147
    clear hy147
    obtain rfl := Option.some.inj H
    go_enter Try.func108, Try.ntmps108
    go_wp2_with (first | ((with_reducible refine gate_dst (N := 30) rfl ?_); refine Kd.R_lit (Kd.int .u32) _ 47 (by rfl) (N := 30) (by rfl) (xs := ([(16 + a3) % 4294967296, (a0) % 4294967296] : List Int)) (inner := [.int .u32 ((16 + a3) % 4294967296), .int .u32 ((a0) % 4294967296)]) (ok := fun _ => True) (okp := fun _ => True) Z8 (Reps.one (show Kd.M (Kd.int .u32) _ _ _ ((16 + a3) % 4294967296) [.int .u32 ((16 + a3) % 4294967296)] from rfl) (Reps.one (show Kd.M (Kd.int .u32) _ _ _ ((a0) % 4294967296) [.int .u32 ((a0) % 4294967296)] from rfl) (Reps.none _ _))) (fun _ hk => hk) trivial (Below.refl _ _) (Nat.le_refl _) (by simp) ?_; intro v148 w10 ho11 hb hg_ hnew_; clear hg_ hnew_; (first | rw [← Ny147.out] at ho11 | (simp only [Int.reduceToNat] at ho11; rw [← Ny147.out] at ho11)); have HO149 := Z (Kd.R_lower ho11 (below_size Z42)); replace HB := Z (below_step Z42 hb); clear hb ho11))
    go_ret
    exact ⟨_, Z13, (Z14 HO149), Z42⟩
  ·rw [if_neg c6] at H
   have c6b0 : decide ((-67108864) ≤ a0) = false := decide_eq_false c6
   clear c6
   obtain ⟨y150, hy150⟩ : ∃ y_ : List Int, y_ = (([(16 + a3) % 4294967296, (a0) % 4294967296] : List Int)) := ⟨_, rfl⟩
   replace H : (some y150) = some r := by first | (rw [hy150]; with_reducible exact H) | (have H2_ := (Option.bind_some _ _).symm.trans H; rw [hy150]; with_reducible exact H2_) | (have H2_ := (Option.bind_some _ _).symm.trans H; with_reducible exact H2_) | with_reducible exact H | (rw [hy150]; exact H) | exact H
   have Ny150 := Aside0.mk hy150
   clear hy150
   obtain rfl := Option.some.inj H
   go_enter Try.func108, Try.ntmps108
   go_wp2_with (first | ((with_reducible refine gate_dst (N := 30) rfl ?_); refine Kd.R_lit (Kd.int .u32) _ 47 (by rfl) (N := 30) (by rfl) (xs := ([(16 + a3) % 4294967296, (a0) % 4294967296] : List Int)) (inner := [.int .u32 ((16 + a3) % 4294967296), .int .u32 ((a0) % 4294967296)]) (ok := fun _ => True) (okp := fun _ => True) Z8 (Reps.one (show Kd.M (Kd.int .u32) _ _ _ ((16 + a3) % 4294967296) [.int .u32 ((16 + a3) % 4294967296)] from rfl) (Reps.one (show Kd.M (Kd.int .u32) _ _ _ ((a0) % 4294967296) [.int .u32 ((a0) % 4294967296)] from rfl) (Reps.none _ _))) (fun _ hk => hk) trivial (Below.refl _ _) (Nat.le_refl _) (by simp) ?_; intro v151 w12 ho13 hb hg_ hnew_; clear hg_ hnew_; (first | rw [← Ny150.out] at ho13 | (simp only [Int.reduceToNat] at ho13; rw [← Ny150.out] at ho13)); have HO152 := Z (Kd.R_lower ho13 (below_size Z42)); replace HB := Z (below_step Z42 hb); clear hb ho13))
   go_ret
   exact ⟨_, Z13, (Z14 HO152), Z42⟩
 ·replace c5 := Bool.eq_false_iff.mpr c5
  subst c5
  have H1 : (if a0 ≥ (-67108864) then (if a0 ≤ 67108863 then (some (([((((((a0) % 4294967296) * 32) % 4294967296) + 0) + a2) % 4294967296] : List Int))) else (some (([(0 + a3) % 4294967296, (a0) % 4294967296] : List Int)))) else (some (([(0 + a3) % 4294967296, (a0) % 4294967296] : List Int)))) = some r := by rw [if_neg (show ¬ (false = true) by decide)] at H; exact H
  clear H
  have H := H1
  clear H1
  by_cases c14 : a0 ≥ (-67108864)
  ·rw [if_pos c14] at H
   have c14b0 : decide ((-67108864) ≤ a0) = true := decide_eq_true c14
   clear c14
   by_cases c15 : a0 ≤ 67108863
   ·rw [if_pos c15] at H
    have c15b0 : decide (a0 ≤ 67108863) = true := decide_eq_true c15
    clear c15
    obtain ⟨y153, hy153⟩ : ∃ y_ : List Int, y_ = (([((((((a0) % 4294967296) * 32) % 4294967296) + 0) + a2) % 4294967296] : List Int)) := ⟨_, rfl⟩
    replace H : (some y153) = some r := by first | (rw [hy153]; with_reducible exact H) | (have H2_ := (Option.bind_some _ _).symm.trans H; rw [hy153]; with_reducible exact H2_) | (have H2_ := (Option.bind_some _ _).symm.trans H; with_reducible exact H2_) | with_reducible exact H | (rw [hy153]; exact H) | exact H
    have Ny153 := Aside0.mk hy153
    clear hy153
    obtain rfl := Option.some.inj H
    go_enter Try.func108, Try.ntmps108
    go_wp2_with (first | ((with_reducible refine gate_dst (N := 24) rfl ?_); refine Kd.R_lit (Kd.int .u32) _ 47 (by rfl) (N := 24) (by rfl) (xs := ([((((((a0) % 4294967296) * 32) % 4294967296) + 0) + a2) % 4294967296] : List Int)) (inner := [.int .u32 (((((((a0) % 4294967296) * 32) % 4294967296) + 0) + a2) % 4294967296)]) (ok := fun _ => True) (okp := fun _ => True) Z8 (Reps.one (show Kd.M (Kd.int .u32) _ _ _ (((((((a0) % 4294967296) * 32) % 4294967296) + 0) + a2) % 4294967296) [.int .u32 (((((((a0) % 4294967296) * 32) % 4294967296) + 0) + a2) % 4294967296)] from rfl) (Reps.none _ _)) (fun _ hk => hk) trivial (Below.refl _ _) (Nat.le_refl _) (by simp) ?_; intro v154 w16 ho17 hb hg_ hnew_; clear hg_ hnew_; (first | rw [← Ny153.out] at ho17 | (simp only [Int.reduceToNat] at ho17; rw [← Ny153.out] at ho17)); have HO155 := Z (Kd.R_lower ho17 (below_size Z42)); replace HB := Z (below_step Z42 hb); clear hb ho17))
    go_ret
    exact ⟨_, Z13, (Z14 HO155), Z42⟩
   ·rw [if_neg c15] at H
    have c15b0 : decide (a0 ≤ 67108863) = false := decide_eq_false c15
    clear c15
    obtain ⟨y156, hy156⟩ : ∃ y_ : List Int, y_ = (([(0 + a3) % 4294967296, (a0) % 4294967296] : List Int)) := ⟨_, rfl⟩
    replace H : (some y156) = some r := by first | (rw [hy156]; with_reducible exact H) | (have H2_ := (Option.bind_some _ _).symm.trans H; rw [hy156]; with_reducible exact H2_) | (have H2_ := (Option.bind_some _ _).symm.trans H; with_reducible exact H2_) | with_reducible exact H | (rw [hy156]; exact H) | exact H
    have Ny156 := Aside0.mk hy156
    clear hy156
    obtain rfl := Option.some.inj H
    go_enter Try.func108, Try.ntmps108
    go_wp2_with (first | ((with_reducible refine gate_dst (N := 30) rfl ?_); refine Kd.R_lit (Kd.int .u32) _ 47 (by rfl) (N := 30) (by rfl) (xs := ([(0 + a3) % 4294967296, (a0) % 4294967296] : List Int)) (inner := [.int .u32 ((0 + a3) % 4294967296), .int .u32 ((a0) % 4294967296)]) (ok := fun _ => True) (okp := fun _ => True) Z8 (Reps.one (show Kd.M (Kd.int .u32) _ _ _ ((0 + a3) % 4294967296) [.int .u32 ((0 + a3) % 4294967296)] from rfl) (Reps.one (show Kd.M (Kd.int .u32) _ _ _ ((a0) % 4294967296) [.int .u32 ((a0) % 4294967296)] from rfl) (Reps.none _ _))) (fun _ hk => hk) trivial (Below.refl _ _) (Nat.le_refl _) (by simp) ?_; intro v157 w18 ho19 hb hg_ hnew_; clear hg_ hnew_; (first | rw [← Ny156.out] at ho19 | (simp only [Int.reduceToNat] at ho19; rw [← Ny156.out] at ho19)); have HO158 := Z (Kd.R_lower ho19 (below_size Z42)); replace HB := Z (below_step Z42 hb); clear hb ho19))
    go_ret
    exact ⟨_, Z13, (Z14 HO158), Z42⟩
  ·rw [if_neg c14] at H
   have c14b0 : decide ((-67108864) ≤ a0) = false := decide_eq_false c14
   clear c14
   obtain ⟨y159, hy159⟩ : ∃ y_ : List Int, y_ = (([(0 + a3) % 4294967296, (a0) % 4294967296] : List Int)) := ⟨_, rfl⟩
   replace H : (some y159) = some r := by first | (rw [hy159]; with_reducible exact H) | (have H2_ := (Option.bind_some _ _).symm.trans H; rw [hy159]; with_reducible exact H2_) | (have H2_ := (Option.bind_some _ _).symm.trans H; with_reducible exact H2_) | with_reducible exact H | (rw [hy159]; exact H) | exact H
   have Ny159 := Aside0.mk hy159
   clear hy159
   obtain rfl := Option.some.inj H
   go_enter Try.func108, Try.ntmps108
   go_wp2_with (first | ((with_reducible refine gate_dst (N := 30) rfl ?_); refine Kd.R_lit (Kd.int .u32) _ 47 (by rfl) (N := 30) (by rfl) (xs := ([(0 + a3) % 4294967296, (a0) % 4294967296] : List Int)) (inner := [.int .u32 ((0 + a3) % 4294967296), .int .u32 ((a0) % 4294967296)]) (ok := fun _ => True) (okp := fun _ => True) Z8 (Reps.one (show Kd.M (Kd.int .u32) _ _ _ ((0 + a3) % 4294967296) [.int .u32 ((0 + a3) % 4294967296)] from rfl) (Reps.one (show Kd.M (Kd.int .u32) _ _ _ ((a0) % 4294967296) [.int .u32 ((a0) % 4294967296)] from rfl) (Reps.none _ _))) (fun _ hk => hk) trivial (Below.refl _ _) (Nat.le_refl _) (by simp) ?_; intro v160 w20 ho21 hb hg_ hnew_; clear hg_ hnew_; (first | rw [← Ny159.out] at ho21 | (simp only [Int.reduceToNat] at ho21; rw [← Ny159.out] at ho21)); have HO161 := Z (Kd.R_lower ho21 (below_size Z42)); replace HB := Z (below_step Z42 hb); clear hb ho21))
   go_ret
   exact ⟨_, Z13, (Z14 HO161), Z42⟩

/-! ### spec_l01In: function 68 -/
def spec_l01In.f (a0 : Int) (a1 : Int) (a2 : Int) : Option (Bool) := if a0 ≥ a1 then (some (decide (a0 ≤ a2))) else (some false)
set_option maxHeartbeats 8000000 in
set_option maxRecDepth 100000 in
theorem spec_l01In.calls (a0 : Int) (a1 : Int) (a2 : Int) (r : Bool) (w : World) (h : spec_l01In.f a0 a1 a2 = some r) :
  Calls Try.prog 68 #[.int .i64 a0, .int .i64 a1, .int .i64 a2] w fun e w' => e = .returned (.bool r) ∧ Drawn0 w w' := by
 have H : (if a0 ≥ a1 then (some (decide (a0 ≤ a2))) else (some false)) = some r := h
 clear h
 by_cases c4 : a0 ≥ a1
 ·rw [if_pos c4] at H
  have c4b0 : decide (a1 ≤ a0) = true := decide_eq_true c4
  clear c4
  obtain rfl := Option.some.inj H
  go_enter Try.func68, Try.ntmps68
  go_wp2
  go_ret
  exact ⟨Z3, Z4⟩
 ·rw [if_neg c4] at H
  have c4b0 : decide (a1 ≤ a0) = false := decide_eq_false c4
  clear c4
  obtain rfl := Option.some.inj H
  go_enter Try.func68, Try.ntmps68
  go_wp2
  go_ret
  exact ⟨Z3, Z4⟩

/-! ### spec_l02All: function 130 -/
def spec_l02All.f  : Option (ByteArray) := some (⟨#[32, 114, 116, 111, 101, 97, 110, 105, 115, 109, 99, 121, 108, 103, 102, 119, 100, 118, 112, 98, 104, 120, 117, 113, 48, 49, 50, 51, 52, 53, 54, 55, 56, 57, 106, 45, 107, 46, 122, 47, 59, 39, 33, 43, 64, 42, 44, 63]⟩ : ByteArray)
set_option maxHeartbeats 8000000 in
set_option maxRecDepth 100000 in
theorem spec_l02All.calls  (r : ByteArray) (w : World) (h : spec_l02All.f  = some r) :
  Calls Try.prog 130 #[] w fun e w' => e = .returned (.string r) ∧ Drawn0 w w' := by
 have H : (some (⟨#[32, 114, 116, 111, 101, 97, 110, 105, 115, 109, 99, 121, 108, 103, 102, 119, 100, 118, 112, 98, 104, 120, 117, 113, 48, 49, 50, 51, 52, 53, 54, 55, 56, 57, 106, 45, 107, 46, 122, 47, 59, 39, 33, 43, 64, 42, 44, 63]⟩ : ByteArray)) = some r := h
 clear h
 obtain rfl := Option.some.inj H
 go_enter Try.func130, Try.ntmps130
 go_wp2
 go_ret
 exact ⟨Z3, Z4⟩

/-! ### spec_LetterOf: function 132 -/
def spec_LetterOf.l0 : Nat → Int → ByteArray → Int → Option (Int)
 | 0, _, _, _ => none
 | k + 1, x0, x3, x4 => if x4 < (x3.size : Int) then (if 0 ≤ x4 then (if (bt x3 x4) = x0 then (some x4) else (spec_LetterOf.l0 k x0 x3 (wrap64 (x4 + 1)))) else (none)) else (some (-1))
def spec_LetterOf.f (k : Nat) (a0 : Int) : Option (Int) := (spec_l02All.f).bind fun t162 => (spec_LetterOf.l0 k a0 t162 0)
theorem spec_LetterOf.mono_l : ∀ k, (∀ y0 y1 y2, LeO (spec_LetterOf.l0 k y0 y1 y2) (spec_LetterOf.l0 (k + 1) y0 y1 y2))
 | 0 => fun _ _ _ r h => by simp [spec_LetterOf.l0] at h
 | k + 1 => by
  have ih0 := spec_LetterOf.mono_l k
  ·intro y0 y1 y2
   unfold spec_LetterOf.l0
   repeat' first
   | (with_reducible exact ih0 _ _ _)
   | (with_reducible exact LeO.refl _)
   | (with_reducible exact LeO.none _)
   | (with_reducible refine LeO.ite ?_ ?_)
   | (with_reducible refine LeO.bind ?_ (fun _ => ?_))
   | exact ih0 _ _ _
   | exact LeO.none _
   | refine LeO.ite ?_ ?_
   | refine LeO.bind ?_ (fun _ => ?_)
theorem spec_LetterOf.mono : ∀ a0 k, LeO (spec_LetterOf.f k a0) (spec_LetterOf.f (k + 1) a0) := by
 intro a0 k
 have ih0 := spec_LetterOf.mono_l k
 unfold spec_LetterOf.f
 repeat' first
   | (with_reducible exact ih0 _ _ _)
   | (with_reducible exact LeO.refl _)
   | (with_reducible exact LeO.none _)
   | (with_reducible refine LeO.ite ?_ ?_)
   | (with_reducible refine LeO.bind ?_ (fun _ => ?_))
   | exact ih0 _ _ _
   | exact LeO.none _
   | refine LeO.ite ?_ ?_
   | refine LeO.bind ?_ (fun _ => ?_)
set_option maxHeartbeats 8000000 in
set_option maxRecDepth 100000 in
theorem spec_LetterOf.calls (k : Nat) (a0 : Int) (r : Int) (w : World) (h : spec_LetterOf.f k a0 = some r) :
  Calls Try.prog 132 #[.int .u8 a0] w fun e w' => e = .returned (.int .i64 r) ∧ Drawn0 w w' := by
 have H : ((spec_l02All.f).bind fun t162 => (spec_LetterOf.l0 k a0 t162 0)) = some r := h
 clear h
 replace H := Option.bind_eq_some_iff.mp H
 obtain ⟨t162, A20, H⟩ := H
 replace H : (spec_LetterOf.l0 k a0 t162 0) = some r := H
 have A2 := Aside0.mk A20
 clear A20
 have H' := Aside0.mk H
 clear H
 go_enter Try.func132, Try.ntmps132
 go_wp2_with (first | ((with_reducible refine gate_callee (f := 130) rfl ?_); refine goesL_ (some 5) rfl rfl Try.func130 Z0 rfl #[] rfl Z11 ?_; (with_reducible refine (spec_l02All.calls  t162 _ A2.out).mono ?_); rintro e w' ⟨rfl, ⟨nd, rfl⟩⟩; refine ⟨_, rfl, ?_⟩))
 go_loopg [4] k (fun kq v4 w' => ∃ (x4_1 : Int), v4 = .int .i64 x4_1 ∧ Aside0 (spec_LetterOf.l0 kq a0 t162 x4_1 = some r) ∧ Aside0 (kq ≤ k) ∧ Drawn0 w w')
 case atStart => exact ⟨(0), Z3, H', ⟨Nat.le_refl _⟩, Z4⟩
 case round =>
  clear H'
  try clear c1
  try clear p2
  obtain ⟨x4_1, rfl, HA, HK1, ⟨m1, rfl⟩⟩ := hrel
  cases gk with
  | zero => exact absurd HA.out (by simp [spec_LetterOf.l0])
  | succ k1 =>
   have H := HA.out
   clear HA
   simp only [spec_LetterOf.l0] at H
   by_cases c3 : x4_1 < (t162.size : Int)
   ·rw [if_pos c3] at H
    have c3b0 : decide (x4_1 < (t162.size : Int)) = true := decide_eq_true c3
    clear c3
    by_cases c4 : 0 ≤ x4_1
    ·rw [if_pos c4] at H
     have c4b0 : decide (0 ≤ x4_1) = true := decide_eq_true c4
     clear c4
     by_cases c6 : (bt t162 x4_1) = a0
     ·rw [if_pos c6] at H
      have c6b0 : ((bt t162 x4_1) == a0) = true := beq_iff_eq.mpr c6
      have c6b1 : ((bt t162 x4_1) != a0) = false := bne_eq_false_iff_eq.mpr c6
      clear c6
      obtain rfl := Option.some.inj H
      have p5 : 0 ≤ (x4_1 : Int) := of_decide_eq_true Z5
      have q5 : x4_1 < (t162.size : Int) := of_decide_eq_true Z5
      have hx5 := bt_at t162 x4_1
      replace p5 := eq_true p5
      replace q5 := eq_true q5
      go_wp2
      go_ret
      exact ⟨Z3, Z4⟩
     ·rw [if_neg c6] at H
      have c6b0 : ((bt t162 x4_1) == a0) = false := beq_eq_false_iff_ne.mpr c6
      have c6b1 : ((bt t162 x4_1) != a0) = true := bne_iff_ne.mpr c6
      have H' := Aside0.mk H
      clear H
      have p5 : 0 ≤ (x4_1 : Int) := of_decide_eq_true Z5
      have q5 : x4_1 < (t162.size : Int) := of_decide_eq_true Z5
      have hx5 := bt_at t162 x4_1
      replace p5 := eq_true p5
      replace q5 := eq_true q5
      go_wp2
      go_roundg k1
      case measure => have := HK1.out; omega
      case rel => exact ⟨(wrap64 (x4_1 + 1)), Z3, H', ⟨Z6⟩, Z4⟩
    ·rw [if_neg c4] at H
     exact absurd H (by simp)
   ·rw [if_neg c3] at H
    have c3b0 : decide (x4_1 < (t162.size : Int)) = false := decide_eq_false c3
    clear c3
    obtain rfl := Option.some.inj H
    go_wp2
    go_ret
    exact ⟨Z3, Z4⟩

/-! ### spec_NameOk: function 125 -/
def spec_NameOk.l0 : Nat → ByteArray → Int → Option (Bool)
 | 0, _, _ => none
 | k + 1, x0, x3 => if x3 < (x0.size : Int) then (if 0 ≤ x3 then ((spec_LetterOf.f k (bt x0 x3)).bind fun t164 => (if t164 < 1 then (some false) else (spec_NameOk.l0 k x0 (wrap64 (x3 + 1))))) else (none)) else (some true)
def spec_NameOk.f (k : Nat) (a0 : ByteArray) : Option (Bool) := (spec_l01In.f (a0.size : Int) 1 24).bind fun t163 => (if t163 = true then (spec_NameOk.l0 k a0 0) else (some false))
theorem spec_NameOk.mono_l : ∀ k, (∀ y0 y1, LeO (spec_NameOk.l0 k y0 y1) (spec_NameOk.l0 (k + 1) y0 y1))
 | 0 => fun _ _ r h => by simp [spec_NameOk.l0] at h
 | k + 1 => by
  have ih0 := spec_NameOk.mono_l k
  ·intro y0 y1
   unfold spec_NameOk.l0
   repeat' first
   | (with_reducible exact ih0 _ _)
   | (with_reducible exact spec_LetterOf.mono _ _)
   | (with_reducible exact LeO.refl _)
   | (with_reducible exact LeO.none _)
   | (with_reducible refine LeO.ite ?_ ?_)
   | (with_reducible refine LeO.bind ?_ (fun _ => ?_))
   | exact ih0 _ _
   | exact spec_LetterOf.mono _ _
   | exact LeO.none _
   | refine LeO.ite ?_ ?_
   | refine LeO.bind ?_ (fun _ => ?_)
theorem spec_NameOk.mono : ∀ a0 k, LeO (spec_NameOk.f k a0) (spec_NameOk.f (k + 1) a0) := by
 intro a0 k
 have ih0 := spec_NameOk.mono_l k
 unfold spec_NameOk.f
 repeat' first
   | (with_reducible exact ih0 _ _)
   | (with_reducible exact spec_LetterOf.mono _ _)
   | (with_reducible exact LeO.refl _)
   | (with_reducible exact LeO.none _)
   | (with_reducible refine LeO.ite ?_ ?_)
   | (with_reducible refine LeO.bind ?_ (fun _ => ?_))
   | exact ih0 _ _
   | exact spec_LetterOf.mono _ _
   | exact LeO.none _
   | refine LeO.ite ?_ ?_
   | refine LeO.bind ?_ (fun _ => ?_)
set_option maxHeartbeats 8000000 in
set_option maxRecDepth 100000 in
theorem spec_NameOk.calls (k : Nat) (a0 : ByteArray) (r : Bool) (w : World) (h : spec_NameOk.f k a0 = some r) :
  Calls Try.prog 125 #[.string a0] w fun e w' => e = .returned (.bool r) ∧ Drawn0 w w' := by
 have H : ((spec_l01In.f (a0.size : Int) 1 24).bind fun t163 => (if t163 = true then (spec_NameOk.l0 k a0 0) else (some false))) = some r := h
 clear h
 replace H := Option.bind_eq_some_iff.mp H
 obtain ⟨t163, A20, H⟩ := H
 replace H : (if t163 = true then (spec_NameOk.l0 k a0 0) else (some false)) = some r := H
 have A2 := Aside0.mk A20
 clear A20
 by_cases c3 : t163 = true
 ·subst c3
  have H1 : (spec_NameOk.l0 k a0 0) = some r := Z7
  clear H
  have H := H1
  clear H1
  have H' := Aside0.mk H
  clear H
  go_enter Try.func125, Try.ntmps125
  go_wp2_with (first | ((with_reducible refine gate_callee (f := 68) rfl ?_); refine goesL_ (some 6) rfl rfl Try.func68 Z0 rfl #[.int .i64 (a0.size : Int), .int .i64 1, .int .i64 24] rfl Z11 ?_; (with_reducible refine (spec_l01In.calls (a0.size : Int) 1 24 true _ A2.out).mono ?_); rintro e w' ⟨rfl, ⟨nd, rfl⟩⟩; refine ⟨_, rfl, ?_⟩))
  go_loopg [3] k (fun kq v3 w' => ∃ (x3_1 : Int), v3 = .int .i64 x3_1 ∧ Aside0 (spec_NameOk.l0 kq a0 x3_1 = some r) ∧ Aside0 (kq ≤ k) ∧ Drawn0 w w')
  case atStart => exact ⟨(0), Z3, H', ⟨Nat.le_refl _⟩, Z4⟩
  case round =>
   clear H'
   try clear c1
   try clear p2
   try clear c3
   obtain ⟨x3_1, rfl, HA, HK1, ⟨m1, rfl⟩⟩ := hrel
   cases gk with
   | zero => exact absurd HA.out (by simp [spec_NameOk.l0])
   | succ k1 =>
    have H := HA.out
    clear HA
    simp only [spec_NameOk.l0] at H
    by_cases c4 : x3_1 < (a0.size : Int)
    ·rw [if_pos c4] at H
     have c4b0 : decide (x3_1 < (a0.size : Int)) = true := decide_eq_true c4
     clear c4
     by_cases c5 : 0 ≤ x3_1
     ·rw [if_pos c5] at H
      have c5b0 : decide (0 ≤ x3_1) = true := decide_eq_true c5
      clear c5
      replace H := Option.bind_eq_some_iff.mp H
      obtain ⟨t164, A70, H⟩ := H
      replace H : (if t164 < 1 then (some false) else (spec_NameOk.l0 k1 a0 (wrap64 (x3_1 + 1)))) = some r := H
      have A7 := Aside0.mk A70
      clear A70
      by_cases c8 : t164 < 1
      ·rw [if_pos c8] at H
       have c8b0 : decide (t164 < 1) = true := decide_eq_true c8
       clear c8
       obtain rfl := Option.some.inj H
       have p6 : 0 ≤ (x3_1 : Int) := of_decide_eq_true Z5
       have q6 : x3_1 < (a0.size : Int) := of_decide_eq_true Z5
       have hx6 := bt_at a0 x3_1
       replace p6 := eq_true p6
       replace q6 := eq_true q6
       go_wp2_with (first | ((with_reducible refine gate_callee (f := 132) rfl ?_); refine goesL_ (some 17) rfl rfl Try.func132 Z0 rfl #[.int .u8 (bt a0 x3_1)] rfl Z11 ?_; (with_reducible refine (spec_LetterOf.calls k1 (bt a0 x3_1) t164 _ A7.out).mono ?_); rintro e w' ⟨rfl, ⟨nd, rfl⟩⟩; refine ⟨_, rfl, ?_⟩))
       go_ret
       exact ⟨Z3, Z4⟩
      ·rw [if_neg c8] at H
       have c8b0 : decide (t164 < 1) = false := decide_eq_false c8
       clear c8
       have H' := Aside0.mk H
       clear H
       have p6 : 0 ≤ (x3_1 : Int) := of_decide_eq_true Z5
       have q6 : x3_1 < (a0.size : Int) := of_decide_eq_true Z5
       have hx6 := bt_at a0 x3_1
       replace p6 := eq_true p6
       replace q6 := eq_true q6
       go_wp2_with (first | ((with_reducible refine gate_callee (f := 132) rfl ?_); refine goesL_ (some 17) rfl rfl Try.func132 Z0 rfl #[.int .u8 (bt a0 x3_1)] rfl Z11 ?_; (with_reducible refine (spec_LetterOf.calls k1 (bt a0 x3_1) t164 _ A7.out).mono ?_); rintro e w' ⟨rfl, ⟨nd, rfl⟩⟩; refine ⟨_, rfl, ?_⟩))
       go_roundg k1
       case measure => have := HK1.out; omega
       case rel => exact ⟨(wrap64 (x3_1 + 1)), Z3, H', ⟨Z6⟩, Z4⟩
     ·rw [if_neg c5] at H
      exact absurd H (by simp)
    ·rw [if_neg c4] at H
     have c4b0 : decide (x3_1 < (a0.size : Int)) = false := decide_eq_false c4
     clear c4
     obtain rfl := Option.some.inj H
     go_wp2
     go_ret
     exact ⟨Z3, Z4⟩
 ·replace c3 := Bool.eq_false_iff.mpr c3
  subst c3
  have H1 : (some false) = some r := by rw [if_neg (show ¬ (false = true) by decide)] at H; exact H
  clear H
  have H := H1
  clear H1
  obtain rfl := Option.some.inj H
  go_enter Try.func125, Try.ntmps125
  go_wp2_with (first | ((with_reducible refine gate_callee (f := 68) rfl ?_); refine goesL_ (some 6) rfl rfl Try.func68 Z0 rfl #[.int .i64 (a0.size : Int), .int .i64 1, .int .i64 24] rfl Z11 ?_; (with_reducible refine (spec_l01In.calls (a0.size : Int) 1 24 false _ A2.out).mono ?_); rintro e w' ⟨rfl, ⟨nd, rfl⟩⟩; refine ⟨_, rfl, ?_⟩))
  go_ret
  exact ⟨Z3, Z4⟩

end Go.Proofs.Ytkkiibjnpkjijaa.QFnExactPutItems
