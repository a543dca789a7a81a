/-
Plain functions for the Go functions that a law reaches, each with a proof that the translation's call comes to just that; no conditions beyond those written in each.
-/
import Derived.Test.YtfjmpdcflnaogaaDoorSFnExactExport
import Derived.Test.YtfjmpdcflnaogaaDoorQFnExactExportx1
namespace Go.Proofs.YtfjmpdcflnaogaaDoor.QFnExactExport
open Go.RowKit Go.Proofs.YtfjmpdcflnaogaaDoorW.PrintWords Go.Proofs.YtfjmpdcflnaogaaDoorW.PrintLast Go.Proofs.YtfjmpdcflnaogaaDoorW.PrintMore
attribute [local go_sem] max2_int min2_int max_two min_two max_three min_three max_four min_four   -- for this text's walks alone
set_option linter.unusedVariables false
set_option linter.unusedSimpArgs false

/-! ### spec_ItemOk: function 18 -/
def spec_ItemOk.f (k : Nat) (a0_0 : Int) (a0_1 : ByteArray) (a0_2 : Int) (a0_3 : Bool) (a0_4 : Int) : Option (Bool) := (spec_CellsOf.f k a0_0 a0_1 a0_2 a0_3 a0_4).bind fun t202 => (some (decide ((t202.length : Int) > 0)))
theorem spec_ItemOk.mono : ∀ a0 a1 a2 a3 a4 k, LeO (spec_ItemOk.f k a0 a1 a2 a3 a4) (spec_ItemOk.f (k + 1) a0 a1 a2 a3 a4) := by
 intro a0 a1 a2 a3 a4 k
 unfold spec_ItemOk.f
 repeat' first
   | (with_reducible exact spec_CellsOf.mono _ _ _ _ _ _)
   | (with_reducible exact LeO.refl _)
   | (with_reducible exact LeO.none _)
   | (with_reducible refine LeO.ite ?_ ?_)
   | (with_reducible refine LeO.bind ?_ (fun _ => ?_))
   | exact spec_CellsOf.mono _ _ _ _ _ _
   | exact LeO.none _
   | refine LeO.ite ?_ ?_
   | refine LeO.bind ?_ (fun _ => ?_)
set_option maxHeartbeats 8000000 in
set_option maxRecDepth 100000 in
theorem spec_ItemOk.calls (k : Nat) (a0_0 : Int) (a0_1 : ByteArray) (a0_2 : Int) (a0_3 : Bool) (a0_4 : Int) (r : Bool) (w : World) (h : spec_ItemOk.f k a0_0 a0_1 a0_2 a0_3 a0_4 = some r) :
  Calls Tryd.prog 18 #[.agg #[.int .i64 a0_0, .string a0_1, .int .i32 a0_2, .bool a0_3, .int .u32 a0_4]] w fun e w' => e = .returned (.bool r) ∧ Below w.heap.size w w' := by
 have hu27 := Tryd.underlying27
 have HB := Z (Below.refl w.heap.size w)
 have H : ((spec_CellsOf.f k a0_0 a0_1 a0_2 a0_3 a0_4).bind fun t202 => (some (decide ((t202.length : Int) > 0)))) = some r := h
 clear h
 replace H := Option.bind_eq_some_iff.mp H
 obtain ⟨t202, A20, H⟩ := H
 replace H : (some (decide ((t202.length : Int) > 0))) = some r := H
 have A2 := Aside0.mk A20
 clear A20
 obtain rfl := Option.some.inj H
 go_enter Tryd.func18, Tryd.ntmps18
 go_wp2_with (first | ((with_reducible refine gate_dst (N := 1) rfl ?_); refine box_event (by rfl) (N := 1) (by rfl) (cs := #[.int .i64 a0_0, .string a0_1, .int .i32 a0_2, .bool a0_3, .int .u32 a0_4]) (t := 27) Z3 ?_; intro gb201 hg w3 hbox hb; have BK201 := Z (hbox); have GW201 := Z ((Z79 : w.heap.size ≤ gb201)); have GE201 := Z ((Z79 : w.heap.size ≤ gb201)); replace HB := Z (below_step Z67 hb); clear hb hbox hg; have hcz4_0 : w3.cell? ⟨gb201, 0, none⟩ = some (.int .i64 a0_0) := (blk_cell BK201.out 0).trans rfl; have hcz4_1 : w3.cell? ⟨gb201, 1, none⟩ = some (.string a0_1) := (blk_cell BK201.out 1).trans rfl; have hcz4_2 : w3.cell? ⟨gb201, 2, none⟩ = some (.int .i32 a0_2) := (blk_cell BK201.out 2).trans rfl; have hcz4_3 : w3.cell? ⟨gb201, 3, none⟩ = some (.bool a0_3) := (blk_cell BK201.out 3).trans rfl; have hcz4_4 : w3.cell? ⟨gb201, 4, none⟩ = some (.int .u32 a0_4) := (blk_cell BK201.out 4).trans rfl; have hfz4_0 := blk_frozen BK201.out 0; have hfz4_1 := blk_frozen BK201.out 1; have hfz4_2 := blk_frozen BK201.out 2; have hfz4_3 := blk_frozen BK201.out 3; have hfz4_4 := blk_frozen BK201.out 4) | ((with_reducible refine gate_callee (f := 36) rfl ?_); refine goesL_ (some 4) rfl rfl Tryd.func36 Z0 rfl #[.agg #[.int .i64 a0_0, .string a0_1, .int .i32 a0_2, .bool a0_3, .int .u32 a0_4]] rfl Z9 ?_; (with_reducible refine (spec_CellsOf.calls k a0_0 a0_1 a0_2 a0_3 a0_4 t202 _ A2.out).mono ?_); rintro e w5 ⟨v203, rfl, ho0, hb⟩; refine ⟨_, rfl, ?_⟩; have HO204 := Z (Kd.R_lower ho0 (below_size Z67)); replace BK201 := Z (blk_below (g := gb201) (o := .cells #[.int .i64 a0_0, .string a0_1, .int .i32 a0_2, .bool a0_3, .int .u32 a0_4] 27 (0, 0)) (Z15 BK201) hb); replace HB := Z (below_step Z67 hb); (try clear hb); (try clear hb2); (try clear hk); (try clear hi); (try clear ho0); obtain ⟨Ao6, co6, eo6⟩ := Kd.R_slice HO204.out; subst eo6))
 go_ret
 exact ⟨Z68, Z67⟩

/-! ### spec_l06Mark: function 21 -/
mutual
def spec_l06Mark.j0 : Nat → Int → Bool → Option (ByteArray)
 | 0, _, _ => none
 | k + 1, x3, x4 => if x4 = true then (some (⟨#[126]⟩ : ByteArray)) else (if x3 = 2 then (some (⟨#[58]⟩ : ByteArray)) else (if x3 = 3 then (spec_l06Mark.j1 k x3 (x3 == 3)) else (spec_l06Mark.j1 k x3 (x3 == 8))))
def spec_l06Mark.j1 : Nat → Int → Bool → Option (ByteArray)
 | 0, _, _ => none
 | k + 1, x3, x9 => if x9 = true then (some (⟨#[61]⟩ : ByteArray)) else (if x3 = 4 then (some (⟨#[34]⟩ : ByteArray)) else (if x3 = 5 then (some (⟨#[94]⟩ : ByteArray)) else (if x3 = 6 then (some (⟨#[95]⟩ : ByteArray)) else (if x3 = 9 then (some (⟨#[38]⟩ : ByteArray)) else (some (⟨#[37]⟩ : ByteArray))))))
end
def spec_l06Mark.f (k : Nat) (a0 : Int) : Option (ByteArray) := if a0 = 1 then (spec_l06Mark.j0 k a0 (a0 == 1)) else (spec_l06Mark.j0 k a0 (a0 == 7))
theorem spec_l06Mark.mono_l : ∀ k, (∀ y0 y1, LeO (spec_l06Mark.j0 k y0 y1) (spec_l06Mark.j0 (k + 1) y0 y1)) ∧ (∀ y0 y1, LeO (spec_l06Mark.j1 k y0 y1) (spec_l06Mark.j1 (k + 1) y0 y1))
 | 0 => ⟨fun _ _ r h => by simp [spec_l06Mark.j0] at h, fun _ _ r h => by simp [spec_l06Mark.j1] at h⟩
 | k + 1 => by
  obtain ⟨ih0, ih1⟩ := spec_l06Mark.mono_l k
  refine ⟨?_, ?_⟩
  ·intro y0 y1
   unfold spec_l06Mark.j0
   repeat' first
   | (with_reducible exact ih0 _ _)
   | (with_reducible exact ih1 _ _)
   | (with_reducible exact LeO.refl _)
   | (with_reducible exact LeO.none _)
   | (with_reducible refine LeO.ite ?_ ?_)
   | (with_reducible refine LeO.bind ?_ (fun _ => ?_))
   | exact ih0 _ _
   | exact ih1 _ _
   | exact LeO.none _
   | refine LeO.ite ?_ ?_
   | refine LeO.bind ?_ (fun _ => ?_)
  ·intro y0 y1
   unfold spec_l06Mark.j1
   repeat' first
   | (with_reducible exact ih0 _ _)
   | (with_reducible exact ih1 _ _)
   | (with_reducible exact LeO.refl _)
   | (with_reducible exact LeO.none _)
   | (with_reducible refine LeO.ite ?_ ?_)
   | (with_reducible refine LeO.bind ?_ (fun _ => ?_))
   | exact ih0 _ _
   | exact ih1 _ _
   | exact LeO.none _
   | refine LeO.ite ?_ ?_
   | refine LeO.bind ?_ (fun _ => ?_)
theorem spec_l06Mark.mono : ∀ a0 k, LeO (spec_l06Mark.f k a0) (spec_l06Mark.f (k + 1) a0) := by
 intro a0 k
 obtain ⟨ih0, ih1⟩ := spec_l06Mark.mono_l k
 unfold spec_l06Mark.f
 repeat' first
   | (with_reducible exact ih0 _ _)
   | (with_reducible exact ih1 _ _)
   | (with_reducible exact LeO.refl _)
   | (with_reducible exact LeO.none _)
   | (with_reducible refine LeO.ite ?_ ?_)
   | (with_reducible refine LeO.bind ?_ (fun _ => ?_))
   | exact ih0 _ _
   | exact ih1 _ _
   | exact LeO.none _
   | refine LeO.ite ?_ ?_
   | refine LeO.bind ?_ (fun _ => ?_)
set_option maxHeartbeats 8000000 in
set_option maxRecDepth 100000 in
theorem spec_l06Mark.calls (k : Nat) (a0 : Int) (r : ByteArray) (w : World) (h : spec_l06Mark.f k a0 = some r) :
  Calls Tryd.prog 21 #[.int .i64 a0] w fun e w' => e = .returned (.string r) ∧ Drawn0 w w' := by
 have H : (if a0 = 1 then (spec_l06Mark.j0 k a0 (a0 == 1)) else (spec_l06Mark.j0 k a0 (a0 == 7))) = some r := h
 clear h
 have HC2 := Aside0.mk H
 clear H
 go_enter Tryd.func21, Tryd.ntmps21
 go_upto_if 4 with (fail)
 go_cut [4] (fun v4 wc => ∃ (kq : Nat) (x4_1 : Bool), v4 = .bool x4_1 ∧ Aside0 (spec_l06Mark.j0 kq a0 x4_1 = some r) ∧ Aside0 (kq ≤ k) ∧ Drawn0 w wc)
 case first =>
  have H := HC2.out
  clear HC2
  by_cases c3 : a0 = 1
  ·rw [if_pos c3] at H
   have c3b0 : (a0 == 1) = true := beq_iff_eq.mpr c3
   have c3b1 : (a0 != 1) = false := bne_eq_false_iff_eq.mpr c3
   clear c3
   (first | rw [c3b0] | (simp only [i64_w, i32_w]; rw [c3b0]) | skip)
   have H' := Aside0.mk H
   clear H
   go_wp2
   go_meet
   case rel => exact ⟨_, ((a0 == 1)), Z7, H', ⟨Z14⟩, Z8⟩
  ·rw [if_neg c3] at H
   have c3b0 : (a0 == 1) = false := beq_eq_false_iff_ne.mpr c3
   have c3b1 : (a0 != 1) = true := bne_iff_ne.mpr c3
   (first | rw [c3b0] | (simp only [i64_w, i32_w]; rw [c3b0]) | skip)
   have H' := Aside0.mk H
   clear H
   go_wp2
   go_meet
   case rel => exact ⟨_, ((a0 == 7)), Z7, H', ⟨Z14⟩, Z8⟩
 case rest =>
  clear HC2
  try clear c2
  try clear p2
  try clear c3
  try clear c3b0
  try clear c3b1
  obtain ⟨kq, x4_1, rfl, HA, HJ1, ⟨mc1, rfl⟩⟩ := hcut
  cases kq with
  | zero => exact absurd HA.out (by simp [spec_l06Mark.j0])
  | succ kj1 =>
   have H := HA.out
   clear HA
   simp only [spec_l06Mark.j0] at H
   by_cases c4 : x4_1 = true
   ·subst c4
    have H1 : (some (⟨#[126]⟩ : ByteArray)) = some r := Z2
    clear H
    have H := H1
    clear H1
    obtain rfl := Option.some.inj H
    go_wp2
    go_ret
    exact ⟨Z7, Z8⟩
   ·replace c4 := Bool.eq_false_iff.mpr c4
    subst c4
    have H1 : (if a0 = 2 then (some (⟨#[58]⟩ : ByteArray)) else (if a0 = 3 then (spec_l06Mark.j1 kj1 a0 (a0 == 3)) else (spec_l06Mark.j1 kj1 a0 (a0 == 8)))) = some r := by rw [if_neg (show ¬ (false = true) by decide)] at H; exact H
    clear H
    have H := H1
    clear H1
    by_cases c5 : a0 = 2
    ·rw [if_pos c5] at H
     have c5b0 : (a0 == 2) = true := beq_iff_eq.mpr c5
     have c5b1 : (a0 != 2) = false := bne_eq_false_iff_eq.mpr c5
     clear c5
     obtain rfl := Option.some.inj H
     go_wp2
     go_ret
     exact ⟨Z7, Z8⟩
    ·rw [if_neg c5] at H
     have c5b0 : (a0 == 2) = false := beq_eq_false_iff_ne.mpr c5
     have c5b1 : (a0 != 2) = true := bne_iff_ne.mpr c5
     have HC6 := Aside0.mk H
     clear H
     go_upto_if 9 with (fail)
     go_cut [9] (fun v9 wc => ∃ (kq : Nat) (x9_5 : Bool), v9 = .bool x9_5 ∧ Aside0 (spec_l06Mark.j1 kq a0 x9_5 = some r) ∧ Aside0 (kq ≤ kj1) ∧ Drawn0 w wc)
     case first =>
      have H := HC6.out
      clear HC6
      by_cases c7 : a0 = 3
      ·rw [if_pos c7] at H
       have c7b0 : (a0 == 3) = true := beq_iff_eq.mpr c7
       have c7b1 : (a0 != 3) = false := bne_eq_false_iff_eq.mpr c7
       clear c7
       (first | rw [c7b0] | (simp only [i64_w, i32_w]; rw [c7b0]) | skip)
       have H' := Aside0.mk H
       clear H
       go_wp2
       go_meet
       case rel => exact ⟨_, ((a0 == 3)), Z7, H', ⟨by have := HJ1.out; first | omega | exact Nat.le_refl _⟩, Z8⟩
      ·rw [if_neg c7] at H
       have c7b0 : (a0 == 3) = false := beq_eq_false_iff_ne.mpr c7
       have c7b1 : (a0 != 3) = true := bne_iff_ne.mpr c7
       (first | rw [c7b0] | (simp only [i64_w, i32_w]; rw [c7b0]) | skip)
       have H' := Aside0.mk H
       clear H
       go_wp2
       go_meet
       case rel => exact ⟨_, ((a0 == 8)), Z7, H', ⟨by have := HJ1.out; first | omega | exact Nat.le_refl _⟩, Z8⟩
     case rest =>
      clear HC6
      try clear c1
      try clear c2
      try clear p2
      try clear c3
      try clear c3b0
      try clear c3b1
      try clear c4
      try clear c5
      try clear c5b0
      try clear c5b1
      try clear c7
      try clear c7b0
      try clear c7b1
      try clear p2
      obtain ⟨kq, x9_5, rfl, HA, HJ5, ⟨mc5, rfl⟩⟩ := hcut
      cases kq with
      | zero => exact absurd HA.out (by simp [spec_l06Mark.j1])
      | succ kj5 =>
       have H := HA.out
       clear HA
       simp only [spec_l06Mark.j1] at H
       by_cases c8 : x9_5 = true
       ·subst c8
        have H1 : (some (⟨#[61]⟩ : ByteArray)) = some r := Z2
        clear H
        have H := H1
        clear H1
        obtain rfl := Option.some.inj H
        go_wp2
        go_ret
        exact ⟨Z7, Z8⟩
       ·replace c8 := Bool.eq_false_iff.mpr c8
        subst c8
        have H1 : (if a0 = 4 then (some (⟨#[34]⟩ : ByteArray)) else (if a0 = 5 then (some (⟨#[94]⟩ : ByteArray)) else (if a0 = 6 then (some (⟨#[95]⟩ : ByteArray)) else (if a0 = 9 then (some (⟨#[38]⟩ : ByteArray)) else (some (⟨#[37]⟩ : ByteArray)))))) = some r := by rw [if_neg (show ¬ (false = true) by decide)] at H; exact H
        clear H
        have H := H1
        clear H1
        by_cases c9 : a0 = 4
        ·rw [if_pos c9] at H
         have c9b0 : (a0 == 4) = true := beq_iff_eq.mpr c9
         have c9b1 : (a0 != 4) = false := bne_eq_false_iff_eq.mpr c9
         clear c9
         obtain rfl := Option.some.inj H
         go_wp2
         go_ret
         exact ⟨Z7, Z8⟩
        ·rw [if_neg c9] at H
         have c9b0 : (a0 == 4) = false := beq_eq_false_iff_ne.mpr c9
         have c9b1 : (a0 != 4) = true := bne_iff_ne.mpr c9
         by_cases c10 : a0 = 5
         ·rw [if_pos c10] at H
          have c10b0 : (a0 == 5) = true := beq_iff_eq.mpr c10
          have c10b1 : (a0 != 5) = false := bne_eq_false_iff_eq.mpr c10
          clear c10
          obtain rfl := Option.some.inj H
          go_wp2
          go_ret
          exact ⟨Z7, Z8⟩
         ·rw [if_neg c10] at H
          have c10b0 : (a0 == 5) = false := beq_eq_false_iff_ne.mpr c10
          have c10b1 : (a0 != 5) = true := bne_iff_ne.mpr c10
          by_cases c11 : a0 = 6
          ·rw [if_pos c11] at H
           have c11b0 : (a0 == 6) = true := beq_iff_eq.mpr c11
           have c11b1 : (a0 != 6) = false := bne_eq_false_iff_eq.mpr c11
           clear c11
           obtain rfl := Option.some.inj H
           go_wp2
           go_ret
           exact ⟨Z7, Z8⟩
          ·rw [if_neg c11] at H
           have c11b0 : (a0 == 6) = false := beq_eq_false_iff_ne.mpr c11
           have c11b1 : (a0 != 6) = true := bne_iff_ne.mpr c11
           by_cases c12 : a0 = 9
           ·rw [if_pos c12] at H
            have c12b0 : (a0 == 9) = true := beq_iff_eq.mpr c12
            have c12b1 : (a0 != 9) = false := bne_eq_false_iff_eq.mpr c12
            clear c12
            obtain rfl := Option.some.inj H
            go_wp2
            go_ret
            exact ⟨Z7, Z8⟩
           ·rw [if_neg c12] at H
            have c12b0 : (a0 == 9) = false := beq_eq_false_iff_ne.mpr c12
            have c12b1 : (a0 != 9) = true := bne_iff_ne.mpr c12
            obtain rfl := Option.some.inj H
            go_wp2
            go_ret
            exact ⟨Z7, Z8⟩

/-! ### spec_HexText: function 22 -/
def spec_HexText.l0 : Nat → ByteArray → Int → Option (ByteArray)
 | 0, _, _ => none
 | k + 1, x3, x4 => if x4 > 0 then (if 0 ≤ (Int.tmod x4 16) then (if (Int.tmod x4 16) ≤ (wrap64 ((Int.tmod x4 16) + 1)) then (if (wrap64 ((Int.tmod x4 16) + 1)) ≤ 16 then (if ((⟨#[48, 49, 50, 51, 52, 53, 54, 55, 56, 57, 97, 98, 99, 100, 101, 102]⟩ : ByteArray).extract ((Int.tmod x4 16) : Int).toNat ((wrap64 ((Int.tmod x4 16) + 1)) : Int).toNat).size + x3.size ≤ 9223372036854775807 then (spec_HexText.l0 k (((⟨#[48, 49, 50, 51, 52, 53, 54, 55, 56, 57, 97, 98, 99, 100, 101, 102]⟩ : ByteArray).extract ((Int.tmod x4 16) : Int).toNat ((wrap64 ((Int.tmod x4 16) + 1)) : Int).toNat) ++ x3) (wrap64 (Int.tdiv x4 16))) else (none)) else (none)) else (none)) else (none)) else (some x3)
def spec_HexText.f (k : Nat) (a0 : Int) : Option (ByteArray) := if a0 = 0 then (some (⟨#[48]⟩ : ByteArray)) else (spec_HexText.l0 k (⟨#[]⟩ : ByteArray) (wrap64 (a0)))
theorem spec_HexText.mono_l : ∀ k, (∀ y0 y1, LeO (spec_HexText.l0 k y0 y1) (spec_HexText.l0 (k + 1) y0 y1))
 | 0 => fun _ _ r h => by simp [spec_HexText.l0] at h
 | k + 1 => by
  have ih0 := spec_HexText.mono_l k
  ·intro y0 y1
   unfold spec_HexText.l0
   repeat' first
   | (with_reducible exact ih0 _ _)
   | (with_reducible exact LeO.refl _)
   | (with_reducible exact LeO.none _)
   | (with_reducible refine LeO.ite ?_ ?_)
   | (with_reducible refine LeO.bind ?_ (fun _ => ?_))
   | exact ih0 _ _
   | exact LeO.none _
   | refine LeO.ite ?_ ?_
   | refine LeO.bind ?_ (fun _ => ?_)
theorem spec_HexText.mono : ∀ a0 k, LeO (spec_HexText.f k a0) (spec_HexText.f (k + 1) a0) := by
 intro a0 k
 have ih0 := spec_HexText.mono_l k
 unfold spec_HexText.f
 repeat' first
   | (with_reducible exact ih0 _ _)
   | (with_reducible exact LeO.refl _)
   | (with_reducible exact LeO.none _)
   | (with_reducible refine LeO.ite ?_ ?_)
   | (with_reducible refine LeO.bind ?_ (fun _ => ?_))
   | exact ih0 _ _
   | exact LeO.none _
   | refine LeO.ite ?_ ?_
   | refine LeO.bind ?_ (fun _ => ?_)
set_option maxHeartbeats 8000000 in
set_option maxRecDepth 100000 in
theorem spec_HexText.calls (k : Nat) (a0 : Int) (r : ByteArray) (w : World) (h : spec_HexText.f k a0 = some r) :
  Calls Tryd.prog 22 #[.int .u32 a0] w fun e w' => e = .returned (.string r) ∧ Drawn0 w w' := by
 have H : (if a0 = 0 then (some (⟨#[48]⟩ : ByteArray)) else (spec_HexText.l0 k (⟨#[]⟩ : ByteArray) (wrap64 (a0)))) = some r := h
 clear h
 by_cases c2 : a0 = 0
 ·rw [if_pos c2] at H
  have c2b0 : (a0 == 0) = true := beq_iff_eq.mpr c2
  have c2b1 : (a0 != 0) = false := bne_eq_false_iff_eq.mpr c2
  clear c2
  obtain rfl := Option.some.inj H
  go_enter Tryd.func22, Tryd.ntmps22
  go_wp2
  go_ret
  exact ⟨Z7, Z8⟩
 ·rw [if_neg c2] at H
  have c2b0 : (a0 == 0) = false := beq_eq_false_iff_ne.mpr c2
  have c2b1 : (a0 != 0) = true := bne_iff_ne.mpr c2
  have H' := Aside0.mk H
  clear H
  go_enter Tryd.func22, Tryd.ntmps22
  go_wp2
  go_loopg [3, 4] k (fun kq v3 v4 w' => ∃ (x3_1 : ByteArray) (x4_1 : Int), v3 = .string x3_1 ∧ v4 = .int .i64 x4_1 ∧ Aside0 (spec_HexText.l0 kq x3_1 x4_1 = some r) ∧ Aside0 (kq ≤ k) ∧ Drawn0 w w')
  case atStart => exact ⟨((⟨#[]⟩ : ByteArray)), (wrap64 (a0)), Z7, Z7, H', ⟨Nat.le_refl _⟩, Z8⟩
  case round =>
   clear H'
   try clear c2
   try clear c2b0
   try clear c2b1
   try clear p2
   obtain ⟨x3_1, x4_1, rfl, rfl, HA, HK1, ⟨m1, rfl⟩⟩ := hrel
   cases gk with
   | zero => exact absurd HA.out (by simp [spec_HexText.l0])
   | succ k1 =>
    have H := HA.out
    clear HA
    simp only [spec_HexText.l0] at H
    by_cases c3 : x4_1 > 0
    ·rw [if_pos c3] at H
     have c3b0 : decide (0 < x4_1) = true := decide_eq_true c3
     clear c3
     obtain ⟨ji4, hji4⟩ : ∃ j_ : Int, (Int.tmod x4_1 16) = j_ := ⟨_, rfl⟩
     replace H : (if 0 ≤ (ji4) then (if (ji4) ≤ (wrap64 ((ji4) + 1)) then (if (wrap64 ((ji4) + 1)) ≤ 16 then (if ((⟨#[48, 49, 50, 51, 52, 53, 54, 55, 56, 57, 97, 98, 99, 100, 101, 102]⟩ : ByteArray).extract ((ji4) : Int).toNat ((wrap64 ((ji4) + 1)) : Int).toNat).size + x3_1.size ≤ 9223372036854775807 then (spec_HexText.l0 k1 (((⟨#[48, 49, 50, 51, 52, 53, 54, 55, 56, 57, 97, 98, 99, 100, 101, 102]⟩ : ByteArray).extract ((ji4) : Int).toNat ((wrap64 ((ji4) + 1)) : Int).toNat) ++ x3_1) (wrap64 (Int.tdiv x4_1 16))) else (none)) else (none)) else (none)) else (none)) = some r := by first | (rw [hji4] at H; exact H) | (simp only [hji4] at H ⊢; exact H)
     by_cases c5 : 0 ≤ (ji4)
     ·rw [if_pos c5] at H
      have c5b0 := eq_true c5
      have c5b1 : decide (0 ≤ (ji4)) = true := decide_eq_true c5
      clear c5
      by_cases c6 : (ji4) ≤ (wrap64 ((ji4) + 1))
      ·rw [if_pos c6] at H
       have c6b0 := eq_true c6
       have c6b1 : decide ((ji4) ≤ (wrap64 ((ji4) + 1))) = true := decide_eq_true c6
       by_cases c7 : (wrap64 ((ji4) + 1)) ≤ 16
       ·rw [if_pos c7] at H
        have c7b0 := eq_true c7
        have c7b1 : decide ((wrap64 ((ji4) + 1)) ≤ 16) = true := decide_eq_true c7
        by_cases c8 : ((⟨#[48, 49, 50, 51, 52, 53, 54, 55, 56, 57, 97, 98, 99, 100, 101, 102]⟩ : ByteArray).extract ((ji4) : Int).toNat ((wrap64 ((ji4) + 1)) : Int).toNat).size + x3_1.size ≤ 9223372036854775807
        ·rw [if_pos c8] at H
         have c8b0 := eq_true c8
         have c8b1 : decide (((⟨#[48, 49, 50, 51, 52, 53, 54, 55, 56, 57, 97, 98, 99, 100, 101, 102]⟩ : ByteArray).extract ((ji4) : Int).toNat ((wrap64 ((ji4) + 1)) : Int).toNat).size + x3_1.size ≤ 9223372036854775807) = true := decide_eq_true c8
         try have c8b2 : (9223372036854775807 < ((⟨#[48, 49, 50, 51, 52, 53, 54, 55, 56, 57, 97, 98, 99, 100, 101, 102]⟩ : ByteArray).extract ((ji4) : Int).toNat ((wrap64 ((ji4) + 1)) : Int).toNat).size + x3_1.size) = False := eq_false (Nat.not_lt.2 c8)
         have H' := Aside0.mk H
         clear H
         go_wp2
         go_roundg k1
         case measure => have := HK1.out; omega
         case rel => exact ⟨(((⟨#[48, 49, 50, 51, 52, 53, 54, 55, 56, 57, 97, 98, 99, 100, 101, 102]⟩ : ByteArray).extract ((ji4) : Int).toNat ((wrap64 ((ji4) + 1)) : Int).toNat) ++ x3_1), (wrap64 (Int.tdiv x4_1 16)), (by first | rfl | (simp; done) | (simp only [← hji4] <;> (first | rfl | simp)) | (simp [*]; done)), Z7, H', ⟨Z11⟩, Z8⟩
        ·rw [if_neg c8] at H
         exact absurd H (by simp)
       ·rw [if_neg c7] at H
        exact absurd H (by simp)
      ·rw [if_neg c6] at H
       exact absurd H (by simp)
     ·rw [if_neg c5] at H
      exact absurd H (by simp)
    ·rw [if_neg c3] at H
     have c3b0 : decide (0 < x4_1) = false := decide_eq_false c3
     clear c3
     obtain rfl := Option.some.inj H
     go_wp2
     go_ret
     exact ⟨Z7, Z8⟩

/-! ### spec_DecText: function 23 -/
def spec_DecText.l0 : Nat → Int → ByteArray → Int → Option (ByteArray)
 | 0, _, _, _ => none
 | k + 1, x0, x3, x4 => if x4 = 0 then (if x0 < 0 then (if 1 + x3.size ≤ 9223372036854775807 then (some ((⟨#[45]⟩ : ByteArray) ++ x3)) else (none)) else (some x3)) else (if (Int.tmod x4 10) < 0 then (if 0 ≤ (wrap64 (-(Int.tmod x4 10))) then (if (wrap64 (-(Int.tmod x4 10))) ≤ (wrap64 ((wrap64 (-(Int.tmod x4 10))) + 1)) then (if (wrap64 ((wrap64 (-(Int.tmod x4 10))) + 1)) ≤ 10 then (if ((⟨#[48, 49, 50, 51, 52, 53, 54, 55, 56, 57]⟩ : ByteArray).extract ((wrap64 (-(Int.tmod x4 10))) : Int).toNat ((wrap64 ((wrap64 (-(Int.tmod x4 10))) + 1)) : Int).toNat).size + x3.size ≤ 9223372036854775807 then (spec_DecText.l0 k x0 (((⟨#[48, 49, 50, 51, 52, 53, 54, 55, 56, 57]⟩ : ByteArray).extract ((wrap64 (-(Int.tmod x4 10))) : Int).toNat ((wrap64 ((wrap64 (-(Int.tmod x4 10))) + 1)) : Int).toNat) ++ x3) (wrap64 (Int.tdiv x4 10))) else (none)) else (none)) else (none)) else (none)) else (if 0 ≤ (Int.tmod x4 10) then (if (Int.tmod x4 10) ≤ (wrap64 ((Int.tmod x4 10) + 1)) then (if (wrap64 ((Int.tmod x4 10) + 1)) ≤ 10 then (if ((⟨#[48, 49, 50, 51, 52, 53, 54, 55, 56, 57]⟩ : ByteArray).extract ((Int.tmod x4 10) : Int).toNat ((wrap64 ((Int.tmod x4 10) + 1)) : Int).toNat).size + x3.size ≤ 9223372036854775807 then (spec_DecText.l0 k x0 (((⟨#[48, 49, 50, 51, 52, 53, 54, 55, 56, 57]⟩ : ByteArray).extract ((Int.tmod x4 10) : Int).toNat ((wrap64 ((Int.tmod x4 10) + 1)) : Int).toNat) ++ x3) (wrap64 (Int.tdiv x4 10))) else (none)) else (none)) else (none)) else (none)))
def spec_DecText.f (k : Nat) (a0 : Int) : Option (ByteArray) := if a0 = 0 then (some (⟨#[48]⟩ : ByteArray)) else (spec_DecText.l0 k a0 (⟨#[]⟩ : ByteArray) a0)
theorem spec_DecText.mono_l : ∀ k, (∀ y0 y1 y2, LeO (spec_DecText.l0 k y0 y1 y2) (spec_DecText.l0 (k + 1) y0 y1 y2))
 | 0 => fun _ _ _ r h => by simp [spec_DecText.l0] at h
 | k + 1 => by
  have ih0 := spec_DecText.mono_l k
  ·intro y0 y1 y2
   unfold spec_DecText.l0
   repeat' first
   | (with_reducible exact ih0 _ _ _)
   | (with_reducible exact LeO.refl _)
   | (with_reducible exact LeO.none _)
   | (with_reducible refine LeO.ite ?_ ?_)
   | (with_reducible refine LeO.bind ?_ (fun _ => ?_))
   | exact ih0 _ _ _
   | exact LeO.none _
   | refine LeO.ite ?_ ?_
   | refine LeO.bind ?_ (fun _ => ?_)
theorem spec_DecText.mono : ∀ a0 k, LeO (spec_DecText.f k a0) (spec_DecText.f (k + 1) a0) := by
 intro a0 k
 have ih0 := spec_DecText.mono_l k
 unfold spec_DecText.f
 repeat' first
   | (with_reducible exact ih0 _ _ _)
   | (with_reducible exact LeO.refl _)
   | (with_reducible exact LeO.none _)
   | (with_reducible refine LeO.ite ?_ ?_)
   | (with_reducible refine LeO.bind ?_ (fun _ => ?_))
   | exact ih0 _ _ _
   | exact LeO.none _
   | refine LeO.ite ?_ ?_
   | refine LeO.bind ?_ (fun _ => ?_)
set_option maxHeartbeats 8000000 in
set_option maxRecDepth 100000 in
theorem spec_DecText.calls (k : Nat) (a0 : Int) (r : ByteArray) (w : World) (h : spec_DecText.f k a0 = some r) :
  Calls Tryd.prog 23 #[.int .i64 a0] w fun e w' => e = .returned (.string r) ∧ Drawn0 w w' := by
 have H : (if a0 = 0 then (some (⟨#[48]⟩ : ByteArray)) else (spec_DecText.l0 k a0 (⟨#[]⟩ : ByteArray) a0)) = some r := h
 clear h
 by_cases c2 : a0 = 0
 ·rw [if_pos c2] at H
  have c2b0 : (a0 == 0) = true := beq_iff_eq.mpr c2
  have c2b1 : (a0 != 0) = false := bne_eq_false_iff_eq.mpr c2
  clear c2
  obtain rfl := Option.some.inj H
  go_enter Tryd.func23, Tryd.ntmps23
  go_wp2
  go_ret
  exact ⟨Z7, Z8⟩
 ·rw [if_neg c2] at H
  have c2b0 : (a0 == 0) = false := beq_eq_false_iff_ne.mpr c2
  have c2b1 : (a0 != 0) = true := bne_iff_ne.mpr c2
  have H' := Aside0.mk H
  clear H
  go_enter Tryd.func23, Tryd.ntmps23
  go_wp2
  go_loopg [3, 4] k (fun kq v3 v4 w' => ∃ (x3_1 : ByteArray) (x4_1 : Int), v3 = .string x3_1 ∧ v4 = .int .i64 x4_1 ∧ Aside0 (spec_DecText.l0 kq a0 x3_1 x4_1 = some r) ∧ Aside0 (kq ≤ k) ∧ Drawn0 w w')
  case atStart => exact ⟨((⟨#[]⟩ : ByteArray)), (a0), Z7, Z7, H', ⟨Nat.le_refl _⟩, Z8⟩
  case round =>
   clear H'
   try clear c2
   try clear c2b0
   try clear c2b1
   try clear p2
   obtain ⟨x3_1, x4_1, rfl, rfl, HA, HK1, ⟨m1, rfl⟩⟩ := hrel
   cases gk with
   | zero => exact absurd HA.out (by simp [spec_DecText.l0])
   | succ k1 =>
    have H := HA.out
    clear HA
    simp only [spec_DecText.l0] at H
    by_cases c3 : x4_1 = 0
    ·rw [if_pos c3] at H
     have c3b0 : (x4_1 == 0) = true := beq_iff_eq.mpr c3
     have c3b1 : (x4_1 != 0) = false := bne_eq_false_iff_eq.mpr c3
     clear c3
     by_cases c4 : a0 < 0
     ·rw [if_pos c4] at H
      have c4b0 : decide (a0 < 0) = true := decide_eq_true c4
      clear c4
      by_cases c5 : 1 + x3_1.size ≤ 9223372036854775807
      ·rw [if_pos c5] at H
       have c5b0 := eq_true c5
       have c5b1 : decide (1 + x3_1.size ≤ 9223372036854775807) = true := decide_eq_true c5
       try have c5b2 : (9223372036854775807 < 1 + x3_1.size) = False := eq_false (Nat.not_lt.2 c5)
       obtain rfl := Option.some.inj H
       go_wp2
       go_ret
       exact ⟨Z7, Z8⟩
      ·rw [if_neg c5] at H
       exact absurd H (by simp)
     ·rw [if_neg c4] at H
      have c4b0 : decide (a0 < 0) = false := decide_eq_false c4
      clear c4
      obtain rfl := Option.some.inj H
      go_wp2
      go_ret
      exact ⟨Z7, Z8⟩
    ·rw [if_neg c3] at H
     have c3b0 : (x4_1 == 0) = false := beq_eq_false_iff_ne.mpr c3
     have c3b1 : (x4_1 != 0) = true := bne_iff_ne.mpr c3
     by_cases c6 : (Int.tmod x4_1 10) < 0
     ·rw [if_pos c6] at H
      have c6b0 : decide ((Int.tmod x4_1 10) < 0) = true := decide_eq_true c6
      clear c6
      obtain ⟨ji7, hji7⟩ : ∃ j_ : Int, (wrap64 (-(Int.tmod x4_1 10))) = j_ := ⟨_, rfl⟩
      replace H : (if 0 ≤ (ji7) then (if (ji7) ≤ (wrap64 ((ji7) + 1)) then (if (wrap64 ((ji7) + 1)) ≤ 10 then (if ((⟨#[48, 49, 50, 51, 52, 53, 54, 55, 56, 57]⟩ : ByteArray).extract ((ji7) : Int).toNat ((wrap64 ((ji7) + 1)) : Int).toNat).size + x3_1.size ≤ 9223372036854775807 then (spec_DecText.l0 k1 a0 (((⟨#[48, 49, 50, 51, 52, 53, 54, 55, 56, 57]⟩ : ByteArray).extract ((ji7) : Int).toNat ((wrap64 ((ji7) + 1)) : Int).toNat) ++ x3_1) (wrap64 (Int.tdiv x4_1 10))) else (none)) else (none)) else (none)) else (none)) = some r := Z17
      have hji7w : (IntKind.i64.wrap (-(Int.tmod x4_1 10))) = ji7 := (i64_w _).trans hji7
      by_cases c8 : 0 ≤ (ji7)
      ·rw [if_pos c8] at H
       have c8b0 := eq_true c8
       have c8b1 : decide (0 ≤ (ji7)) = true := decide_eq_true c8
       clear c8
       by_cases c9 : (ji7) ≤ (wrap64 ((ji7) + 1))
       ·rw [if_pos c9] at H
        have c9b0 := eq_true c9
        have c9b1 : decide ((ji7) ≤ (wrap64 ((ji7) + 1))) = true := decide_eq_true c9
        by_cases c10 : (wrap64 ((ji7) + 1)) ≤ 10
        ·rw [if_pos c10] at H
         have c10b0 := eq_true c10
         have c10b1 : decide ((wrap64 ((ji7) + 1)) ≤ 10) = true := decide_eq_true c10
         by_cases c11 : ((⟨#[48, 49, 50, 51, 52, 53, 54, 55, 56, 57]⟩ : ByteArray).extract ((ji7) : Int).toNat ((wrap64 ((ji7) + 1)) : Int).toNat).size + x3_1.size ≤ 9223372036854775807
         ·rw [if_pos c11] at H
          have c11b0 := eq_true c11
          have c11b1 : decide (((⟨#[48, 49, 50, 51, 52, 53, 54, 55, 56, 57]⟩ : ByteArray).extract ((ji7) : Int).toNat ((wrap64 ((ji7) + 1)) : Int).toNat).size + x3_1.size ≤ 9223372036854775807) = true := decide_eq_true c11
          try have c11b2 : (9223372036854775807 < ((⟨#[48, 49, 50, 51, 52, 53, 54, 55, 56, 57]⟩ : ByteArray).extract ((ji7) : Int).toNat ((wrap64 ((ji7) + 1)) : Int).toNat).size + x3_1.size) = False := eq_false (Nat.not_lt.2 c11)
          have H' := Aside0.mk H
          clear H
          go_wp2
          go_roundg k1
          case measure => have := HK1.out; omega
          case rel => exact ⟨(((⟨#[48, 49, 50, 51, 52, 53, 54, 55, 56, 57]⟩ : ByteArray).extract ((ji7) : Int).toNat ((wrap64 ((ji7) + 1)) : Int).toNat) ++ x3_1), (wrap64 (Int.tdiv x4_1 10)), (by first | rfl | (simp; done) | (simp only [← hji7] <;> (first | rfl | simp)) | (simp [*]; done)), Z7, H', ⟨Z11⟩, Z8⟩
         ·rw [if_neg c11] at H
          exact absurd H (by simp)
        ·rw [if_neg c10] at H
         exact absurd H (by simp)
       ·rw [if_neg c9] at H
        exact absurd H (by simp)
      ·rw [if_neg c8] at H
       exact absurd H (by simp)
     ·rw [if_neg c6] at H
      have c6b0 : decide ((Int.tmod x4_1 10) < 0) = false := decide_eq_false c6
      clear c6
      obtain ⟨ji12, hji12⟩ : ∃ j_ : Int, (Int.tmod x4_1 10) = j_ := ⟨_, rfl⟩
      replace H : (if 0 ≤ (ji12) then (if (ji12) ≤ (wrap64 ((ji12) + 1)) then (if (wrap64 ((ji12) + 1)) ≤ 10 then (if ((⟨#[48, 49, 50, 51, 52, 53, 54, 55, 56, 57]⟩ : ByteArray).extract ((ji12) : Int).toNat ((wrap64 ((ji12) + 1)) : Int).toNat).size + x3_1.size ≤ 9223372036854775807 then (spec_DecText.l0 k1 a0 (((⟨#[48, 49, 50, 51, 52, 53, 54, 55, 56, 57]⟩ : ByteArray).extract ((ji12) : Int).toNat ((wrap64 ((ji12) + 1)) : Int).toNat) ++ x3_1) (wrap64 (Int.tdiv x4_1 10))) else (none)) else (none)) else (none)) else (none)) = some r := Z18
      (try rw [hji12] at c6b0)
      by_cases c13 : 0 ≤ (ji12)
      ·rw [if_pos c13] at H
       have c13b0 := eq_true c13
       have c13b1 : decide (0 ≤ (ji12)) = true := decide_eq_true c13
       clear c13
       by_cases c14 : (ji12) ≤ (wrap64 ((ji12) + 1))
       ·rw [if_pos c14] at H
        have c14b0 := eq_true c14
        have c14b1 : decide ((ji12) ≤ (wrap64 ((ji12) + 1))) = true := decide_eq_true c14
        by_cases c15 : (wrap64 ((ji12) + 1)) ≤ 10
        ·rw [if_pos c15] at H
         have c15b0 := eq_true c15
         have c15b1 : decide ((wrap64 ((ji12) + 1)) ≤ 10) = true := decide_eq_true c15
         by_cases c16 : ((⟨#[48, 49, 50, 51, 52, 53, 54, 55, 56, 57]⟩ : ByteArray).extract ((ji12) : Int).toNat ((wrap64 ((ji12) + 1)) : Int).toNat).size + x3_1.size ≤ 9223372036854775807
         ·rw [if_pos c16] at H
          have c16b0 := eq_true c16
          have c16b1 : decide (((⟨#[48, 49, 50, 51, 52, 53, 54, 55, 56, 57]⟩ : ByteArray).extract ((ji12) : Int).toNat ((wrap64 ((ji12) + 1)) : Int).toNat).size + x3_1.size ≤ 9223372036854775807) = true := decide_eq_true c16
          try have c16b2 : (9223372036854775807 < ((⟨#[48, 49, 50, 51, 52, 53, 54, 55, 56, 57]⟩ : ByteArray).extract ((ji12) : Int).toNat ((wrap64 ((ji12) + 1)) : Int).toNat).size + x3_1.size) = False := eq_false (Nat.not_lt.2 c16)
          have H' := Aside0.mk H
          clear H
          go_wp2
          go_roundg k1
          case measure => have := HK1.out; omega
          case rel => exact ⟨(((⟨#[48, 49, 50, 51, 52, 53, 54, 55, 56, 57]⟩ : ByteArray).extract ((ji12) : Int).toNat ((wrap64 ((ji12) + 1)) : Int).toNat) ++ x3_1), (wrap64 (Int.tdiv x4_1 10)), (by first | rfl | (simp; done) | (simp only [← hji12] <;> (first | rfl | simp)) | (simp [*]; done)), Z7, H', ⟨Z11⟩, Z8⟩
         ·rw [if_neg c16] at H
          exact absurd H (by simp)
        ·rw [if_neg c15] at H
         exact absurd H (by simp)
       ·rw [if_neg c14] at H
        exact absurd H (by simp)
      ·rw [if_neg c13] at H
       exact absurd H (by simp)

/-! ### spec_ItemText: function 8 -/
def spec_ItemText.j0 : Nat → ByteArray → Int → Bool → Int → ByteArray → Int → Bool → Int → Option (ByteArray)
 | 0, _, _, _, _, _, _, _, _ => none
 | k + 1, x3, x11, x12, x206000, x206001, x206002, x206003, x206004 => if x12 = true then (if x206003 = true then (if x3.size + 1 ≤ 9223372036854775807 then ((spec_HexText.f k ((x206002) % 4294967296)).bind fun t208 => (if (x3 ++ (⟨#[36]⟩ : ByteArray)).size + t208.size ≤ 9223372036854775807 then (some ((x3 ++ (⟨#[36]⟩ : ByteArray)) ++ t208)) else (none))) else (none)) else (if x3.size + 1 ≤ 9223372036854775807 then ((spec_DecText.f k (wrap64 (x206002))).bind fun t209 => (if (x3 ++ (⟨#[35]⟩ : ByteArray)).size + t209.size ≤ 9223372036854775807 then (some ((x3 ++ (⟨#[35]⟩ : ByteArray)) ++ t209)) else (none))) else (none))) else (if x11 = 9 then (if x3.size + x206001.size ≤ 9223372036854775807 then (if (x3 ++ x206001).size + 1 ≤ 9223372036854775807 then ((spec_DecText.f k (wrap64 (x206002))).bind fun t210 => (if ((x3 ++ x206001) ++ (⟨#[35]⟩ : ByteArray)).size + t210.size ≤ 9223372036854775807 then (some (((x3 ++ x206001) ++ (⟨#[35]⟩ : ByteArray)) ++ t210)) else (none))) else (none)) else (none)) else (if x11 = 0 then ((spec_HexText.f k x206004).bind fun t211 => (if x3.size + t211.size ≤ 9223372036854775807 then (some (x3 ++ t211)) else (none))) else (if x3.size + x206001.size ≤ 9223372036854775807 then (some (x3 ++ x206001)) else (none))))
def spec_ItemText.f (k : Nat) (a0_0 : Int) (a0_1 : ByteArray) (a0_2 : Int) (a0_3 : Bool) (a0_4 : Int) : Option (ByteArray) := (spec_ItemOk.f k a0_0 a0_1 a0_2 a0_3 a0_4).bind fun t206 => (if t206 = true then ((spec_l06Mark.f k a0_0).bind fun t207 => (if a0_0 = 7 then (spec_ItemText.j0 k t207 a0_0 (a0_0 == 7) a0_0 a0_1 a0_2 a0_3 a0_4) else (spec_ItemText.j0 k t207 a0_0 (a0_0 == 8) a0_0 a0_1 a0_2 a0_3 a0_4))) else (some (⟨#[]⟩ : ByteArray)))
theorem spec_ItemText.mono_l : ∀ k, (∀ y0 y1 y2 y3 y4 y5 y6 y7, LeO (spec_ItemText.j0 k y0 y1 y2 y3 y4 y5 y6 y7) (spec_ItemText.j0 (k + 1) y0 y1 y2 y3 y4 y5 y6 y7))
 | 0 => fun _ _ _ _ _ _ _ _ r h => by simp [spec_ItemText.j0] at h
 | k + 1 => by
  have ih0 := spec_ItemText.mono_l k
  ·intro y0 y1 y2 y3 y4 y5 y6 y7
   unfold spec_ItemText.j0
   repeat' first
   | (with_reducible exact ih0 _ _ _ _ _ _ _ _)
   | (with_reducible exact spec_DecText.mono _ _)
   | (with_reducible exact spec_HexText.mono _ _)
   | (with_reducible exact spec_ItemOk.mono _ _ _ _ _ _)
   | (with_reducible exact spec_l06Mark.mono _ _)
   | (with_reducible exact LeO.refl _)
   | (with_reducible exact LeO.none _)
   | (with_reducible refine LeO.ite ?_ ?_)
   | (with_reducible refine LeO.bind ?_ (fun _ => ?_))
   | exact ih0 _ _ _ _ _ _ _ _
   | exact spec_DecText.mono _ _
   | exact spec_HexText.mono _ _
   | exact spec_ItemOk.mono _ _ _ _ _ _
   | exact spec_l06Mark.mono _ _
   | exact LeO.none _
   | refine LeO.ite ?_ ?_
   | refine LeO.bind ?_ (fun _ => ?_)
theorem spec_ItemText.mono : ∀ a0 a1 a2 a3 a4 k, LeO (spec_ItemText.f k a0 a1 a2 a3 a4) (spec_ItemText.f (k + 1) a0 a1 a2 a3 a4) := by
 intro a0 a1 a2 a3 a4 k
 have ih0 := spec_ItemText.mono_l k
 unfold spec_ItemText.f
 repeat' first
   | (with_reducible exact ih0 _ _ _ _ _ _ _ _)
   | (with_reducible exact spec_DecText.mono _ _)
   | (with_reducible exact spec_HexText.mono _ _)
   | (with_reducible exact spec_ItemOk.mono _ _ _ _ _ _)
   | (with_reducible exact spec_l06Mark.mono _ _)
   | (with_reducible exact LeO.refl _)
   | (with_reducible exact LeO.none _)
   | (with_reducible refine LeO.ite ?_ ?_)
   | (with_reducible refine LeO.bind ?_ (fun _ => ?_))
   | exact ih0 _ _ _ _ _ _ _ _
   | exact spec_DecText.mono _ _
   | exact spec_HexText.mono _ _
   | exact spec_ItemOk.mono _ _ _ _ _ _
   | exact spec_l06Mark.mono _ _
   | exact LeO.none _
   | refine LeO.ite ?_ ?_
   | refine LeO.bind ?_ (fun _ => ?_)
set_option maxHeartbeats 8000000 in
set_option maxRecDepth 100000 in
theorem spec_ItemText.calls (k : Nat) (a0_0 : Int) (a0_1 : ByteArray) (a0_2 : Int) (a0_3 : Bool) (a0_4 : Int) (r : ByteArray) (w : World) (h : spec_ItemText.f k a0_0 a0_1 a0_2 a0_3 a0_4 = some r) :
  Calls Tryd.prog 8 #[.agg #[.int .i64 a0_0, .string a0_1, .int .i32 a0_2, .bool a0_3, .int .u32 a0_4]] w fun e w' => e = .returned (.string r) ∧ Below w.heap.size w w' := by
 have hu27 := Tryd.underlying27
 have HB := Z (Below.refl w.heap.size w)
 have H : ((spec_ItemOk.f k a0_0 a0_1 a0_2 a0_3 a0_4).bind fun t206 => (if t206 = true then ((spec_l06Mark.f k a0_0).bind fun t207 => (if a0_0 = 7 then (spec_ItemText.j0 k t207 a0_0 (a0_0 == 7) a0_0 a0_1 a0_2 a0_3 a0_4) else (spec_ItemText.j0 k t207 a0_0 (a0_0 == 8) a0_0 a0_1 a0_2 a0_3 a0_4))) else (some (⟨#[]⟩ : ByteArray)))) = some r := h
 clear h
 replace H := Option.bind_eq_some_iff.mp H
 obtain ⟨t206, A20, H⟩ := H
 replace H : (if t206 = true then ((spec_l06Mark.f k a0_0).bind fun t207 => (if a0_0 = 7 then (spec_ItemText.j0 k t207 a0_0 (a0_0 == 7) a0_0 a0_1 a0_2 a0_3 a0_4) else (spec_ItemText.j0 k t207 a0_0 (a0_0 == 8) a0_0 a0_1 a0_2 a0_3 a0_4))) else (some (⟨#[]⟩ : ByteArray))) = some r := H
 have A2 := Aside0.mk A20
 clear A20
 by_cases c3 : t206 = true
 ·subst c3
  have H1 : ((spec_l06Mark.f k a0_0).bind fun t207 => (if a0_0 = 7 then (spec_ItemText.j0 k t207 a0_0 (a0_0 == 7) a0_0 a0_1 a0_2 a0_3 a0_4) else (spec_ItemText.j0 k t207 a0_0 (a0_0 == 8) a0_0 a0_1 a0_2 a0_3 a0_4))) = some r := Z2
  clear H
  have H := H1
  clear H1
  replace H := Option.bind_eq_some_iff.mp H
  obtain ⟨t207, A40, H⟩ := H
  replace H : (if a0_0 = 7 then (spec_ItemText.j0 k t207 a0_0 (a0_0 == 7) a0_0 a0_1 a0_2 a0_3 a0_4) else (spec_ItemText.j0 k t207 a0_0 (a0_0 == 8) a0_0 a0_1 a0_2 a0_3 a0_4)) = some r := H
  have A4 := Aside0.mk A40
  clear A40
  have HC5 := Aside0.mk H
  clear H
  go_enter Tryd.func8, Tryd.ntmps8
  go_upto_if 12 with (first | ((with_reducible refine gate_dst (N := 1) rfl ?_); refine box_event (by rfl) (N := 1) (by rfl) (cs := #[.int .i64 a0_0, .string a0_1, .int .i32 a0_2, .bool a0_3, .int .u32 a0_4]) (t := 27) Z3 ?_; intro gb205 hg w6 hbox hb; have BK205 := Z (hbox); have GW205 := Z ((Z79 : w.heap.size ≤ gb205)); have GE205 := Z ((Z79 : w.heap.size ≤ gb205)); replace HB := Z (below_step Z67 hb); clear hb hbox hg; have hcz7_0 : w6.cell? ⟨gb205, 0, none⟩ = some (.int .i64 a0_0) := (blk_cell BK205.out 0).trans rfl; have hcz7_1 : w6.cell? ⟨gb205, 1, none⟩ = some (.string a0_1) := (blk_cell BK205.out 1).trans rfl; have hcz7_2 : w6.cell? ⟨gb205, 2, none⟩ = some (.int .i32 a0_2) := (blk_cell BK205.out 2).trans rfl; have hcz7_3 : w6.cell? ⟨gb205, 3, none⟩ = some (.bool a0_3) := (blk_cell BK205.out 3).trans rfl; have hcz7_4 : w6.cell? ⟨gb205, 4, none⟩ = some (.int .u32 a0_4) := (blk_cell BK205.out 4).trans rfl; have hfz7_0 := blk_frozen BK205.out 0; have hfz7_1 := blk_frozen BK205.out 1; have hfz7_2 := blk_frozen BK205.out 2; have hfz7_3 := blk_frozen BK205.out 3; have hfz7_4 := blk_frozen BK205.out 4) | (go_at_call 18; (with_reducible refine (spec_ItemOk.calls k a0_0 a0_1 a0_2 a0_3 a0_4 true _ A2.out).mono ?_); rintro e w8 ⟨rfl, hb⟩; replace BK205 := Z (blk_below (g := gb205) (o := .cells #[.int .i64 a0_0, .string a0_1, .int .i32 a0_2, .bool a0_3, .int .u32 a0_4] 27 (0, 0)) (Z15 BK205) hb); replace HB := Z (below_step Z67 hb); (try clear hb); (try clear hb2); (try clear hk); (try clear hi); have hcz9_0 : w8.cell? ⟨gb205, 0, none⟩ = some (.int .i64 a0_0) := (blk_cell BK205.out 0).trans rfl; have hcz9_1 : w8.cell? ⟨gb205, 1, none⟩ = some (.string a0_1) := (blk_cell BK205.out 1).trans rfl; have hcz9_2 : w8.cell? ⟨gb205, 2, none⟩ = some (.int .i32 a0_2) := (blk_cell BK205.out 2).trans rfl; have hcz9_3 : w8.cell? ⟨gb205, 3, none⟩ = some (.bool a0_3) := (blk_cell BK205.out 3).trans rfl; have hcz9_4 : w8.cell? ⟨gb205, 4, none⟩ = some (.int .u32 a0_4) := (blk_cell BK205.out 4).trans rfl; have hfz9_0 := blk_frozen BK205.out 0; have hfz9_1 := blk_frozen BK205.out 1; have hfz9_2 := blk_frozen BK205.out 2; have hfz9_3 := blk_frozen BK205.out 3; have hfz9_4 := blk_frozen BK205.out 4) | (go_at_call 21; (with_reducible refine (spec_l06Mark.calls k a0_0 t207 _ A4.out).mono ?_); rintro e w' ⟨rfl, ⟨nd, rfl⟩⟩; (try first | exact ⟨rfl, _, World.drewN_drewN _ _ _⟩ | exact ⟨rfl, _, Eq.trans (World.drewN_drewN _ _ _) (congrArg (World.drewN _) (Nat.add_assoc _ _ _))⟩)))
  repeat (go_quiet (first | ((with_reducible refine gate_dst (N := 1) rfl ?_); refine box_event (by rfl) (N := 1) (by rfl) (cs := #[.int .i64 a0_0, .string a0_1, .int .i32 a0_2, .bool a0_3, .int .u32 a0_4]) (t := 27) Z3 ?_; intro gb205 hg w6 hbox hb; have BK205 := Z (hbox); have GW205 := Z ((Z79 : w.heap.size ≤ gb205)); have GE205 := Z ((Z79 : w.heap.size ≤ gb205)); replace HB := Z (below_step Z67 hb); clear hb hbox hg; have hcz7_0 : w6.cell? ⟨gb205, 0, none⟩ = some (.int .i64 a0_0) := (blk_cell BK205.out 0).trans rfl; have hcz7_1 : w6.cell? ⟨gb205, 1, none⟩ = some (.string a0_1) := (blk_cell BK205.out 1).trans rfl; have hcz7_2 : w6.cell? ⟨gb205, 2, none⟩ = some (.int .i32 a0_2) := (blk_cell BK205.out 2).trans rfl; have hcz7_3 : w6.cell? ⟨gb205, 3, none⟩ = some (.bool a0_3) := (blk_cell BK205.out 3).trans rfl; have hcz7_4 : w6.cell? ⟨gb205, 4, none⟩ = some (.int .u32 a0_4) := (blk_cell BK205.out 4).trans rfl; have hfz7_0 := blk_frozen BK205.out 0; have hfz7_1 := blk_frozen BK205.out 1; have hfz7_2 := blk_frozen BK205.out 2; have hfz7_3 := blk_frozen BK205.out 3; have hfz7_4 := blk_frozen BK205.out 4) | (go_at_call 18; (with_reducible refine (spec_ItemOk.calls k a0_0 a0_1 a0_2 a0_3 a0_4 true _ A2.out).mono ?_); rintro e w8 ⟨rfl, hb⟩; replace BK205 := Z (blk_below (g := gb205) (o := .cells #[.int .i64 a0_0, .string a0_1, .int .i32 a0_2, .bool a0_3, .int .u32 a0_4] 27 (0, 0)) (Z15 BK205) hb); replace HB := Z (below_step Z67 hb); (try clear hb); (try clear hb2); (try clear hk); (try clear hi); have hcz9_0 : w8.cell? ⟨gb205, 0, none⟩ = some (.int .i64 a0_0) := (blk_cell BK205.out 0).trans rfl; have hcz9_1 : w8.cell? ⟨gb205, 1, none⟩ = some (.string a0_1) := (blk_cell BK205.out 1).trans rfl; have hcz9_2 : w8.cell? ⟨gb205, 2, none⟩ = some (.int .i32 a0_2) := (blk_cell BK205.out 2).trans rfl; have hcz9_3 : w8.cell? ⟨gb205, 3, none⟩ = some (.bool a0_3) := (blk_cell BK205.out 3).trans rfl; have hcz9_4 : w8.cell? ⟨gb205, 4, none⟩ = some (.int .u32 a0_4) := (blk_cell BK205.out 4).trans rfl; have hfz9_0 := blk_frozen BK205.out 0; have hfz9_1 := blk_frozen BK205.out 1; have hfz9_2 := blk_frozen BK205.out 2; have hfz9_3 := blk_frozen BK205.out 3; have hfz9_4 := blk_frozen BK205.out 4) | (go_at_call 21; (with_reducible refine (spec_l06Mark.calls k a0_0 t207 _ A4.out).mono ?_); rintro e w' ⟨rfl, ⟨nd, rfl⟩⟩; (try first | exact ⟨rfl, _, World.drewN_drewN _ _ _⟩ | exact ⟨rfl, _, Eq.trans (World.drewN_drewN _ _ _) (congrArg (World.drewN _) (Nat.add_assoc _ _ _))⟩))); go_upto_if 12 with (first | ((with_reducible refine gate_dst (N := 1) rfl ?_); refine box_event (by rfl) (N := 1) (by rfl) (cs := #[.int .i64 a0_0, .string a0_1, .int .i32 a0_2, .bool a0_3, .int .u32 a0_4]) (t := 27) Z3 ?_; intro gb205 hg w6 hbox hb; have BK205 := Z (hbox); have GW205 := Z ((Z79 : w.heap.size ≤ gb205)); have GE205 := Z ((Z79 : w.heap.size ≤ gb205)); replace HB := Z (below_step Z67 hb); clear hb hbox hg; have hcz7_0 : w6.cell? ⟨gb205, 0, none⟩ = some (.int .i64 a0_0) := (blk_cell BK205.out 0).trans rfl; have hcz7_1 : w6.cell? ⟨gb205, 1, none⟩ = some (.string a0_1) := (blk_cell BK205.out 1).trans rfl; have hcz7_2 : w6.cell? ⟨gb205, 2, none⟩ = some (.int .i32 a0_2) := (blk_cell BK205.out 2).trans rfl; have hcz7_3 : w6.cell? ⟨gb205, 3, none⟩ = some (.bool a0_3) := (blk_cell BK205.out 3).trans rfl; have hcz7_4 : w6.cell? ⟨gb205, 4, none⟩ = some (.int .u32 a0_4) := (blk_cell BK205.out 4).trans rfl; have hfz7_0 := blk_frozen BK205.out 0; have hfz7_1 := blk_frozen BK205.out 1; have hfz7_2 := blk_frozen BK205.out 2; have hfz7_3 := blk_frozen BK205.out 3; have hfz7_4 := blk_frozen BK205.out 4) | (go_at_call 18; (with_reducible refine (spec_ItemOk.calls k a0_0 a0_1 a0_2 a0_3 a0_4 true _ A2.out).mono ?_); rintro e w8 ⟨rfl, hb⟩; replace BK205 := Z (blk_below (g := gb205) (o := .cells #[.int .i64 a0_0, .string a0_1, .int .i32 a0_2, .bool a0_3, .int .u32 a0_4] 27 (0, 0)) (Z15 BK205) hb); replace HB := Z (below_step Z67 hb); (try clear hb); (try clear hb2); (try clear hk); (try clear hi); have hcz9_0 : w8.cell? ⟨gb205, 0, none⟩ = some (.int .i64 a0_0) := (blk_cell BK205.out 0).trans rfl; have hcz9_1 : w8.cell? ⟨gb205, 1, none⟩ = some (.string a0_1) := (blk_cell BK205.out 1).trans rfl; have hcz9_2 : w8.cell? ⟨gb205, 2, none⟩ = some (.int .i32 a0_2) := (blk_cell BK205.out 2).trans rfl; have hcz9_3 : w8.cell? ⟨gb205, 3, none⟩ = some (.bool a0_3) := (blk_cell BK205.out 3).trans rfl; have hcz9_4 : w8.cell? ⟨gb205, 4, none⟩ = some (.int .u32 a0_4) := (blk_cell BK205.out 4).trans rfl; have hfz9_0 := blk_frozen BK205.out 0; have hfz9_1 := blk_frozen BK205.out 1; have hfz9_2 := blk_frozen BK205.out 2; have hfz9_3 := blk_frozen BK205.out 3; have hfz9_4 := blk_frozen BK205.out 4) | (go_at_call 21; (with_reducible refine (spec_l06Mark.calls k a0_0 t207 _ A4.out).mono ?_); rintro e w' ⟨rfl, ⟨nd, rfl⟩⟩; (try first | exact ⟨rfl, _, World.drewN_drewN _ _ _⟩ | exact ⟨rfl, _, Eq.trans (World.drewN_drewN _ _ _) (congrArg (World.drewN _) (Nat.add_assoc _ _ _))⟩))))
  (try simp only [Act.put, List.setIfInBounds_toArray, List.set_cons_zero, List.set_cons_succ])
  go_cut [12] (fun v12 wc => ∃ (kq : Nat) (x12_4 : Bool), v12 = .bool x12_4 ∧ Aside0 (spec_ItemText.j0 kq t207 a0_0 x12_4 a0_0 a0_1 a0_2 a0_3 a0_4 = some r) ∧ Aside0 (kq ≤ k) ∧ Aside0 (wc.heap[gb205]? = some (.cells #[.int .i64 a0_0, .string a0_1, .int .i32 a0_2, .bool a0_3, .int .u32 a0_4] 27 (0, 0))) ∧ Aside0 (Below w.heap.size w wc))
  case first =>
   have H := HC5.out
   clear HC5
   by_cases c10 : a0_0 = 7
   ·rw [if_pos c10] at H
    have c10b0 : (a0_0 == 7) = true := beq_iff_eq.mpr c10
    have c10b1 : (a0_0 != 7) = false := bne_eq_false_iff_eq.mpr c10
    clear c10
    (first | rw [c10b0] | (simp only [i64_w, i32_w]; rw [c10b0]) | skip)
    have H' := Aside0.mk H
    clear H
    go_wp2
    repeat (go_quiet (fail); try go_wp2)
    go_meet
    case rel => exact ⟨_, ((a0_0 == 7)), Z7, H', ⟨Z14⟩, ⟨(Z15 BK205)⟩, ⟨Z67⟩⟩
   ·rw [if_neg c10] at H
    have c10b0 : (a0_0 == 7) = false := beq_eq_false_iff_ne.mpr c10
    have c10b1 : (a0_0 != 7) = true := bne_iff_ne.mpr c10
    (first | rw [c10b0] | (simp only [i64_w, i32_w]; rw [c10b0]) | skip)
    have H' := Aside0.mk H
    clear H
    go_wp2
    repeat (go_quiet (fail); try go_wp2)
    go_meet
    case rel => exact ⟨_, ((a0_0 == 8)), Z7, H', ⟨Z14⟩, ⟨(Z15 BK205)⟩, ⟨Z67⟩⟩
  case rest =>
   clear HC5
   try clear c1
   try clear p2
   try clear c3
   try clear c8
   try clear c10
   try clear c10b0
   try clear c10b1
   try clear hcz7_0
   try clear hcz7_1
   try clear hcz7_2
   try clear hcz7_3
   try clear hcz7_4
   try clear hcz9_0
   try clear hcz9_1
   try clear hcz9_2
   try clear hcz9_3
   try clear hcz9_4
   try clear hfz7_0
   try clear hfz7_1
   try clear hfz7_2
   try clear hfz7_3
   try clear hfz7_4
   try clear hfz9_0
   try clear hfz9_1
   try clear hfz9_2
   try clear hfz9_3
   try clear hfz9_4
   obtain ⟨kq, x12_4, rfl, HA, HJ4, BK205, HB⟩ := hcut
   cases kq with
   | zero => exact absurd HA.out (by simp [spec_ItemText.j0])
   | succ kj4 =>
    have H := HA.out
    clear HA
    simp only [spec_ItemText.j0] at H
    by_cases c11 : x12_4 = true
    ·subst c11
     have H1 : (if a0_3 = true then (if t207.size + 1 ≤ 9223372036854775807 then ((spec_HexText.f kj4 ((a0_2) % 4294967296)).bind fun t208 => (if (t207 ++ (⟨#[36]⟩ : ByteArray)).size + t208.size ≤ 9223372036854775807 then (some ((t207 ++ (⟨#[36]⟩ : ByteArray)) ++ t208)) else (none))) else (none)) else (if t207.size + 1 ≤ 9223372036854775807 then ((spec_DecText.f kj4 (wrap64 (a0_2))).bind fun t209 => (if (t207 ++ (⟨#[35]⟩ : ByteArray)).size + t209.size ≤ 9223372036854775807 then (some ((t207 ++ (⟨#[35]⟩ : ByteArray)) ++ t209)) else (none))) else (none))) = some r := Z2
     clear H
     have H := H1
     clear H1
     by_cases c12 : a0_3 = true
     ·subst c12
      have H1 : (if t207.size + 1 ≤ 9223372036854775807 then ((spec_HexText.f kj4 ((a0_2) % 4294967296)).bind fun t208 => (if (t207 ++ (⟨#[36]⟩ : ByteArray)).size + t208.size ≤ 9223372036854775807 then (some ((t207 ++ (⟨#[36]⟩ : ByteArray)) ++ t208)) else (none))) else (none)) = some r := Z2
      clear H
      have H := H1
      clear H1
      by_cases c13 : t207.size + 1 ≤ 9223372036854775807
      ·rw [if_pos c13] at H
       have c13b0 := eq_true c13
       have c13b1 : decide (t207.size + 1 ≤ 9223372036854775807) = true := decide_eq_true c13
       try have c13b2 : (9223372036854775807 < t207.size + 1) = False := eq_false (Nat.not_lt.2 c13)
       replace H := Option.bind_eq_some_iff.mp H
       obtain ⟨t208, A140, H⟩ := H
       replace H : (if (t207 ++ (⟨#[36]⟩ : ByteArray)).size + t208.size ≤ 9223372036854775807 then (some ((t207 ++ (⟨#[36]⟩ : ByteArray)) ++ t208)) else (none)) = some r := H
       have A14 := Aside0.mk A140
       clear A140
       by_cases c15 : (t207 ++ (⟨#[36]⟩ : ByteArray)).size + t208.size ≤ 9223372036854775807
       ·rw [if_pos c15] at H
        have c15b0 := eq_true c15
        have c15b1 : decide ((t207 ++ (⟨#[36]⟩ : ByteArray)).size + t208.size ≤ 9223372036854775807) = true := decide_eq_true c15
        try have c15b2 : (9223372036854775807 < (t207 ++ (⟨#[36]⟩ : ByteArray)).size + t208.size) = False := eq_false (Nat.not_lt.2 c15)
        try (have c15b3 := c15; simp only [ByteArray.size_append] at c15b3; replace c15b3 := eq_true c15b3)
        try (have c15b4 := c15b2; simp only [ByteArray.size_append] at c15b4; (try rw [show (⟨#[36]⟩ : ByteArray).size = 1 from rfl] at c15b4))
        obtain rfl := Option.some.inj H
        have hcz16_0 : wc.cell? ⟨gb205, 0, none⟩ = some (.int .i64 a0_0) := (blk_cell BK205.out 0).trans rfl
        have hcz16_1 : wc.cell? ⟨gb205, 1, none⟩ = some (.string a0_1) := (blk_cell BK205.out 1).trans rfl
        have hcz16_2 : wc.cell? ⟨gb205, 2, none⟩ = some (.int .i32 a0_2) := (blk_cell BK205.out 2).trans rfl
        have hcz16_3 : wc.cell? ⟨gb205, 3, none⟩ = some (.bool true) := (blk_cell BK205.out 3).trans rfl
        have hcz16_4 : wc.cell? ⟨gb205, 4, none⟩ = some (.int .u32 a0_4) := (blk_cell BK205.out 4).trans rfl
        have hfz16_0 := blk_frozen BK205.out 0
        have hfz16_1 := blk_frozen BK205.out 1
        have hfz16_2 := blk_frozen BK205.out 2
        have hfz16_3 := blk_frozen BK205.out 3
        have hfz16_4 := blk_frozen BK205.out 4
        go_wp2_with (first | (go_at_call 22; (with_reducible refine (spec_HexText.calls kj4 ((a0_2) % 4294967296) t208 _ A14.out).mono ?_); rintro e w' ⟨rfl, ⟨nd, rfl⟩⟩; (try first | exact ⟨rfl, _, World.drewN_drewN _ _ _⟩ | exact ⟨rfl, _, Eq.trans (World.drewN_drewN _ _ _) (congrArg (World.drewN _) (Nat.add_assoc _ _ _))⟩)))
        repeat (go_quiet (first | (go_at_call 22; (with_reducible refine (spec_HexText.calls kj4 ((a0_2) % 4294967296) t208 _ A14.out).mono ?_); rintro e w' ⟨rfl, ⟨nd, rfl⟩⟩; (try first | exact ⟨rfl, _, World.drewN_drewN _ _ _⟩ | exact ⟨rfl, _, Eq.trans (World.drewN_drewN _ _ _) (congrArg (World.drewN _) (Nat.add_assoc _ _ _))⟩))); try go_wp2_with (first | (go_at_call 22; (with_reducible refine (spec_HexText.calls kj4 ((a0_2) % 4294967296) t208 _ A14.out).mono ?_); rintro e w' ⟨rfl, ⟨nd, rfl⟩⟩; (try first | exact ⟨rfl, _, World.drewN_drewN _ _ _⟩ | exact ⟨rfl, _, Eq.trans (World.drewN_drewN _ _ _) (congrArg (World.drewN _) (Nat.add_assoc _ _ _))⟩))))
        go_ret
        exact ⟨Z68, Z67⟩
       ·rw [if_neg c15] at H
        exact absurd H (by simp)
      ·rw [if_neg c13] at H
       exact absurd H (by simp)
     ·replace c12 := Bool.eq_false_iff.mpr c12
      subst c12
      have H1 : (if t207.size + 1 ≤ 9223372036854775807 then ((spec_DecText.f kj4 (wrap64 (a0_2))).bind fun t209 => (if (t207 ++ (⟨#[35]⟩ : ByteArray)).size + t209.size ≤ 9223372036854775807 then (some ((t207 ++ (⟨#[35]⟩ : ByteArray)) ++ t209)) else (none))) else (none)) = some r := by rw [if_neg (show ¬ (false = true) by decide)] at H; exact H
      clear H
      have H := H1
      clear H1
      by_cases c17 : t207.size + 1 ≤ 9223372036854775807
      ·rw [if_pos c17] at H
       have c17b0 := eq_true c17
       have c17b1 : decide (t207.size + 1 ≤ 9223372036854775807) = true := decide_eq_true c17
       try have c17b2 : (9223372036854775807 < t207.size + 1) = False := eq_false (Nat.not_lt.2 c17)
       replace H := Option.bind_eq_some_iff.mp H
       obtain ⟨t209, A180, H⟩ := H
       replace H : (if (t207 ++ (⟨#[35]⟩ : ByteArray)).size + t209.size ≤ 9223372036854775807 then (some ((t207 ++ (⟨#[35]⟩ : ByteArray)) ++ t209)) else (none)) = some r := H
       have A18 := Aside0.mk A180
       clear A180
       by_cases c19 : (t207 ++ (⟨#[35]⟩ : ByteArray)).size + t209.size ≤ 9223372036854775807
       ·rw [if_pos c19] at H
        have c19b0 := eq_true c19
        have c19b1 : decide ((t207 ++ (⟨#[35]⟩ : ByteArray)).size + t209.size ≤ 9223372036854775807) = true := decide_eq_true c19
        try have c19b2 : (9223372036854775807 < (t207 ++ (⟨#[35]⟩ : ByteArray)).size + t209.size) = False := eq_false (Nat.not_lt.2 c19)
        try (have c19b3 := c19; simp only [ByteArray.size_append] at c19b3; replace c19b3 := eq_true c19b3)
        try (have c19b4 := c19b2; simp only [ByteArray.size_append] at c19b4; (try rw [show (⟨#[35]⟩ : ByteArray).size = 1 from rfl] at c19b4))
        obtain rfl := Option.some.inj H
        have hcz20_0 : wc.cell? ⟨gb205, 0, none⟩ = some (.int .i64 a0_0) := (blk_cell BK205.out 0).trans rfl
        have hcz20_1 : wc.cell? ⟨gb205, 1, none⟩ = some (.string a0_1) := (blk_cell BK205.out 1).trans rfl
        have hcz20_2 : wc.cell? ⟨gb205, 2, none⟩ = some (.int .i32 a0_2) := (blk_cell BK205.out 2).trans rfl
        have hcz20_3 : wc.cell? ⟨gb205, 3, none⟩ = some (.bool false) := (blk_cell BK205.out 3).trans rfl
        have hcz20_4 : wc.cell? ⟨gb205, 4, none⟩ = some (.int .u32 a0_4) := (blk_cell BK205.out 4).trans rfl
        have hfz20_0 := blk_frozen BK205.out 0
        have hfz20_1 := blk_frozen BK205.out 1
        have hfz20_2 := blk_frozen BK205.out 2
        have hfz20_3 := blk_frozen BK205.out 3
        have hfz20_4 := blk_frozen BK205.out 4
        go_wp2_with (first | (go_at_call 23; (with_reducible refine (spec_DecText.calls kj4 (wrap64 (a0_2)) t209 _ A18.out).mono ?_); rintro e w' ⟨rfl, ⟨nd, rfl⟩⟩; (try first | exact ⟨rfl, _, World.drewN_drewN _ _ _⟩ | exact ⟨rfl, _, Eq.trans (World.drewN_drewN _ _ _) (congrArg (World.drewN _) (Nat.add_assoc _ _ _))⟩)))
        repeat (go_quiet (first | (go_at_call 23; (with_reducible refine (spec_DecText.calls kj4 (wrap64 (a0_2)) t209 _ A18.out).mono ?_); rintro e w' ⟨rfl, ⟨nd, rfl⟩⟩; (try first | exact ⟨rfl, _, World.drewN_drewN _ _ _⟩ | exact ⟨rfl, _, Eq.trans (World.drewN_drewN _ _ _) (congrArg (World.drewN _) (Nat.add_assoc _ _ _))⟩))); try go_wp2_with (first | (go_at_call 23; (with_reducible refine (spec_DecText.calls kj4 (wrap64 (a0_2)) t209 _ A18.out).mono ?_); rintro e w' ⟨rfl, ⟨nd, rfl⟩⟩; (try first | exact ⟨rfl, _, World.drewN_drewN _ _ _⟩ | exact ⟨rfl, _, Eq.trans (World.drewN_drewN _ _ _) (congrArg (World.drewN _) (Nat.add_assoc _ _ _))⟩))))
        go_ret
        exact ⟨Z68, Z67⟩
       ·rw [if_neg c19] at H
        exact absurd H (by simp)
      ·rw [if_neg c17] at H
       exact absurd H (by simp)
    ·replace c11 := Bool.eq_false_iff.mpr c11
     subst c11
     have H1 : (if a0_0 = 9 then (if t207.size + a0_1.size ≤ 9223372036854775807 then (if (t207 ++ a0_1).size + 1 ≤ 9223372036854775807 then ((spec_DecText.f kj4 (wrap64 (a0_2))).bind fun t210 => (if ((t207 ++ a0_1) ++ (⟨#[35]⟩ : ByteArray)).size + t210.size ≤ 9223372036854775807 then (some (((t207 ++ a0_1) ++ (⟨#[35]⟩ : ByteArray)) ++ t210)) else (none))) else (none)) else (none)) else (if a0_0 = 0 then ((spec_HexText.f kj4 a0_4).bind fun t211 => (if t207.size + t211.size ≤ 9223372036854775807 then (some (t207 ++ t211)) else (none))) else (if t207.size + a0_1.size ≤ 9223372036854775807 then (some (t207 ++ a0_1)) else (none)))) = some r := by rw [if_neg (show ¬ (false = true) by decide)] at H; exact H
     clear H
     have H := H1
     clear H1
     by_cases c21 : a0_0 = 9
     ·rw [if_pos c21] at H
      have c21b0 : (a0_0 == 9) = true := beq_iff_eq.mpr c21
      have c21b1 : (a0_0 != 9) = false := bne_eq_false_iff_eq.mpr c21
      clear c21
      by_cases c22 : t207.size + a0_1.size ≤ 9223372036854775807
      ·rw [if_pos c22] at H
       have c22b0 := eq_true c22
       have c22b1 : decide (t207.size + a0_1.size ≤ 9223372036854775807) = true := decide_eq_true c22
       try have c22b2 : (9223372036854775807 < t207.size + a0_1.size) = False := eq_false (Nat.not_lt.2 c22)
       by_cases c23 : (t207 ++ a0_1).size + 1 ≤ 9223372036854775807
       ·rw [if_pos c23] at H
        have c23b0 := eq_true c23
        have c23b1 : decide ((t207 ++ a0_1).size + 1 ≤ 9223372036854775807) = true := decide_eq_true c23
        try have c23b2 : (9223372036854775807 < (t207 ++ a0_1).size + 1) = False := eq_false (Nat.not_lt.2 c23)
        try (have c23b3 := c23; simp only [ByteArray.size_append] at c23b3; replace c23b3 := eq_true c23b3)
        try (have c23b4 := c23b2; simp only [ByteArray.size_append] at c23b4)
        replace H := Option.bind_eq_some_iff.mp H
        obtain ⟨t210, A240, H⟩ := H
        replace H : (if ((t207 ++ a0_1) ++ (⟨#[35]⟩ : ByteArray)).size + t210.size ≤ 9223372036854775807 then (some (((t207 ++ a0_1) ++ (⟨#[35]⟩ : ByteArray)) ++ t210)) else (none)) = some r := H
        have A24 := Aside0.mk A240
        clear A240
        by_cases c25 : ((t207 ++ a0_1) ++ (⟨#[35]⟩ : ByteArray)).size + t210.size ≤ 9223372036854775807
        ·rw [if_pos c25] at H
         have c25b0 := eq_true c25
         have c25b1 : decide (((t207 ++ a0_1) ++ (⟨#[35]⟩ : ByteArray)).size + t210.size ≤ 9223372036854775807) = true := decide_eq_true c25
         try have c25b2 : (9223372036854775807 < ((t207 ++ a0_1) ++ (⟨#[35]⟩ : ByteArray)).size + t210.size) = False := eq_false (Nat.not_lt.2 c25)
         try (have c25b3 := c25; simp only [ByteArray.size_append] at c25b3; replace c25b3 := eq_true c25b3)
         try (have c25b4 := c25b2; simp only [ByteArray.size_append] at c25b4; (try rw [show (⟨#[35]⟩ : ByteArray).size = 1 from rfl] at c25b4))
         obtain rfl := Option.some.inj H
         have hcz26_0 : wc.cell? ⟨gb205, 0, none⟩ = some (.int .i64 a0_0) := (blk_cell BK205.out 0).trans rfl
         have hcz26_1 : wc.cell? ⟨gb205, 1, none⟩ = some (.string a0_1) := (blk_cell BK205.out 1).trans rfl
         have hcz26_2 : wc.cell? ⟨gb205, 2, none⟩ = some (.int .i32 a0_2) := (blk_cell BK205.out 2).trans rfl
         have hcz26_3 : wc.cell? ⟨gb205, 3, none⟩ = some (.bool a0_3) := (blk_cell BK205.out 3).trans rfl
         have hcz26_4 : wc.cell? ⟨gb205, 4, none⟩ = some (.int .u32 a0_4) := (blk_cell BK205.out 4).trans rfl
         have hfz26_0 := blk_frozen BK205.out 0
         have hfz26_1 := blk_frozen BK205.out 1
         have hfz26_2 := blk_frozen BK205.out 2
         have hfz26_3 := blk_frozen BK205.out 3
         have hfz26_4 := blk_frozen BK205.out 4
         go_wp2_with (first | (go_at_call 23; (with_reducible refine (spec_DecText.calls kj4 (wrap64 (a0_2)) t210 _ A24.out).mono ?_); rintro e w' ⟨rfl, ⟨nd, rfl⟩⟩; (try first | exact ⟨rfl, _, World.drewN_drewN _ _ _⟩ | exact ⟨rfl, _, Eq.trans (World.drewN_drewN _ _ _) (congrArg (World.drewN _) (Nat.add_assoc _ _ _))⟩)))
         repeat (go_quiet (first | (go_at_call 23; (with_reducible refine (spec_DecText.calls kj4 (wrap64 (a0_2)) t210 _ A24.out).mono ?_); rintro e w' ⟨rfl, ⟨nd, rfl⟩⟩; (try first | exact ⟨rfl, _, World.drewN_drewN _ _ _⟩ | exact ⟨rfl, _, Eq.trans (World.drewN_drewN _ _ _) (congrArg (World.drewN _) (Nat.add_assoc _ _ _))⟩))); try go_wp2_with (first | (go_at_call 23; (with_reducible refine (spec_DecText.calls kj4 (wrap64 (a0_2)) t210 _ A24.out).mono ?_); rintro e w' ⟨rfl, ⟨nd, rfl⟩⟩; (try first | exact ⟨rfl, _, World.drewN_drewN _ _ _⟩ | exact ⟨rfl, _, Eq.trans (World.drewN_drewN _ _ _) (congrArg (World.drewN _) (Nat.add_assoc _ _ _))⟩))))
         go_ret
         exact ⟨Z68, Z67⟩
        ·rw [if_neg c25] at H
         exact absurd H (by simp)
       ·rw [if_neg c23] at H
        exact absurd H (by simp)
      ·rw [if_neg c22] at H
       exact absurd H (by simp)
     ·rw [if_neg c21] at H
      have c21b0 : (a0_0 == 9) = false := beq_eq_false_iff_ne.mpr c21
      have c21b1 : (a0_0 != 9) = true := bne_iff_ne.mpr c21
      by_cases c27 : a0_0 = 0
      ·rw [if_pos c27] at H
       have c27b0 : (a0_0 == 0) = true := beq_iff_eq.mpr c27
       have c27b1 : (a0_0 != 0) = false := bne_eq_false_iff_eq.mpr c27
       clear c27
       replace H := Option.bind_eq_some_iff.mp H
       obtain ⟨t211, A280, H⟩ := H
       replace H : (if t207.size + t211.size ≤ 9223372036854775807 then (some (t207 ++ t211)) else (none)) = some r := H
       have A28 := Aside0.mk A280
       clear A280
       by_cases c29 : t207.size + t211.size ≤ 9223372036854775807
       ·rw [if_pos c29] at H
        have c29b0 := eq_true c29
        have c29b1 : decide (t207.size + t211.size ≤ 9223372036854775807) = true := decide_eq_true c29
        try have c29b2 : (9223372036854775807 < t207.size + t211.size) = False := eq_false (Nat.not_lt.2 c29)
        obtain rfl := Option.some.inj H
        have hcz30_0 : wc.cell? ⟨gb205, 0, none⟩ = some (.int .i64 a0_0) := (blk_cell BK205.out 0).trans rfl
        have hcz30_1 : wc.cell? ⟨gb205, 1, none⟩ = some (.string a0_1) := (blk_cell BK205.out 1).trans rfl
        have hcz30_2 : wc.cell? ⟨gb205, 2, none⟩ = some (.int .i32 a0_2) := (blk_cell BK205.out 2).trans rfl
        have hcz30_3 : wc.cell? ⟨gb205, 3, none⟩ = some (.bool a0_3) := (blk_cell BK205.out 3).trans rfl
        have hcz30_4 : wc.cell? ⟨gb205, 4, none⟩ = some (.int .u32 a0_4) := (blk_cell BK205.out 4).trans rfl
        have hfz30_0 := blk_frozen BK205.out 0
        have hfz30_1 := blk_frozen BK205.out 1
        have hfz30_2 := blk_frozen BK205.out 2
        have hfz30_3 := blk_frozen BK205.out 3
        have hfz30_4 := blk_frozen BK205.out 4
        go_wp2_with (first | (go_at_call 22; (with_reducible refine (spec_HexText.calls kj4 a0_4 t211 _ A28.out).mono ?_); rintro e w' ⟨rfl, ⟨nd, rfl⟩⟩; (try first | exact ⟨rfl, _, World.drewN_drewN _ _ _⟩ | exact ⟨rfl, _, Eq.trans (World.drewN_drewN _ _ _) (congrArg (World.drewN _) (Nat.add_assoc _ _ _))⟩)))
        repeat (go_quiet (first | (go_at_call 22; (with_reducible refine (spec_HexText.calls kj4 a0_4 t211 _ A28.out).mono ?_); rintro e w' ⟨rfl, ⟨nd, rfl⟩⟩; (try first | exact ⟨rfl, _, World.drewN_drewN _ _ _⟩ | exact ⟨rfl, _, Eq.trans (World.drewN_drewN _ _ _) (congrArg (World.drewN _) (Nat.add_assoc _ _ _))⟩))); try go_wp2_with (first | (go_at_call 22; (with_reducible refine (spec_HexText.calls kj4 a0_4 t211 _ A28.out).mono ?_); rintro e w' ⟨rfl, ⟨nd, rfl⟩⟩; (try first | exact ⟨rfl, _, World.drewN_drewN _ _ _⟩ | exact ⟨rfl, _, Eq.trans (World.drewN_drewN _ _ _) (congrArg (World.drewN _) (Nat.add_assoc _ _ _))⟩))))
        go_ret
        exact ⟨Z68, Z67⟩
       ·rw [if_neg c29] at H
        exact absurd H (by simp)
      ·rw [if_neg c27] at H
       have c27b0 : (a0_0 == 0) = false := beq_eq_false_iff_ne.mpr c27
       have c27b1 : (a0_0 != 0) = true := bne_iff_ne.mpr c27
       by_cases c31 : t207.size + a0_1.size ≤ 9223372036854775807
       ·rw [if_pos c31] at H
        have c31b0 := eq_true c31
        have c31b1 : decide (t207.size + a0_1.size ≤ 9223372036854775807) = true := decide_eq_true c31
        try have c31b2 : (9223372036854775807 < t207.size + a0_1.size) = False := eq_false (Nat.not_lt.2 c31)
        obtain rfl := Option.some.inj H
        have hcz32_0 : wc.cell? ⟨gb205, 0, none⟩ = some (.int .i64 a0_0) := (blk_cell BK205.out 0).trans rfl
        have hcz32_1 : wc.cell? ⟨gb205, 1, none⟩ = some (.string a0_1) := (blk_cell BK205.out 1).trans rfl
        have hcz32_2 : wc.cell? ⟨gb205, 2, none⟩ = some (.int .i32 a0_2) := (blk_cell BK205.out 2).trans rfl
        have hcz32_3 : wc.cell? ⟨gb205, 3, none⟩ = some (.bool a0_3) := (blk_cell BK205.out 3).trans rfl
        have hcz32_4 : wc.cell? ⟨gb205, 4, none⟩ = some (.int .u32 a0_4) := (blk_cell BK205.out 4).trans rfl
        have hfz32_0 := blk_frozen BK205.out 0
        have hfz32_1 := blk_frozen BK205.out 1
        have hfz32_2 := blk_frozen BK205.out 2
        have hfz32_3 := blk_frozen BK205.out 3
        have hfz32_4 := blk_frozen BK205.out 4
        go_wp2
        repeat (go_quiet (fail); try go_wp2)
        go_ret
        exact ⟨Z68, Z67⟩
       ·rw [if_neg c31] at H
        exact absurd H (by simp)
 ·replace c3 := Bool.eq_false_iff.mpr c3
  subst c3
  have H1 : (some (⟨#[]⟩ : ByteArray)) = some r := by rw [if_neg (show ¬ (false = true) by decide)] at H; exact H
  clear H
  have H := H1
  clear H1
  obtain rfl := Option.some.inj H
  go_enter Tryd.func8, Tryd.ntmps8
  go_wp2_with (first | ((with_reducible refine gate_dst (N := 1) rfl ?_); refine box_event (by rfl) (N := 1) (by rfl) (cs := #[.int .i64 a0_0, .string a0_1, .int .i32 a0_2, .bool a0_3, .int .u32 a0_4]) (t := 27) Z3 ?_; intro gb205 hg w33 hbox hb; have BK205 := Z (hbox); have GW205 := Z ((Z79 : w.heap.size ≤ gb205)); have GE205 := Z ((Z79 : w.heap.size ≤ gb205)); replace HB := Z (below_step Z67 hb); clear hb hbox hg; have hcz34_0 : w33.cell? ⟨gb205, 0, none⟩ = some (.int .i64 a0_0) := (blk_cell BK205.out 0).trans rfl; have hcz34_1 : w33.cell? ⟨gb205, 1, none⟩ = some (.string a0_1) := (blk_cell BK205.out 1).trans rfl; have hcz34_2 : w33.cell? ⟨gb205, 2, none⟩ = some (.int .i32 a0_2) := (blk_cell BK205.out 2).trans rfl; have hcz34_3 : w33.cell? ⟨gb205, 3, none⟩ = some (.bool a0_3) := (blk_cell BK205.out 3).trans rfl; have hcz34_4 : w33.cell? ⟨gb205, 4, none⟩ = some (.int .u32 a0_4) := (blk_cell BK205.out 4).trans rfl; have hfz34_0 := blk_frozen BK205.out 0; have hfz34_1 := blk_frozen BK205.out 1; have hfz34_2 := blk_frozen BK205.out 2; have hfz34_3 := blk_frozen BK205.out 3; have hfz34_4 := blk_frozen BK205.out 4) | (go_at_call 18; (with_reducible refine (spec_ItemOk.calls k a0_0 a0_1 a0_2 a0_3 a0_4 false _ A2.out).mono ?_); rintro e w35 ⟨rfl, hb⟩; replace BK205 := Z (blk_below (g := gb205) (o := .cells #[.int .i64 a0_0, .string a0_1, .int .i32 a0_2, .bool a0_3, .int .u32 a0_4] 27 (0, 0)) (Z15 BK205) hb); replace HB := Z (below_step Z67 hb); (try clear hb); (try clear hb2); (try clear hk); (try clear hi)))
  repeat (go_quiet (first | ((with_reducible refine gate_dst (N := 1) rfl ?_); refine box_event (by rfl) (N := 1) (by rfl) (cs := #[.int .i64 a0_0, .string a0_1, .int .i32 a0_2, .bool a0_3, .int .u32 a0_4]) (t := 27) Z3 ?_; intro gb205 hg w33 hbox hb; have BK205 := Z (hbox); have GW205 := Z ((Z79 : w.heap.size ≤ gb205)); have GE205 := Z ((Z79 : w.heap.size ≤ gb205)); replace HB := Z (below_step Z67 hb); clear hb hbox hg; have hcz34_0 : w33.cell? ⟨gb205, 0, none⟩ = some (.int .i64 a0_0) := (blk_cell BK205.out 0).trans rfl; have hcz34_1 : w33.cell? ⟨gb205, 1, none⟩ = some (.string a0_1) := (blk_cell BK205.out 1).trans rfl; have hcz34_2 : w33.cell? ⟨gb205, 2, none⟩ = some (.int .i32 a0_2) := (blk_cell BK205.out 2).trans rfl; have hcz34_3 : w33.cell? ⟨gb205, 3, none⟩ = some (.bool a0_3) := (blk_cell BK205.out 3).trans rfl; have hcz34_4 : w33.cell? ⟨gb205, 4, none⟩ = some (.int .u32 a0_4) := (blk_cell BK205.out 4).trans rfl; have hfz34_0 := blk_frozen BK205.out 0; have hfz34_1 := blk_frozen BK205.out 1; have hfz34_2 := blk_frozen BK205.out 2; have hfz34_3 := blk_frozen BK205.out 3; have hfz34_4 := blk_frozen BK205.out 4) | (go_at_call 18; (with_reducible refine (spec_ItemOk.calls k a0_0 a0_1 a0_2 a0_3 a0_4 false _ A2.out).mono ?_); rintro e w35 ⟨rfl, hb⟩; replace BK205 := Z (blk_below (g := gb205) (o := .cells #[.int .i64 a0_0, .string a0_1, .int .i32 a0_2, .bool a0_3, .int .u32 a0_4] 27 (0, 0)) (Z15 BK205) hb); replace HB := Z (below_step Z67 hb); (try clear hb); (try clear hb2); (try clear hk); (try clear hi))); try go_wp2_with (first | ((with_reducible refine gate_dst (N := 1) rfl ?_); refine box_event (by rfl) (N := 1) (by rfl) (cs := #[.int .i64 a0_0, .string a0_1, .int .i32 a0_2, .bool a0_3, .int .u32 a0_4]) (t := 27) Z3 ?_; intro gb205 hg w33 hbox hb; have BK205 := Z (hbox); have GW205 := Z ((Z79 : w.heap.size ≤ gb205)); have GE205 := Z ((Z79 : w.heap.size ≤ gb205)); replace HB := Z (below_step Z67 hb); clear hb hbox hg; have hcz34_0 : w33.cell? ⟨gb205, 0, none⟩ = some (.int .i64 a0_0) := (blk_cell BK205.out 0).trans rfl; have hcz34_1 : w33.cell? ⟨gb205, 1, none⟩ = some (.string a0_1) := (blk_cell BK205.out 1).trans rfl; have hcz34_2 : w33.cell? ⟨gb205, 2, none⟩ = some (.int .i32 a0_2) := (blk_cell BK205.out 2).trans rfl; have hcz34_3 : w33.cell? ⟨gb205, 3, none⟩ = some (.bool a0_3) := (blk_cell BK205.out 3).trans rfl; have hcz34_4 : w33.cell? ⟨gb205, 4, none⟩ = some (.int .u32 a0_4) := (blk_cell BK205.out 4).trans rfl; have hfz34_0 := blk_frozen BK205.out 0; have hfz34_1 := blk_frozen BK205.out 1; have hfz34_2 := blk_frozen BK205.out 2; have hfz34_3 := blk_frozen BK205.out 3; have hfz34_4 := blk_frozen BK205.out 4) | (go_at_call 18; (with_reducible refine (spec_ItemOk.calls k a0_0 a0_1 a0_2 a0_3 a0_4 false _ A2.out).mono ?_); rintro e w35 ⟨rfl, hb⟩; replace BK205 := Z (blk_below (g := gb205) (o := .cells #[.int .i64 a0_0, .string a0_1, .int .i32 a0_2, .bool a0_3, .int .u32 a0_4] 27 (0, 0)) (Z15 BK205) hb); replace HB := Z (below_step Z67 hb); (try clear hb); (try clear hb2); (try clear hk); (try clear hi))))
  go_ret
  exact ⟨Z68, Z67⟩

/-! ### spec_l04Kind: function 62 -/
def spec_l04Kind.l0 : Nat → Int → Int → Option (Int)
 | 0, _, _ => none
 | k + 1, x0, x3 => if x3 ≤ 6 then ((spec_l04Tag.f x3).bind fun t212 => (if t212 = x0 then (some x3) else (spec_l04Kind.l0 k x0 (wrap64 (x3 + 1))))) else (some (-1))
def spec_l04Kind.f (k : Nat) (a0 : Int) : Option (Int) := spec_l04Kind.l0 k a0 1
theorem spec_l04Kind.mono_l : ∀ k, (∀ y0 y1, LeO (spec_l04Kind.l0 k y0 y1) (spec_l04Kind.l0 (k + 1) y0 y1))
 | 0 => fun _ _ r h => by simp [spec_l04Kind.l0] at h
 | k + 1 => by
  have ih0 := spec_l04Kind.mono_l k
  ·intro y0 y1
   unfold spec_l04Kind.l0
   repeat' first
   | (with_reducible exact ih0 _ _)
   | (with_reducible exact LeO.refl _)
   | (with_reducible exact LeO.none _)
   | (with_reducible refine LeO.ite ?_ ?_)
   | (with_reducible refine LeO.bind ?_ (fun _ => ?_))
   | exact ih0 _ _
   | exact LeO.none _
   | refine LeO.ite ?_ ?_
   | refine LeO.bind ?_ (fun _ => ?_)
theorem spec_l04Kind.mono : ∀ a0 k, LeO (spec_l04Kind.f k a0) (spec_l04Kind.f (k + 1) a0) := by
 intro a0 k
 have ih0 := spec_l04Kind.mono_l k
 unfold spec_l04Kind.f
 repeat' first
   | (with_reducible exact ih0 _ _)
   | (with_reducible exact LeO.refl _)
   | (with_reducible exact LeO.none _)
   | (with_reducible refine LeO.ite ?_ ?_)
   | (with_reducible refine LeO.bind ?_ (fun _ => ?_))
   | exact ih0 _ _
   | exact LeO.none _
   | refine LeO.ite ?_ ?_
   | refine LeO.bind ?_ (fun _ => ?_)
set_option maxHeartbeats 8000000 in
set_option maxRecDepth 100000 in
theorem spec_l04Kind.calls (k : Nat) (a0 : Int) (r : Int) (w : World) (h : spec_l04Kind.f k a0 = some r) :
  Calls Tryd.prog 62 #[.int .u32 a0] w fun e w' => e = .returned (.int .i64 r) ∧ Drawn0 w w' := by
 have H : (spec_l04Kind.l0 k a0 1) = some r := h
 clear h
 have H' := Aside0.mk H
 clear H
 go_enter Tryd.func62, Tryd.ntmps62
 go_wp2
 go_loopg [3] k (fun kq v3 w' => ∃ (x3_1 : Int), v3 = .int .i64 x3_1 ∧ Aside0 (spec_l04Kind.l0 kq a0 x3_1 = some r) ∧ Aside0 (kq ≤ k) ∧ Drawn0 w w')
 case atStart => exact ⟨(1), Z7, H', ⟨Nat.le_refl _⟩, Z8⟩
 case round =>
  clear H'
  obtain ⟨x3_1, rfl, HA, HK1, ⟨m1, rfl⟩⟩ := hrel
  cases gk with
  | zero => exact absurd HA.out (by simp [spec_l04Kind.l0])
  | succ k1 =>
   have H := HA.out
   clear HA
   simp only [spec_l04Kind.l0] at H
   by_cases c2 : x3_1 ≤ 6
   ·rw [if_pos c2] at H
    have c2b0 : decide (x3_1 ≤ 6) = true := decide_eq_true c2
    clear c2
    replace H := Option.bind_eq_some_iff.mp H
    obtain ⟨t212, A30, H⟩ := H
    replace H : (if t212 = a0 then (some x3_1) else (spec_l04Kind.l0 k1 a0 (wrap64 (x3_1 + 1)))) = some r := H
    have A3 := Aside0.mk A30
    clear A30
    by_cases c4 : t212 = a0
    ·rw [if_pos c4] at H
     have c4b0 : (t212 == a0) = true := beq_iff_eq.mpr c4
     have c4b1 : (t212 != a0) = false := bne_eq_false_iff_eq.mpr c4
     clear c4
     obtain rfl := Option.some.inj H
     go_wp2_with (first | ((with_reducible refine gate_callee (f := 54) rfl ?_); refine goesL_ (some 9) rfl rfl Tryd.func54 Z0 rfl #[.int .i64 x3_1] rfl Z9 ?_; (with_reducible refine (spec_l04Tag.calls x3_1 t212 _ A3.out).mono ?_); rintro e w' ⟨rfl, ⟨nd, rfl⟩⟩; refine ⟨_, rfl, ?_⟩))
     go_ret
     exact ⟨Z7, Z8⟩
    ·rw [if_neg c4] at H
     have c4b0 : (t212 == a0) = false := beq_eq_false_iff_ne.mpr c4
     have c4b1 : (t212 != a0) = true := bne_iff_ne.mpr c4
     have H' := Aside0.mk H
     clear H
     go_wp2_with (first | ((with_reducible refine gate_callee (f := 54) rfl ?_); refine goesL_ (some 9) rfl rfl Tryd.func54 Z0 rfl #[.int .i64 x3_1] rfl Z9 ?_; (with_reducible refine (spec_l04Tag.calls x3_1 t212 _ A3.out).mono ?_); rintro e w' ⟨rfl, ⟨nd, rfl⟩⟩; refine ⟨_, rfl, ?_⟩))
     go_roundg k1
     case measure => have := HK1.out; omega
     case rel => exact ⟨(wrap64 (x3_1 + 1)), Z7, H', ⟨Z11⟩, Z8⟩
   ·rw [if_neg c2] at H
    have c2b0 : decide (x3_1 ≤ 6) = false := decide_eq_false c2
    clear c2
    obtain rfl := Option.some.inj H
    go_wp2
    go_ret
    exact ⟨Z7, Z8⟩

/-! ### spec_Decode: function 94 -/
def spec_Decode.l0 : Nat → Int → Int → Int → Option (Int × Int)
 | 0, _, _, _ => none
 | k + 1, x0, x1, x6 => if x6 < 48 then ((spec_WidthOf.f x6).bind fun t214 => (if t214 > x1 then (spec_Decode.l0 k x0 x1 (wrap64 (x6 + 1))) else (if 0 ≤ (IntKind.u64.wrap (x1)) then (if 0 ≤ (IntKind.u64.wrap (wrap64 (x1 - t214))) then ((spec_BitsOf.f x6).bind fun t215 => (if (shr .i64 (Go.bits .and .i64 (wrap64 (x0)) (wrap64 ((shl .i64 1 (IntKind.u64.wrap (x1))) - 1))) (IntKind.u64.wrap (wrap64 (x1 - t214)))) = (wrap64 (t215)) then (some (x6, t214)) else (spec_Decode.l0 k x0 x1 (wrap64 (x6 + 1))))) else (none)) else (none)))) else (some ((-1), 0))
def spec_Decode.f (k : Nat) (a0 : Int) (a1 : Int) : Option (Int × Int) := (spec_l01In.f a1 1 32).bind fun t213 => (if t213 = true then (spec_Decode.l0 k a0 a1 0) else (some ((-1), 0)))
theorem spec_Decode.mono_l : ∀ k, (∀ y0 y1 y2, LeO (spec_Decode.l0 k y0 y1 y2) (spec_Decode.l0 (k + 1) y0 y1 y2))
 | 0 => fun _ _ _ r h => by simp [spec_Decode.l0] at h
 | k + 1 => by
  have ih0 := spec_Decode.mono_l k
  ·intro y0 y1 y2
   unfold spec_Decode.l0
   repeat' first
   | (with_reducible exact ih0 _ _ _)
   | (with_reducible exact LeO.refl _)
   | (with_reducible exact LeO.none _)
   | (with_reducible refine LeO.ite ?_ ?_)
   | (with_reducible refine LeO.bind ?_ (fun _ => ?_))
   | exact ih0 _ _ _
   | exact LeO.none _
   | refine LeO.ite ?_ ?_
   | refine LeO.bind ?_ (fun _ => ?_)
theorem spec_Decode.mono : ∀ a0 a1 k, LeO (spec_Decode.f k a0 a1) (spec_Decode.f (k + 1) a0 a1) := by
 intro a0 a1 k
 have ih0 := spec_Decode.mono_l k
 unfold spec_Decode.f
 repeat' first
   | (with_reducible exact ih0 _ _ _)
   | (with_reducible exact LeO.refl _)
   | (with_reducible exact LeO.none _)
   | (with_reducible refine LeO.ite ?_ ?_)
   | (with_reducible refine LeO.bind ?_ (fun _ => ?_))
   | exact ih0 _ _ _
   | exact LeO.none _
   | refine LeO.ite ?_ ?_
   | refine LeO.bind ?_ (fun _ => ?_)
set_option maxHeartbeats 8000000 in
set_option maxRecDepth 100000 in
theorem spec_Decode.calls (k : Nat) (a0 : Int) (a1 : Int) (r1 : Int) (r2 : Int) (w : World) (h : spec_Decode.f k a0 a1 = some (r1, r2)) :
  Calls Tryd.prog 94 #[.int .u32 a0, .int .i64 a1] w fun e w' => e = .returned (.tuple #[.int .i64 r1, .int .i64 r2]) ∧ Drawn0 w w' := by
 have H : ((spec_l01In.f a1 1 32).bind fun t213 => (if t213 = true then (spec_Decode.l0 k a0 a1 0) else (some ((-1), 0)))) = some (r1, r2) := h
 clear h
 replace H := Option.bind_eq_some_iff.mp H
 obtain ⟨t213, A30, H⟩ := H
 replace H : (if t213 = true then (spec_Decode.l0 k a0 a1 0) else (some ((-1), 0))) = some (r1, r2) := H
 have A3 := Aside0.mk A30
 clear A30
 by_cases c4 : t213 = true
 ·subst c4
  have H1 : (spec_Decode.l0 k a0 a1 0) = some (r1, r2) := Z2
  clear H
  have H := H1
  clear H1
  have H' := Aside0.mk H
  clear H
  go_enter Tryd.func94, Tryd.ntmps94
  go_wp2_with (first | ((with_reducible refine gate_callee (f := 83) rfl ?_); refine goesL_ (some 10) rfl rfl Tryd.func83 Z0 rfl #[.int .i64 a1, .int .i64 1, .int .i64 32] rfl Z9 ?_; (with_reducible refine (spec_l01In.calls a1 1 32 true _ A3.out).mono ?_); rintro e w' ⟨rfl, ⟨nd, rfl⟩⟩; refine ⟨_, rfl, ?_⟩))
  go_loopg [6] k (fun kq v6 w' => ∃ (x6_1 : Int), v6 = .int .i64 x6_1 ∧ Aside0 (spec_Decode.l0 kq a0 a1 x6_1 = some (r1, r2)) ∧ Aside0 (kq ≤ k) ∧ Drawn0 w w')
  case atStart => exact ⟨(0), Z7, H', ⟨Nat.le_refl _⟩, Z8⟩
  case round =>
   clear H'
   try clear p2
   try clear c4
   obtain ⟨x6_1, rfl, HA, HK1, ⟨m1, rfl⟩⟩ := hrel
   cases gk with
   | zero => exact absurd HA.out (by simp [spec_Decode.l0])
   | succ k1 =>
    have H := HA.out
    clear HA
    simp only [spec_Decode.l0] at H
    by_cases c5 : x6_1 < 48
    ·rw [if_pos c5] at H
     have c5b0 : decide (x6_1 < 48) = true := decide_eq_true c5
     clear c5
     replace H := Option.bind_eq_some_iff.mp H
     obtain ⟨t214, A60, H⟩ := H
     replace H : (if t214 > a1 then (spec_Decode.l0 k1 a0 a1 (wrap64 (x6_1 + 1))) else (if 0 ≤ (IntKind.u64.wrap (a1)) then (if 0 ≤ (IntKind.u64.wrap (wrap64 (a1 - t214))) then ((spec_BitsOf.f x6_1).bind fun t215 => (if (shr .i64 (Go.bits .and .i64 (wrap64 (a0)) (wrap64 ((shl .i64 1 (IntKind.u64.wrap (a1))) - 1))) (IntKind.u64.wrap (wrap64 (a1 - t214)))) = (wrap64 (t215)) then (some (x6_1, t214)) else (spec_Decode.l0 k1 a0 a1 (wrap64 (x6_1 + 1))))) else (none)) else (none))) = some (r1, r2) := H
     have A6 := Aside0.mk A60
     clear A60
     by_cases c7 : t214 > a1
     ·rw [if_pos c7] at H
      have c7b0 : decide (a1 < t214) = true := decide_eq_true c7
      clear c7
      have H' := Aside0.mk H
      clear H
      go_wp2_with (first | ((with_reducible refine gate_callee (f := 116) rfl ?_); refine goesL_ (some 17) rfl rfl Tryd.func116 Z0 rfl #[.int .i64 x6_1] rfl Z9 ?_; (with_reducible refine (spec_WidthOf.calls x6_1 t214 _ A6.out).mono ?_); rintro e w' ⟨rfl, ⟨nd, rfl⟩⟩; refine ⟨_, rfl, ?_⟩))
      go_roundg k1
      case measure => have := HK1.out; omega
      case rel => exact ⟨(wrap64 (x6_1 + 1)), Z7, H', ⟨Z11⟩, Z8⟩
     ·rw [if_neg c7] at H
      have c7b0 : decide (a1 < t214) = false := decide_eq_false c7
      clear c7
      obtain ⟨ji8, hji8⟩ : ∃ j_ : Int, (IntKind.u64.wrap (a1)) = j_ := ⟨_, rfl⟩
      replace H : (if 0 ≤ (ji8) then (if 0 ≤ (IntKind.u64.wrap (wrap64 (a1 - t214))) then ((spec_BitsOf.f x6_1).bind fun t215 => (if (shr .i64 (Go.bits .and .i64 (wrap64 (a0)) (wrap64 ((shl .i64 1 (ji8)) - 1))) (IntKind.u64.wrap (wrap64 (a1 - t214)))) = (wrap64 (t215)) then (some (x6_1, t214)) else (spec_Decode.l0 k1 a0 a1 (wrap64 (x6_1 + 1))))) else (none)) else (none)) = some (r1, r2) := Z19
      (try rw [hji8] at A6)
      by_cases c9 : 0 ≤ (ji8)
      ·rw [if_pos c9] at H
       have c9b0 := eq_true c9
       have c9b1 : decide (0 ≤ (ji8)) = true := decide_eq_true c9
       clear c9
       obtain ⟨ji10, hji10⟩ : ∃ j_ : Int, (shl .i64 1 (ji8)) = j_ := ⟨_, rfl⟩
       replace H : (if 0 ≤ (IntKind.u64.wrap (wrap64 (a1 - t214))) then ((spec_BitsOf.f x6_1).bind fun t215 => (if (shr .i64 (Go.bits .and .i64 (wrap64 (a0)) (wrap64 ((ji10) - 1))) (IntKind.u64.wrap (wrap64 (a1 - t214)))) = (wrap64 (t215)) then (some (x6_1, t214)) else (spec_Decode.l0 k1 a0 a1 (wrap64 (x6_1 + 1))))) else (none)) = some (r1, r2) := Z20
       (try rw [hji10] at A6)
       have hji10_ : (IntKind.i64.wrap (1 * 2 ^ min (ji8).toNat 64)) = ji10 := hji10
       have hji10z : (ji8) ≤ 64 → (IntKind.i64.wrap (1 * 2 ^ (ji8).toNat)) = ji10 := shl_small hji10
       have hji10u : (IntKind.i64.wrap (2 ^ min (ji8).toNat 64)) = ji10 := by have h_ := hji10_; rw [Int.one_mul] at h_; exact h_
       have hji10v : (ji8) ≤ 64 → (IntKind.i64.wrap (2 ^ (ji8).toNat)) = ji10 := fun hle_ => by have h_ := hji10z hle_; rw [Int.one_mul] at h_; exact h_
       have hji10y : (wrap64 (1 * 2 ^ min (ji8).toNat 64)) = ji10 := (i64_w _).symm.trans hji10_
       have hji10x : (ji8) ≤ 64 → (wrap64 (1 * 2 ^ (ji8).toNat)) = ji10 := fun h_ => (i64_w _).symm.trans (hji10z h_)
       obtain ⟨ji11, hji11⟩ : ∃ j_ : Int, (IntKind.u64.wrap (wrap64 (a1 - t214))) = j_ := ⟨_, rfl⟩
       replace H : (if 0 ≤ (ji11) then ((spec_BitsOf.f x6_1).bind fun t215 => (if (shr .i64 (Go.bits .and .i64 (wrap64 (a0)) (wrap64 ((ji10) - 1))) (ji11)) = (wrap64 (t215)) then (some (x6_1, t214)) else (spec_Decode.l0 k1 a0 a1 (wrap64 (x6_1 + 1))))) else (none)) = some (r1, r2) := Z13
       (try rw [hji11] at A6)
       by_cases c12 : 0 ≤ (ji11)
       ·rw [if_pos c12] at H
        have c12b0 := eq_true c12
        have c12b1 : decide (0 ≤ (ji11)) = true := decide_eq_true c12
        clear c12
        obtain ⟨ji13, hji13⟩ : ∃ j_ : Int, (shr .i64 (Go.bits .and .i64 (wrap64 (a0)) (wrap64 ((ji10) - 1))) (ji11)) = j_ := ⟨_, rfl⟩
        replace H : ((spec_BitsOf.f x6_1).bind fun t215 => (if (ji13) = (wrap64 (t215)) then (some (x6_1, t214)) else (spec_Decode.l0 k1 a0 a1 (wrap64 (x6_1 + 1))))) = some (r1, r2) := Z21
        (try rw [hji13] at A6)
        have hji13_ : ((Go.bits .and .i64 (wrap64 (a0)) (wrap64 ((ji10) - 1))) / 2 ^ min (ji11).toNat 64) = ji13 := hji13
        have hji13z : (ji11) ≤ 64 → ((Go.bits .and .i64 (wrap64 (a0)) (wrap64 ((ji10) - 1))) / 2 ^ (ji11).toNat) = ji13 := shr_small hji13
        replace H := Option.bind_eq_some_iff.mp H
        obtain ⟨t215, A140, H⟩ := H
        replace H : (if (ji13) = (wrap64 (t215)) then (some (x6_1, t214)) else (spec_Decode.l0 k1 a0 a1 (wrap64 (x6_1 + 1)))) = some (r1, r2) := H
        have A14 := Aside0.mk A140
        clear A140
        by_cases c15 : (ji13) = (wrap64 (t215))
        ·rw [if_pos c15] at H
         have c15b0 : ((ji13) == (wrap64 (t215))) = true := beq_iff_eq.mpr c15
         have c15b1 : ((ji13) != (wrap64 (t215))) = false := bne_eq_false_iff_eq.mpr c15
         clear c15
         simp only [Option.some.injEq, Prod.mk.injEq] at H
         obtain ⟨rfl, rfl⟩ := H
         go_wp2_with (first | ((with_reducible refine gate_callee (f := 116) rfl ?_); refine goesL_ (some 17) rfl rfl Tryd.func116 Z0 rfl #[.int .i64 x6_1] rfl Z9 ?_; (with_reducible refine (spec_WidthOf.calls x6_1 t214 _ A6.out).mono ?_); rintro e w' ⟨rfl, ⟨nd, rfl⟩⟩; refine ⟨_, rfl, ?_⟩) | ((with_reducible refine gate_callee (f := 117) rfl ?_); refine goesL_ (some 35) rfl rfl Tryd.func117 Z0 rfl #[.int .i64 x6_1] rfl Z9 ?_; (with_reducible refine (spec_BitsOf.calls x6_1 t215 _ A14.out).mono ?_); rintro e w' ⟨rfl, ⟨nd, rfl⟩⟩; refine ⟨_, rfl, ?_⟩))
         go_ret2
         exact ⟨by first | rfl | (simp; done) | (simp only [← hji8, ← hji10, ← hji11, ← hji13] <;> (first | rfl | simp)) | (simp [*]; done), Z8⟩
        ·rw [if_neg c15] at H
         have c15b0 : ((ji13) == (wrap64 (t215))) = false := beq_eq_false_iff_ne.mpr c15
         have c15b1 : ((ji13) != (wrap64 (t215))) = true := bne_iff_ne.mpr c15
         have H' := Aside0.mk H
         clear H
         go_wp2_with (first | ((with_reducible refine gate_callee (f := 116) rfl ?_); refine goesL_ (some 17) rfl rfl Tryd.func116 Z0 rfl #[.int .i64 x6_1] rfl Z9 ?_; (with_reducible refine (spec_WidthOf.calls x6_1 t214 _ A6.out).mono ?_); rintro e w' ⟨rfl, ⟨nd, rfl⟩⟩; refine ⟨_, rfl, ?_⟩) | ((with_reducible refine gate_callee (f := 117) rfl ?_); refine goesL_ (some 35) rfl rfl Tryd.func117 Z0 rfl #[.int .i64 x6_1] rfl Z9 ?_; (with_reducible refine (spec_BitsOf.calls x6_1 t215 _ A14.out).mono ?_); rintro e w' ⟨rfl, ⟨nd, rfl⟩⟩; refine ⟨_, rfl, ?_⟩))
         go_roundg k1
         case measure => have := HK1.out; omega
         case rel => exact ⟨(wrap64 (x6_1 + 1)), Z7, H', ⟨Z11⟩, Z8⟩
       ·rw [if_neg c12] at H
        exact absurd H (by simp)
      ·rw [if_neg c9] at H
       exact absurd H (by simp)
    ·rw [if_neg c5] at H
     have c5b0 : decide (x6_1 < 48) = false := decide_eq_false c5
     clear c5
     simp only [Option.some.injEq, Prod.mk.injEq] at H
     obtain ⟨rfl, rfl⟩ := H
     go_wp2
     go_ret2
     exact ⟨Z7, Z8⟩
 ·replace c4 := Bool.eq_false_iff.mpr c4
  subst c4
  have H1 : (some ((-1), 0)) = some (r1, r2) := by rw [if_neg (show ¬ (false = true) by decide)] at H; exact H
  clear H
  have H := H1
  clear H1
  simp only [Option.some.injEq, Prod.mk.injEq] at H
  obtain ⟨rfl, rfl⟩ := H
  go_enter Tryd.func94, Tryd.ntmps94
  go_wp2_with (first | ((with_reducible refine gate_callee (f := 83) rfl ?_); refine goesL_ (some 10) rfl rfl Tryd.func83 Z0 rfl #[.int .i64 a1, .int .i64 1, .int .i64 32] rfl Z9 ?_; (with_reducible refine (spec_l01In.calls a1 1 32 false _ A3.out).mono ?_); rintro e w' ⟨rfl, ⟨nd, rfl⟩⟩; refine ⟨_, rfl, ?_⟩))
  go_ret2
  exact ⟨Z7, Z8⟩

/-! ### spec_LetterAt: function 95 -/
def spec_LetterAt.f (a0 : Int) : Option (Int) := (spec_l01In.f a0 0 47).bind fun t216 => (if t216 = true then ((spec_l02All.f).bind fun t217 => (if 0 ≤ a0 then (if a0 < (t217.size : Int) then (some (bt t217 a0)) else (none)) else (none))) else (some 0))
set_option maxHeartbeats 8000000 in
set_option maxRecDepth 100000 in
theorem spec_LetterAt.calls (a0 : Int) (r : Int) (w : World) (h : spec_LetterAt.f a0 = some r) :
  Calls Tryd.prog 95 #[.int .i64 a0] w fun e w' => e = .returned (.int .u8 r) ∧ Drawn0 w w' := by
 have H : ((spec_l01In.f a0 0 47).bind fun t216 => (if t216 = true then ((spec_l02All.f).bind fun t217 => (if 0 ≤ a0 then (if a0 < (t217.size : Int) then (some (bt t217 a0)) else (none)) else (none))) else (some 0))) = some r := h
 clear h
 replace H := Option.bind_eq_some_iff.mp H
 obtain ⟨t216, A20, H⟩ := H
 replace H : (if t216 = true then ((spec_l02All.f).bind fun t217 => (if 0 ≤ a0 then (if a0 < (t217.size : Int) then (some (bt t217 a0)) else (none)) else (none))) else (some 0)) = some r := H
 have A2 := Aside0.mk A20
 clear A20
 by_cases c3 : t216 = true
 ·subst c3
  have H1 : ((spec_l02All.f).bind fun t217 => (if 0 ≤ a0 then (if a0 < (t217.size : Int) then (some (bt t217 a0)) else (none)) else (none))) = some r := Z2
  clear H
  have H := H1
  clear H1
  replace H := Option.bind_eq_some_iff.mp H
  obtain ⟨t217, A40, H⟩ := H
  replace H : (if 0 ≤ a0 then (if a0 < (t217.size : Int) then (some (bt t217 a0)) else (none)) else (none)) = some r := H
  have A4 := Aside0.mk A40
  clear A40
  by_cases c5 : 0 ≤ a0
  ·rw [if_pos c5] at H
   have c5b0 : decide (0 ≤ a0) = true := decide_eq_true c5
   clear c5
   by_cases c6 : a0 < (t217.size : Int)
   ·rw [if_pos c6] at H
    have c6b0 : decide (a0 < (t217.size : Int)) = true := decide_eq_true c6
    clear c6
    obtain rfl := Option.some.inj H
    go_enter Tryd.func95, Tryd.ntmps95
    go_wp2_with (first | ((with_reducible refine gate_callee (f := 83) rfl ?_); refine goesL_ (some 4) rfl rfl Tryd.func83 Z0 rfl #[.int .i64 a0, .int .i64 0, .int .i64 47] rfl Z9 ?_; (with_reducible refine (spec_l01In.calls a0 0 47 true _ A2.out).mono ?_); rintro e w' ⟨rfl, ⟨nd, rfl⟩⟩; refine ⟨_, rfl, ?_⟩) | ((with_reducible refine gate_callee (f := 118) rfl ?_); refine goesL_ (some 6) rfl rfl Tryd.func118 Z0 rfl #[] rfl Z9 ?_; (with_reducible refine (spec_l02All.calls  t217 _ A4.out).mono ?_); rintro e w' ⟨rfl, ⟨nd, rfl⟩⟩; refine ⟨_, rfl, ?_⟩; have p7 : 0 ≤ (a0 : Int) := of_decide_eq_true Z10; have q7 : a0 < (t217.size : Int) := of_decide_eq_true Z10; have hx7 := bt_at t217 a0; replace p7 := eq_true p7; replace q7 := eq_true q7))
    go_ret
    exact ⟨Z7, Z8⟩
   ·rw [if_neg c6] at H
    exact absurd H (by simp)
  ·rw [if_neg c5] at H
   exact absurd H (by simp)
 ·replace c3 := Bool.eq_false_iff.mpr c3
  subst c3
  have H1 : (some 0) = some r := by rw [if_neg (show ¬ (false = true) by decide)] at H; exact H
  clear H
  have H := H1
  clear H1
  obtain rfl := Option.some.inj H
  go_enter Tryd.func95, Tryd.ntmps95
  go_wp2_with (first | ((with_reducible refine gate_callee (f := 83) rfl ?_); refine goesL_ (some 4) rfl rfl Tryd.func83 Z0 rfl #[.int .i64 a0, .int .i64 0, .int .i64 47] rfl Z9 ?_; (with_reducible refine (spec_l01In.calls a0 0 47 false _ A2.out).mono ?_); rintro e w' ⟨rfl, ⟨nd, rfl⟩⟩; refine ⟨_, rfl, ?_⟩))
  go_ret
  exact ⟨Z7, Z8⟩

/-! ### spec_UnpackOne: function 66 -/
mutual
def spec_UnpackOne.l0 : Nat → Int → List Int → Int → Option (ByteArray)
 | 0, _, _, _ => none
 | k + 1, x0, x3, x4 => if x4 > 0 then (if 0 ≤ (IntKind.u64.wrap (x4)) then (spec_UnpackOne.j1 k x0 x3 x4 ((Go.bits .and .i64 (wrap64 (x0)) (wrap64 ((shl .i64 1 (IntKind.u64.wrap (x4))) - 1))) != 0)) else (none)) else (spec_UnpackOne.j1 k x0 x3 x4 false)
def spec_UnpackOne.j1 : Nat → Int → List Int → Int → Bool → Option (ByteArray)
 | 0, _, _, _, _ => none
 | k + 1, x0, x3, x4, x22 => if x22 = true then ((spec_Decode.f k x0 x4).bind fun bt221 => (if bt221.1 < 1 then (some (strOfNums x3)) else ((spec_LetterAt.f bt221.1).bind fun t223 => (if x3.length < 140737488355328 then (spec_UnpackOne.l0 k x0 (x3 ++ [t223]) (wrap64 (x4 - bt221.2))) else (none))))) else (some (strOfNums x3))
end
def spec_UnpackOne.f (k : Nat) (a0 : Int) : Option (ByteArray) := if (wrap64 (a0)) ≥ 268435456 then (some (⟨#[]⟩ : ByteArray)) else (spec_UnpackOne.l0 k a0 (([] : List Int)) 28)
theorem spec_UnpackOne.mono_l : ∀ k, (∀ y0 y1 y2, LeO (spec_UnpackOne.l0 k y0 y1 y2) (spec_UnpackOne.l0 (k + 1) y0 y1 y2)) ∧ (∀ y0 y1 y2 y3, LeO (spec_UnpackOne.j1 k y0 y1 y2 y3) (spec_UnpackOne.j1 (k + 1) y0 y1 y2 y3))
 | 0 => ⟨fun _ _ _ r h => by simp [spec_UnpackOne.l0] at h, fun _ _ _ _ r h => by simp [spec_UnpackOne.j1] at h⟩
 | k + 1 => by
  obtain ⟨ih0, ih1⟩ := spec_UnpackOne.mono_l k
  refine ⟨?_, ?_⟩
  ·intro y0 y1 y2
   unfold spec_UnpackOne.l0
   repeat' first
   | (with_reducible exact ih0 _ _ _)
   | (with_reducible exact ih1 _ _ _ _)
   | (with_reducible exact spec_Decode.mono _ _ _)
   | (with_reducible exact LeO.refl _)
   | (with_reducible exact LeO.none _)
   | (with_reducible refine LeO.ite ?_ ?_)
   | (with_reducible refine LeO.bind ?_ (fun _ => ?_))
   | exact ih0 _ _ _
   | exact ih1 _ _ _ _
   | exact spec_Decode.mono _ _ _
   | exact LeO.none _
   | refine LeO.ite ?_ ?_
   | refine LeO.bind ?_ (fun _ => ?_)
  ·intro y0 y1 y2 y3
   unfold spec_UnpackOne.j1
   repeat' first
   | (with_reducible exact ih0 _ _ _)
   | (with_reducible exact ih1 _ _ _ _)
   | (with_reducible exact spec_Decode.mono _ _ _)
   | (with_reducible exact LeO.refl _)
   | (with_reducible exact LeO.none _)
   | (with_reducible refine LeO.ite ?_ ?_)
   | (with_reducible refine LeO.bind ?_ (fun _ => ?_))
   | exact ih0 _ _ _
   | exact ih1 _ _ _ _
   | exact spec_Decode.mono _ _ _
   | exact LeO.none _
   | refine LeO.ite ?_ ?_
   | refine LeO.bind ?_ (fun _ => ?_)
theorem spec_UnpackOne.mono : ∀ a0 k, LeO (spec_UnpackOne.f k a0) (spec_UnpackOne.f (k + 1) a0) := by
 intro a0 k
 obtain ⟨ih0, ih1⟩ := spec_UnpackOne.mono_l k
 unfold spec_UnpackOne.f
 repeat' first
   | (with_reducible exact ih0 _ _ _)
   | (with_reducible exact ih1 _ _ _ _)
   | (with_reducible exact spec_Decode.mono _ _ _)
   | (with_reducible exact LeO.refl _)
   | (with_reducible exact LeO.none _)
   | (with_reducible refine LeO.ite ?_ ?_)
   | (with_reducible refine LeO.bind ?_ (fun _ => ?_))
   | exact ih0 _ _ _
   | exact ih1 _ _ _ _
   | exact spec_Decode.mono _ _ _
   | exact LeO.none _
   | refine LeO.ite ?_ ?_
   | refine LeO.bind ?_ (fun _ => ?_)
set_option maxHeartbeats 8000000 in
set_option maxRecDepth 100000 in
theorem spec_UnpackOne.calls (k : Nat) (a0 : Int) (r : ByteArray) (w : World) (h : spec_UnpackOne.f k a0 = some r) :
  Calls Tryd.prog 66 #[.int .u32 a0] w fun e w' => e = .returned (.string r) ∧ Below w.heap.size w w' := by
 have HB := Z (Below.refl w.heap.size w)
 have H : (if (wrap64 (a0)) ≥ 268435456 then (some (⟨#[]⟩ : ByteArray)) else (spec_UnpackOne.l0 k a0 (([] : List Int)) 28)) = some r := h
 clear h
 by_cases c2 : (wrap64 (a0)) ≥ 268435456
 ·rw [if_pos c2] at H
  have c2b0 : decide (268435456 ≤ (wrap64 (a0))) = true := decide_eq_true c2
  clear c2
  obtain rfl := Option.some.inj H
  go_enter Tryd.func66, Tryd.ntmps66
  go_wp2
  go_ret
  exact ⟨Z68, Z67⟩
 ·rw [if_neg c2] at H
  have c2b0 : decide (268435456 ≤ (wrap64 (a0))) = false := decide_eq_false c2
  clear c2
  obtain ⟨y218, hy218⟩ : ∃ y_ : List Int, y_ = (([] : List Int)) := ⟨_, rfl⟩
  replace H : (spec_UnpackOne.l0 k a0 y218 28) = some r := by first | (rw [hy218]; with_reducible exact H) | (have H2_ := (Option.bind_some _ _).symm.trans H; rw [hy218]; with_reducible exact H2_) | (have H2_ := (Option.bind_some _ _).symm.trans H; with_reducible exact H2_) | with_reducible exact H | (rw [hy218]; exact H) | exact H
  have Ny218 := Aside0.mk hy218
  clear hy218
  have H' := Aside0.mk H
  clear H
  go_enter Tryd.func66, Tryd.ntmps66
  go_wp2_with (first | ((with_reducible refine gate_dst (N := 10) rfl ?_); refine Kd.R_lit (Kd.int .u8) _ 5 (by rfl) (N := 10) (by rfl) (xs := ([] : List Int)) (inner := []) (ok := fun _ => True) (okp := fun _ => True) Z3 (Reps.none _ _) (fun _ hk => hk) trivial (Below.refl _ _) (Nat.le_refl _) (by simp) ?_; intro v219 w3 ho4 hb hg_ hnew_; clear hg_ hnew_; (first | rw [← Ny218.out] at ho4 | (simp only [Int.reduceToNat] at ho4; rw [← Ny218.out] at ho4)); have HO220 := Z (Kd.R_lower ho4 (below_size Z67)); replace HB := Z (below_step Z67 hb); clear hb ho4))
  go_loopg [3, 4] k (fun kq v3 v4 w' => ∃ (x3_1 : List Int) (x4_1 : Int), v4 = .int .i64 x4_1 ∧ Aside0 (spec_UnpackOne.l0 kq a0 x3_1 x4_1 = some r) ∧ Aside0 (kq ≤ k) ∧ Aside0 (Kd.R (Kd.int .u8) 5 w' w.heap.size (fun _ => True) v3 x3_1) ∧ Aside0 (Below w.heap.size w w'))
  case atStart => exact ⟨(y218), (28), Z7, H', ⟨Nat.le_refl _⟩, ⟨(Z6 HO220)⟩, ⟨Z67⟩⟩
  case round =>
   clear H'
   try clear c2
   try clear c2b0
   try clear p2
   obtain ⟨x3_1, x4_1, rfl, HA, HK1, HO_3, HB⟩ := hrel
   cases gk with
   | zero => exact absurd HA.out (by simp [spec_UnpackOne.l0])
   | succ k1 =>
    have H := HA.out
    clear HA
    simp only [spec_UnpackOne.l0] at H
    have HC5 := Aside0.mk H
    clear H
    go_upto_region 5 with (fail)
    go_cut [22] (fun v22 wc => ∃ (kq : Nat) (x22_4 : Bool), v22 = .bool x22_4 ∧ Aside0 (spec_UnpackOne.j1 kq a0 x3_1 x4_1 x22_4 = some r) ∧ Aside0 (kq ≤ k1) ∧ Aside0 (Kd.R (Kd.int .u8) 5 wc w.heap.size (fun _ => True) u3 x3_1) ∧ Aside0 (Below w.heap.size w wc))
    case first =>
     have H := HC5.out
     clear HC5
     by_cases c6 : x4_1 > 0
     ·rw [if_pos c6] at H
      have c6b0 : decide (0 < x4_1) = true := decide_eq_true c6
      clear c6
      (first | rw [c6b0] | (simp only [i64_w, i32_w]; rw [c6b0]) | skip)
      obtain ⟨ji7, hji7⟩ : ∃ j_ : Int, (IntKind.u64.wrap (x4_1)) = j_ := ⟨_, rfl⟩
      replace H : (if 0 ≤ (ji7) then (spec_UnpackOne.j1 k1 a0 x3_1 x4_1 ((Go.bits .and .i64 (wrap64 (a0)) (wrap64 ((shl .i64 1 (ji7)) - 1))) != 0)) else (none)) = some r := Z17
      by_cases c8 : 0 ≤ (ji7)
      ·rw [if_pos c8] at H
       have c8b0 := eq_true c8
       have c8b1 : decide (0 ≤ (ji7)) = true := decide_eq_true c8
       clear c8
       obtain ⟨ji9, hji9⟩ : ∃ j_ : Int, (shl .i64 1 (ji7)) = j_ := ⟨_, rfl⟩
       replace H : (spec_UnpackOne.j1 k1 a0 x3_1 x4_1 ((Go.bits .and .i64 (wrap64 (a0)) (wrap64 ((ji9) - 1))) != 0)) = some r := Z12
       have hji9_ : (IntKind.i64.wrap (1 * 2 ^ min (ji7).toNat 64)) = ji9 := hji9
       have hji9z : (ji7) ≤ 64 → (IntKind.i64.wrap (1 * 2 ^ (ji7).toNat)) = ji9 := shl_small hji9
       have hji9u : (IntKind.i64.wrap (2 ^ min (ji7).toNat 64)) = ji9 := by have h_ := hji9_; rw [Int.one_mul] at h_; exact h_
       have hji9v : (ji7) ≤ 64 → (IntKind.i64.wrap (2 ^ (ji7).toNat)) = ji9 := fun hle_ => by have h_ := hji9z hle_; rw [Int.one_mul] at h_; exact h_
       have hji9y : (wrap64 (1 * 2 ^ min (ji7).toNat 64)) = ji9 := (i64_w _).symm.trans hji9_
       have hji9x : (ji7) ≤ 64 → (wrap64 (1 * 2 ^ (ji7).toNat)) = ji9 := fun h_ => (i64_w _).symm.trans (hji9z h_)
       have H' := Aside0.mk H
       clear H
       go_wp2
       go_meet
       case rel => exact ⟨_, (((Go.bits .and .i64 (wrap64 (a0)) (wrap64 ((ji9) - 1))) != 0)), (by first | rfl | (simp; done) | (simp only [← hji9] <;> (first | rfl | simp)) | (simp [*]; done)), H', ⟨by have := HK1.out; first | omega | exact Nat.le_refl _⟩, ⟨(Z6 HO_3)⟩, ⟨Z67⟩⟩
      ·rw [if_neg c8] at H
       exact absurd H (by simp)
     ·rw [if_neg c6] at H
      have c6b0 : decide (0 < x4_1) = false := decide_eq_false c6
      clear c6
      (first | rw [c6b0] | (simp only [i64_w, i32_w]; rw [c6b0]) | skip)
      have H' := Aside0.mk H
      clear H
      go_wp2
      go_meet
      case rel => exact ⟨_, (false), Z7, H', ⟨by have := HK1.out; first | omega | exact Nat.le_refl _⟩, ⟨(Z6 HO_3)⟩, ⟨Z67⟩⟩
    case rest =>
     clear HC5
     try clear c2
     try clear c2b0
     try clear p2
     try clear c6
     try clear c6b0
     try clear p6
     try clear c8
     try clear c8b0
     try clear c8b1
     try clear p2
     obtain ⟨kq, x22_4, rfl, HA, HJ4, HO_3, HB⟩ := hcut
     cases kq with
     | zero => exact absurd HA.out (by simp [spec_UnpackOne.j1])
     | succ kj4 =>
      have H := HA.out
      clear HA
      simp only [spec_UnpackOne.j1] at H
      by_cases c10 : x22_4 = true
      ·subst c10
       have H1 : ((spec_Decode.f kj4 a0 x4_1).bind fun bt221 => (if bt221.1 < 1 then (some (strOfNums x3_1)) else ((spec_LetterAt.f bt221.1).bind fun t223 => (if x3_1.length < 140737488355328 then (spec_UnpackOne.l0 kj4 a0 (x3_1 ++ [t223]) (wrap64 (x4_1 - bt221.2))) else (none))))) = some r := Z2
       clear H
       have H := H1
       clear H1
       replace H := Option.bind_eq_some_iff.mp H
       obtain ⟨⟨t221, t222⟩, A110, H⟩ := H
       replace H : (if t221 < 1 then (some (strOfNums x3_1)) else ((spec_LetterAt.f t221).bind fun t223 => (if x3_1.length < 140737488355328 then (spec_UnpackOne.l0 kj4 a0 (x3_1 ++ [t223]) (wrap64 (x4_1 - t222))) else (none)))) = some r := H
       have A11 := Aside0.mk A110
       clear A110
       by_cases c12 : t221 < 1
       ·rw [if_pos c12] at H
        have c12b0 : decide (t221 < 1) = true := decide_eq_true c12
        clear c12
        obtain rfl := Option.some.inj H
        go_wp2_with (first | ((with_reducible refine gate_callee (f := 94) rfl ?_); refine goesL_ (some 26) rfl rfl Tryd.func94 Z0 rfl #[.int .u32 a0, .int .i64 x4_1] rfl Z9 ?_; (with_reducible refine (spec_Decode.calls kj4 a0 x4_1 t221 t222 _ A11.out).mono ?_); rintro e w' ⟨rfl, ⟨nd, rfl⟩⟩; refine ⟨_, rfl, ?_⟩; have hcv13 := own_string (P := Tryd.prog) Tryd.underlying35 Tryd.underlying5 Tryd.underlying9 (Kd.own_of_R HO_3.out); have hcw13 := fun nq_ : Nat => own_string (P := Tryd.prog) Tryd.underlying35 Tryd.underlying5 Tryd.underlying9 (Kd.own_of_R (Kd.R_drewN HO_3.out nq_))))
        go_ret
        exact ⟨Z68, Z67⟩
       ·rw [if_neg c12] at H
        have c12b0 : decide (t221 < 1) = false := decide_eq_false c12
        clear c12
        replace H := Option.bind_eq_some_iff.mp H
        obtain ⟨t223, A140, H⟩ := H
        replace H : (if x3_1.length < 140737488355328 then (spec_UnpackOne.l0 kj4 a0 (x3_1 ++ [t223]) (wrap64 (x4_1 - t222))) else (none)) = some r := H
        have A14 := Aside0.mk A140
        clear A140
        by_cases c15 : x3_1.length < 140737488355328
        ·rw [if_pos c15] at H
         have LMc15 := Aside0.mk c15
         clear c15
         obtain ⟨y224, hy224⟩ : ∃ y_ : List Int, y_ = (x3_1 ++ [t223]) := ⟨_, rfl⟩
         replace H : (spec_UnpackOne.l0 kj4 a0 y224 (wrap64 (x4_1 - t222))) = some r := by first | (rw [hy224]; with_reducible exact H) | (have H2_ := (Option.bind_some _ _).symm.trans H; rw [hy224]; with_reducible exact H2_) | (have H2_ := (Option.bind_some _ _).symm.trans H; with_reducible exact H2_) | with_reducible exact H | (rw [hy224]; exact H) | exact H
         have Ny224 := Aside0.mk hy224
         clear hy224
         have H' := Aside0.mk H
         clear H
         go_wp2_with (first | ((with_reducible refine gate_callee (f := 94) rfl ?_); refine goesL_ (some 26) rfl rfl Tryd.func94 Z0 rfl #[.int .u32 a0, .int .i64 x4_1] rfl Z9 ?_; (with_reducible refine (spec_Decode.calls kj4 a0 x4_1 t221 t222 _ A11.out).mono ?_); rintro e w' ⟨rfl, ⟨nd, rfl⟩⟩; refine ⟨_, rfl, ?_⟩) | ((with_reducible refine gate_callee (f := 95) rfl ?_); refine goesL_ (some 33) rfl rfl Tryd.func95 Z0 rfl #[.int .i64 t221] rfl Z9 ?_; (with_reducible refine (spec_LetterAt.calls t221 t223 _ A14.out).mono ?_); rintro e w' ⟨rfl, ⟨nd, rfl⟩⟩; refine ⟨_, rfl, ?_⟩) | ((with_reducible refine gate_builtin (b := .append) (xs := #[.tmp 31, .tmp 34]) rfl ?_); at_builtin; refine Kd.R_append (Kd.int .u8) (w0 := w) w.heap.size rfl (.tmp 31) (.tmp 34) 35 5 (.int .u8 0) 1 rfl Tryd.underlying35 info5 rfl (by decide) (by omega) u3 x3_1 t223 [.int .u8 t223] (fun _ => True) (fun _ => False) rfl rfl ?aP (fun _ hk => hk.elim) ?aF ?aO ?aB ?aS ?aL ?_; (case aP => exact rfl); (case aB => exact Z67); (case aF => exact (fun _ _ => trivial)); (case aO => exact (Z6 HO_3)); (case aS => exact (below_size Z67)); (case aL => have := LMc15.out; omega); intro v225 w16 ho hb hg hat; rw [← Ny224.out] at ho; replace HB := Z (hb); have HO226 := Z (ho); clear HO_3; clear ho hb hg hat))
         go_roundg kj4
         case measure => have := HK1.out; have := HJ4.out; omega
         case rel => exact ⟨(y224), (wrap64 (x4_1 - t222)), Z7, H', ⟨by have := HK1.out; have := HJ4.out; omega⟩, ⟨(Z6 HO226)⟩, ⟨Z67⟩⟩
        ·rw [if_neg c15] at H
         exact absurd H (by simp)
      ·replace c10 := Bool.eq_false_iff.mpr c10
       subst c10
       have H1 : (some (strOfNums x3_1)) = some r := by rw [if_neg (show ¬ (false = true) by decide)] at H; exact H
       clear H
       have H := H1
       clear H1
       obtain rfl := Option.some.inj H
       have hcv17 := own_string (P := Tryd.prog) Tryd.underlying35 Tryd.underlying5 Tryd.underlying9 (Kd.own_of_R HO_3.out)
       have hcw17 := fun nq_ : Nat => own_string (P := Tryd.prog) Tryd.underlying35 Tryd.underlying5 Tryd.underlying9 (Kd.own_of_R (Kd.R_drewN HO_3.out nq_))
       go_wp2
       go_ret
       exact ⟨Z68, Z67⟩

/-! ### spec_l03Same: function 115 -/
def spec_l03Same.l0 : Nat → List Int → List Int → Int → Option (Bool)
 | 0, _, _, _ => none
 | k + 1, x0, x1, x5 => if x5 < (x0.length : Int) then (if 0 ≤ x5 then (if x5 < (x1.length : Int) then (if (rd x0 x5) = (rd x1 x5) then (spec_l03Same.l0 k x0 x1 (wrap64 (x5 + 1))) else (some false)) else (none)) else (none)) else (some true)
def spec_l03Same.f (k : Nat) (l0 : List Int) (l1 : List Int) : Option (Bool) := if (l0.length : Int) = (l1.length : Int) then (spec_l03Same.l0 k l0 l1 0) else (some false)
theorem spec_l03Same.mono_l : ∀ k, (∀ y0 y1 y2, LeO (spec_l03Same.l0 k y0 y1 y2) (spec_l03Same.l0 (k + 1) y0 y1 y2))
 | 0 => fun _ _ _ r h => by simp [spec_l03Same.l0] at h
 | k + 1 => by
  have ih0 := spec_l03Same.mono_l k
  ·intro y0 y1 y2
   unfold spec_l03Same.l0
   repeat' first
   | (with_reducible exact ih0 _ _ _)
   | (with_reducible exact LeO.refl _)
   | (with_reducible exact LeO.none _)
   | (with_reducible refine LeO.ite ?_ ?_)
   | (with_reducible refine LeO.bind ?_ (fun _ => ?_))
   | exact ih0 _ _ _
   | exact LeO.none _
   | refine LeO.ite ?_ ?_
   | refine LeO.bind ?_ (fun _ => ?_)
theorem spec_l03Same.mono : ∀ a0 a1 k, LeO (spec_l03Same.f k a0 a1) (spec_l03Same.f (k + 1) a0 a1) := by
 intro a0 a1 k
 have ih0 := spec_l03Same.mono_l k
 unfold spec_l03Same.f
 repeat' first
   | (with_reducible exact ih0 _ _ _)
   | (with_reducible exact LeO.refl _)
   | (with_reducible exact LeO.none _)
   | (with_reducible refine LeO.ite ?_ ?_)
   | (with_reducible refine LeO.bind ?_ (fun _ => ?_))
   | exact ih0 _ _ _
   | exact LeO.none _
   | refine LeO.ite ?_ ?_
   | refine LeO.bind ?_ (fun _ => ?_)
set_option maxHeartbeats 8000000 in
set_option maxRecDepth 100000 in
theorem spec_l03Same.calls (k : Nat) (A0 : Option Addr) (c0 : Nat) (l0 : List Int) (A1 : Option Addr) (c1 : Nat) (l1 : List Int) (r : Bool) (w : World) (hr0 : Kd.C (Kd.int .u32) w A0 l0.length l0) (hc0 : l0.length ≤ c0) (hr1 : Kd.C (Kd.int .u32) w A1 l1.length l1) (hc1 : l1.length ≤ c1) (h : spec_l03Same.f k l0 l1 = some r) :
  Calls Tryd.prog 115 #[.slice A0 l0.length c0, .slice A1 l1.length c1] w fun e w' => e = .returned (.bool r) ∧ Drawn0 w w' := by
 have HR0 := Aside0.mk hr0
 have HC0 := Aside0.mk hc0
 clear hr0 hc0
 have HR1 := Aside0.mk hr1
 have HC1 := Aside0.mk hc1
 clear hr1 hc1
 have H : (if (l0.length : Int) = (l1.length : Int) then (spec_l03Same.l0 k l0 l1 0) else (some false)) = some r := h
 clear h
 by_cases c3 : (l0.length : Int) = (l1.length : Int)
 ·rw [if_pos c3] at H
  have c3b0 : ((l0.length : Int) == (l1.length : Int)) = true := beq_iff_eq.mpr c3
  have c3b1 : ((l0.length : Int) != (l1.length : Int)) = false := bne_eq_false_iff_eq.mpr c3
  have c3b2 : (l0.length == l1.length) = true := Z22
  clear c3
  have H' := Aside0.mk H
  clear H
  go_enter Tryd.func115, Tryd.ntmps115
  go_wp2
  repeat (go_quiet (fail); try go_wp2)
  go_loopg [5] k (fun kq v5 w' => ∃ (x5_1 : Int), v5 = .int .i64 x5_1 ∧ Aside0 (spec_l03Same.l0 kq l0 l1 x5_1 = some r) ∧ Aside0 (kq ≤ k) ∧ Drawn0 w w')
  case atStart => exact ⟨(0), Z7, H', ⟨Nat.le_refl _⟩, Z8⟩
  case round =>
   clear H'
   try clear c1
   try clear p2
   try clear c3
   try clear c3b0
   try clear c3b1
   try clear c3b2
   obtain ⟨x5_1, rfl, HA, HK1, ⟨m1, rfl⟩⟩ := hrel
   cases gk with
   | zero => exact absurd HA.out (by simp [spec_l03Same.l0])
   | succ k1 =>
    have H := HA.out
    clear HA
    simp only [spec_l03Same.l0] at H
    by_cases c4 : x5_1 < (l0.length : Int)
    ·rw [if_pos c4] at H
     have c4b0 : decide (x5_1 < (l0.length : Int)) = true := decide_eq_true c4
     clear c4
     by_cases c5 : 0 ≤ x5_1
     ·rw [if_pos c5] at H
      have c5b0 : decide (0 ≤ x5_1) = true := decide_eq_true c5
      clear c5
      by_cases c6 : x5_1 < (l1.length : Int)
      ·rw [if_pos c6] at H
       have c6b0 : decide (x5_1 < (l1.length : Int)) = true := decide_eq_true c6
       clear c6
       by_cases c7 : (rd l0 x5_1) = (rd l1 x5_1)
       ·rw [if_pos c7] at H
        have c7b0 : ((rd l0 x5_1) == (rd l1 x5_1)) = true := beq_iff_eq.mpr c7
        have c7b1 : ((rd l0 x5_1) != (rd l1 x5_1)) = false := bne_eq_false_iff_eq.mpr c7
        clear c7
        have H' := Aside0.mk H
        clear H
        have p227 : 0 ≤ (x5_1 : Int) := of_decide_eq_true Z10
        have q227 : x5_1 < (l0.length : Int) := of_decide_eq_true Z10
        obtain ⟨ad227, e227, hx227_0⟩ := Kd.at_int HR0.out x5_1 p227 q227
        cases e227
        replace p227 := eq_true p227
        replace q227 := eq_true q227
        have p228 : 0 ≤ (x5_1 : Int) := of_decide_eq_true Z10
        have q228 : x5_1 < (l1.length : Int) := of_decide_eq_true Z10
        obtain ⟨ad228, e228, hx228_0⟩ := Kd.at_int HR1.out x5_1 p228 q228
        cases e228
        replace p228 := eq_true p228
        replace q228 := eq_true q228
        go_wp2
        repeat (go_quiet (fail); try go_wp2)
        go_roundg k1
        case measure => have := HK1.out; omega
        case rel => exact ⟨(wrap64 (x5_1 + 1)), Z7, H', ⟨Z11⟩, Z8⟩
       ·rw [if_neg c7] at H
        have c7b0 : ((rd l0 x5_1) == (rd l1 x5_1)) = false := beq_eq_false_iff_ne.mpr c7
        have c7b1 : ((rd l0 x5_1) != (rd l1 x5_1)) = true := bne_iff_ne.mpr c7
        obtain rfl := Option.some.inj H
        have p227 : 0 ≤ (x5_1 : Int) := of_decide_eq_true Z10
        have q227 : x5_1 < (l0.length : Int) := of_decide_eq_true Z10
        obtain ⟨ad227, e227, hx227_0⟩ := Kd.at_int HR0.out x5_1 p227 q227
        cases e227
        replace p227 := eq_true p227
        replace q227 := eq_true q227
        have p228 : 0 ≤ (x5_1 : Int) := of_decide_eq_true Z10
        have q228 : x5_1 < (l1.length : Int) := of_decide_eq_true Z10
        obtain ⟨ad228, e228, hx228_0⟩ := Kd.at_int HR1.out x5_1 p228 q228
        cases e228
        replace p228 := eq_true p228
        replace q228 := eq_true q228
        go_wp2
        repeat (go_quiet (fail); try go_wp2)
        go_ret
        exact ⟨Z7, Z8⟩
      ·rw [if_neg c6] at H
       exact absurd H (by simp)
     ·rw [if_neg c5] at H
      exact absurd H (by simp)
    ·rw [if_neg c4] at H
     have c4b0 : decide (x5_1 < (l0.length : Int)) = false := decide_eq_false c4
     clear c4
     obtain rfl := Option.some.inj H
     go_wp2
     repeat (go_quiet (fail); try go_wp2)
     go_ret
     exact ⟨Z7, Z8⟩
 ·rw [if_neg c3] at H
  have c3b0 : ((l0.length : Int) == (l1.length : Int)) = false := beq_eq_false_iff_ne.mpr c3
  have c3b1 : ((l0.length : Int) != (l1.length : Int)) = true := bne_iff_ne.mpr c3
  have c3b2 : (l0.length == l1.length) = false := Z22
  obtain rfl := Option.some.inj H
  go_enter Tryd.func115, Tryd.ntmps115
  go_wp2
  repeat (go_quiet (fail); try go_wp2)
  go_ret
  exact ⟨Z7, Z8⟩

/-! ### spec_Unpack: function 93 -/
def spec_Unpack.l0 : Nat → List Int → ByteArray → Int → Option (ByteArray × Bool)
 | 0, _, _, _ => none
 | k + 1, x0, x4, x5 => if x5 < (x0.length : Int) then (if 0 ≤ x5 then ((spec_UnpackOne.f k (rd x0 x5)).bind fun t230 => (if x4.size + t230.size ≤ 9223372036854775807 then (spec_Unpack.l0 k x0 (x4 ++ t230) (wrap64 (x5 + 1))) else (none))) else (none)) else ((spec_NameOk.f k x4).bind fun t231 => (if t231 = true then ((spec_Pack.f k x4).bind fun t232 => ((spec_l03Same.f k t232 x0).bind fun t235 => (if t235 = true then (some (x4, true)) else (some ((⟨#[]⟩ : ByteArray), false))))) else (some ((⟨#[]⟩ : ByteArray), false))))
def spec_Unpack.f (k : Nat) (l0 : List Int) : Option (ByteArray × Bool) := if (l0.length : Int) > 24 then (some ((⟨#[]⟩ : ByteArray), false)) else (spec_Unpack.l0 k l0 (⟨#[]⟩ : ByteArray) 0)
theorem spec_Unpack.mono_l : ∀ k, (∀ y0 y1 y2, LeO (spec_Unpack.l0 k y0 y1 y2) (spec_Unpack.l0 (k + 1) y0 y1 y2))
 | 0 => fun _ _ _ r h => by simp [spec_Unpack.l0] at h
 | k + 1 => by
  have ih0 := spec_Unpack.mono_l k
  ·intro y0 y1 y2
   unfold spec_Unpack.l0
   repeat' first
   | (with_reducible exact ih0 _ _ _)
   | (with_reducible exact spec_NameOk.mono _ _)
   | (with_reducible exact spec_Pack.mono _ _)
   | (with_reducible exact spec_UnpackOne.mono _ _)
   | (with_reducible exact spec_l03Same.mono _ _ _)
   | (with_reducible exact LeO.refl _)
   | (with_reducible exact LeO.none _)
   | (with_reducible refine LeO.ite ?_ ?_)
   | (with_reducible refine LeO.bind ?_ (fun _ => ?_))
   | exact ih0 _ _ _
   | exact spec_NameOk.mono _ _
   | exact spec_Pack.mono _ _
   | exact spec_UnpackOne.mono _ _
   | exact spec_l03Same.mono _ _ _
   | exact LeO.none _
   | refine LeO.ite ?_ ?_
   | refine LeO.bind ?_ (fun _ => ?_)
theorem spec_Unpack.mono : ∀ a0 k, LeO (spec_Unpack.f k a0) (spec_Unpack.f (k + 1) a0) := by
 intro a0 k
 have ih0 := spec_Unpack.mono_l k
 unfold spec_Unpack.f
 repeat' first
   | (with_reducible exact ih0 _ _ _)
   | (with_reducible exact spec_NameOk.mono _ _)
   | (with_reducible exact spec_Pack.mono _ _)
   | (with_reducible exact spec_UnpackOne.mono _ _)
   | (with_reducible exact spec_l03Same.mono _ _ _)
   | (with_reducible exact LeO.refl _)
   | (with_reducible exact LeO.none _)
   | (with_reducible refine LeO.ite ?_ ?_)
   | (with_reducible refine LeO.bind ?_ (fun _ => ?_))
   | exact ih0 _ _ _
   | exact spec_NameOk.mono _ _
   | exact spec_Pack.mono _ _
   | exact spec_UnpackOne.mono _ _
   | exact spec_l03Same.mono _ _ _
   | exact LeO.none _
   | refine LeO.ite ?_ ?_
   | refine LeO.bind ?_ (fun _ => ?_)
set_option maxHeartbeats 8000000 in
set_option maxRecDepth 100000 in
theorem spec_Unpack.calls (k : Nat) (A0 : Option Addr) (c0 : Nat) (l0 : List Int) (r1 : ByteArray) (r2 : Bool) (w : World) (hr0 : Kd.C (Kd.int .u32) w A0 l0.length l0) (hc0 : l0.length ≤ c0) (h : spec_Unpack.f k l0 = some (r1, r2)) :
  Calls Tryd.prog 93 #[.slice A0 l0.length c0] w fun e w' => e = .returned (.tuple #[.string r1, .bool r2]) ∧ Below w.heap.size w w' := by
 have HR0 := Aside0.mk hr0
 have HC0 := Aside0.mk hc0
 clear hr0 hc0
 have HB := Z (Below.refl w.heap.size w)
 have H : (if (l0.length : Int) > 24 then (some ((⟨#[]⟩ : ByteArray), false)) else (spec_Unpack.l0 k l0 (⟨#[]⟩ : ByteArray) 0)) = some (r1, r2) := h
 clear h
 by_cases c2 : (l0.length : Int) > 24
 ·rw [if_pos c2] at H
  have c2b0 : decide (24 < (l0.length : Int)) = true := decide_eq_true c2
  have c2b1 : decide (24 < l0.length) = true := decide_eq_true (by omega)
  clear c2
  simp only [Option.some.injEq, Prod.mk.injEq] at H
  obtain ⟨rfl, rfl⟩ := H
  go_enter Tryd.func93, Tryd.ntmps93
  go_wp2
  go_ret2
  exact ⟨Z68, Z67⟩
 ·rw [if_neg c2] at H
  have c2b0 : decide (24 < (l0.length : Int)) = false := decide_eq_false c2
  have c2b1 : decide (24 < l0.length) = false := decide_eq_false (by omega)
  clear c2
  have H' := Aside0.mk H
  clear H
  go_enter Tryd.func93, Tryd.ntmps93
  go_wp2
  go_loopg [4, 5] k (fun kq v4 v5 w' => ∃ (x4_1 : ByteArray) (x5_1 : Int), v4 = .string x4_1 ∧ v5 = .int .i64 x5_1 ∧ Aside0 (spec_Unpack.l0 kq l0 x4_1 x5_1 = some (r1, r2)) ∧ Aside0 (kq ≤ k) ∧ Aside0 (Below w.heap.size w w'))
  case atStart => exact ⟨((⟨#[]⟩ : ByteArray)), (0), Z7, Z7, H', ⟨Nat.le_refl _⟩, ⟨Z67⟩⟩
  case round =>
   clear H'
   try clear c2
   try clear c2b0
   try clear c2b1
   try clear p2
   obtain ⟨x4_1, x5_1, rfl, rfl, HA, HK1, HB⟩ := hrel
   cases gk with
   | zero => exact absurd HA.out (by simp [spec_Unpack.l0])
   | succ k1 =>
    have H := HA.out
    clear HA
    simp only [spec_Unpack.l0] at H
    by_cases c3 : x5_1 < (l0.length : Int)
    ·rw [if_pos c3] at H
     have c3b0 : decide (x5_1 < (l0.length : Int)) = true := decide_eq_true c3
     clear c3
     by_cases c4 : 0 ≤ x5_1
     ·rw [if_pos c4] at H
      have c4b0 : decide (0 ≤ x5_1) = true := decide_eq_true c4
      clear c4
      replace H := Option.bind_eq_some_iff.mp H
      obtain ⟨t230, A50, H⟩ := H
      replace H : (if x4_1.size + t230.size ≤ 9223372036854775807 then (spec_Unpack.l0 k1 l0 (x4_1 ++ t230) (wrap64 (x5_1 + 1))) else (none)) = some (r1, r2) := H
      have A5 := Aside0.mk A50
      clear A50
      by_cases c6 : x4_1.size + t230.size ≤ 9223372036854775807
      ·rw [if_pos c6] at H
       have c6b0 := eq_true c6
       have c6b1 : decide (x4_1.size + t230.size ≤ 9223372036854775807) = true := decide_eq_true c6
       try have c6b2 : (9223372036854775807 < x4_1.size + t230.size) = False := eq_false (Nat.not_lt.2 c6)
       have H' := Aside0.mk H
       clear H
       have p229 : 0 ≤ (x5_1 : Int) := of_decide_eq_true Z10
       have q229 : x5_1 < (l0.length : Int) := of_decide_eq_true Z10
       obtain ⟨ad229, e229, hx229_0⟩ := Kd.at_int HR0.out x5_1 p229 q229
       cases e229
       replace hx229_0 := (HB.out.cell (World.block_lt_of_cell? w _ hx229_0)).trans hx229_0
       replace p229 := eq_true p229
       replace q229 := eq_true q229
       go_wp2_with (first | ((with_reducible refine gate_callee (f := 66) rfl ?_); refine goesL_ (some 20) rfl rfl Tryd.func66 Z0 rfl #[.int .u32 (rd l0 x5_1)] rfl Z9 ?_; (with_reducible refine (spec_UnpackOne.calls k1 (rd l0 x5_1) t230 _ A5.out).mono ?_); rintro e w7 ⟨rfl, hb⟩; refine ⟨_, rfl, ?_⟩; replace HB := Z (below_step Z67 hb); (try clear hb); (try clear hb2); (try clear hk); (try clear hi)))
       go_roundg k1
       case measure => have := HK1.out; omega
       case rel => exact ⟨(x4_1 ++ t230), (wrap64 (x5_1 + 1)), Z7, Z7, H', ⟨Z11⟩, ⟨Z67⟩⟩
      ·rw [if_neg c6] at H
       exact absurd H (by simp)
     ·rw [if_neg c4] at H
      exact absurd H (by simp)
    ·rw [if_neg c3] at H
     have c3b0 : decide (x5_1 < (l0.length : Int)) = false := decide_eq_false c3
     clear c3
     replace H := Option.bind_eq_some_iff.mp H
     obtain ⟨t231, A80, H⟩ := H
     replace H : (if t231 = true then ((spec_Pack.f k1 x4_1).bind fun t232 => ((spec_l03Same.f k1 t232 l0).bind fun t235 => (if t235 = true then (some (x4_1, true)) else (some ((⟨#[]⟩ : ByteArray), false))))) else (some ((⟨#[]⟩ : ByteArray), false))) = some (r1, r2) := H
     have A8 := Aside0.mk A80
     clear A80
     by_cases c9 : t231 = true
     ·subst c9
      have H1 : ((spec_Pack.f k1 x4_1).bind fun t232 => ((spec_l03Same.f k1 t232 l0).bind fun t235 => (if t235 = true then (some (x4_1, true)) else (some ((⟨#[]⟩ : ByteArray), false))))) = some (r1, r2) := Z2
      clear H
      have H := H1
      clear H1
      replace H := Option.bind_eq_some_iff.mp H
      obtain ⟨t232, A100, H⟩ := H
      replace H : ((spec_l03Same.f k1 t232 l0).bind fun t235 => (if t235 = true then (some (x4_1, true)) else (some ((⟨#[]⟩ : ByteArray), false)))) = some (r1, r2) := H
      have A10 := Aside0.mk A100
      clear A100
      replace H := Option.bind_eq_some_iff.mp H
      obtain ⟨t235, A110, H⟩ := H
      replace H : (if t235 = true then (some (x4_1, true)) else (some ((⟨#[]⟩ : ByteArray), false))) = some (r1, r2) := H
      have A11 := Aside0.mk A110
      clear A110
      by_cases c12 : t235 = true
      ·subst c12
       have H1 : (some (x4_1, true)) = some (r1, r2) := Z2
       clear H
       have H := H1
       clear H1
       simp only [Option.some.injEq, Prod.mk.injEq] at H
       obtain ⟨rfl, rfl⟩ := H
       go_wp2_with (first | ((with_reducible refine gate_callee (f := 103) rfl ?_); refine goesL_ (some 23) rfl rfl Tryd.func103 Z0 rfl #[.string x4_1] rfl Z9 ?_; (with_reducible refine (spec_NameOk.calls k1 x4_1 true _ A8.out).mono ?_); rintro e w' ⟨rfl, ⟨nd, rfl⟩⟩; refine ⟨_, rfl, ?_⟩) | (go_at_call 82; (with_reducible refine (spec_Pack.calls k1 x4_1 t232 _ A10.out).mono ?_); rintro e w13 ⟨v233, rfl, ho0, hb⟩; have HO234 := Z (Kd.R_lower ho0 (below_size Z67)); replace HB := Z (below_step Z67 hb); (try clear hb); (try clear hb2); (try clear hk); (try clear hi); (try clear ho0); obtain ⟨Ao14, co14, eo14⟩ := Kd.R_slice HO234.out; subst eo14) | (go_at_call 115; (with_reducible refine (spec_l03Same.calls k1 _ _ t232 _ _ l0 true _ ?side1 ?side2 ?side3 ?side4 A11.out).mono ?_); (case side1 => exact (Z23 HO234)); (case side2 => exact (Kd.R_reads' HO234.out).2.1); (case side3 => exact (Z24 HR0)); (case side4 => exact HC0.out); rintro e w' ⟨rfl, ⟨nd, rfl⟩⟩))
       go_ret2
       exact ⟨Z68, Z67⟩
      ·replace c12 := Bool.eq_false_iff.mpr c12
       subst c12
       have H1 : (some ((⟨#[]⟩ : ByteArray), false)) = some (r1, r2) := by rw [if_neg (show ¬ (false = true) by decide)] at H; exact H
       clear H
       have H := H1
       clear H1
       simp only [Option.some.injEq, Prod.mk.injEq] at H
       obtain ⟨rfl, rfl⟩ := H
       go_wp2_with (first | ((with_reducible refine gate_callee (f := 103) rfl ?_); refine goesL_ (some 23) rfl rfl Tryd.func103 Z0 rfl #[.string x4_1] rfl Z9 ?_; (with_reducible refine (spec_NameOk.calls k1 x4_1 true _ A8.out).mono ?_); rintro e w' ⟨rfl, ⟨nd, rfl⟩⟩; refine ⟨_, rfl, ?_⟩) | (go_at_call 82; (with_reducible refine (spec_Pack.calls k1 x4_1 t232 _ A10.out).mono ?_); rintro e w15 ⟨v233, rfl, ho0, hb⟩; have HO234 := Z (Kd.R_lower ho0 (below_size Z67)); replace HB := Z (below_step Z67 hb); (try clear hb); (try clear hb2); (try clear hk); (try clear hi); (try clear ho0); obtain ⟨Ao16, co16, eo16⟩ := Kd.R_slice HO234.out; subst eo16) | (go_at_call 115; (with_reducible refine (spec_l03Same.calls k1 _ _ t232 _ _ l0 false _ ?side1 ?side2 ?side3 ?side4 A11.out).mono ?_); (case side1 => exact (Z23 HO234)); (case side2 => exact (Kd.R_reads' HO234.out).2.1); (case side3 => exact (Z24 HR0)); (case side4 => exact HC0.out); rintro e w' ⟨rfl, ⟨nd, rfl⟩⟩))
       go_ret2
       exact ⟨Z68, Z67⟩
     ·replace c9 := Bool.eq_false_iff.mpr c9
      subst c9
      have H1 : (some ((⟨#[]⟩ : ByteArray), false)) = some (r1, r2) := by rw [if_neg (show ¬ (false = true) by decide)] at H; exact H
      clear H
      have H := H1
      clear H1
      simp only [Option.some.injEq, Prod.mk.injEq] at H
      obtain ⟨rfl, rfl⟩ := H
      go_wp2_with (first | ((with_reducible refine gate_callee (f := 103) rfl ?_); refine goesL_ (some 23) rfl rfl Tryd.func103 Z0 rfl #[.string x4_1] rfl Z9 ?_; (with_reducible refine (spec_NameOk.calls k1 x4_1 false _ A8.out).mono ?_); rintro e w' ⟨rfl, ⟨nd, rfl⟩⟩; refine ⟨_, rfl, ?_⟩))
      go_ret2
      exact ⟨Z68, Z67⟩

/-! ### spec_l04Name: function 63 -/
def spec_l04Name.l0 : Nat → List Int → Int → List Int → Int → Option (Int × ByteArray × Int × Bool × Int × Int)
 | 0, _, _, _, _ => none
 | k + 1, x0, x2, x8, x9 => if x9 < (x0.length : Int) then (if 0 ≤ x9 then (if (Int.tmod (rd x0 x9) 16) = 0 then (if (rd x0 x9) = 0 then ((spec_Unpack.f k x8).bind fun bt243 => (if bt243.2 = true then (some (x2, bt243.1, 0, false, 0, (x8.length : Int))) else (some (0, (⟨#[]⟩ : ByteArray), 0, false, 0, 0)))) else (if x8.length < 35184372088832 then (spec_l04Name.l0 k x0 x2 (x8 ++ [(Int.tdiv (rd x0 x9) 16) % 4294967296]) (wrap64 (x9 + 1))) else (none))) else ((spec_Unpack.f k x8).bind fun bt249 => (if bt249.2 = true then (some (x2, bt249.1, 0, false, 0, (x8.length : Int))) else (some (0, (⟨#[]⟩ : ByteArray), 0, false, 0, 0))))) else (none)) else ((spec_Unpack.f k x8).bind fun bt251 => (if bt251.2 = true then (some (x2, bt251.1, 0, false, 0, (x8.length : Int))) else (some (0, (⟨#[]⟩ : ByteArray), 0, false, 0, 0))))
def spec_l04Name.f (k : Nat) (l0 : List Int) (a1 : Int) (a2 : Int) : Option (Int × ByteArray × Int × Bool × Int × Int) := if 0 ≤ a1 then (if a1 < (l0.length : Int) then (spec_l04Name.l0 k l0 a2 (([(Int.tdiv (rd l0 a1) 16) % 4294967296] : List Int)) (wrap64 (a1 + 1))) else (none)) else (none)
theorem spec_l04Name.mono_l : ∀ k, (∀ y0 y1 y2 y3, LeO (spec_l04Name.l0 k y0 y1 y2 y3) (spec_l04Name.l0 (k + 1) y0 y1 y2 y3))
 | 0 => fun _ _ _ _ r h => by simp [spec_l04Name.l0] at h
 | k + 1 => by
  have ih0 := spec_l04Name.mono_l k
  ·intro y0 y1 y2 y3
   unfold spec_l04Name.l0
   repeat' first
   | (with_reducible exact ih0 _ _ _ _)
   | (with_reducible exact spec_Unpack.mono _ _)
   | (with_reducible exact LeO.refl _)
   | (with_reducible exact LeO.none _)
   | (with_reducible refine LeO.ite ?_ ?_)
   | (with_reducible refine LeO.bind ?_ (fun _ => ?_))
   | exact ih0 _ _ _ _
   | exact spec_Unpack.mono _ _
   | exact LeO.none _
   | refine LeO.ite ?_ ?_
   | refine LeO.bind ?_ (fun _ => ?_)
theorem spec_l04Name.mono : ∀ a0 a1 a2 k, LeO (spec_l04Name.f k a0 a1 a2) (spec_l04Name.f (k + 1) a0 a1 a2) := by
 intro a0 a1 a2 k
 have ih0 := spec_l04Name.mono_l k
 unfold spec_l04Name.f
 repeat' first
   | (with_reducible exact ih0 _ _ _ _)
   | (with_reducible exact spec_Unpack.mono _ _)
   | (with_reducible exact LeO.refl _)
   | (with_reducible exact LeO.none _)
   | (with_reducible refine LeO.ite ?_ ?_)
   | (with_reducible refine LeO.bind ?_ (fun _ => ?_))
   | exact ih0 _ _ _ _
   | exact spec_Unpack.mono _ _
   | exact LeO.none _
   | refine LeO.ite ?_ ?_
   | refine LeO.bind ?_ (fun _ => ?_)
set_option maxHeartbeats 8000000 in
set_option maxRecDepth 100000 in
theorem spec_l04Name.calls (k : Nat) (A0 : Option Addr) (c0 : Nat) (l0 : List Int) (a1 : Int) (a2 : Int) (r1 : Int) (r2 : ByteArray) (r3 : Int) (r4 : Bool) (r5 : Int) (r6 : Int) (w : World) (hr0 : Kd.C (Kd.int .u32) w A0 l0.length l0) (hc0 : l0.length ≤ c0) (h : spec_l04Name.f k l0 a1 a2 = some (r1, r2, r3, r4, r5, r6)) :
  Calls Tryd.prog 63 #[.slice A0 l0.length c0, .int .i64 a1, .int .i64 a2] w fun e w' => e = .returned (.tuple #[.agg #[.int .i64 r1, .string r2, .int .i32 r3, .bool r4, .int .u32 r5], .int .i64 r6]) ∧ Below w.heap.size w w' := by
 have hu27 := Tryd.underlying27
 have HR0 := Aside0.mk hr0
 have HC0 := Aside0.mk hc0
 clear hr0 hc0
 have HB := Z (Below.refl w.heap.size w)
 have H : (if 0 ≤ a1 then (if a1 < (l0.length : Int) then (spec_l04Name.l0 k l0 a2 (([(Int.tdiv (rd l0 a1) 16) % 4294967296] : List Int)) (wrap64 (a1 + 1))) else (none)) else (none)) = some (r1, r2, r3, r4, r5, r6) := h
 clear h
 by_cases c4 : 0 ≤ a1
 ·rw [if_pos c4] at H
  have c4b0 : decide (0 ≤ a1) = true := decide_eq_true c4
  clear c4
  by_cases c5 : a1 < (l0.length : Int)
  ·rw [if_pos c5] at H
   have c5b0 : decide (a1 < (l0.length : Int)) = true := decide_eq_true c5
   clear c5
   obtain ⟨y238, hy238⟩ : ∃ y_ : List Int, y_ = (([(Int.tdiv (rd l0 a1) 16) % 4294967296] : List Int)) := ⟨_, rfl⟩
   replace H : (spec_l04Name.l0 k l0 a2 y238 (wrap64 (a1 + 1))) = some (r1, r2, r3, r4, r5, r6) := by first | (rw [hy238]; with_reducible exact H) | (have H2_ := (Option.bind_some _ _).symm.trans H; rw [hy238]; with_reducible exact H2_) | (have H2_ := (Option.bind_some _ _).symm.trans H; with_reducible exact H2_) | with_reducible exact H | (rw [hy238]; exact H) | exact H
   have Ny238 := Aside0.mk hy238
   clear hy238
   have H' := Aside0.mk H
   clear H
   go_enter Tryd.func63, Tryd.ntmps63
   go_wp2_with (first | ((with_reducible refine gate_dst (N := 6) rfl ?_); refine box_event (by rfl) (N := 6) (by rfl) (cs := #[.int .i64 0, .string (⟨#[]⟩ : ByteArray), .int .i32 0, .bool false, .int .u32 0]) (t := 27) Z3 ?_; intro gb236 hg w6 hbox hb; have BK236 := Z (hbox); have GW236 := Z ((Z79 : w.heap.size ≤ gb236)); have GE236 := Z ((Z79 : w.heap.size ≤ gb236)); replace HB := Z (below_step Z67 hb); clear hb hbox hg; have p237 : 0 ≤ (a1 : Int) := of_decide_eq_true Z10; have q237 : a1 < (l0.length : Int) := of_decide_eq_true Z10; obtain ⟨ad237, e237, hx237_0⟩ := Kd.at_int HR0.out a1 p237 q237; cases e237; replace hx237_0 := (HB.out.cell (World.block_lt_of_cell? w _ hx237_0)).trans hx237_0; replace p237 := eq_true p237; replace q237 := eq_true q237) | ((with_reducible refine gate_dst (N := 17) rfl ?_); refine Kd.R_lit (Kd.int .u32) _ 22 (by rfl) (N := 17) (by rfl) (xs := ([(Int.tdiv (rd l0 a1) 16) % 4294967296] : List Int)) (inner := [.int .u32 ((Int.tdiv (rd l0 a1) 16) % 4294967296)]) (ok := fun _ => True) (okp := fun _ => True) Z3 (Reps.one (show Kd.M (Kd.int .u32) _ _ _ ((Int.tdiv (rd l0 a1) 16) % 4294967296) [.int .u32 ((Int.tdiv (rd l0 a1) 16) % 4294967296)] from rfl) (Reps.none _ _)) (fun _ hk => hk) trivial (Below.refl _ _) (Nat.le_refl _) (by simp) ?_; intro v239 w7 ho8 hb hg_ hnew_; clear hg_ hnew_; (first | rw [← Ny238.out] at ho8 | (simp only [Int.reduceToNat] at ho8; rw [← Ny238.out] at ho8)); have HO240 := Z (Kd.R_lower ho8 (below_size Z67)); replace BK236 := Z (blk_below (g := gb236) (o := .cells #[.int .i64 0, .string (⟨#[]⟩ : ByteArray), .int .i32 0, .bool false, .int .u32 0] 27 (0, 0)) (Z15 BK236) hb); replace HB := Z (below_step Z67 hb); clear hb ho8))
   go_loopg [8, 9] k (fun kq v8 v9 w' => ∃ (x8_1 : List Int) (x9_1 : Int), v9 = .int .i64 x9_1 ∧ Aside0 (spec_l04Name.l0 kq l0 a2 x8_1 x9_1 = some (r1, r2, r3, r4, r5, r6)) ∧ Aside0 (kq ≤ k) ∧ Aside0 (Kd.R (Kd.int .u32) 22 w' w.heap.size (fun _ => True) v8 x8_1) ∧ Aside0 (w'.heap[gb236]? = some (.cells #[.int .i64 0, .string (⟨#[]⟩ : ByteArray), .int .i32 0, .bool false, .int .u32 0] 27 (0, 0))) ∧ Aside0 (Below w.heap.size w w'))
   case atStart => exact ⟨(y238), (wrap64 (a1 + 1)), Z7, H', ⟨Nat.le_refl _⟩, ⟨(Z6 HO240)⟩, ⟨(Z15 BK236)⟩, ⟨Z67⟩⟩
   case round =>
    clear H'
    try clear p2
    try clear q2
    try clear hx2
    try clear c4
    try clear c4b0
    try clear c5
    try clear c5b0
    try clear c6
    try clear p6
    try clear hx237_0
    try clear p237
    try clear q237
    obtain ⟨x8_1, x9_1, rfl, HA, HK1, HO_8, BK236, HB⟩ := hrel
    cases gk with
    | zero => exact absurd HA.out (by simp [spec_l04Name.l0])
    | succ k1 =>
     have H := HA.out
     clear HA
     simp only [spec_l04Name.l0] at H
     by_cases c9 : x9_1 < (l0.length : Int)
     ·rw [if_pos c9] at H
      have c9b0 : decide (x9_1 < (l0.length : Int)) = true := decide_eq_true c9
      clear c9
      by_cases c10 : 0 ≤ x9_1
      ·rw [if_pos c10] at H
       have c10b0 : decide (0 ≤ x9_1) = true := decide_eq_true c10
       clear c10
       by_cases c11 : (Int.tmod (rd l0 x9_1) 16) = 0
       ·rw [if_pos c11] at H
        have c11b0 : ((Int.tmod (rd l0 x9_1) 16) == 0) = true := beq_iff_eq.mpr c11
        have c11b1 : ((Int.tmod (rd l0 x9_1) 16) != 0) = false := bne_eq_false_iff_eq.mpr c11
        clear c11
        by_cases c12 : (rd l0 x9_1) = 0
        ·rw [if_pos c12] at H
         have c12b0 : ((rd l0 x9_1) == 0) = true := beq_iff_eq.mpr c12
         have c12b1 : ((rd l0 x9_1) != 0) = false := bne_eq_false_iff_eq.mpr c12
         clear c12
         replace H := Option.bind_eq_some_iff.mp H
         obtain ⟨⟨t243, t244⟩, A130, H⟩ := H
         replace H : (if t244 = true then (some (a2, t243, 0, false, 0, (x8_1.length : Int))) else (some (0, (⟨#[]⟩ : ByteArray), 0, false, 0, 0))) = some (r1, r2, r3, r4, r5, r6) := H
         have A13 := Aside0.mk A130
         clear A130
         by_cases c14 : t244 = true
         ·subst c14
          have H1 : (some (a2, t243, 0, false, 0, (x8_1.length : Int))) = some (r1, r2, r3, r4, r5, r6) := Z2
          clear H
          have H := H1
          clear H1
          simp only [Option.some.injEq, Prod.mk.injEq] at H
          obtain ⟨rfl, rfl, rfl, rfl, rfl, rfl⟩ := H
          have p241 : 0 ≤ (x9_1 : Int) := of_decide_eq_true Z10
          have q241 : x9_1 < (l0.length : Int) := of_decide_eq_true Z10
          obtain ⟨ad241, e241, hx241_0⟩ := Kd.at_int HR0.out x9_1 p241 q241
          obtain rfl : ad237 = ad241 := (by injection e241)
          replace hx241_0 := (HB.out.cell (World.block_lt_of_cell? w _ hx241_0)).trans hx241_0
          replace p241 := eq_true p241
          replace q241 := eq_true q241
          have p242 : 0 ≤ (x9_1 : Int) := of_decide_eq_true Z10
          have q242 : x9_1 < (l0.length : Int) := of_decide_eq_true Z10
          obtain ⟨ad242, e242, hx242_0⟩ := Kd.at_int HR0.out x9_1 p242 q242
          obtain rfl : ad237 = ad242 := (by injection e242)
          replace hx242_0 := (HB.out.cell (World.block_lt_of_cell? w _ hx242_0)).trans hx242_0
          replace p242 := eq_true p242
          replace q242 := eq_true q242
          obtain ⟨Ao15, co15, eo15⟩ := Kd.R_slice HO_8.out
          subst eo15
          go_wp2_with (first | ((with_reducible refine gate_callee (f := 93) rfl ?_); refine goesL_ (some 51) rfl rfl Tryd.func93 Z0 rfl #[.slice Ao15 x8_1.length co15] rfl Z9 ?_; (with_reducible refine (spec_Unpack.calls k1 _ _ x8_1 t243 true _ ?side1 ?side2 A13.out).mono ?_); (case side1 => exact (Z23 HO_8)); (case side2 => exact (Kd.R_reads' HO_8.out).2.1); rintro e w16 ⟨rfl, hb⟩; refine ⟨_, rfl, ?_⟩; replace HO_8 := Z (Kd.R_below (Z6 HO_8) hb); replace BK236 := Z (blk_below (g := gb236) (o := .cells #[.int .i64 0, .string (⟨#[]⟩ : ByteArray), .int .i32 0, .bool false, .int .u32 0] 27 (0, 0)) (Z15 BK236) hb); replace HB := Z (below_step Z67 hb); (try clear hb); (try clear hb2); (try clear hk); (try clear hi); have hcz17_0 : w16.cell? ⟨gb236, 0, none⟩ = some (.int .i64 0) := (blk_cell BK236.out 0).trans rfl; have hcz17_1 : w16.cell? ⟨gb236, 1, none⟩ = some (.string (⟨#[]⟩ : ByteArray)) := (blk_cell BK236.out 1).trans rfl; have hcz17_2 : w16.cell? ⟨gb236, 2, none⟩ = some (.int .i32 0) := (blk_cell BK236.out 2).trans rfl; have hcz17_3 : w16.cell? ⟨gb236, 3, none⟩ = some (.bool false) := (blk_cell BK236.out 3).trans rfl; have hcz17_4 : w16.cell? ⟨gb236, 4, none⟩ = some (.int .u32 0) := (blk_cell BK236.out 4).trans rfl; have hfz17_0 := blk_frozen BK236.out 0; have hfz17_1 := blk_frozen BK236.out 1; have hfz17_2 := blk_frozen BK236.out 2; have hfz17_3 := blk_frozen BK236.out 3; have hfz17_4 := blk_frozen BK236.out 4))
          refine bodyPost_ret (results_ct rfl _ _ gb236 27 #[.int .i64 a2, .string t243, .int .i32 0, .bool false, .int .u32 0] (0, 0) _ rfl (by (with_reducible repeat (first | refine blk_drewN ?_ _ | refine blk_drew ?_ | refine blk_alloc ?_ _)); refine blk_put (cs := #[.int .i64 a2, .string t243, .int .i32 0, .bool false, .int .u32 0]) ?_ 4 _ rfl; (with_reducible repeat (first | refine blk_drewN ?_ _ | refine blk_drew ?_ | refine blk_alloc ?_ _)); refine blk_put (cs := #[.int .i64 a2, .string t243, .int .i32 0, .bool false, .int .u32 0]) ?_ 3 _ rfl; (with_reducible repeat (first | refine blk_drewN ?_ _ | refine blk_drew ?_ | refine blk_alloc ?_ _)); refine blk_put (cs := #[.int .i64 a2, .string t243, .int .i32 0, .bool false, .int .u32 0]) ?_ 2 _ rfl; (with_reducible repeat (first | refine blk_drewN ?_ _ | refine blk_drew ?_ | refine blk_alloc ?_ _)); refine blk_put (cs := #[.int .i64 a2, .string (⟨#[]⟩ : ByteArray), .int .i32 0, .bool false, .int .u32 0]) ?_ 1 _ rfl; (with_reducible repeat (first | refine blk_drewN ?_ _ | refine blk_drew ?_ | refine blk_alloc ?_ _)); refine blk_put (cs := #[.int .i64 0, .string (⟨#[]⟩ : ByteArray), .int .i32 0, .bool false, .int .u32 0]) ?_ 0 _ rfl; (with_reducible repeat (first | refine blk_drewN ?_ _ | refine blk_drew ?_ | refine blk_alloc ?_ _)); exact BK236.out) Tryd.underlying27 rfl Z0) rfl ?_
          exact ⟨Z68, Z67⟩
         ·replace c14 := Bool.eq_false_iff.mpr c14
          subst c14
          have H1 : (some (0, (⟨#[]⟩ : ByteArray), 0, false, 0, 0)) = some (r1, r2, r3, r4, r5, r6) := by rw [if_neg (show ¬ (false = true) by decide)] at H; exact H
          clear H
          have H := H1
          clear H1
          simp only [Option.some.injEq, Prod.mk.injEq] at H
          obtain ⟨rfl, rfl, rfl, rfl, rfl, rfl⟩ := H
          have p241 : 0 ≤ (x9_1 : Int) := of_decide_eq_true Z10
          have q241 : x9_1 < (l0.length : Int) := of_decide_eq_true Z10
          obtain ⟨ad241, e241, hx241_0⟩ := Kd.at_int HR0.out x9_1 p241 q241
          obtain rfl : ad237 = ad241 := (by injection e241)
          replace hx241_0 := (HB.out.cell (World.block_lt_of_cell? w _ hx241_0)).trans hx241_0
          replace p241 := eq_true p241
          replace q241 := eq_true q241
          have p242 : 0 ≤ (x9_1 : Int) := of_decide_eq_true Z10
          have q242 : x9_1 < (l0.length : Int) := of_decide_eq_true Z10
          obtain ⟨ad242, e242, hx242_0⟩ := Kd.at_int HR0.out x9_1 p242 q242
          obtain rfl : ad237 = ad242 := (by injection e242)
          replace hx242_0 := (HB.out.cell (World.block_lt_of_cell? w _ hx242_0)).trans hx242_0
          replace p242 := eq_true p242
          replace q242 := eq_true q242
          obtain ⟨Ao18, co18, eo18⟩ := Kd.R_slice HO_8.out
          subst eo18
          go_wp2_with (first | ((with_reducible refine gate_callee (f := 93) rfl ?_); refine goesL_ (some 51) rfl rfl Tryd.func93 Z0 rfl #[.slice Ao18 x8_1.length co18] rfl Z9 ?_; (with_reducible refine (spec_Unpack.calls k1 _ _ x8_1 t243 false _ ?side1 ?side2 A13.out).mono ?_); (case side1 => exact (Z23 HO_8)); (case side2 => exact (Kd.R_reads' HO_8.out).2.1); rintro e w19 ⟨rfl, hb⟩; refine ⟨_, rfl, ?_⟩; replace HO_8 := Z (Kd.R_below (Z6 HO_8) hb); replace BK236 := Z (blk_below (g := gb236) (o := .cells #[.int .i64 0, .string (⟨#[]⟩ : ByteArray), .int .i32 0, .bool false, .int .u32 0] 27 (0, 0)) (Z15 BK236) hb); replace HB := Z (below_step Z67 hb); (try clear hb); (try clear hb2); (try clear hk); (try clear hi); have hcz20_0 : w19.cell? ⟨gb236, 0, none⟩ = some (.int .i64 0) := (blk_cell BK236.out 0).trans rfl; have hcz20_1 : w19.cell? ⟨gb236, 1, none⟩ = some (.string (⟨#[]⟩ : ByteArray)) := (blk_cell BK236.out 1).trans rfl; have hcz20_2 : w19.cell? ⟨gb236, 2, none⟩ = some (.int .i32 0) := (blk_cell BK236.out 2).trans rfl; have hcz20_3 : w19.cell? ⟨gb236, 3, none⟩ = some (.bool false) := (blk_cell BK236.out 3).trans rfl; have hcz20_4 : w19.cell? ⟨gb236, 4, none⟩ = some (.int .u32 0) := (blk_cell BK236.out 4).trans rfl; have hfz20_0 := blk_frozen BK236.out 0; have hfz20_1 := blk_frozen BK236.out 1; have hfz20_2 := blk_frozen BK236.out 2; have hfz20_3 := blk_frozen BK236.out 3; have hfz20_4 := blk_frozen BK236.out 4))
          refine bodyPost_ret (results_ct rfl _ _ gb236 27 #[.int .i64 0, .string (⟨#[]⟩ : ByteArray), .int .i32 0, .bool false, .int .u32 0] (0, 0) _ rfl (Z25 BK236) Tryd.underlying27 rfl Z0) rfl ?_
          exact ⟨Z68, Z67⟩
        ·rw [if_neg c12] at H
         have c12b0 : ((rd l0 x9_1) == 0) = false := beq_eq_false_iff_ne.mpr c12
         have c12b1 : ((rd l0 x9_1) != 0) = true := bne_iff_ne.mpr c12
         by_cases c21 : x8_1.length < 35184372088832
         ·rw [if_pos c21] at H
          have LMc21 := Aside0.mk c21
          clear c21
          obtain ⟨y246, hy246⟩ : ∃ y_ : List Int, y_ = (x8_1 ++ [(Int.tdiv (rd l0 x9_1) 16) % 4294967296]) := ⟨_, rfl⟩
          replace H : (spec_l04Name.l0 k1 l0 a2 y246 (wrap64 (x9_1 + 1))) = some (r1, r2, r3, r4, r5, r6) := by first | (rw [hy246]; with_reducible exact H) | (have H2_ := (Option.bind_some _ _).symm.trans H; rw [hy246]; with_reducible exact H2_) | (have H2_ := (Option.bind_some _ _).symm.trans H; with_reducible exact H2_) | with_reducible exact H | (rw [hy246]; exact H) | exact H
          have Ny246 := Aside0.mk hy246
          clear hy246
          have H' := Aside0.mk H
          clear H
          have p241 : 0 ≤ (x9_1 : Int) := of_decide_eq_true Z10
          have q241 : x9_1 < (l0.length : Int) := of_decide_eq_true Z10
          obtain ⟨ad241, e241, hx241_0⟩ := Kd.at_int HR0.out x9_1 p241 q241
          obtain rfl : ad237 = ad241 := (by injection e241)
          replace hx241_0 := (HB.out.cell (World.block_lt_of_cell? w _ hx241_0)).trans hx241_0
          replace p241 := eq_true p241
          replace q241 := eq_true q241
          have p242 : 0 ≤ (x9_1 : Int) := of_decide_eq_true Z10
          have q242 : x9_1 < (l0.length : Int) := of_decide_eq_true Z10
          obtain ⟨ad242, e242, hx242_0⟩ := Kd.at_int HR0.out x9_1 p242 q242
          obtain rfl : ad237 = ad242 := (by injection e242)
          replace hx242_0 := (HB.out.cell (World.block_lt_of_cell? w _ hx242_0)).trans hx242_0
          replace p242 := eq_true p242
          replace q242 := eq_true q242
          have p245 : 0 ≤ (x9_1 : Int) := of_decide_eq_true Z10
          have q245 : x9_1 < (l0.length : Int) := of_decide_eq_true Z10
          obtain ⟨ad245, e245, hx245_0⟩ := Kd.at_int HR0.out x9_1 p245 q245
          obtain rfl : ad237 = ad245 := (by injection e245)
          replace hx245_0 := (HB.out.cell (World.block_lt_of_cell? w _ hx245_0)).trans hx245_0
          replace p245 := eq_true p245
          replace q245 := eq_true q245
          go_wp2_with (first | ((with_reducible refine gate_builtin (b := .append) (xs := #[.tmp 41, .tmp 47]) rfl ?_); at_builtin; refine Kd.R_append (Kd.int .u32) (w0 := w) w.heap.size rfl (.tmp 41) (.tmp 47) 30 22 (.int .u32 0) 4 rfl Tryd.underlying30 info22 rfl (by decide) (by omega) u8 x8_1 ((Int.tdiv (rd l0 x9_1) 16) % 4294967296) [.int .u32 ((Int.tdiv (rd l0 x9_1) 16) % 4294967296)] (fun _ => True) (fun _ => False) rfl rfl ?aP (fun _ hk => hk.elim) ?aF ?aO ?aB ?aS ?aL ?_; (case aP => exact rfl); (case aB => exact Z67); (case aF => exact (fun _ _ => trivial)); (case aO => exact (Z6 HO_8)); (case aS => exact (below_size Z67)); (case aL => have := LMc21.out; omega); intro v247 w22 ho hb hg hat; rw [← Ny246.out] at ho; replace BK236 := Z (blk_grown (g := gb236) (o := .cells #[.int .i64 0, .string (⟨#[]⟩ : ByteArray), .int .i32 0, .bool false, .int .u32 0] 27 (0, 0)) (Z15 BK236) hg (Kd.R_ne HO_8.out BK236.out (by decide))); replace HB := Z (hb); have HO248 := Z (ho); clear HO_8; clear ho hb hg hat))
          go_roundg k1
          case measure => have := HK1.out; omega
          case rel => exact ⟨(y246), (wrap64 (x9_1 + 1)), Z7, H', ⟨Z11⟩, ⟨(Z6 HO248)⟩, ⟨(Z15 BK236)⟩, ⟨Z67⟩⟩
         ·rw [if_neg c21] at H
          exact absurd H (by simp)
       ·rw [if_neg c11] at H
        have c11b0 : ((Int.tmod (rd l0 x9_1) 16) == 0) = false := beq_eq_false_iff_ne.mpr c11
        have c11b1 : ((Int.tmod (rd l0 x9_1) 16) != 0) = true := bne_iff_ne.mpr c11
        replace H := Option.bind_eq_some_iff.mp H
        obtain ⟨⟨t249, t250⟩, A230, H⟩ := H
        replace H : (if t250 = true then (some (a2, t249, 0, false, 0, (x8_1.length : Int))) else (some (0, (⟨#[]⟩ : ByteArray), 0, false, 0, 0))) = some (r1, r2, r3, r4, r5, r6) := H
        have A23 := Aside0.mk A230
        clear A230
        by_cases c24 : t250 = true
        ·subst c24
         have H1 : (some (a2, t249, 0, false, 0, (x8_1.length : Int))) = some (r1, r2, r3, r4, r5, r6) := Z2
         clear H
         have H := H1
         clear H1
         simp only [Option.some.injEq, Prod.mk.injEq] at H
         obtain ⟨rfl, rfl, rfl, rfl, rfl, rfl⟩ := H
         have p241 : 0 ≤ (x9_1 : Int) := of_decide_eq_true Z10
         have q241 : x9_1 < (l0.length : Int) := of_decide_eq_true Z10
         obtain ⟨ad241, e241, hx241_0⟩ := Kd.at_int HR0.out x9_1 p241 q241
         obtain rfl : ad237 = ad241 := (by injection e241)
         replace hx241_0 := (HB.out.cell (World.block_lt_of_cell? w _ hx241_0)).trans hx241_0
         replace p241 := eq_true p241
         replace q241 := eq_true q241
         obtain ⟨Ao25, co25, eo25⟩ := Kd.R_slice HO_8.out
         subst eo25
         go_wp2_with (first | ((with_reducible refine gate_callee (f := 93) rfl ?_); refine goesL_ (some 51) rfl rfl Tryd.func93 Z0 rfl #[.slice Ao25 x8_1.length co25] rfl Z9 ?_; (with_reducible refine (spec_Unpack.calls k1 _ _ x8_1 t249 true _ ?side1 ?side2 A23.out).mono ?_); (case side1 => exact (Z23 HO_8)); (case side2 => exact (Kd.R_reads' HO_8.out).2.1); rintro e w26 ⟨rfl, hb⟩; refine ⟨_, rfl, ?_⟩; replace HO_8 := Z (Kd.R_below (Z6 HO_8) hb); replace BK236 := Z (blk_below (g := gb236) (o := .cells #[.int .i64 0, .string (⟨#[]⟩ : ByteArray), .int .i32 0, .bool false, .int .u32 0] 27 (0, 0)) (Z15 BK236) hb); replace HB := Z (below_step Z67 hb); (try clear hb); (try clear hb2); (try clear hk); (try clear hi); have hcz27_0 : w26.cell? ⟨gb236, 0, none⟩ = some (.int .i64 0) := (blk_cell BK236.out 0).trans rfl; have hcz27_1 : w26.cell? ⟨gb236, 1, none⟩ = some (.string (⟨#[]⟩ : ByteArray)) := (blk_cell BK236.out 1).trans rfl; have hcz27_2 : w26.cell? ⟨gb236, 2, none⟩ = some (.int .i32 0) := (blk_cell BK236.out 2).trans rfl; have hcz27_3 : w26.cell? ⟨gb236, 3, none⟩ = some (.bool false) := (blk_cell BK236.out 3).trans rfl; have hcz27_4 : w26.cell? ⟨gb236, 4, none⟩ = some (.int .u32 0) := (blk_cell BK236.out 4).trans rfl; have hfz27_0 := blk_frozen BK236.out 0; have hfz27_1 := blk_frozen BK236.out 1; have hfz27_2 := blk_frozen BK236.out 2; have hfz27_3 := blk_frozen BK236.out 3; have hfz27_4 := blk_frozen BK236.out 4))
         refine bodyPost_ret (results_ct rfl _ _ gb236 27 #[.int .i64 a2, .string t249, .int .i32 0, .bool false, .int .u32 0] (0, 0) _ rfl (by (with_reducible repeat (first | refine blk_drewN ?_ _ | refine blk_drew ?_ | refine blk_alloc ?_ _)); refine blk_put (cs := #[.int .i64 a2, .string t249, .int .i32 0, .bool false, .int .u32 0]) ?_ 4 _ rfl; (with_reducible repeat (first | refine blk_drewN ?_ _ | refine blk_drew ?_ | refine blk_alloc ?_ _)); refine blk_put (cs := #[.int .i64 a2, .string t249, .int .i32 0, .bool false, .int .u32 0]) ?_ 3 _ rfl; (with_reducible repeat (first | refine blk_drewN ?_ _ | refine blk_drew ?_ | refine blk_alloc ?_ _)); refine blk_put (cs := #[.int .i64 a2, .string t249, .int .i32 0, .bool false, .int .u32 0]) ?_ 2 _ rfl; (with_reducible repeat (first | refine blk_drewN ?_ _ | refine blk_drew ?_ | refine blk_alloc ?_ _)); refine blk_put (cs := #[.int .i64 a2, .string (⟨#[]⟩ : ByteArray), .int .i32 0, .bool false, .int .u32 0]) ?_ 1 _ rfl; (with_reducible repeat (first | refine blk_drewN ?_ _ | refine blk_drew ?_ | refine blk_alloc ?_ _)); refine blk_put (cs := #[.int .i64 0, .string (⟨#[]⟩ : ByteArray), .int .i32 0, .bool false, .int .u32 0]) ?_ 0 _ rfl; (with_reducible repeat (first | refine blk_drewN ?_ _ | refine blk_drew ?_ | refine blk_alloc ?_ _)); exact BK236.out) Tryd.underlying27 rfl Z0) rfl ?_
         exact ⟨Z68, Z67⟩
        ·replace c24 := Bool.eq_false_iff.mpr c24
         subst c24
         have H1 : (some (0, (⟨#[]⟩ : ByteArray), 0, false, 0, 0)) = some (r1, r2, r3, r4, r5, r6) := by rw [if_neg (show ¬ (false = true) by decide)] at H; exact H
         clear H
         have H := H1
         clear H1
         simp only [Option.some.injEq, Prod.mk.injEq] at H
         obtain ⟨rfl, rfl, rfl, rfl, rfl, rfl⟩ := H
         have p241 : 0 ≤ (x9_1 : Int) := of_decide_eq_true Z10
         have q241 : x9_1 < (l0.length : Int) := of_decide_eq_true Z10
         obtain ⟨ad241, e241, hx241_0⟩ := Kd.at_int HR0.out x9_1 p241 q241
         obtain rfl : ad237 = ad241 := (by injection e241)
         replace hx241_0 := (HB.out.cell (World.block_lt_of_cell? w _ hx241_0)).trans hx241_0
         replace p241 := eq_true p241
         replace q241 := eq_true q241
         obtain ⟨Ao28, co28, eo28⟩ := Kd.R_slice HO_8.out
         subst eo28
         go_wp2_with (first | ((with_reducible refine gate_callee (f := 93) rfl ?_); refine goesL_ (some 51) rfl rfl Tryd.func93 Z0 rfl #[.slice Ao28 x8_1.length co28] rfl Z9 ?_; (with_reducible refine (spec_Unpack.calls k1 _ _ x8_1 t249 false _ ?side1 ?side2 A23.out).mono ?_); (case side1 => exact (Z23 HO_8)); (case side2 => exact (Kd.R_reads' HO_8.out).2.1); rintro e w29 ⟨rfl, hb⟩; refine ⟨_, rfl, ?_⟩; replace HO_8 := Z (Kd.R_below (Z6 HO_8) hb); replace BK236 := Z (blk_below (g := gb236) (o := .cells #[.int .i64 0, .string (⟨#[]⟩ : ByteArray), .int .i32 0, .bool false, .int .u32 0] 27 (0, 0)) (Z15 BK236) hb); replace HB := Z (below_step Z67 hb); (try clear hb); (try clear hb2); (try clear hk); (try clear hi); have hcz30_0 : w29.cell? ⟨gb236, 0, none⟩ = some (.int .i64 0) := (blk_cell BK236.out 0).trans rfl; have hcz30_1 : w29.cell? ⟨gb236, 1, none⟩ = some (.string (⟨#[]⟩ : ByteArray)) := (blk_cell BK236.out 1).trans rfl; have hcz30_2 : w29.cell? ⟨gb236, 2, none⟩ = some (.int .i32 0) := (blk_cell BK236.out 2).trans rfl; have hcz30_3 : w29.cell? ⟨gb236, 3, none⟩ = some (.bool false) := (blk_cell BK236.out 3).trans rfl; have hcz30_4 : w29.cell? ⟨gb236, 4, none⟩ = some (.int .u32 0) := (blk_cell BK236.out 4).trans rfl; have hfz30_0 := blk_frozen BK236.out 0; have hfz30_1 := blk_frozen BK236.out 1; have hfz30_2 := blk_frozen BK236.out 2; have hfz30_3 := blk_frozen BK236.out 3; have hfz30_4 := blk_frozen BK236.out 4))
         refine bodyPost_ret (results_ct rfl _ _ gb236 27 #[.int .i64 0, .string (⟨#[]⟩ : ByteArray), .int .i32 0, .bool false, .int .u32 0] (0, 0) _ rfl (Z25 BK236) Tryd.underlying27 rfl Z0) rfl ?_
         exact ⟨Z68, Z67⟩
      ·rw [if_neg c10] at H
       exact absurd H (by simp)
     ·rw [if_neg c9] at H
      have c9b0 : decide (x9_1 < (l0.length : Int)) = false := decide_eq_false c9
      clear c9
      replace H := Option.bind_eq_some_iff.mp H
      obtain ⟨⟨t251, t252⟩, A310, H⟩ := H
      replace H : (if t252 = true then (some (a2, t251, 0, false, 0, (x8_1.length : Int))) else (some (0, (⟨#[]⟩ : ByteArray), 0, false, 0, 0))) = some (r1, r2, r3, r4, r5, r6) := H
      have A31 := Aside0.mk A310
      clear A310
      by_cases c32 : t252 = true
      ·subst c32
       have H1 : (some (a2, t251, 0, false, 0, (x8_1.length : Int))) = some (r1, r2, r3, r4, r5, r6) := Z2
       clear H
       have H := H1
       clear H1
       simp only [Option.some.injEq, Prod.mk.injEq] at H
       obtain ⟨rfl, rfl, rfl, rfl, rfl, rfl⟩ := H
       obtain ⟨Ao33, co33, eo33⟩ := Kd.R_slice HO_8.out
       subst eo33
       go_wp2_with (first | ((with_reducible refine gate_callee (f := 93) rfl ?_); refine goesL_ (some 51) rfl rfl Tryd.func93 Z0 rfl #[.slice Ao33 x8_1.length co33] rfl Z9 ?_; (with_reducible refine (spec_Unpack.calls k1 _ _ x8_1 t251 true _ ?side1 ?side2 A31.out).mono ?_); (case side1 => exact (Z23 HO_8)); (case side2 => exact (Kd.R_reads' HO_8.out).2.1); rintro e w34 ⟨rfl, hb⟩; refine ⟨_, rfl, ?_⟩; replace HO_8 := Z (Kd.R_below (Z6 HO_8) hb); replace BK236 := Z (blk_below (g := gb236) (o := .cells #[.int .i64 0, .string (⟨#[]⟩ : ByteArray), .int .i32 0, .bool false, .int .u32 0] 27 (0, 0)) (Z15 BK236) hb); replace HB := Z (below_step Z67 hb); (try clear hb); (try clear hb2); (try clear hk); (try clear hi); have hcz35_0 : w34.cell? ⟨gb236, 0, none⟩ = some (.int .i64 0) := (blk_cell BK236.out 0).trans rfl; have hcz35_1 : w34.cell? ⟨gb236, 1, none⟩ = some (.string (⟨#[]⟩ : ByteArray)) := (blk_cell BK236.out 1).trans rfl; have hcz35_2 : w34.cell? ⟨gb236, 2, none⟩ = some (.int .i32 0) := (blk_cell BK236.out 2).trans rfl; have hcz35_3 : w34.cell? ⟨gb236, 3, none⟩ = some (.bool false) := (blk_cell BK236.out 3).trans rfl; have hcz35_4 : w34.cell? ⟨gb236, 4, none⟩ = some (.int .u32 0) := (blk_cell BK236.out 4).trans rfl; have hfz35_0 := blk_frozen BK236.out 0; have hfz35_1 := blk_frozen BK236.out 1; have hfz35_2 := blk_frozen BK236.out 2; have hfz35_3 := blk_frozen BK236.out 3; have hfz35_4 := blk_frozen BK236.out 4))
       refine bodyPost_ret (results_ct rfl _ _ gb236 27 #[.int .i64 a2, .string t251, .int .i32 0, .bool false, .int .u32 0] (0, 0) _ rfl (by (with_reducible repeat (first | refine blk_drewN ?_ _ | refine blk_drew ?_ | refine blk_alloc ?_ _)); refine blk_put (cs := #[.int .i64 a2, .string t251, .int .i32 0, .bool false, .int .u32 0]) ?_ 4 _ rfl; (with_reducible repeat (first | refine blk_drewN ?_ _ | refine blk_drew ?_ | refine blk_alloc ?_ _)); refine blk_put (cs := #[.int .i64 a2, .string t251, .int .i32 0, .bool false, .int .u32 0]) ?_ 3 _ rfl; (with_reducible repeat (first | refine blk_drewN ?_ _ | refine blk_drew ?_ | refine blk_alloc ?_ _)); refine blk_put (cs := #[.int .i64 a2, .string t251, .int .i32 0, .bool false, .int .u32 0]) ?_ 2 _ rfl; (with_reducible repeat (first | refine blk_drewN ?_ _ | refine blk_drew ?_ | refine blk_alloc ?_ _)); refine blk_put (cs := #[.int .i64 a2, .string (⟨#[]⟩ : ByteArray), .int .i32 0, .bool false, .int .u32 0]) ?_ 1 _ rfl; (with_reducible repeat (first | refine blk_drewN ?_ _ | refine blk_drew ?_ | refine blk_alloc ?_ _)); refine blk_put (cs := #[.int .i64 0, .string (⟨#[]⟩ : ByteArray), .int .i32 0, .bool false, .int .u32 0]) ?_ 0 _ rfl; (with_reducible repeat (first | refine blk_drewN ?_ _ | refine blk_drew ?_ | refine blk_alloc ?_ _)); exact BK236.out) Tryd.underlying27 rfl Z0) rfl ?_
       exact ⟨Z68, Z67⟩
      ·replace c32 := Bool.eq_false_iff.mpr c32
       subst c32
       have H1 : (some (0, (⟨#[]⟩ : ByteArray), 0, false, 0, 0)) = some (r1, r2, r3, r4, r5, r6) := by rw [if_neg (show ¬ (false = true) by decide)] at H; exact H
       clear H
       have H := H1
       clear H1
       simp only [Option.some.injEq, Prod.mk.injEq] at H
       obtain ⟨rfl, rfl, rfl, rfl, rfl, rfl⟩ := H
       obtain ⟨Ao36, co36, eo36⟩ := Kd.R_slice HO_8.out
       subst eo36
       go_wp2_with (first | ((with_reducible refine gate_callee (f := 93) rfl ?_); refine goesL_ (some 51) rfl rfl Tryd.func93 Z0 rfl #[.slice Ao36 x8_1.length co36] rfl Z9 ?_; (with_reducible refine (spec_Unpack.calls k1 _ _ x8_1 t251 false _ ?side1 ?side2 A31.out).mono ?_); (case side1 => exact (Z23 HO_8)); (case side2 => exact (Kd.R_reads' HO_8.out).2.1); rintro e w37 ⟨rfl, hb⟩; refine ⟨_, rfl, ?_⟩; replace HO_8 := Z (Kd.R_below (Z6 HO_8) hb); replace BK236 := Z (blk_below (g := gb236) (o := .cells #[.int .i64 0, .string (⟨#[]⟩ : ByteArray), .int .i32 0, .bool false, .int .u32 0] 27 (0, 0)) (Z15 BK236) hb); replace HB := Z (below_step Z67 hb); (try clear hb); (try clear hb2); (try clear hk); (try clear hi); have hcz38_0 : w37.cell? ⟨gb236, 0, none⟩ = some (.int .i64 0) := (blk_cell BK236.out 0).trans rfl; have hcz38_1 : w37.cell? ⟨gb236, 1, none⟩ = some (.string (⟨#[]⟩ : ByteArray)) := (blk_cell BK236.out 1).trans rfl; have hcz38_2 : w37.cell? ⟨gb236, 2, none⟩ = some (.int .i32 0) := (blk_cell BK236.out 2).trans rfl; have hcz38_3 : w37.cell? ⟨gb236, 3, none⟩ = some (.bool false) := (blk_cell BK236.out 3).trans rfl; have hcz38_4 : w37.cell? ⟨gb236, 4, none⟩ = some (.int .u32 0) := (blk_cell BK236.out 4).trans rfl; have hfz38_0 := blk_frozen BK236.out 0; have hfz38_1 := blk_frozen BK236.out 1; have hfz38_2 := blk_frozen BK236.out 2; have hfz38_3 := blk_frozen BK236.out 3; have hfz38_4 := blk_frozen BK236.out 4))
       refine bodyPost_ret (results_ct rfl _ _ gb236 27 #[.int .i64 0, .string (⟨#[]⟩ : ByteArray), .int .i32 0, .bool false, .int .u32 0] (0, 0) _ rfl (Z25 BK236) Tryd.underlying27 rfl Z0) rfl ?_
       exact ⟨Z68, Z67⟩
  ·rw [if_neg c5] at H
   exact absurd H (by simp)
 ·rw [if_neg c4] at H
  exact absurd H (by simp)

end Go.Proofs.YtfjmpdcflnaogaaDoor.QFnExactExport
