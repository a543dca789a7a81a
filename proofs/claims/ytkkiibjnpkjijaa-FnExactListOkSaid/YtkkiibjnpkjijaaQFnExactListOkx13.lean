/-
Plain functions for the Go functions that a law reaches, each with a proof that the translation's call comes to just that; no conditions beyond those written in each.
-/
import Derived.Test.YtkkiibjnpkjijaaSFnExactListOk
import Derived.Test.YtkkiibjnpkjijaaQFnExactListOkx7
import Derived.Test.YtkkiibjnpkjijaaQFnExactListOkx8
import Derived.Test.YtkkiibjnpkjijaaQFnExactListOkx10
import Derived.Test.YtkkiibjnpkjijaaQFnExactListOkx12
namespace Go.Proofs.Ytkkiibjnpkjijaa.QFnExactListOk
open Go.RowKit Go.Proofs.YtkkiibjnpkjijaaW.PrintWords Go.Proofs.YtkkiibjnpkjijaaW.PrintLast Go.Proofs.YtkkiibjnpkjijaaW.PrintMore
attribute [local go_sem] max2_int min2_int max_two min_two max_three min_three max_four min_four   -- for this text's walks alone
set_option linter.unusedVariables false
set_option linter.unusedSimpArgs false

/-! ### spec_l04Item: function 60 -/
mutual
def spec_l04Item.j0 : Nat → List Int → Int → Int → Int → Bool → Int → ByteArray → Int → Bool → Int → Option (Int × ByteArray × Int × Bool × Int × Int)
 | 0, _, _, _, _, _, _, _, _, _, _ => none
 | k + 1, x0, x1, x7, x8, x27, x451000, x451001, x451002, x451003, x451004 => if x27 = true then ((spec_l04Number.f k x0 x1).bind fun bt461 => (if bt461.2.2.2.2.2 = 0 then (if 0 ≤ x1 then (if x1 < (x0.length : Int) then (some (0, (⟨#[]⟩ : ByteArray), 0, false, rd x0 x1, 1)) else (none)) else (none)) else (some (bt461.1, bt461.2.1, bt461.2.2.1, bt461.2.2.2.1, bt461.2.2.2.2.1, bt461.2.2.2.2.2)))) else (if x8 = 12 then (if (wrap64 (x1 + 1)) < (x0.length : Int) then (if 0 ≤ x1 then (if x1 < (x0.length : Int) then ((spec_FieldOk.f k ((Int.tdiv (rd x0 x1) 16) % 4294967296)).bind fun t469 => (spec_l04Item.j1 k x0 x1 x7 t469 x451000 x451001 x451002 x451003 x451004)) else (none)) else (none)) else (spec_l04Item.j1 k x0 x1 x7 false x451000 x451001 x451002 x451003 x451004)) else (spec_l04Item.j1 k x0 x1 x7 false x451000 x451001 x451002 x451003 x451004))
def spec_l04Item.j1 : Nat → List Int → Int → Int → Bool → Int → ByteArray → Int → Bool → Int → Option (Int × ByteArray × Int × Bool × Int × Int)
 | 0, _, _, _, _, _, _, _, _, _ => none
 | k + 1, x0, x1, x7, x48, x451000, x451001, x451002, x451003, x451004 => if x48 = true then (if 0 ≤ x1 then (if x1 < (x0.length : Int) then ((spec_UnpackOne.f k ((Int.tdiv (rd x0 x1) 16) % 4294967296)).bind fun t471 => (if 0 ≤ (wrap64 (x1 + 1)) then (if (wrap64 (x1 + 1)) < (x0.length : Int) then (if 2 = 0 then (some (0, (⟨#[]⟩ : ByteArray), 0, false, rd x0 x1, 1)) else (some (9, t471, wrap32 (rd x0 (wrap64 (x1 + 1))), false, 0, 2))) else (none)) else (none))) else (none)) else (none)) else (if x7 = 0 then (if 0 ≤ x1 then (if x1 < (x0.length : Int) then (some (0, (⟨#[]⟩ : ByteArray), 0, false, rd x0 x1, 1)) else (none)) else (none)) else (some (x451000, x451001, x451002, x451003, x451004, x7)))
end
def spec_l04Item.f (k : Nat) (l0 : List Int) (a1 : Int) : Option (Int × ByteArray × Int × Bool × Int × Int) := if 0 ≤ a1 then (if a1 < (l0.length : Int) then ((spec_l04Kind.f k (Int.tmod (rd l0 a1) 16)).bind fun t452 => (if t452 ≥ 0 then ((spec_l04Kind.f k (Int.tmod (rd l0 a1) 16)).bind fun t453 => ((spec_l04Name.f k l0 a1 t453).bind fun bt454 => (if bt454.2.2.2.2.2 = 0 then (some (0, (⟨#[]⟩ : ByteArray), 0, false, rd l0 a1, 1)) else (some (bt454.1, bt454.2.1, bt454.2.2.1, bt454.2.2.2.1, bt454.2.2.2.2.1, bt454.2.2.2.2.2))))) else (if (Int.tmod (rd l0 a1) 16) = 8 then (spec_l04Item.j0 k l0 a1 0 (Int.tmod (rd l0 a1) 16) true 0 (⟨#[]⟩ : ByteArray) 0 false 0) else (if (Int.tmod (rd l0 a1) 16) = 6 then (spec_l04Item.j0 k l0 a1 0 (Int.tmod (rd l0 a1) 16) true 0 (⟨#[]⟩ : ByteArray) 0 false 0) else (if (Int.tmod (rd l0 a1) 16) = 2 then (spec_l04Item.j0 k l0 a1 0 (Int.tmod (rd l0 a1) 16) true 0 (⟨#[]⟩ : ByteArray) 0 false 0) else (spec_l04Item.j0 k l0 a1 0 (Int.tmod (rd l0 a1) 16) ((Int.tmod (rd l0 a1) 16) == 5) 0 (⟨#[]⟩ : ByteArray) 0 false 0)))))) else (none)) else (none)
theorem spec_l04Item.mono_l : ∀ k, (∀ y0 y1 y2 y3 y4 y5 y6 y7 y8 y9, LeO (spec_l04Item.j0 k y0 y1 y2 y3 y4 y5 y6 y7 y8 y9) (spec_l04Item.j0 (k + 1) y0 y1 y2 y3 y4 y5 y6 y7 y8 y9)) ∧ (∀ y0 y1 y2 y3 y4 y5 y6 y7 y8, LeO (spec_l04Item.j1 k y0 y1 y2 y3 y4 y5 y6 y7 y8) (spec_l04Item.j1 (k + 1) y0 y1 y2 y3 y4 y5 y6 y7 y8))
 | 0 => ⟨fun _ _ _ _ _ _ _ _ _ _ r h => by simp [spec_l04Item.j0] at h, fun _ _ _ _ _ _ _ _ _ r h => by simp [spec_l04Item.j1] at h⟩
 | k + 1 => by
  obtain ⟨ih0, ih1⟩ := spec_l04Item.mono_l k
  refine ⟨?_, ?_⟩
  ·intro y0 y1 y2 y3 y4 y5 y6 y7 y8 y9
   unfold spec_l04Item.j0
   repeat' first
   | (with_reducible exact ih0 _ _ _ _ _ _ _ _ _ _)
   | (with_reducible exact ih1 _ _ _ _ _ _ _ _ _)
   | (with_reducible exact spec_FieldOk.mono _ _)
   | (with_reducible exact spec_UnpackOne.mono _ _)
   | (with_reducible exact spec_l04Kind.mono _ _)
   | (with_reducible exact spec_l04Name.mono _ _ _ _)
   | (with_reducible exact spec_l04Number.mono _ _ _)
   | (with_reducible exact LeO.refl _)
   | (with_reducible exact LeO.none _)
   | (with_reducible refine LeO.ite ?_ ?_)
   | (with_reducible refine LeO.bind ?_ (fun _ => ?_))
   | exact ih0 _ _ _ _ _ _ _ _ _ _
   | exact ih1 _ _ _ _ _ _ _ _ _
   | exact spec_FieldOk.mono _ _
   | exact spec_UnpackOne.mono _ _
   | exact spec_l04Kind.mono _ _
   | exact spec_l04Name.mono _ _ _ _
   | exact spec_l04Number.mono _ _ _
   | exact LeO.none _
   | refine LeO.ite ?_ ?_
   | refine LeO.bind ?_ (fun _ => ?_)
  ·intro y0 y1 y2 y3 y4 y5 y6 y7 y8
   unfold spec_l04Item.j1
   repeat' first
   | (with_reducible exact ih0 _ _ _ _ _ _ _ _ _ _)
   | (with_reducible exact ih1 _ _ _ _ _ _ _ _ _)
   | (with_reducible exact spec_FieldOk.mono _ _)
   | (with_reducible exact spec_UnpackOne.mono _ _)
   | (with_reducible exact spec_l04Kind.mono _ _)
   | (with_reducible exact spec_l04Name.mono _ _ _ _)
   | (with_reducible exact spec_l04Number.mono _ _ _)
   | (with_reducible exact LeO.refl _)
   | (with_reducible exact LeO.none _)
   | (with_reducible refine LeO.ite ?_ ?_)
   | (with_reducible refine LeO.bind ?_ (fun _ => ?_))
   | exact ih0 _ _ _ _ _ _ _ _ _ _
   | exact ih1 _ _ _ _ _ _ _ _ _
   | exact spec_FieldOk.mono _ _
   | exact spec_UnpackOne.mono _ _
   | exact spec_l04Kind.mono _ _
   | exact spec_l04Name.mono _ _ _ _
   | exact spec_l04Number.mono _ _ _
   | exact LeO.none _
   | refine LeO.ite ?_ ?_
   | refine LeO.bind ?_ (fun _ => ?_)
theorem spec_l04Item.mono : ∀ a0 a1 k, LeO (spec_l04Item.f k a0 a1) (spec_l04Item.f (k + 1) a0 a1) := by
 intro a0 a1 k
 obtain ⟨ih0, ih1⟩ := spec_l04Item.mono_l k
 unfold spec_l04Item.f
 repeat' first
   | (with_reducible exact ih0 _ _ _ _ _ _ _ _ _ _)
   | (with_reducible exact ih1 _ _ _ _ _ _ _ _ _)
   | (with_reducible exact spec_FieldOk.mono _ _)
   | (with_reducible exact spec_UnpackOne.mono _ _)
   | (with_reducible exact spec_l04Kind.mono _ _)
   | (with_reducible exact spec_l04Name.mono _ _ _ _)
   | (with_reducible exact spec_l04Number.mono _ _ _)
   | (with_reducible exact LeO.refl _)
   | (with_reducible exact LeO.none _)
   | (with_reducible refine LeO.ite ?_ ?_)
   | (with_reducible refine LeO.bind ?_ (fun _ => ?_))
   | exact ih0 _ _ _ _ _ _ _ _ _ _
   | exact ih1 _ _ _ _ _ _ _ _ _
   | exact spec_FieldOk.mono _ _
   | exact spec_UnpackOne.mono _ _
   | exact spec_l04Kind.mono _ _
   | exact spec_l04Name.mono _ _ _ _
   | exact spec_l04Number.mono _ _ _
   | exact LeO.none _
   | refine LeO.ite ?_ ?_
   | refine LeO.bind ?_ (fun _ => ?_)
def spec_l04Item.T8 : Bool × List (List Nat × List Nat) := (true, [([], []), ([], []), ([0, 1], [0, 1]), ([2], [2]), ([3], [3]), ([4], [4]), ([], []), ([], []), ([7], [7]), ([6, 8], [6, 8]), ([9], [9]), ([10], [10]), ([5, 11], [5, 11]), ([12, 5, 0, 1, 2, 3, 4, 5, 6, 7, 8, 9, 10, 11, 12], [12]), ([13, 0, 1, 2, 3, 4, 5, 6, 7, 8, 9, 10, 11, 12, 13], [])])
def spec_l04Item.B8 : List Nat := [0, 0, 3, 7, 15, 31, 0, 0, 128, 448, 960, 1984, 4095, 8191, 16383]
theorem spec_l04Item.tab8 : rtab .any (opsOf Try.f60 8) = spec_l04Item.T8 := Z0
theorem spec_l04Item.bits8 : waitsOk spec_l04Item.T8.2 spec_l04Item.B8 = true := Z0
set_option maxHeartbeats 8000000 in
set_option maxRecDepth 100000 in
theorem spec_l04Item.calls (k : Nat) (A0 : Option Addr) (c0 : Nat) (l0 : List Int) (a1 : Int) (r1 : Int) (r2 : ByteArray) (r3 : Int) (r4 : Bool) (r5 : Int) (r6 : Int) (w : World) (hr0 : Kd.C (Kd.int .u32) w A0 l0.length l0) (hc0 : l0.length ≤ c0) (h : spec_l04Item.f k l0 a1 = some (r1, r2, r3, r4, r5, r6)) :
  Calls Try.prog 60 #[.slice A0 l0.length c0, .int .i64 a1] w fun e w' => e = .returned (.tuple #[.agg #[.int .i64 r1, .string r2, .int .i32 r3, .bool r4, .int .u32 r5], .int .i64 r6]) ∧ Below w.heap.size w w' := by
 have hu51 := Try.underlying51
 have HR0 := Aside0.mk hr0
 have HC0 := Aside0.mk hc0
 clear hr0 hc0
 have HB := Z (Below.refl w.heap.size w)
 have H : (if 0 ≤ a1 then (if a1 < (l0.length : Int) then ((spec_l04Kind.f k (Int.tmod (rd l0 a1) 16)).bind fun t452 => (if t452 ≥ 0 then ((spec_l04Kind.f k (Int.tmod (rd l0 a1) 16)).bind fun t453 => ((spec_l04Name.f k l0 a1 t453).bind fun bt454 => (if bt454.2.2.2.2.2 = 0 then (some (0, (⟨#[]⟩ : ByteArray), 0, false, rd l0 a1, 1)) else (some (bt454.1, bt454.2.1, bt454.2.2.1, bt454.2.2.2.1, bt454.2.2.2.2.1, bt454.2.2.2.2.2))))) else (if (Int.tmod (rd l0 a1) 16) = 8 then (spec_l04Item.j0 k l0 a1 0 (Int.tmod (rd l0 a1) 16) true 0 (⟨#[]⟩ : ByteArray) 0 false 0) else (if (Int.tmod (rd l0 a1) 16) = 6 then (spec_l04Item.j0 k l0 a1 0 (Int.tmod (rd l0 a1) 16) true 0 (⟨#[]⟩ : ByteArray) 0 false 0) else (if (Int.tmod (rd l0 a1) 16) = 2 then (spec_l04Item.j0 k l0 a1 0 (Int.tmod (rd l0 a1) 16) true 0 (⟨#[]⟩ : ByteArray) 0 false 0) else (spec_l04Item.j0 k l0 a1 0 (Int.tmod (rd l0 a1) 16) ((Int.tmod (rd l0 a1) 16) == 5) 0 (⟨#[]⟩ : ByteArray) 0 false 0)))))) else (none)) else (none)) = some (r1, r2, r3, r4, r5, r6) := h
 clear h
 by_cases c3 : 0 ≤ a1
 ·rw [if_pos c3] at H
  have c3b0 : decide (0 ≤ a1) = true := decide_eq_true c3
  clear c3
  by_cases c4 : a1 < (l0.length : Int)
  ·rw [if_pos c4] at H
   have c4b0 : decide (a1 < (l0.length : Int)) = true := decide_eq_true c4
   clear c4
   replace H := Option.bind_eq_some_iff.mp H
   obtain ⟨t452, A50, H⟩ := H
   replace H : (if t452 ≥ 0 then ((spec_l04Kind.f k (Int.tmod (rd l0 a1) 16)).bind fun t453 => ((spec_l04Name.f k l0 a1 t453).bind fun bt454 => (if bt454.2.2.2.2.2 = 0 then (some (0, (⟨#[]⟩ : ByteArray), 0, false, rd l0 a1, 1)) else (some (bt454.1, bt454.2.1, bt454.2.2.1, bt454.2.2.2.1, bt454.2.2.2.2.1, bt454.2.2.2.2.2))))) else (if (Int.tmod (rd l0 a1) 16) = 8 then (spec_l04Item.j0 k l0 a1 0 (Int.tmod (rd l0 a1) 16) true 0 (⟨#[]⟩ : ByteArray) 0 false 0) else (if (Int.tmod (rd l0 a1) 16) = 6 then (spec_l04Item.j0 k l0 a1 0 (Int.tmod (rd l0 a1) 16) true 0 (⟨#[]⟩ : ByteArray) 0 false 0) else (if (Int.tmod (rd l0 a1) 16) = 2 then (spec_l04Item.j0 k l0 a1 0 (Int.tmod (rd l0 a1) 16) true 0 (⟨#[]⟩ : ByteArray) 0 false 0) else (spec_l04Item.j0 k l0 a1 0 (Int.tmod (rd l0 a1) 16) ((Int.tmod (rd l0 a1) 16) == 5) 0 (⟨#[]⟩ : ByteArray) 0 false 0))))) = some (r1, r2, r3, r4, r5, r6) := H
   have A5 := Aside0.mk A50
   clear A50
   by_cases c6 : t452 ≥ 0
   ·rw [if_pos c6] at H
    have c6b0 : decide (0 ≤ t452) = true := decide_eq_true c6
    clear c6
    replace H := Option.bind_eq_some_iff.mp H
    obtain ⟨t453, A70, H⟩ := H
    replace H : ((spec_l04Name.f k l0 a1 t453).bind fun bt454 => (if bt454.2.2.2.2.2 = 0 then (some (0, (⟨#[]⟩ : ByteArray), 0, false, rd l0 a1, 1)) else (some (bt454.1, bt454.2.1, bt454.2.2.1, bt454.2.2.2.1, bt454.2.2.2.2.1, bt454.2.2.2.2.2)))) = some (r1, r2, r3, r4, r5, r6) := H
    have A7 := Aside0.mk A70
    clear A70
    replace H := Option.bind_eq_some_iff.mp H
    obtain ⟨⟨t454, t455, t456, t457, t458, t459⟩, A80, H⟩ := H
    replace H : (if t459 = 0 then (some (0, (⟨#[]⟩ : ByteArray), 0, false, rd l0 a1, 1)) else (some (t454, t455, t456, t457, t458, t459))) = some (r1, r2, r3, r4, r5, r6) := H
    have A8 := Aside0.mk A80
    clear A80
    by_cases c9 : t459 = 0
    ·rw [if_pos c9] at H
     have c9b0 : (t459 == 0) = true := beq_iff_eq.mpr c9
     have c9b1 : (t459 != 0) = false := bne_eq_false_iff_eq.mpr c9
     clear c9
     simp only [Option.some.injEq, Prod.mk.injEq] at H
     obtain ⟨rfl, rfl, rfl, rfl, rfl, rfl⟩ := H
     go_enter Try.func60, Try.ntmps60
     go_wp2_with (first | ((with_reducible refine gate_dst (N := 4) rfl ?_); (try (refine gate_guard (by rfl) ?_; dsimp only)); refine box_event (by rfl) (N := 4) (by rfl) (cs := #[.int .i64 0, .string (⟨#[]⟩ : ByteArray), .int .i32 0, .bool false, .int .u32 0]) (t := 51) Z10 ?_; intro gb449 hg w10 hbox hb; have BK449 := Z (hbox); have GW449 := Z ((Z75 : w.heap.size ≤ gb449)); have GE449 := Z ((Z75 : w.heap.size ≤ gb449)); replace HB := Z (below_step Z61 hb); clear hb hbox hg) | ((with_reducible refine gate_dst (N := 6) rfl ?_); (try (refine gate_guard (by rfl) ?_; dsimp only)); refine box_event (by rfl) (N := 6) (by rfl) (cs := #[.int .i64 0, .string (⟨#[]⟩ : ByteArray), .int .i32 0, .bool false, .int .u32 0]) (t := 51) Z10 ?_; intro gb450 hg w11 hbox hb; have BK450 := Z (hbox); have GW450 := Z ((Z75 : w.heap.size ≤ gb450)); have GE450 := Z ((Z75 : w.heap.size ≤ gb450)); replace HB := Z (below_step Z61 hb); have NB449_450 := Z ((Z71 : gb449 ≠ gb450)); have NB450_449 := Z ((Z72 : gb450 ≠ gb449)); replace BK449 := Z (blk_below (g := gb449) (o := .cells #[.int .i64 0, .string (⟨#[]⟩ : ByteArray), .int .i32 0, .bool false, .int .u32 0] 51 (0, 0)) (Z15 BK449) hb); clear hb hbox hg; have hnb12 := NB450_449.out; have hnc12 := NB449_450.out; have hcz13_0 : w11.cell? ⟨gb450, 0, none⟩ = some (.int .i64 0) := (blk_cell BK450.out 0).trans rfl; have hcz13_1 : w11.cell? ⟨gb450, 1, none⟩ = some (.string (⟨#[]⟩ : ByteArray)) := (blk_cell BK450.out 1).trans rfl; have hcz13_2 : w11.cell? ⟨gb450, 2, none⟩ = some (.int .i32 0) := (blk_cell BK450.out 2).trans rfl; have hcz13_3 : w11.cell? ⟨gb450, 3, none⟩ = some (.bool false) := (blk_cell BK450.out 3).trans rfl; have hcz13_4 : w11.cell? ⟨gb450, 4, none⟩ = some (.int .u32 0) := (blk_cell BK450.out 4).trans rfl; have hfz13_0 := blk_frozen BK450.out 0; have hfz13_1 := blk_frozen BK450.out 1; have hfz13_2 := blk_frozen BK450.out 2; have hfz13_3 := blk_frozen BK450.out 3; have hfz13_4 := blk_frozen BK450.out 4; have p451 : 0 ≤ (a1 : Int) := of_decide_eq_true Z5; have q451 : a1 < (l0.length : Int) := of_decide_eq_true Z5; obtain ⟨ad451, e451, hx451_0⟩ := Kd.at_int HR0.out a1 p451 q451; cases e451; have hn451_0 : ad451.block ≠ gb450 := Nat.ne_of_lt (Nat.lt_of_lt_of_le Z46 GW450.out); have hn451_1 : ad451.block ≠ gb450 := Nat.ne_of_lt (Nat.lt_of_lt_of_le Z46 GW450.out); have hn451_2 : ad451.block ≠ gb450 := Nat.ne_of_lt (Nat.lt_of_lt_of_le Z46 GW450.out); have hn451_3 : ad451.block ≠ gb450 := Nat.ne_of_lt (Nat.lt_of_lt_of_le Z46 GW450.out); have hn451_4 : ad451.block ≠ gb450 := Nat.ne_of_lt (Nat.lt_of_lt_of_le Z46 GW450.out); replace hx451_0 := (HB.out.cell (World.block_lt_of_cell? w _ hx451_0)).trans hx451_0; replace hx451_0 := (cell_far (p := ⟨gb450, 0, none⟩) Z47 (.int .i64 0)).trans hx451_0; replace hx451_0 := (cell_far (p := ⟨gb450, 1, none⟩) Z48 (.string (⟨#[]⟩ : ByteArray))).trans hx451_0; replace hx451_0 := (cell_far (p := ⟨gb450, 2, none⟩) Z49 (.int .i32 0)).trans hx451_0; replace hx451_0 := (cell_far (p := ⟨gb450, 3, none⟩) Z50 (.bool false)).trans hx451_0; replace hx451_0 := (cell_far (p := ⟨gb450, 4, none⟩) Z51 (.int .u32 0)).trans hx451_0; clear hn451_0; clear hn451_1; clear hn451_2; clear hn451_3; clear hn451_4; replace p451 := eq_true p451; replace q451 := eq_true q451) | ((with_reducible refine gate_callee (f := 93) rfl ?_); refine goesL_ (some 17) rfl rfl Try.func93 Z0 rfl #[.int .u32 (Int.tmod (rd l0 a1) 16)] rfl Z4 ?_; (with_reducible refine (spec_l04Kind.calls k (Int.tmod (rd l0 a1) 16) t452 _ A5.out).mono ?_); rintro e w' ⟨rfl, ⟨nd, rfl⟩⟩; refine ⟨_, rfl, ?_⟩) | ((with_reducible refine gate_callee (f := 93) rfl ?_); refine goesL_ (some 23) rfl rfl Try.func93 Z0 rfl #[.int .u32 (Int.tmod (rd l0 a1) 16)] rfl Z4 ?_; (with_reducible refine (spec_l04Kind.calls k (Int.tmod (rd l0 a1) 16) t453 _ A7.out).mono ?_); rintro e w' ⟨rfl, ⟨nd, rfl⟩⟩; refine ⟨_, rfl, ?_⟩) | ((with_reducible refine gate_callee (f := 94) rfl ?_); refine goesL_ (some 24) rfl rfl Try.func94 Z0 rfl #[.slice (some ad451) l0.length c0, .int .i64 a1, .int .i64 t453] rfl Z4 ?_; (with_reducible refine (spec_l04Name.calls k _ _ l0 a1 t453 t454 t455 t456 t457 t458 t459 _ ?side1 ?side2 A8.out).mono ?_); (case side1 => exact Kd.C_below HR0.out Z61); (case side2 => exact HC0.out); rintro e w14 ⟨rfl, hb⟩; refine ⟨_, rfl, ?_⟩; replace BK449 := Z (blk_below (g := gb449) (o := .cells #[.int .i64 0, .string (⟨#[]⟩ : ByteArray), .int .i32 0, .bool false, .int .u32 0] 51 (0, 0)) (Z52 BK449) hb); replace BK450 := Z (blk_below (g := gb450) (o := .cells #[.int .i64 0, .string (⟨#[]⟩ : ByteArray), .int .i32 0, .bool false, .int .u32 0] 51 (0, 0)) (Z29 BK450) hb); replace HB := Z (below_step Z61 hb); (try clear hb); (try clear hb2); (try clear hk); (try clear hi); have hcz15_0 : w14.cell? ⟨gb450, 0, none⟩ = some (.int .i64 0) := (blk_cell BK450.out 0).trans rfl; have hcz15_1 : w14.cell? ⟨gb450, 1, none⟩ = some (.string (⟨#[]⟩ : ByteArray)) := (blk_cell BK450.out 1).trans rfl; have hcz15_2 : w14.cell? ⟨gb450, 2, none⟩ = some (.int .i32 0) := (blk_cell BK450.out 2).trans rfl; have hcz15_3 : w14.cell? ⟨gb450, 3, none⟩ = some (.bool false) := (blk_cell BK450.out 3).trans rfl; have hcz15_4 : w14.cell? ⟨gb450, 4, none⟩ = some (.int .u32 0) := (blk_cell BK450.out 4).trans rfl; have hfz15_0 := blk_frozen BK450.out 0; have hfz15_1 := blk_frozen BK450.out 1; have hfz15_2 := blk_frozen BK450.out 2; have hfz15_3 := blk_frozen BK450.out 3; have hfz15_4 := blk_frozen BK450.out 4; have p460 : 0 ≤ (a1 : Int) := of_decide_eq_true Z5; have q460 : a1 < (l0.length : Int) := of_decide_eq_true Z5; obtain ⟨ad460, e460, hx460_0⟩ := Kd.at_int HR0.out a1 p460 q460; obtain rfl : ad451 = ad460 := (by injection e460); have hn460_0 : ad451.block ≠ gb450 := Nat.ne_of_lt (Nat.lt_of_lt_of_le Z53 GW450.out); have hn460_1 : ad451.block ≠ gb450 := Nat.ne_of_lt (Nat.lt_of_lt_of_le Z53 GW450.out); have hn460_2 : ad451.block ≠ gb450 := Nat.ne_of_lt (Nat.lt_of_lt_of_le Z53 GW450.out); have hn460_3 : ad451.block ≠ gb450 := Nat.ne_of_lt (Nat.lt_of_lt_of_le Z53 GW450.out); have hn460_4 : ad451.block ≠ gb450 := Nat.ne_of_lt (Nat.lt_of_lt_of_le Z53 GW450.out); replace hx460_0 := (HB.out.cell (World.block_lt_of_cell? w _ hx460_0)).trans hx460_0; replace hx460_0 := (cell_far (p := ⟨gb450, 0, none⟩) (by first | (rw [add_block]; exact hn460_0) | (show (Addr.add _ _).block ≠ _; rw [add_block]; exact hn460_0) | exact hn460_0) (.int .i64 t454)).trans hx460_0; replace hx460_0 := (cell_far (p := ⟨gb450, 1, none⟩) (by first | (rw [add_block]; exact hn460_1) | (show (Addr.add _ _).block ≠ _; rw [add_block]; exact hn460_1) | exact hn460_1) (.string t455)).trans hx460_0; replace hx460_0 := (cell_far (p := ⟨gb450, 2, none⟩) (by first | (rw [add_block]; exact hn460_2) | (show (Addr.add _ _).block ≠ _; rw [add_block]; exact hn460_2) | exact hn460_2) (.int .i32 t456)).trans hx460_0; replace hx460_0 := (cell_far (p := ⟨gb450, 3, none⟩) (by first | (rw [add_block]; exact hn460_3) | (show (Addr.add _ _).block ≠ _; rw [add_block]; exact hn460_3) | exact hn460_3) (.bool t457)).trans hx460_0; replace hx460_0 := (cell_far (p := ⟨gb450, 4, none⟩) (by first | (rw [add_block]; exact hn460_4) | (show (Addr.add _ _).block ≠ _; rw [add_block]; exact hn460_4) | exact hn460_4) (.int .u32 t458)).trans hx460_0; clear hn460_0; clear hn460_1; clear hn460_2; clear hn460_3; clear hn460_4; replace p460 := eq_true p460; replace q460 := eq_true q460; have hcz16_0 : w14.cell? ⟨gb449, 0, none⟩ = some (.int .i64 0) := (blk_cell BK449.out 0).trans rfl; have hcz16_1 : w14.cell? ⟨gb449, 1, none⟩ = some (.string (⟨#[]⟩ : ByteArray)) := (blk_cell BK449.out 1).trans rfl; have hcz16_2 : w14.cell? ⟨gb449, 2, none⟩ = some (.int .i32 0) := (blk_cell BK449.out 2).trans rfl; have hcz16_3 : w14.cell? ⟨gb449, 3, none⟩ = some (.bool false) := (blk_cell BK449.out 3).trans rfl; have hcz16_4 : w14.cell? ⟨gb449, 4, none⟩ = some (.int .u32 0) := (blk_cell BK449.out 4).trans rfl; have hfz16_0 := blk_frozen BK449.out 0; have hfz16_1 := blk_frozen BK449.out 1; have hfz16_2 := blk_frozen BK449.out 2; have hfz16_3 := blk_frozen BK449.out 3; have hfz16_4 := blk_frozen BK449.out 4))
     refine bodyPost_ret (results_ct rfl _ _ gb449 51 #[.int .i64 0, .string (⟨#[]⟩ : ByteArray), .int .i32 0, .bool false, .int .u32 (rd l0 a1)] (0, 0) _ rfl (Z54 BK449) Try.underlying51 rfl Z0) rfl ?_
     exact ⟨Z13, Z61⟩
    ·rw [if_neg c9] at H
     have c9b0 : (t459 == 0) = false := beq_eq_false_iff_ne.mpr c9
     have c9b1 : (t459 != 0) = true := bne_iff_ne.mpr c9
     simp only [Option.some.injEq, Prod.mk.injEq] at H
     obtain ⟨rfl, rfl, rfl, rfl, rfl, rfl⟩ := H
     go_enter Try.func60, Try.ntmps60
     go_wp2_with (first | ((with_reducible refine gate_dst (N := 4) rfl ?_); (try (refine gate_guard (by rfl) ?_; dsimp only)); refine box_event (by rfl) (N := 4) (by rfl) (cs := #[.int .i64 0, .string (⟨#[]⟩ : ByteArray), .int .i32 0, .bool false, .int .u32 0]) (t := 51) Z10 ?_; intro gb449 hg w17 hbox hb; have BK449 := Z (hbox); have GW449 := Z ((Z75 : w.heap.size ≤ gb449)); have GE449 := Z ((Z75 : w.heap.size ≤ gb449)); replace HB := Z (below_step Z61 hb); clear hb hbox hg) | ((with_reducible refine gate_dst (N := 6) rfl ?_); (try (refine gate_guard (by rfl) ?_; dsimp only)); refine box_event (by rfl) (N := 6) (by rfl) (cs := #[.int .i64 0, .string (⟨#[]⟩ : ByteArray), .int .i32 0, .bool false, .int .u32 0]) (t := 51) Z10 ?_; intro gb450 hg w18 hbox hb; have BK450 := Z (hbox); have GW450 := Z ((Z75 : w.heap.size ≤ gb450)); have GE450 := Z ((Z75 : w.heap.size ≤ gb450)); replace HB := Z (below_step Z61 hb); have NB449_450 := Z ((Z71 : gb449 ≠ gb450)); have NB450_449 := Z ((Z72 : gb450 ≠ gb449)); replace BK449 := Z (blk_below (g := gb449) (o := .cells #[.int .i64 0, .string (⟨#[]⟩ : ByteArray), .int .i32 0, .bool false, .int .u32 0] 51 (0, 0)) (Z15 BK449) hb); clear hb hbox hg; have hnb19 := NB450_449.out; have hnc19 := NB449_450.out; have hcz20_0 : w18.cell? ⟨gb450, 0, none⟩ = some (.int .i64 0) := (blk_cell BK450.out 0).trans rfl; have hcz20_1 : w18.cell? ⟨gb450, 1, none⟩ = some (.string (⟨#[]⟩ : ByteArray)) := (blk_cell BK450.out 1).trans rfl; have hcz20_2 : w18.cell? ⟨gb450, 2, none⟩ = some (.int .i32 0) := (blk_cell BK450.out 2).trans rfl; have hcz20_3 : w18.cell? ⟨gb450, 3, none⟩ = some (.bool false) := (blk_cell BK450.out 3).trans rfl; have hcz20_4 : w18.cell? ⟨gb450, 4, none⟩ = some (.int .u32 0) := (blk_cell BK450.out 4).trans rfl; have hfz20_0 := blk_frozen BK450.out 0; have hfz20_1 := blk_frozen BK450.out 1; have hfz20_2 := blk_frozen BK450.out 2; have hfz20_3 := blk_frozen BK450.out 3; have hfz20_4 := blk_frozen BK450.out 4; have p451 : 0 ≤ (a1 : Int) := of_decide_eq_true Z5; have q451 : a1 < (l0.length : Int) := of_decide_eq_true Z5; obtain ⟨ad451, e451, hx451_0⟩ := Kd.at_int HR0.out a1 p451 q451; cases e451; have hn451_0 : ad451.block ≠ gb450 := Nat.ne_of_lt (Nat.lt_of_lt_of_le Z46 GW450.out); have hn451_1 : ad451.block ≠ gb450 := Nat.ne_of_lt (Nat.lt_of_lt_of_le Z46 GW450.out); have hn451_2 : ad451.block ≠ gb450 := Nat.ne_of_lt (Nat.lt_of_lt_of_le Z46 GW450.out); have hn451_3 : ad451.block ≠ gb450 := Nat.ne_of_lt (Nat.lt_of_lt_of_le Z46 GW450.out); have hn451_4 : ad451.block ≠ gb450 := Nat.ne_of_lt (Nat.lt_of_lt_of_le Z46 GW450.out); replace hx451_0 := (HB.out.cell (World.block_lt_of_cell? w _ hx451_0)).trans hx451_0; replace hx451_0 := (cell_far (p := ⟨gb450, 0, none⟩) Z47 (.int .i64 0)).trans hx451_0; replace hx451_0 := (cell_far (p := ⟨gb450, 1, none⟩) Z48 (.string (⟨#[]⟩ : ByteArray))).trans hx451_0; replace hx451_0 := (cell_far (p := ⟨gb450, 2, none⟩) Z49 (.int .i32 0)).trans hx451_0; replace hx451_0 := (cell_far (p := ⟨gb450, 3, none⟩) Z50 (.bool false)).trans hx451_0; replace hx451_0 := (cell_far (p := ⟨gb450, 4, none⟩) Z51 (.int .u32 0)).trans hx451_0; clear hn451_0; clear hn451_1; clear hn451_2; clear hn451_3; clear hn451_4; replace p451 := eq_true p451; replace q451 := eq_true q451) | ((with_reducible refine gate_callee (f := 93) rfl ?_); refine goesL_ (some 17) rfl rfl Try.func93 Z0 rfl #[.int .u32 (Int.tmod (rd l0 a1) 16)] rfl Z4 ?_; (with_reducible refine (spec_l04Kind.calls k (Int.tmod (rd l0 a1) 16) t452 _ A5.out).mono ?_); rintro e w' ⟨rfl, ⟨nd, rfl⟩⟩; refine ⟨_, rfl, ?_⟩) | ((with_reducible refine gate_callee (f := 93) rfl ?_); refine goesL_ (some 23) rfl rfl Try.func93 Z0 rfl #[.int .u32 (Int.tmod (rd l0 a1) 16)] rfl Z4 ?_; (with_reducible refine (spec_l04Kind.calls k (Int.tmod (rd l0 a1) 16) t453 _ A7.out).mono ?_); rintro e w' ⟨rfl, ⟨nd, rfl⟩⟩; refine ⟨_, rfl, ?_⟩) | ((with_reducible refine gate_callee (f := 94) rfl ?_); refine goesL_ (some 24) rfl rfl Try.func94 Z0 rfl #[.slice (some ad451) l0.length c0, .int .i64 a1, .int .i64 t453] rfl Z4 ?_; (with_reducible refine (spec_l04Name.calls k _ _ l0 a1 t453 t454 t455 t456 t457 t458 t459 _ ?side1 ?side2 A8.out).mono ?_); (case side1 => exact Kd.C_below HR0.out Z61); (case side2 => exact HC0.out); rintro e w21 ⟨rfl, hb⟩; refine ⟨_, rfl, ?_⟩; replace BK449 := Z (blk_below (g := gb449) (o := .cells #[.int .i64 0, .string (⟨#[]⟩ : ByteArray), .int .i32 0, .bool false, .int .u32 0] 51 (0, 0)) (Z52 BK449) hb); replace BK450 := Z (blk_below (g := gb450) (o := .cells #[.int .i64 0, .string (⟨#[]⟩ : ByteArray), .int .i32 0, .bool false, .int .u32 0] 51 (0, 0)) (Z29 BK450) hb); replace HB := Z (below_step Z61 hb); (try clear hb); (try clear hb2); (try clear hk); (try clear hi); have hcz22_0 : w21.cell? ⟨gb450, 0, none⟩ = some (.int .i64 0) := (blk_cell BK450.out 0).trans rfl; have hcz22_1 : w21.cell? ⟨gb450, 1, none⟩ = some (.string (⟨#[]⟩ : ByteArray)) := (blk_cell BK450.out 1).trans rfl; have hcz22_2 : w21.cell? ⟨gb450, 2, none⟩ = some (.int .i32 0) := (blk_cell BK450.out 2).trans rfl; have hcz22_3 : w21.cell? ⟨gb450, 3, none⟩ = some (.bool false) := (blk_cell BK450.out 3).trans rfl; have hcz22_4 : w21.cell? ⟨gb450, 4, none⟩ = some (.int .u32 0) := (blk_cell BK450.out 4).trans rfl; have hfz22_0 := blk_frozen BK450.out 0; have hfz22_1 := blk_frozen BK450.out 1; have hfz22_2 := blk_frozen BK450.out 2; have hfz22_3 := blk_frozen BK450.out 3; have hfz22_4 := blk_frozen BK450.out 4; have hcz23_0 : w21.cell? ⟨gb449, 0, none⟩ = some (.int .i64 0) := (blk_cell BK449.out 0).trans rfl; have hcz23_1 : w21.cell? ⟨gb449, 1, none⟩ = some (.string (⟨#[]⟩ : ByteArray)) := (blk_cell BK449.out 1).trans rfl; have hcz23_2 : w21.cell? ⟨gb449, 2, none⟩ = some (.int .i32 0) := (blk_cell BK449.out 2).trans rfl; have hcz23_3 : w21.cell? ⟨gb449, 3, none⟩ = some (.bool false) := (blk_cell BK449.out 3).trans rfl; have hcz23_4 : w21.cell? ⟨gb449, 4, none⟩ = some (.int .u32 0) := (blk_cell BK449.out 4).trans rfl; have hfz23_0 := blk_frozen BK449.out 0; have hfz23_1 := blk_frozen BK449.out 1; have hfz23_2 := blk_frozen BK449.out 2; have hfz23_3 := blk_frozen BK449.out 3; have hfz23_4 := blk_frozen BK449.out 4))
     refine bodyPost_ret (results_ct rfl _ _ gb449 51 #[.int .i64 t454, .string t455, .int .i32 t456, .bool t457, .int .u32 t458] (0, 0) _ rfl (by (with_reducible repeat (first | refine blk_drewN ?_ _ | refine blk_drew ?_ | refine blk_alloc ?_ _)); refine blk_put (cs := #[.int .i64 t454, .string t455, .int .i32 t456, .bool t457, .int .u32 0]) ?_ 4 _ rfl; (with_reducible repeat (first | refine blk_drewN ?_ _ | refine blk_drew ?_ | refine blk_alloc ?_ _)); refine blk_put (cs := #[.int .i64 t454, .string t455, .int .i32 t456, .bool false, .int .u32 0]) ?_ 3 _ rfl; (with_reducible repeat (first | refine blk_drewN ?_ _ | refine blk_drew ?_ | refine blk_alloc ?_ _)); refine blk_put (cs := #[.int .i64 t454, .string t455, .int .i32 0, .bool false, .int .u32 0]) ?_ 2 _ rfl; (with_reducible repeat (first | refine blk_drewN ?_ _ | refine blk_drew ?_ | refine blk_alloc ?_ _)); refine blk_put (cs := #[.int .i64 t454, .string (⟨#[]⟩ : ByteArray), .int .i32 0, .bool false, .int .u32 0]) ?_ 1 _ rfl; (with_reducible repeat (first | refine blk_drewN ?_ _ | refine blk_drew ?_ | refine blk_alloc ?_ _)); refine blk_put (cs := #[.int .i64 0, .string (⟨#[]⟩ : ByteArray), .int .i32 0, .bool false, .int .u32 0]) ?_ 0 _ rfl; (with_reducible repeat (first | refine blk_drewN ?_ _ | refine blk_drew ?_ | refine blk_alloc ?_ _)); refine blk_far ?_ NB449_450.out _; (with_reducible repeat (first | refine blk_drewN ?_ _ | refine blk_drew ?_ | refine blk_alloc ?_ _)); refine blk_far ?_ NB449_450.out _; (with_reducible repeat (first | refine blk_drewN ?_ _ | refine blk_drew ?_ | refine blk_alloc ?_ _)); refine blk_far ?_ NB449_450.out _; (with_reducible repeat (first | refine blk_drewN ?_ _ | refine blk_drew ?_ | refine blk_alloc ?_ _)); refine blk_far ?_ NB449_450.out _; (with_reducible repeat (first | refine blk_drewN ?_ _ | refine blk_drew ?_ | refine blk_alloc ?_ _)); refine blk_far ?_ NB449_450.out _; (with_reducible repeat (first | refine blk_drewN ?_ _ | refine blk_drew ?_ | refine blk_alloc ?_ _)); exact BK449.out) Try.underlying51 rfl Z0) rfl ?_
     exact ⟨Z13, Z61⟩
   ·rw [if_neg c6] at H
    have c6b0 : decide (0 ≤ t452) = false := decide_eq_false c6
    clear c6
    have HC24 := Aside0.mk H
    clear H
    go_enter Try.func60, Try.ntmps60
    go_upto_region 5 with (first | ((with_reducible refine gate_dst (N := 4) rfl ?_); (try (refine gate_guard (by rfl) ?_; dsimp only)); refine box_event (by rfl) (N := 4) (by rfl) (cs := #[.int .i64 0, .string (⟨#[]⟩ : ByteArray), .int .i32 0, .bool false, .int .u32 0]) (t := 51) Z10 ?_; intro gb449 hg w25 hbox hb; have BK449 := Z (hbox); have GW449 := Z ((Z75 : w.heap.size ≤ gb449)); have GE449 := Z ((Z75 : w.heap.size ≤ gb449)); replace HB := Z (below_step Z61 hb); clear hb hbox hg) | ((with_reducible refine gate_dst (N := 6) rfl ?_); (try (refine gate_guard (by rfl) ?_; dsimp only)); refine box_event (by rfl) (N := 6) (by rfl) (cs := #[.int .i64 0, .string (⟨#[]⟩ : ByteArray), .int .i32 0, .bool false, .int .u32 0]) (t := 51) Z10 ?_; intro gb450 hg w26 hbox hb; have BK450 := Z (hbox); have GW450 := Z ((Z75 : w.heap.size ≤ gb450)); have GE450 := Z ((Z75 : w.heap.size ≤ gb450)); replace HB := Z (below_step Z61 hb); have NB449_450 := Z ((Z71 : gb449 ≠ gb450)); have NB450_449 := Z ((Z72 : gb450 ≠ gb449)); replace BK449 := Z (blk_below (g := gb449) (o := .cells #[.int .i64 0, .string (⟨#[]⟩ : ByteArray), .int .i32 0, .bool false, .int .u32 0] 51 (0, 0)) (Z15 BK449) hb); clear hb hbox hg; have hnb27 := NB450_449.out; have hnc27 := NB449_450.out; have hcz28_0 : w26.cell? ⟨gb450, 0, none⟩ = some (.int .i64 0) := (blk_cell BK450.out 0).trans rfl; have hcz28_1 : w26.cell? ⟨gb450, 1, none⟩ = some (.string (⟨#[]⟩ : ByteArray)) := (blk_cell BK450.out 1).trans rfl; have hcz28_2 : w26.cell? ⟨gb450, 2, none⟩ = some (.int .i32 0) := (blk_cell BK450.out 2).trans rfl; have hcz28_3 : w26.cell? ⟨gb450, 3, none⟩ = some (.bool false) := (blk_cell BK450.out 3).trans rfl; have hcz28_4 : w26.cell? ⟨gb450, 4, none⟩ = some (.int .u32 0) := (blk_cell BK450.out 4).trans rfl; have hfz28_0 := blk_frozen BK450.out 0; have hfz28_1 := blk_frozen BK450.out 1; have hfz28_2 := blk_frozen BK450.out 2; have hfz28_3 := blk_frozen BK450.out 3; have hfz28_4 := blk_frozen BK450.out 4; have p451 : 0 ≤ (a1 : Int) := of_decide_eq_true Z5; have q451 : a1 < (l0.length : Int) := of_decide_eq_true Z5; obtain ⟨ad451, e451, hx451_0⟩ := Kd.at_int HR0.out a1 p451 q451; cases e451; have hn451_0 : ad451.block ≠ gb450 := Nat.ne_of_lt (Nat.lt_of_lt_of_le Z46 GW450.out); have hn451_1 : ad451.block ≠ gb450 := Nat.ne_of_lt (Nat.lt_of_lt_of_le Z46 GW450.out); have hn451_2 : ad451.block ≠ gb450 := Nat.ne_of_lt (Nat.lt_of_lt_of_le Z46 GW450.out); have hn451_3 : ad451.block ≠ gb450 := Nat.ne_of_lt (Nat.lt_of_lt_of_le Z46 GW450.out); have hn451_4 : ad451.block ≠ gb450 := Nat.ne_of_lt (Nat.lt_of_lt_of_le Z46 GW450.out); replace hx451_0 := (HB.out.cell (World.block_lt_of_cell? w _ hx451_0)).trans hx451_0; replace hx451_0 := (cell_far (p := ⟨gb450, 0, none⟩) Z47 (.int .i64 0)).trans hx451_0; replace hx451_0 := (cell_far (p := ⟨gb450, 1, none⟩) Z48 (.string (⟨#[]⟩ : ByteArray))).trans hx451_0; replace hx451_0 := (cell_far (p := ⟨gb450, 2, none⟩) Z49 (.int .i32 0)).trans hx451_0; replace hx451_0 := (cell_far (p := ⟨gb450, 3, none⟩) Z50 (.bool false)).trans hx451_0; replace hx451_0 := (cell_far (p := ⟨gb450, 4, none⟩) Z51 (.int .u32 0)).trans hx451_0; clear hn451_0; clear hn451_1; clear hn451_2; clear hn451_3; clear hn451_4; replace p451 := eq_true p451; replace q451 := eq_true q451) | ((with_reducible refine gate_callee (f := 93) rfl ?_); refine goesL_ (some 17) rfl rfl Try.func93 Z0 rfl #[.int .u32 (Int.tmod (rd l0 a1) 16)] rfl Z4 ?_; (with_reducible refine (spec_l04Kind.calls k (Int.tmod (rd l0 a1) 16) t452 _ A5.out).mono ?_); rintro e w' ⟨rfl, ⟨nd, rfl⟩⟩; refine ⟨_, rfl, ?_⟩))
    (try simp only [Act.put, List.setIfInBounds_toArray, List.set_cons_zero, List.set_cons_succ])
    go_cut [27] (fun v27 wc => ∃ (kq : Nat) (x27_23 : Bool), v27 = .bool x27_23 ∧ Aside0 (spec_l04Item.j0 kq l0 a1 0 (Int.tmod (rd l0 a1) 16) x27_23 0 (⟨#[]⟩ : ByteArray) 0 false 0 = some (r1, r2, r3, r4, r5, r6)) ∧ Aside0 (kq ≤ k) ∧ Aside0 (wc.heap[gb449]? = some (.cells #[.int .i64 0, .string (⟨#[]⟩ : ByteArray), .int .i32 0, .bool false, .int .u32 0] 51 (0, 0))) ∧ Aside0 (wc.heap[gb450]? = some (.cells #[.int .i64 0, .string (⟨#[]⟩ : ByteArray), .int .i32 0, .bool false, .int .u32 0] 51 (0, 0))) ∧ Aside0 (Below w.heap.size w wc))
    case first =>
     have H := HC24.out
     clear HC24
     by_cases c29 : (Int.tmod (rd l0 a1) 16) = 8
     ·rw [if_pos c29] at H
      have c29b0 : ((Int.tmod (rd l0 a1) 16) == 8) = true := beq_iff_eq.mpr c29
      have c29b1 : ((Int.tmod (rd l0 a1) 16) != 8) = false := bne_eq_false_iff_eq.mpr c29
      clear c29
      (first | rw [c29b0] | (simp only [i64_w, i32_w]; rw [c29b0]) | skip)
      have H' := Aside0.mk H
      clear H
      go_wp2
      go_meet
      case rel => exact ⟨_, (true), Z2, H', ⟨Z14⟩, ⟨(Z52 BK449)⟩, ⟨(Z29 BK450)⟩, ⟨Z61⟩⟩
     ·rw [if_neg c29] at H
      have c29b0 : ((Int.tmod (rd l0 a1) 16) == 8) = false := beq_eq_false_iff_ne.mpr c29
      have c29b1 : ((Int.tmod (rd l0 a1) 16) != 8) = true := bne_iff_ne.mpr c29
      (first | rw [c29b0] | (simp only [i64_w, i32_w]; rw [c29b0]) | skip)
      by_cases c30 : (Int.tmod (rd l0 a1) 16) = 6
      ·rw [if_pos c30] at H
       have c30b0 : ((Int.tmod (rd l0 a1) 16) == 6) = true := beq_iff_eq.mpr c30
       have c30b1 : ((Int.tmod (rd l0 a1) 16) != 6) = false := bne_eq_false_iff_eq.mpr c30
       clear c30
       have H' := Aside0.mk H
       clear H
       go_wp2
       go_meet
       case rel => exact ⟨_, (true), Z2, H', ⟨Z14⟩, ⟨(Z52 BK449)⟩, ⟨(Z29 BK450)⟩, ⟨Z61⟩⟩
      ·rw [if_neg c30] at H
       have c30b0 : ((Int.tmod (rd l0 a1) 16) == 6) = false := beq_eq_false_iff_ne.mpr c30
       have c30b1 : ((Int.tmod (rd l0 a1) 16) != 6) = true := bne_iff_ne.mpr c30
       by_cases c31 : (Int.tmod (rd l0 a1) 16) = 2
       ·rw [if_pos c31] at H
        have c31b0 : ((Int.tmod (rd l0 a1) 16) == 2) = true := beq_iff_eq.mpr c31
        have c31b1 : ((Int.tmod (rd l0 a1) 16) != 2) = false := bne_eq_false_iff_eq.mpr c31
        clear c31
        have H' := Aside0.mk H
        clear H
        go_wp2
        go_meet
        case rel => exact ⟨_, (true), Z2, H', ⟨Z14⟩, ⟨(Z52 BK449)⟩, ⟨(Z29 BK450)⟩, ⟨Z61⟩⟩
       ·rw [if_neg c31] at H
        have c31b0 : ((Int.tmod (rd l0 a1) 16) == 2) = false := beq_eq_false_iff_ne.mpr c31
        have c31b1 : ((Int.tmod (rd l0 a1) 16) != 2) = true := bne_iff_ne.mpr c31
        have H' := Aside0.mk H
        clear H
        go_wp2
        go_meet
        case rel => exact ⟨_, (((Int.tmod (rd l0 a1) 16) == 5)), Z2, H', ⟨Z14⟩, ⟨(Z52 BK449)⟩, ⟨(Z29 BK450)⟩, ⟨Z61⟩⟩
    case rest =>
     clear HC24
     try clear c1
     try clear c2
     try clear p2
     try clear c3
     try clear c3b0
     try clear c4
     try clear c4b0
     try clear p4
     try clear q4
     try clear hx4
     try clear c6
     try clear c6b0
     try clear c9
     try clear c9b0
     try clear c9b1
     try clear c12
     try clear c19
     try clear c27
     try clear c29
     try clear c29b0
     try clear c29b1
     try clear c30
     try clear c30b0
     try clear c30b1
     try clear c31
     try clear c31b0
     try clear c31b1
     try clear hcz13_0
     try clear hcz13_1
     try clear hcz13_2
     try clear hcz13_3
     try clear hcz13_4
     try clear hcz15_0
     try clear hcz15_1
     try clear hcz15_2
     try clear hcz15_3
     try clear hcz15_4
     try clear hcz16_0
     try clear hcz16_1
     try clear hcz16_2
     try clear hcz16_3
     try clear hcz16_4
     try clear hcz20_0
     try clear hcz20_1
     try clear hcz20_2
     try clear hcz20_3
     try clear hcz20_4
     try clear hcz22_0
     try clear hcz22_1
     try clear hcz22_2
     try clear hcz22_3
     try clear hcz22_4
     try clear hcz23_0
     try clear hcz23_1
     try clear hcz23_2
     try clear hcz23_3
     try clear hcz23_4
     try clear hcz28_0
     try clear hcz28_1
     try clear hcz28_2
     try clear hcz28_3
     try clear hcz28_4
     try clear hfz13_0
     try clear hfz13_1
     try clear hfz13_2
     try clear hfz13_3
     try clear hfz13_4
     try clear hfz15_0
     try clear hfz15_1
     try clear hfz15_2
     try clear hfz15_3
     try clear hfz15_4
     try clear hfz16_0
     try clear hfz16_1
     try clear hfz16_2
     try clear hfz16_3
     try clear hfz16_4
     try clear hfz20_0
     try clear hfz20_1
     try clear hfz20_2
     try clear hfz20_3
     try clear hfz20_4
     try clear hfz22_0
     try clear hfz22_1
     try clear hfz22_2
     try clear hfz22_3
     try clear hfz22_4
     try clear hfz23_0
     try clear hfz23_1
     try clear hfz23_2
     try clear hfz23_3
     try clear hfz23_4
     try clear hfz28_0
     try clear hfz28_1
     try clear hfz28_2
     try clear hfz28_3
     try clear hfz28_4
     try clear hx451_0
     try clear hx460_0
     try clear p451
     try clear p460
     try clear q451
     try clear q460
     obtain ⟨kq, x27_23, rfl, HA, HJ23, BK449, BK450, HB⟩ := hcut
     cases kq with
     | zero => exact absurd HA.out (by simp [spec_l04Item.j0])
     | succ kj23 =>
      have H := HA.out
      clear HA
      simp only [spec_l04Item.j0] at H
      by_cases c32 : x27_23 = true
      ·subst c32
       have H1 : ((spec_l04Number.f kj23 l0 a1).bind fun bt461 => (if bt461.2.2.2.2.2 = 0 then (if 0 ≤ a1 then (if a1 < (l0.length : Int) then (some (0, (⟨#[]⟩ : ByteArray), 0, false, rd l0 a1, 1)) else (none)) else (none)) else (some (bt461.1, bt461.2.1, bt461.2.2.1, bt461.2.2.2.1, bt461.2.2.2.2.1, bt461.2.2.2.2.2)))) = some (r1, r2, r3, r4, r5, r6) := Z7
       clear H
       have H := H1
       clear H1
       replace H := Option.bind_eq_some_iff.mp H
       obtain ⟨⟨t461, t462, t463, t464, t465, t466⟩, A330, H⟩ := H
       replace H : (if t466 = 0 then (if 0 ≤ a1 then (if a1 < (l0.length : Int) then (some (0, (⟨#[]⟩ : ByteArray), 0, false, rd l0 a1, 1)) else (none)) else (none)) else (some (t461, t462, t463, t464, t465, t466))) = some (r1, r2, r3, r4, r5, r6) := H
       have A33 := Aside0.mk A330
       clear A330
       by_cases c34 : t466 = 0
       ·rw [if_pos c34] at H
        have c34b0 : (t466 == 0) = true := beq_iff_eq.mpr c34
        have c34b1 : (t466 != 0) = false := bne_eq_false_iff_eq.mpr c34
        clear c34
        by_cases c35 : 0 ≤ a1
        ·rw [if_pos c35] at H
         have c35b0 : decide (0 ≤ a1) = true := decide_eq_true c35
         clear c35
         by_cases c36 : a1 < (l0.length : Int)
         ·rw [if_pos c36] at H
          have c36b0 : decide (a1 < (l0.length : Int)) = true := decide_eq_true c36
          clear c36
          simp only [Option.some.injEq, Prod.mk.injEq] at H
          obtain ⟨rfl, rfl, rfl, rfl, rfl, rfl⟩ := H
          go_wp2_with (first | ((with_reducible refine gate_callee (f := 95) rfl ?_); refine goesL_ (some 45) rfl rfl Try.func95 Z0 rfl #[.slice (some ad451) l0.length c0, .int .i64 a1] rfl Z4 ?_; (with_reducible refine (spec_l04Number.calls kj23 _ _ l0 a1 t461 t462 t463 t464 t465 t466 _ ?side1 ?side2 A33.out).mono ?_); (case side1 => exact (Z27 HR0)); (case side2 => exact HC0.out); rintro e w37 ⟨rfl, hb⟩; refine ⟨_, rfl, ?_⟩; replace BK449 := Z (blk_below (g := gb449) (o := .cells #[.int .i64 0, .string (⟨#[]⟩ : ByteArray), .int .i32 0, .bool false, .int .u32 0] 51 (0, 0)) (Z15 BK449) hb); replace BK450 := Z (blk_below (g := gb450) (o := .cells #[.int .i64 0, .string (⟨#[]⟩ : ByteArray), .int .i32 0, .bool false, .int .u32 0] 51 (0, 0)) (Z15 BK450) hb); replace HB := Z (below_step Z61 hb); (try clear hb); (try clear hb2); (try clear hk); (try clear hi); have hnb38 := NB450_449.out; have hnc38 := NB449_450.out; have hcz39_0 : w37.cell? ⟨gb450, 0, none⟩ = some (.int .i64 0) := (blk_cell BK450.out 0).trans rfl; have hcz39_1 : w37.cell? ⟨gb450, 1, none⟩ = some (.string (⟨#[]⟩ : ByteArray)) := (blk_cell BK450.out 1).trans rfl; have hcz39_2 : w37.cell? ⟨gb450, 2, none⟩ = some (.int .i32 0) := (blk_cell BK450.out 2).trans rfl; have hcz39_3 : w37.cell? ⟨gb450, 3, none⟩ = some (.bool false) := (blk_cell BK450.out 3).trans rfl; have hcz39_4 : w37.cell? ⟨gb450, 4, none⟩ = some (.int .u32 0) := (blk_cell BK450.out 4).trans rfl; have hfz39_0 := blk_frozen BK450.out 0; have hfz39_1 := blk_frozen BK450.out 1; have hfz39_2 := blk_frozen BK450.out 2; have hfz39_3 := blk_frozen BK450.out 3; have hfz39_4 := blk_frozen BK450.out 4; have p467 : 0 ≤ (a1 : Int) := of_decide_eq_true Z5; have q467 : a1 < (l0.length : Int) := of_decide_eq_true Z5; obtain ⟨ad467, e467, hx467_0⟩ := Kd.at_int HR0.out a1 p467 q467; obtain rfl : ad451 = ad467 := (by injection e467); have hn467_0 : ad451.block ≠ gb450 := Nat.ne_of_lt (Nat.lt_of_lt_of_le Z55 GW450.out); have hn467_1 : ad451.block ≠ gb450 := Nat.ne_of_lt (Nat.lt_of_lt_of_le Z55 GW450.out); have hn467_2 : ad451.block ≠ gb450 := Nat.ne_of_lt (Nat.lt_of_lt_of_le Z55 GW450.out); have hn467_3 : ad451.block ≠ gb450 := Nat.ne_of_lt (Nat.lt_of_lt_of_le Z55 GW450.out); have hn467_4 : ad451.block ≠ gb450 := Nat.ne_of_lt (Nat.lt_of_lt_of_le Z55 GW450.out); replace hx467_0 := (HB.out.cell (World.block_lt_of_cell? w _ hx467_0)).trans hx467_0; replace hx467_0 := (cell_far (p := ⟨gb450, 0, none⟩) (by first | (rw [add_block]; exact hn467_0) | (show (Addr.add _ _).block ≠ _; rw [add_block]; exact hn467_0) | exact hn467_0) (.int .i64 t461)).trans hx467_0; replace hx467_0 := (cell_far (p := ⟨gb450, 1, none⟩) (by first | (rw [add_block]; exact hn467_1) | (show (Addr.add _ _).block ≠ _; rw [add_block]; exact hn467_1) | exact hn467_1) (.string t462)).trans hx467_0; replace hx467_0 := (cell_far (p := ⟨gb450, 2, none⟩) (by first | (rw [add_block]; exact hn467_2) | (show (Addr.add _ _).block ≠ _; rw [add_block]; exact hn467_2) | exact hn467_2) (.int .i32 t463)).trans hx467_0; replace hx467_0 := (cell_far (p := ⟨gb450, 3, none⟩) (by first | (rw [add_block]; exact hn467_3) | (show (Addr.add _ _).block ≠ _; rw [add_block]; exact hn467_3) | exact hn467_3) (.bool t464)).trans hx467_0; replace hx467_0 := (cell_far (p := ⟨gb450, 4, none⟩) (by first | (rw [add_block]; exact hn467_4) | (show (Addr.add _ _).block ≠ _; rw [add_block]; exact hn467_4) | exact hn467_4) (.int .u32 t465)).trans hx467_0; clear hn467_0; clear hn467_1; clear hn467_2; clear hn467_3; clear hn467_4; replace p467 := eq_true p467; replace q467 := eq_true q467; have hcz40_0 : w37.cell? ⟨gb449, 0, none⟩ = some (.int .i64 0) := (blk_cell BK449.out 0).trans rfl; have hcz40_1 : w37.cell? ⟨gb449, 1, none⟩ = some (.string (⟨#[]⟩ : ByteArray)) := (blk_cell BK449.out 1).trans rfl; have hcz40_2 : w37.cell? ⟨gb449, 2, none⟩ = some (.int .i32 0) := (blk_cell BK449.out 2).trans rfl; have hcz40_3 : w37.cell? ⟨gb449, 3, none⟩ = some (.bool false) := (blk_cell BK449.out 3).trans rfl; have hcz40_4 : w37.cell? ⟨gb449, 4, none⟩ = some (.int .u32 0) := (blk_cell BK449.out 4).trans rfl; have hfz40_0 := blk_frozen BK449.out 0; have hfz40_1 := blk_frozen BK449.out 1; have hfz40_2 := blk_frozen BK449.out 2; have hfz40_3 := blk_frozen BK449.out 3; have hfz40_4 := blk_frozen BK449.out 4))
          refine bodyPost_ret (results_ct rfl _ _ gb449 51 #[.int .i64 0, .string (⟨#[]⟩ : ByteArray), .int .i32 0, .bool false, .int .u32 (rd l0 a1)] (0, 0) _ rfl (Z54 BK449) Try.underlying51 rfl Z0) rfl ?_
          exact ⟨Z13, Z61⟩
         ·rw [if_neg c36] at H
          exact absurd H (by simp)
        ·rw [if_neg c35] at H
         exact absurd H (by simp)
       ·rw [if_neg c34] at H
        have c34b0 : (t466 == 0) = false := beq_eq_false_iff_ne.mpr c34
        have c34b1 : (t466 != 0) = true := bne_iff_ne.mpr c34
        simp only [Option.some.injEq, Prod.mk.injEq] at H
        obtain ⟨rfl, rfl, rfl, rfl, rfl, rfl⟩ := H
        go_wp2_with (first | ((with_reducible refine gate_callee (f := 95) rfl ?_); refine goesL_ (some 45) rfl rfl Try.func95 Z0 rfl #[.slice (some ad451) l0.length c0, .int .i64 a1] rfl Z4 ?_; (with_reducible refine (spec_l04Number.calls kj23 _ _ l0 a1 t461 t462 t463 t464 t465 t466 _ ?side1 ?side2 A33.out).mono ?_); (case side1 => exact (Z27 HR0)); (case side2 => exact HC0.out); rintro e w41 ⟨rfl, hb⟩; refine ⟨_, rfl, ?_⟩; replace BK449 := Z (blk_below (g := gb449) (o := .cells #[.int .i64 0, .string (⟨#[]⟩ : ByteArray), .int .i32 0, .bool false, .int .u32 0] 51 (0, 0)) (Z15 BK449) hb); replace BK450 := Z (blk_below (g := gb450) (o := .cells #[.int .i64 0, .string (⟨#[]⟩ : ByteArray), .int .i32 0, .bool false, .int .u32 0] 51 (0, 0)) (Z15 BK450) hb); replace HB := Z (below_step Z61 hb); (try clear hb); (try clear hb2); (try clear hk); (try clear hi); have hnb42 := NB450_449.out; have hnc42 := NB449_450.out; have hcz43_0 : w41.cell? ⟨gb450, 0, none⟩ = some (.int .i64 0) := (blk_cell BK450.out 0).trans rfl; have hcz43_1 : w41.cell? ⟨gb450, 1, none⟩ = some (.string (⟨#[]⟩ : ByteArray)) := (blk_cell BK450.out 1).trans rfl; have hcz43_2 : w41.cell? ⟨gb450, 2, none⟩ = some (.int .i32 0) := (blk_cell BK450.out 2).trans rfl; have hcz43_3 : w41.cell? ⟨gb450, 3, none⟩ = some (.bool false) := (blk_cell BK450.out 3).trans rfl; have hcz43_4 : w41.cell? ⟨gb450, 4, none⟩ = some (.int .u32 0) := (blk_cell BK450.out 4).trans rfl; have hfz43_0 := blk_frozen BK450.out 0; have hfz43_1 := blk_frozen BK450.out 1; have hfz43_2 := blk_frozen BK450.out 2; have hfz43_3 := blk_frozen BK450.out 3; have hfz43_4 := blk_frozen BK450.out 4; have hcz44_0 : w41.cell? ⟨gb449, 0, none⟩ = some (.int .i64 0) := (blk_cell BK449.out 0).trans rfl; have hcz44_1 : w41.cell? ⟨gb449, 1, none⟩ = some (.string (⟨#[]⟩ : ByteArray)) := (blk_cell BK449.out 1).trans rfl; have hcz44_2 : w41.cell? ⟨gb449, 2, none⟩ = some (.int .i32 0) := (blk_cell BK449.out 2).trans rfl; have hcz44_3 : w41.cell? ⟨gb449, 3, none⟩ = some (.bool false) := (blk_cell BK449.out 3).trans rfl; have hcz44_4 : w41.cell? ⟨gb449, 4, none⟩ = some (.int .u32 0) := (blk_cell BK449.out 4).trans rfl; have hfz44_0 := blk_frozen BK449.out 0; have hfz44_1 := blk_frozen BK449.out 1; have hfz44_2 := blk_frozen BK449.out 2; have hfz44_3 := blk_frozen BK449.out 3; have hfz44_4 := blk_frozen BK449.out 4))
        refine bodyPost_ret (results_ct rfl _ _ gb449 51 #[.int .i64 t461, .string t462, .int .i32 t463, .bool t464, .int .u32 t465] (0, 0) _ rfl (by (with_reducible repeat (first | refine blk_drewN ?_ _ | refine blk_drew ?_ | refine blk_alloc ?_ _)); refine blk_put (cs := #[.int .i64 t461, .string t462, .int .i32 t463, .bool t464, .int .u32 0]) ?_ 4 _ rfl; (with_reducible repeat (first | refine blk_drewN ?_ _ | refine blk_drew ?_ | refine blk_alloc ?_ _)); refine blk_put (cs := #[.int .i64 t461, .string t462, .int .i32 t463, .bool false, .int .u32 0]) ?_ 3 _ rfl; (with_reducible repeat (first | refine blk_drewN ?_ _ | refine blk_drew ?_ | refine blk_alloc ?_ _)); refine blk_put (cs := #[.int .i64 t461, .string t462, .int .i32 0, .bool false, .int .u32 0]) ?_ 2 _ rfl; (with_reducible repeat (first | refine blk_drewN ?_ _ | refine blk_drew ?_ | refine blk_alloc ?_ _)); refine blk_put (cs := #[.int .i64 t461, .string (⟨#[]⟩ : ByteArray), .int .i32 0, .bool false, .int .u32 0]) ?_ 1 _ rfl; (with_reducible repeat (first | refine blk_drewN ?_ _ | refine blk_drew ?_ | refine blk_alloc ?_ _)); refine blk_put (cs := #[.int .i64 0, .string (⟨#[]⟩ : ByteArray), .int .i32 0, .bool false, .int .u32 0]) ?_ 0 _ rfl; (with_reducible repeat (first | refine blk_drewN ?_ _ | refine blk_drew ?_ | refine blk_alloc ?_ _)); refine blk_far ?_ NB449_450.out _; (with_reducible repeat (first | refine blk_drewN ?_ _ | refine blk_drew ?_ | refine blk_alloc ?_ _)); refine blk_far ?_ NB449_450.out _; (with_reducible repeat (first | refine blk_drewN ?_ _ | refine blk_drew ?_ | refine blk_alloc ?_ _)); refine blk_far ?_ NB449_450.out _; (with_reducible repeat (first | refine blk_drewN ?_ _ | refine blk_drew ?_ | refine blk_alloc ?_ _)); refine blk_far ?_ NB449_450.out _; (with_reducible repeat (first | refine blk_drewN ?_ _ | refine blk_drew ?_ | refine blk_alloc ?_ _)); refine blk_far ?_ NB449_450.out _; (with_reducible repeat (first | refine blk_drewN ?_ _ | refine blk_drew ?_ | refine blk_alloc ?_ _)); exact BK449.out) Try.underlying51 rfl Z0) rfl ?_
        exact ⟨Z13, Z61⟩
      ·replace c32 := Bool.eq_false_iff.mpr c32
       subst c32
       have H1 : (if (Int.tmod (rd l0 a1) 16) = 12 then (if (wrap64 (a1 + 1)) < (l0.length : Int) then (if 0 ≤ a1 then (if a1 < (l0.length : Int) then ((spec_FieldOk.f kj23 ((Int.tdiv (rd l0 a1) 16) % 4294967296)).bind fun t469 => (spec_l04Item.j1 kj23 l0 a1 0 t469 0 (⟨#[]⟩ : ByteArray) 0 false 0)) else (none)) else (none)) else (spec_l04Item.j1 kj23 l0 a1 0 false 0 (⟨#[]⟩ : ByteArray) 0 false 0)) else (spec_l04Item.j1 kj23 l0 a1 0 false 0 (⟨#[]⟩ : ByteArray) 0 false 0)) = some (r1, r2, r3, r4, r5, r6) := by rw [if_neg (show ¬ (false = true) by decide)] at H; exact H
       clear H
       have H := H1
       clear H1
       have HC45 := Aside0.mk H
       clear H
       go_upto_region 7 with (fail)
       go_cut [48] (fun v48 wc => ∃ (kq : Nat) (x48_44 : Bool), v48 = .bool x48_44 ∧ Aside0 (spec_l04Item.j1 kq l0 a1 0 x48_44 0 (⟨#[]⟩ : ByteArray) 0 false 0 = some (r1, r2, r3, r4, r5, r6)) ∧ Aside0 (kq ≤ kj23) ∧ Aside0 (wc.heap[gb449]? = some (.cells #[.int .i64 0, .string (⟨#[]⟩ : ByteArray), .int .i32 0, .bool false, .int .u32 0] 51 (0, 0))) ∧ Aside0 (wc.heap[gb450]? = some (.cells #[.int .i64 0, .string (⟨#[]⟩ : ByteArray), .int .i32 0, .bool false, .int .u32 0] 51 (0, 0))) ∧ Aside0 (Below w.heap.size w wc))
       case first =>
        have H := HC45.out
        clear HC45
        by_cases c46 : (Int.tmod (rd l0 a1) 16) = 12
        ·rw [if_pos c46] at H
         have c46b0 : ((Int.tmod (rd l0 a1) 16) == 12) = true := beq_iff_eq.mpr c46
         have c46b1 : ((Int.tmod (rd l0 a1) 16) != 12) = false := bne_eq_false_iff_eq.mpr c46
         clear c46
         (first | rw [c46b0] | (simp only [i64_w, i32_w]; rw [c46b0]) | skip)
         by_cases c47 : (wrap64 (a1 + 1)) < (l0.length : Int)
         ·rw [if_pos c47] at H
          have c47b0 : decide ((wrap64 (a1 + 1)) < (l0.length : Int)) = true := decide_eq_true c47
          clear c47
          by_cases c48 : 0 ≤ a1
          ·rw [if_pos c48] at H
           have c48b0 : decide (0 ≤ a1) = true := decide_eq_true c48
           clear c48
           by_cases c49 : a1 < (l0.length : Int)
           ·rw [if_pos c49] at H
            have c49b0 : decide (a1 < (l0.length : Int)) = true := decide_eq_true c49
            clear c49
            replace H := Option.bind_eq_some_iff.mp H
            obtain ⟨t469, A500, H⟩ := H
            replace H : (spec_l04Item.j1 kj23 l0 a1 0 t469 0 (⟨#[]⟩ : ByteArray) 0 false 0) = some (r1, r2, r3, r4, r5, r6) := H
            have A50 := Aside0.mk A500
            clear A500
            have H' := Aside0.mk H
            clear H
            have p468 : 0 ≤ (a1 : Int) := of_decide_eq_true Z5
            have q468 : a1 < (l0.length : Int) := of_decide_eq_true Z5
            obtain ⟨ad468, e468, hx468_0⟩ := Kd.at_int HR0.out a1 p468 q468
            obtain rfl : ad451 = ad468 := (by injection e468)
            replace hx468_0 := (HB.out.cell (World.block_lt_of_cell? w _ hx468_0)).trans hx468_0
            replace p468 := eq_true p468
            replace q468 := eq_true q468
            go_wp2_with (first | (go_at_call 96; (with_reducible refine (spec_FieldOk.calls kj23 ((Int.tdiv (rd l0 a1) 16) % 4294967296) t469 _ A50.out).mono ?_); rintro e w51 ⟨rfl, hb⟩; replace BK449 := Z (blk_below (g := gb449) (o := .cells #[.int .i64 0, .string (⟨#[]⟩ : ByteArray), .int .i32 0, .bool false, .int .u32 0] 51 (0, 0)) (Z15 BK449) hb); replace BK450 := Z (blk_below (g := gb450) (o := .cells #[.int .i64 0, .string (⟨#[]⟩ : ByteArray), .int .i32 0, .bool false, .int .u32 0] 51 (0, 0)) (Z15 BK450) hb); replace HB := Z (below_step Z61 hb); (try clear hb); (try clear hb2); (try clear hk); (try clear hi)))
            go_meet
            case rel => exact ⟨_, (t469), Z2, H', ⟨Z56⟩, ⟨(Z15 BK449)⟩, ⟨(Z15 BK450)⟩, ⟨Z61⟩⟩
           ·rw [if_neg c49] at H
            exact absurd H (by simp)
          ·rw [if_neg c48] at H
           exact absurd H (by simp)
         ·rw [if_neg c47] at H
          have c47b0 : decide ((wrap64 (a1 + 1)) < (l0.length : Int)) = false := decide_eq_false c47
          clear c47
          have H' := Aside0.mk H
          clear H
          go_wp2
          go_meet
          case rel => exact ⟨_, (false), Z2, H', ⟨Z56⟩, ⟨(Z15 BK449)⟩, ⟨(Z15 BK450)⟩, ⟨Z61⟩⟩
        ·rw [if_neg c46] at H
         have c46b0 : ((Int.tmod (rd l0 a1) 16) == 12) = false := beq_eq_false_iff_ne.mpr c46
         have c46b1 : ((Int.tmod (rd l0 a1) 16) != 12) = true := bne_iff_ne.mpr c46
         (first | rw [c46b0] | (simp only [i64_w, i32_w]; rw [c46b0]) | skip)
         have H' := Aside0.mk H
         clear H
         go_wp2
         go_meet
         case rel => exact ⟨_, (false), Z2, H', ⟨Z56⟩, ⟨(Z15 BK449)⟩, ⟨(Z15 BK450)⟩, ⟨Z61⟩⟩
       case rest =>
        clear HC45
        try clear c1
        try clear c2
        try clear p2
        try clear c3
        try clear c3b0
        try clear c4
        try clear c4b0
        try clear p4
        try clear q4
        try clear hx4
        try clear c6
        try clear c6b0
        try clear p6
        try clear c9
        try clear c9b0
        try clear c9b1
        try clear c12
        try clear c19
        try clear c27
        try clear c29
        try clear c29b0
        try clear c29b1
        try clear c30
        try clear c30b0
        try clear c30b1
        try clear c31
        try clear c31b0
        try clear c31b1
        try clear c32
        try clear c34
        try clear c34b0
        try clear c34b1
        try clear c35
        try clear c35b0
        try clear c36
        try clear c36b0
        try clear c38
        try clear c42
        try clear p45
        try clear q45
        try clear hx45
        try clear c46
        try clear c46b0
        try clear c46b1
        try clear p46
        try clear q46
        try clear hx46
        try clear c47
        try clear c47b0
        try clear c48
        try clear c48b0
        try clear c49
        try clear c49b0
        try clear hcz13_0
        try clear hcz13_1
        try clear hcz13_2
        try clear hcz13_3
        try clear hcz13_4
        try clear hcz15_0
        try clear hcz15_1
        try clear hcz15_2
        try clear hcz15_3
        try clear hcz15_4
        try clear hcz16_0
        try clear hcz16_1
        try clear hcz16_2
        try clear hcz16_3
        try clear hcz16_4
        try clear hcz20_0
        try clear hcz20_1
        try clear hcz20_2
        try clear hcz20_3
        try clear hcz20_4
        try clear hcz22_0
        try clear hcz22_1
        try clear hcz22_2
        try clear hcz22_3
        try clear hcz22_4
        try clear hcz23_0
        try clear hcz23_1
        try clear hcz23_2
        try clear hcz23_3
        try clear hcz23_4
        try clear hcz28_0
        try clear hcz28_1
        try clear hcz28_2
        try clear hcz28_3
        try clear hcz28_4
        try clear hcz39_0
        try clear hcz39_1
        try clear hcz39_2
        try clear hcz39_3
        try clear hcz39_4
        try clear hcz40_0
        try clear hcz40_1
        try clear hcz40_2
        try clear hcz40_3
        try clear hcz40_4
        try clear hcz43_0
        try clear hcz43_1
        try clear hcz43_2
        try clear hcz43_3
        try clear hcz43_4
        try clear hcz44_0
        try clear hcz44_1
        try clear hcz44_2
        try clear hcz44_3
        try clear hcz44_4
        try clear hfz13_0
        try clear hfz13_1
        try clear hfz13_2
        try clear hfz13_3
        try clear hfz13_4
        try clear hfz15_0
        try clear hfz15_1
        try clear hfz15_2
        try clear hfz15_3
        try clear hfz15_4
        try clear hfz16_0
        try clear hfz16_1
        try clear hfz16_2
        try clear hfz16_3
        try clear hfz16_4
        try clear hfz20_0
        try clear hfz20_1
        try clear hfz20_2
        try clear hfz20_3
        try clear hfz20_4
        try clear hfz22_0
        try clear hfz22_1
        try clear hfz22_2
        try clear hfz22_3
        try clear hfz22_4
        try clear hfz23_0
        try clear hfz23_1
        try clear hfz23_2
        try clear hfz23_3
        try clear hfz23_4
        try clear hfz28_0
        try clear hfz28_1
        try clear hfz28_2
        try clear hfz28_3
        try clear hfz28_4
        try clear hfz39_0
        try clear hfz39_1
        try clear hfz39_2
        try clear hfz39_3
        try clear hfz39_4
        try clear hfz40_0
        try clear hfz40_1
        try clear hfz40_2
        try clear hfz40_3
        try clear hfz40_4
        try clear hfz43_0
        try clear hfz43_1
        try clear hfz43_2
        try clear hfz43_3
        try clear hfz43_4
        try clear hfz44_0
        try clear hfz44_1
        try clear hfz44_2
        try clear hfz44_3
        try clear hfz44_4
        try clear hx451_0
        try clear hx460_0
        try clear hx467_0
        try clear hx468_0
        try clear p2
        try clear p4
        try clear p451
        try clear p460
        try clear p467
        try clear p468
        try clear q4
        try clear q451
        try clear q460
        try clear q467
        try clear q468
        obtain ⟨kq, x48_44, rfl, HA, HJ44, BK449, BK450, HB⟩ := hcut
        cases kq with
        | zero => exact absurd HA.out (by simp [spec_l04Item.j1])
        | succ kj44 =>
         have H := HA.out
         clear HA
         simp only [spec_l04Item.j1] at H
         by_cases c52 : x48_44 = true
         ·subst c52
          have H1 : (if 0 ≤ a1 then (if a1 < (l0.length : Int) then ((spec_UnpackOne.f kj44 ((Int.tdiv (rd l0 a1) 16) % 4294967296)).bind fun t471 => (if 0 ≤ (wrap64 (a1 + 1)) then (if (wrap64 (a1 + 1)) < (l0.length : Int) then (if 2 = 0 then (some (0, (⟨#[]⟩ : ByteArray), 0, false, rd l0 a1, 1)) else (some (9, t471, wrap32 (rd l0 (wrap64 (a1 + 1))), false, 0, 2))) else (none)) else (none))) else (none)) else (none)) = some (r1, r2, r3, r4, r5, r6) := Z7
          clear H
          have H := H1
          clear H1
          by_cases c53 : 0 ≤ a1
          ·rw [if_pos c53] at H
           have c53b0 : decide (0 ≤ a1) = true := decide_eq_true c53
           clear c53
           by_cases c54 : a1 < (l0.length : Int)
           ·rw [if_pos c54] at H
            have c54b0 : decide (a1 < (l0.length : Int)) = true := decide_eq_true c54
            clear c54
            replace H := Option.bind_eq_some_iff.mp H
            obtain ⟨t471, A550, H⟩ := H
            replace H : (if 0 ≤ (wrap64 (a1 + 1)) then (if (wrap64 (a1 + 1)) < (l0.length : Int) then (if 2 = 0 then (some (0, (⟨#[]⟩ : ByteArray), 0, false, rd l0 a1, 1)) else (some (9, t471, wrap32 (rd l0 (wrap64 (a1 + 1))), false, 0, 2))) else (none)) else (none)) = some (r1, r2, r3, r4, r5, r6) := H
            have A55 := Aside0.mk A550
            clear A550
            obtain ⟨ji56, hji56⟩ : ∃ j_ : Int, (wrap64 (a1 + 1)) = j_ := ⟨_, rfl⟩
            replace H : (if 0 ≤ (ji56) then (if (ji56) < (l0.length : Int) then (if 2 = 0 then (some (0, (⟨#[]⟩ : ByteArray), 0, false, rd l0 a1, 1)) else (some (9, t471, wrap32 (rd l0 (ji56)), false, 0, 2))) else (none)) else (none)) = some (r1, r2, r3, r4, r5, r6) := by first | (rw [hji56] at H; exact H) | (simp only [hji56] at H ⊢; exact H)
            (try rw [hji56] at A55)
            have hji56w : (IntKind.i64.wrap (a1 + 1)) = ji56 := (i64_w _).trans hji56
            by_cases c57 : 0 ≤ (ji56)
            ·rw [if_pos c57] at H
             have c57b0 : decide (0 ≤ (ji56)) = true := decide_eq_true c57
             clear c57
             by_cases c58 : (ji56) < (l0.length : Int)
             ·rw [if_pos c58] at H
              have c58b0 : decide ((ji56) < (l0.length : Int)) = true := decide_eq_true c58
              clear c58
              by_cases c59 : 2 = 0
              ·rw [if_pos c59] at H
               exact absurd c59 (by decide)
              ·rw [if_neg c59] at H
               have c59b0 : (2 == 0) = false := beq_eq_false_iff_ne.mpr c59
               have c59b1 : (2 != 0) = true := bne_iff_ne.mpr c59
               simp only [Option.some.injEq, Prod.mk.injEq] at H
               obtain ⟨rfl, rfl, rfl, rfl, rfl, rfl⟩ := H
               try go_wp2
               have n0_ := Z (blk_drew BK449.out)
               have n1_ := Z (blk_drew BK450.out)
               have n2_ := Z (below_drew1 HB.out)
               clear BK449
               clear BK450
               clear HB
               have BK449 := n0_
               have BK450 := n1_
               have HB := n2_
               clear n0_ n1_ n2_
               have p470 : 0 ≤ (a1 : Int) := of_decide_eq_true Z5
               have q470 : a1 < (l0.length : Int) := of_decide_eq_true Z5
               obtain ⟨ad470, e470, hx470_0⟩ := Kd.at_int HR0.out a1 p470 q470
               have hw470_0 := hx470_0
               obtain rfl : ad451 = ad470 := (by injection e470)
               replace hx470_0 := (HB.out.cell (World.block_lt_of_cell? w _ hx470_0)).trans hx470_0
               replace p470 := eq_true p470
               replace q470 := eq_true q470
               have p472 : 0 ≤ ((ji56) : Int) := of_decide_eq_true Z5
               have q472 : (ji56) < (l0.length : Int) := of_decide_eq_true Z5
               obtain ⟨ad472, e472, hx472_0⟩ := Kd.at_int HR0.out (ji56) p472 q472
               have hw472_0 := hx472_0
               obtain rfl : ad451 = ad472 := (by injection e472)
               replace hx472_0 := (HB.out.cell (World.block_lt_of_cell? w _ hx472_0)).trans hx472_0
               replace p472 := eq_true p472
               replace q472 := eq_true q472
               refine start_ (n := 15) (S := fun w' => w'.cell? (ad451.add (a1).toNat) = some (.int .u32 (rd l0 a1)) ∧ w'.cell? (ad451.add ((ji56)).toNat) = some (.int .u32 (rd l0 (ji56)))) (ds := []) #[false, false, false, false, false, false, false, false, false, false, false, false, false, false, false] Z0 rfl rfl ⟨((HB.out.cell (World.block_lt_of_cell? w _ hw470_0)).trans hw470_0), ((HB.out.cell (World.block_lt_of_cell? w _ hw472_0)).trans hw472_0)⟩ (fun hHeld => ?_); refine with_tabW spec_l04Item.tab8 spec_l04Item.bits8 (fun HT_ HW_ => ?_)
               generalize wc.drew = w60 at BK449 BK450 HB hx470_0 hx472_0 hHeld ⊢
               refine pure_ (i := 0) (N := some 66) (v := ?_) (a' := ?_) #[true, false, false, false, false, false, false, false, false, false, false, false, false, false, false] rfl rfl (any_of HT_.out Z0) (fun _ _ _ h => h) (Or.inl ⟨by rfl, ?_⟩) ?_ ?_
               rotate_left
               ·intro w'
                go_simp
                with_reducible rfl
               rotate_left
               ·simp only [Act.put, List.setIfInBounds_toArray, List.set_cons_zero, List.set_cons_succ, i64_w, i32_w]
                rfl
               refine pure_ (i := 1) (N := some 67) (v := ?_) (a' := ?_) #[true, true, false, false, false, false, false, false, false, false, false, false, false, false, false] rfl rfl (any_of HT_.out Z0) (fun _ _ _ h => h) (Or.inl ⟨by rfl, ?_⟩) ?_ ?_
               rotate_left
               ·intro w'
                go_simp
                with_reducible rfl
               rotate_left
               ·simp only [Act.put, List.setIfInBounds_toArray, List.set_cons_zero, List.set_cons_succ, i64_w, i32_w]
                rfl
               refine pure_ (i := 2) (N := some 68) (v := ?_) (a' := ?_) #[true, true, true, false, false, false, false, false, false, false, false, false, false, false, false] rfl rfl (any_of HT_.out Z0) (fun _ _ _ h => h) (Or.inl ⟨by rfl, ?_⟩) ?_ ?_
               rotate_left
               ·intro w'
                go_simp
                with_reducible rfl
               rotate_left
               ·simp only [Act.put, List.setIfInBounds_toArray, List.set_cons_zero, List.set_cons_succ, i64_w, i32_w]
                rfl
               refine pure_ (i := 6) (N := some 72) (v := ?_) (a' := ?_) #[true, true, true, false, false, false, true, false, false, false, false, false, false, false, false] rfl rfl (any_of HT_.out Z0) (fun _ _ _ h => h) (Or.inl ⟨by rfl, ?_⟩) ?_ ?_
               rotate_left
               ·intro w'
                go_simp
                with_reducible rfl
               rotate_left
               ·simp only [Act.put, List.setIfInBounds_toArray, List.set_cons_zero, List.set_cons_succ, i64_w, i32_w]
                rfl
               refine pure_ (i := 7) (N := some 73) (v := ?_) (a' := ?_) #[true, true, true, false, false, false, true, true, false, false, false, false, false, false, false] rfl rfl (any_of HT_.out Z0) (fun _ _ _ h => h) (Or.inl ⟨by rfl, ?_⟩) ?_ ?_
               rotate_left
               ·intro w'
                go_simp
                with_reducible rfl
               rotate_left
               ·simp only [Act.put, List.setIfInBounds_toArray, List.set_cons_zero, List.set_cons_succ, i64_w, i32_w]
                rfl
               refine pure_ (i := 8) (N := some 74) (v := ?_) (a' := ?_) #[true, true, true, false, false, false, true, true, true, false, false, false, false, false, false] rfl rfl (any_of HT_.out Z0) (fun _ _ _ h => h) (Or.inl ⟨by rfl, ?_⟩) ?_ ?_
               rotate_left
               ·intro w'
                go_simp
                with_reducible rfl
               rotate_left
               ·simp only [Act.put, List.setIfInBounds_toArray, List.set_cons_zero, List.set_cons_succ, i64_w, i32_w]
                rfl
               refine pure_ (i := 9) (N := some 75) (v := ?_) (a' := ?_) #[true, true, true, false, false, false, true, true, true, true, false, false, false, false, false] rfl rfl (any_of HT_.out Z0) (fun _ _ _ h => h) (Or.inl ⟨by rfl, ?_⟩) ?_ ?_
               rotate_left
               ·intro w'
                go_simp
                with_reducible rfl
               rotate_left
               ·simp only [Act.put, List.setIfInBounds_toArray, List.set_cons_zero, List.set_cons_succ, i64_w, i32_w]
                rfl
               refine take_ (i := 3) (N := some 69) (v := ?_) (a' := ?_) #[true, true, true, true, false, false, true, true, true, true, false, false, false, false, false] rfl rfl (take_ofW HT_.out HW_.out Z0) (fun _ _ _ h => h) (Or.inl ⟨by rfl, ?_⟩) hHeld ?_ ?_
               rotate_left
               ·rintro w' ⟨s0, s1⟩
                go_simp
                with_reducible rfl
               rotate_left
               ·simp only [Act.put, List.setIfInBounds_toArray, List.set_cons_zero, List.set_cons_succ, i64_w, i32_w]
                rfl
               refine pure_ (i := 4) (N := some 70) (v := ?_) (a' := ?_) #[true, true, true, true, true, false, true, true, true, true, false, false, false, false, false] rfl rfl (any_of HT_.out Z0) (fun _ _ _ h => h) (Or.inl ⟨by rfl, ?_⟩) ?_ ?_
               rotate_left
               ·intro w'
                go_simp
                with_reducible rfl
               rotate_left
               ·simp only [Act.put, List.setIfInBounds_toArray, List.set_cons_zero, List.set_cons_succ, i64_w, i32_w]
                rfl
               refine take_ (i := 10) (N := some 76) (v := ?_) (a' := ?_) #[true, true, true, true, true, false, true, true, true, true, true, false, false, false, false] rfl rfl (take_ofW HT_.out HW_.out Z0) (fun _ _ _ h => h) (Or.inl ⟨by rfl, ?_⟩) hHeld ?_ ?_
               rotate_left
               ·rintro w' ⟨s0, s1⟩
                go_simp
                with_reducible rfl
               rotate_left
               ·simp only [Act.put, List.setIfInBounds_toArray, List.set_cons_zero, List.set_cons_succ, i64_w, i32_w]
                rfl
               refine pure_ (i := 11) (N := some 77) (v := ?_) (a' := ?_) #[true, true, true, true, true, false, true, true, true, true, true, true, false, false, false] rfl rfl (any_of HT_.out Z0) (fun _ _ _ h => h) (Or.inl ⟨by rfl, ?_⟩) ?_ ?_
               rotate_left
               ·intro w'
                go_simp
                with_reducible rfl
               rotate_left
               ·simp only [Act.put, List.setIfInBounds_toArray, List.set_cons_zero, List.set_cons_succ, i64_w, i32_w]
                rfl
               refine one_ (i := 5) (N := some 71) #[true, true, true, true, true, true, true, true, true, true, true, true, false, false, false] rfl rfl (one_of HT_.out Z0) (by decide) (fun K hK => ?_)
               refine goes_ Try.func97 Z0 rfl #[.int .u32 ((Int.tdiv (rd l0 a1) 16) % 4294967296)] (by rfl) rfl rfl Z4 ?_
               with_reducible refine (spec_UnpackOne.calls kj44 ((Int.tdiv (rd l0 a1) 16) % 4294967296) t471 _ A55.out).mono ?_
               rintro e w61 ⟨rfl, hb⟩
               refine ⟨_, rfl, ?_⟩
               have n0_ := Z (blk_below (g := gb449) (o := .cells #[.int .i64 0, .string (⟨#[]⟩ : ByteArray), .int .i32 0, .bool false, .int .u32 0] 51 (0, 0)) (Z15 BK449) hb)
               have n1_ := Z (blk_below (g := gb450) (o := .cells #[.int .i64 0, .string (⟨#[]⟩ : ByteArray), .int .i32 0, .bool false, .int .u32 0] 51 (0, 0)) (Z15 BK450) hb)
               have n2_ := Z (below_step Z61 hb)
               clear BK449
               clear BK450
               clear HB
               have BK449 := n0_
               have BK450 := n1_
               have HB := n2_
               clear n0_ n1_ n2_
               (try clear hb)
               (try clear hb2)
               (try clear hk)
               (try clear hi)
               refine hK.out _ _ ⟨((HB.out.cell (World.block_lt_of_cell? w _ hw470_0)).trans hw470_0), ((HB.out.cell (World.block_lt_of_cell? w _ hw472_0)).trans hw472_0)⟩ (fun hHeld => ?_)
               clear hK K
               refine norm_ (a' := ?_) ?_ ?_
               rotate_left
               ·show Act.put _ (some 71) _ = _
                simp only [Act.put, List.setIfInBounds_toArray, List.set_cons_zero, List.set_cons_succ, i64_w, i32_w]
                rfl
               refine pure_ (i := 12) (N := some 78) (v := ?_) (a' := ?_) #[true, true, true, true, true, true, true, true, true, true, true, true, true, false, false] rfl rfl (any_of HT_.out Z0) (fun _ _ _ h => h) (Or.inl ⟨by rfl, ?_⟩) ?_ ?_
               rotate_left
               ·intro w'
                go_simp
                with_reducible rfl
               rotate_left
               ·simp only [Act.put, List.setIfInBounds_toArray, List.set_cons_zero, List.set_cons_succ, i64_w, i32_w]
                rfl
               refine one_ (i := 13) (N := none) #[true, true, true, true, true, true, true, true, true, true, true, true, true, true, false] rfl rfl (one_of HT_.out Z0) (by decide) (fun K hK => ?_)
               have hs62 : w61.cell? ⟨gb450, 0, none⟩ = some (.int .i64 0) := (blk_cell BK450.out 0).trans rfl
               have hfs62 := blk_frozen BK450.out 0
               have hns62_0 := NB449_450.out
               have hms62_0 := NB450_449.out
               have hs63 : w61.cell? ⟨gb450, 1, none⟩ = some (.string (⟨#[]⟩ : ByteArray)) := (blk_cell BK450.out 1).trans rfl
               have hfs63 := blk_frozen BK450.out 1
               have hns63_0 := NB449_450.out
               have hms63_0 := NB450_449.out
               have hs64 : w61.cell? ⟨gb450, 2, none⟩ = some (.int .i32 0) := (blk_cell BK450.out 2).trans rfl
               have hfs64 := blk_frozen BK450.out 2
               have hns64_0 := NB449_450.out
               have hms64_0 := NB450_449.out
               have hs65 : w61.cell? ⟨gb450, 3, none⟩ = some (.bool false) := (blk_cell BK450.out 3).trans rfl
               have hfs65 := blk_frozen BK450.out 3
               have hns65_0 := NB449_450.out
               have hms65_0 := NB450_449.out
               have hs66 : w61.cell? ⟨gb450, 4, none⟩ = some (.int .u32 0) := (blk_cell BK450.out 4).trans rfl
               have hfs66 := blk_frozen BK450.out 4
               have hns66_0 := NB449_450.out
               have hms66_0 := NB450_449.out
               refine skip_ (w1 := ?_) (by rfl) rfl ?_ ?_
               rotate_left
               ·go_simp
                rfl
               refine hK.out _ _ ⟨((cell_far (p := ⟨gb450, _, none⟩) Z73 _).trans (((cell_far (p := ⟨gb450, _, none⟩) Z73 _).trans (((cell_far (p := ⟨gb450, _, none⟩) Z73 _).trans (((cell_far (p := ⟨gb450, _, none⟩) Z73 _).trans (((cell_far (p := ⟨gb450, _, none⟩) Z73 _).trans (hHeld.1)))))))))), ((cell_far (p := ⟨gb450, _, none⟩) Z74 _).trans (((cell_far (p := ⟨gb450, _, none⟩) Z74 _).trans (((cell_far (p := ⟨gb450, _, none⟩) Z74 _).trans (((cell_far (p := ⟨gb450, _, none⟩) Z74 _).trans (((cell_far (p := ⟨gb450, _, none⟩) Z74 _).trans (hHeld.2))))))))))⟩ (fun hHeld => ?_)
               clear hK K
               refine pure_ (i := 14) (N := some 7) (v := ?_) (a' := ?_) #[true, true, true, true, true, true, true, true, true, true, true, true, true, true, true] rfl rfl (any_of HT_.out Z0) (fun _ _ _ h => h) (Or.inl ⟨by rfl, ?_⟩) ?_ ?_
               rotate_left
               ·intro w'
                go_simp
                with_reducible rfl
               rotate_left
               ·simp only [Act.put, List.setIfInBounds_toArray, List.set_cons_zero, List.set_cons_succ, i64_w, i32_w]
                rfl
               refine done_ (done_of HT_.out Z0) ?_
               have hnb67 := NB450_449.out
               have hnc67 := NB449_450.out
               have hcz68_0 : w61.cell? ⟨gb450, 0, none⟩ = some (.int .i64 0) := (blk_cell BK450.out 0).trans rfl
               have hcz68_1 : w61.cell? ⟨gb450, 1, none⟩ = some (.string (⟨#[]⟩ : ByteArray)) := (blk_cell BK450.out 1).trans rfl
               have hcz68_2 : w61.cell? ⟨gb450, 2, none⟩ = some (.int .i32 0) := (blk_cell BK450.out 2).trans rfl
               have hcz68_3 : w61.cell? ⟨gb450, 3, none⟩ = some (.bool false) := (blk_cell BK450.out 3).trans rfl
               have hcz68_4 : w61.cell? ⟨gb450, 4, none⟩ = some (.int .u32 0) := (blk_cell BK450.out 4).trans rfl
               have hfz68_0 := blk_frozen BK450.out 0
               have hfz68_1 := blk_frozen BK450.out 1
               have hfz68_2 := blk_frozen BK450.out 2
               have hfz68_3 := blk_frozen BK450.out 3
               have hfz68_4 := blk_frozen BK450.out 4
               have hcz69_0 : w61.cell? ⟨gb449, 0, none⟩ = some (.int .i64 0) := (blk_cell BK449.out 0).trans rfl
               have hcz69_1 : w61.cell? ⟨gb449, 1, none⟩ = some (.string (⟨#[]⟩ : ByteArray)) := (blk_cell BK449.out 1).trans rfl
               have hcz69_2 : w61.cell? ⟨gb449, 2, none⟩ = some (.int .i32 0) := (blk_cell BK449.out 2).trans rfl
               have hcz69_3 : w61.cell? ⟨gb449, 3, none⟩ = some (.bool false) := (blk_cell BK449.out 3).trans rfl
               have hcz69_4 : w61.cell? ⟨gb449, 4, none⟩ = some (.int .u32 0) := (blk_cell BK449.out 4).trans rfl
               have hfz69_0 := blk_frozen BK449.out 0
               have hfz69_1 := blk_frozen BK449.out 1
               have hfz69_2 := blk_frozen BK449.out 2
               have hfz69_3 := blk_frozen BK449.out 3
               have hfz69_4 := blk_frozen BK449.out 4
               try go_wp2
               refine bodyPost_ret (results_ct rfl _ _ gb449 51 #[.int .i64 9, .string t471, .int .i32 (wrap32 (rd l0 (ji56))), .bool false, .int .u32 0] (0, 0) _ rfl (by (with_reducible repeat (first | refine blk_drewN ?_ _ | refine blk_drew ?_ | refine blk_alloc ?_ _)); refine blk_put (cs := #[.int .i64 9, .string t471, .int .i32 (wrap32 (rd l0 (ji56))), .bool false, .int .u32 0]) ?_ 4 _ rfl; (with_reducible repeat (first | refine blk_drewN ?_ _ | refine blk_drew ?_ | refine blk_alloc ?_ _)); refine blk_put (cs := #[.int .i64 9, .string t471, .int .i32 (wrap32 (rd l0 (ji56))), .bool false, .int .u32 0]) ?_ 3 _ rfl; (with_reducible repeat (first | refine blk_drewN ?_ _ | refine blk_drew ?_ | refine blk_alloc ?_ _)); refine blk_put (cs := #[.int .i64 9, .string t471, .int .i32 0, .bool false, .int .u32 0]) ?_ 2 _ rfl; (with_reducible repeat (first | refine blk_drewN ?_ _ | refine blk_drew ?_ | refine blk_alloc ?_ _)); refine blk_put (cs := #[.int .i64 9, .string (⟨#[]⟩ : ByteArray), .int .i32 0, .bool false, .int .u32 0]) ?_ 1 _ rfl; (with_reducible repeat (first | refine blk_drewN ?_ _ | refine blk_drew ?_ | refine blk_alloc ?_ _)); refine blk_put (cs := #[.int .i64 0, .string (⟨#[]⟩ : ByteArray), .int .i32 0, .bool false, .int .u32 0]) ?_ 0 _ rfl; (with_reducible repeat (first | refine blk_drewN ?_ _ | refine blk_drew ?_ | refine blk_alloc ?_ _)); refine blk_far ?_ NB449_450.out _; (with_reducible repeat (first | refine blk_drewN ?_ _ | refine blk_drew ?_ | refine blk_alloc ?_ _)); refine blk_far ?_ NB449_450.out _; (with_reducible repeat (first | refine blk_drewN ?_ _ | refine blk_drew ?_ | refine blk_alloc ?_ _)); refine blk_far ?_ NB449_450.out _; (with_reducible repeat (first | refine blk_drewN ?_ _ | refine blk_drew ?_ | refine blk_alloc ?_ _)); refine blk_far ?_ NB449_450.out _; (with_reducible repeat (first | refine blk_drewN ?_ _ | refine blk_drew ?_ | refine blk_alloc ?_ _)); refine blk_far ?_ NB449_450.out _; (with_reducible repeat (first | refine blk_drewN ?_ _ | refine blk_drew ?_ | refine blk_alloc ?_ _)); exact BK449.out) Try.underlying51 rfl Z0) rfl ?_
               exact ⟨by first | rfl | (simp [errW_none, errW_some] <;> rfl) | (simp only [← hji56]; first | rfl | (simp [errW_none, errW_some] <;> rfl)) | (simp [*, errW_none, errW_some] <;> rfl), Z61⟩
             ·rw [if_neg c58] at H
              exact absurd H (by simp)
            ·rw [if_neg c57] at H
             exact absurd H (by simp)
           ·rw [if_neg c54] at H
            exact absurd H (by simp)
          ·rw [if_neg c53] at H
           exact absurd H (by simp)
         ·replace c52 := Bool.eq_false_iff.mpr c52
          subst c52
          have H1 : (if 0 = 0 then (if 0 ≤ a1 then (if a1 < (l0.length : Int) then (some (0, (⟨#[]⟩ : ByteArray), 0, false, rd l0 a1, 1)) else (none)) else (none)) else (some (0, (⟨#[]⟩ : ByteArray), 0, false, 0, 0))) = some (r1, r2, r3, r4, r5, r6) := by rw [if_neg (show ¬ (false = true) by decide)] at H; exact H
          clear H
          have H := H1
          clear H1
          by_cases c70 : 0 = 0
          ·rw [if_pos c70] at H
           have c70b0 : (0 == 0) = true := beq_iff_eq.mpr c70
           have c70b1 : (0 != 0) = false := bne_eq_false_iff_eq.mpr c70
           clear c70
           by_cases c71 : 0 ≤ a1
           ·rw [if_pos c71] at H
            have c71b0 : decide (0 ≤ a1) = true := decide_eq_true c71
            clear c71
            by_cases c72 : a1 < (l0.length : Int)
            ·rw [if_pos c72] at H
             have c72b0 : decide (a1 < (l0.length : Int)) = true := decide_eq_true c72
             clear c72
             simp only [Option.some.injEq, Prod.mk.injEq] at H
             obtain ⟨rfl, rfl, rfl, rfl, rfl, rfl⟩ := H
             have p474 : 0 ≤ (a1 : Int) := of_decide_eq_true Z5
             have q474 : a1 < (l0.length : Int) := of_decide_eq_true Z5
             obtain ⟨ad474, e474, hx474_0⟩ := Kd.at_int HR0.out a1 p474 q474
             obtain rfl : ad451 = ad474 := (by injection e474)
             replace hx474_0 := (HB.out.cell (World.block_lt_of_cell? w _ hx474_0)).trans hx474_0
             replace p474 := eq_true p474
             replace q474 := eq_true q474
             have hnb73 := NB449_450.out
             have hnc73 := NB450_449.out
             have hcz74_0 : wc.cell? ⟨gb449, 0, none⟩ = some (.int .i64 0) := (blk_cell BK449.out 0).trans rfl
             have hcz74_1 : wc.cell? ⟨gb449, 1, none⟩ = some (.string (⟨#[]⟩ : ByteArray)) := (blk_cell BK449.out 1).trans rfl
             have hcz74_2 : wc.cell? ⟨gb449, 2, none⟩ = some (.int .i32 0) := (blk_cell BK449.out 2).trans rfl
             have hcz74_3 : wc.cell? ⟨gb449, 3, none⟩ = some (.bool false) := (blk_cell BK449.out 3).trans rfl
             have hcz74_4 : wc.cell? ⟨gb449, 4, none⟩ = some (.int .u32 0) := (blk_cell BK449.out 4).trans rfl
             have hfz74_0 := blk_frozen BK449.out 0
             have hfz74_1 := blk_frozen BK449.out 1
             have hfz74_2 := blk_frozen BK449.out 2
             have hfz74_3 := blk_frozen BK449.out 3
             have hfz74_4 := blk_frozen BK449.out 4
             go_wp2
             refine bodyPost_ret (results_ct rfl _ _ gb449 51 #[.int .i64 0, .string (⟨#[]⟩ : ByteArray), .int .i32 0, .bool false, .int .u32 (rd l0 a1)] (0, 0) _ rfl (Z29 BK449) Try.underlying51 rfl Z0) rfl ?_
             exact ⟨Z13, Z61⟩
            ·rw [if_neg c72] at H
             exact absurd H (by simp)
           ·rw [if_neg c71] at H
            exact absurd H (by simp)
          ·rw [if_neg c70] at H
           exact absurd rfl c70
  ·rw [if_neg c4] at H
   exact absurd H (by simp)
 ·rw [if_neg c3] at H
  exact absurd H (by simp)

end Go.Proofs.Ytkkiibjnpkjijaa.QFnExactListOk
